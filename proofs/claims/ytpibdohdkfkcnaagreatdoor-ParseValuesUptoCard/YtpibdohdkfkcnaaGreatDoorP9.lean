/- Own proofs: what those Lean programs compute. No condition. -/
import Derived.Test.YtpibdohdkfkcnaaGreatDoorP0
import Derived.Test.YtpibdohdkfkcnaaGreatDoorP1
import Derived.Test.YtpibdohdkfkcnaaGreatDoorP2
import Derived.Test.YtpibdohdkfkcnaaGreatDoorP3
import Derived.Test.YtpibdohdkfkcnaaGreatDoorP4
import Derived.Test.YtpibdohdkfkcnaaGreatDoorP5
import Derived.Test.YtpibdohdkfkcnaaGreatDoorP6
import Derived.Test.YtpibdohdkfkcnaaGreatDoorP7
import Derived.Test.YtpibdohdkfkcnaaGreatDoorP8
set_option linter.unusedVariables false
set_option linter.unusedSimpArgs false
set_option maxRecDepth 100000
namespace Gx
open Go Go.Proofs Go.Shelf Go.RowKit Go.Lib
theorem KLR (n:Int) (s:List UInt8) (l:List Vl):txV (.mk 1 n s l)=itoa n:=by
 show txt 8 _=_
 rw [txt,if_pos rfl]
theorem KLS (n:Int) (s:List UInt8) (l:List Vl):txV (.mk 2 n s l)=Un s:=by
 show txt 8 _=_
 rw [txt,if_neg (by decide),if_pos rfl]
def tkT (t:Tkn):List UInt8:=if tokB t=false then []else if t.k=2 then itoa t.n else if t.k=3 then Un t.s else t.s
theorem KLT {k:Int} {s:List UInt8} {n:Nat} {t:Vl→Tkn} (h:(oneV k s n t).2≠0):(J1 (s.take n)).2.2=0∧(J1 (s.take n)).1.k=k∧txV (J1 (s.take n)).1=s.take n∧oneV k s n t=(t (J1 (s.take n)).1,n):=by
 unfold oneV oneW at h⊢
 split at h
 ·exact absurd rfl h
 ·rename_i hh
  have h1:(J1 (s.take n)).2.2=0:=Decidable.byContradiction (fun e=>hh (.inl e))
  have h2:(J1 (s.take n)).1.k=k:=Decidable.byContradiction (fun e=>hh (.inr e))
  exact⟨h1,h2,KFV (KLQ h1).1,by rw [if_neg hh]⟩
theorem KHj {k:Int} {s w:List UInt8} {n:Nat} {t:Vl→Tkn} {v:Vl} {p:Nat} (hs:s.take n=w) (hp:J1 w=(v,p,0)) (hk:v.k=k):oneV k s n t=(t v,n):=by
 unfold oneV oneW
 rw [hs,hp]
 exact if_neg (fun h=>h.elim (fun h=>h rfl) (fun h=>h hk))
def NumT (t:Tkn):Prop:=t.k=2→∃v p,J1 (itoa t.n)=(v,p,0)∧v.k=1∧v.n=t.n
theorem NumT.of {t:Tkn} (h:I64 t.n):NumT t:=fun _=>⟨.mk 1 t.n [] [],0,by
 rw [←KLR t.n [] []]
 exact KAt (by simp [mayV,KC1]) ⟨h,fun x hx=>by cases hx⟩,rfl,rfl⟩
theorem qD {p:UInt8→Prop} [∀c,Decidable (p c)] (hk:∀n,n<256→p (UInt8.ofNat n)) (c:UInt8):p c:=by
 have:=hk c.toNat c.toNat_lt
 rwa [UInt8.ofNat_toNat]at this
theorem KIj:∀c:UInt8,(digB c=true∨c=45)→Xw c=false∧letB c=false∧c≠39:=qD (by decide+kernel)
theorem KFW:∀c:UInt8,digB c=true→N2 c=true∧c≠45:=qD (by decide+kernel)
theorem KND:∀c:UInt8,letB c=true→Xw c=false∧N2 c=true:=qD (by decide+kernel)
theorem KLU:∀c:UInt8,(Xw c=true∨c=32)→N2 c=false:=qD (by decide+kernel)
theorem KBU:∀c:UInt8,(Xw c=true∨letB c=true∨digB c=true∨c=45∨c=39)→U8 c=false:=qD (by decide+kernel)
theorem KBV {w r:List UInt8} (hw:∀c∈w,N2 c=true) (hr:∀c,r.head?=some c→N2 c=false):V9 (w++r)=w.length:=by
 unfold V9
 rw [List.takeWhile_append_of_pos hw,List.length_append]
 cases r with
 |nil=>rfl
 |cons c r=>rw [List.takeWhile_cons_of_neg (by rw [hr c rfl];decide)];rfl
theorem KPS:∀k:Fin 16,hexc k.val≠92∧hexc k.val≠39:=by decide+kernel
theorem KOE {k:Nat} (h:k<16):hexc k≠92∧hexc k≠39:=KPS ⟨k,h⟩
theorem Wk {s:List UInt8} {f i:Nat} (hi:i<s.length):Y7 s (f+1) i=if KV s i=92 then Y7 s f (i+2)else if KV s i=39 then i+1 else Y7 s f (i+1):=by rw [Y7,if_pos hi]
theorem KAu {s:List UInt8}:∀(t:List UInt8) (f i:Nat),At s i (t.flatMap qc++[39])→s.length<f+i→Y7 s f i=i+(t.flatMap qc).length+1
 | [],f,i,ha,hf=>by
  have hl:=ha.len (by simp)
  have:i+1≤s.length:=hl
  obtain⟨f,rfl⟩:∃g,f=g+1:=⟨f - 1,by omega⟩
  rw [Wk (by omega),ha.here,if_neg (by decide),if_pos rfl]
  rfl
 |c::t,f,i,ha,hf=>by
  rw [List.flatMap_cons,List.append_assoc]at ha
  obtain⟨a1,a2⟩:=Z5.1 ha
  have hl:=ha.len (by simp)
  have hrl:(List.flatMap qc t++[39]).length=(List.flatMap qc t).length+1:=by simp
  rw [List.length_append,hrl]at hl
  rw [List.flatMap_cons,List.length_append]
  by_cases h1:c.toNat<32∨126<c.toNat
  ·have hq:=KIc h1
   rw [hq]at a1 a2 hl⊢
   have hc:=c.toNat_lt
   have n1:=KOE (show c.toNat / 16<16 by omega)
   have n2:=KOE (show c.toNat%16<16 by omega)
   simp only [List.length_cons,List.length_nil]at a2 hl⊢
   obtain⟨f,rfl⟩:∃g,f=g+3:=⟨f - 3,by omega⟩
   have b0:KV s i=92:=a1.here
   have b2:KV s (i+2)=hexc (c.toNat / 16):=a1.get (k:=2) (by simp)
   have b3:KV s (i+2+1)=hexc (c.toNat%16):=a1.get (k:=3) (by simp)
   rw [Wk (by omega),if_pos b0,Wk (by omega),b2,if_neg n1.1,if_neg n1.2,Wk (by omega),b3,if_neg n2.1,if_neg n2.2,KAu t f _ a2 (by omega)]
   omega
  ·by_cases h2:c=39∨c=92
   ·rw [KId h2]at a1 a2 hl⊢
    simp only [List.length_cons,List.length_nil]at a2 hl⊢
    obtain⟨f,rfl⟩:∃g,f=g+1:=⟨f - 1,by omega⟩
    rw [Wk (by omega),if_pos a1.here,KAu t f _ a2 (by omega)]
    omega
   ·rw [KPR h1 h2]at a1 a2 hl⊢
    simp only [List.length_cons,List.length_nil]at a2 hl⊢
    obtain⟨f,rfl⟩:∃g,f=g+1:=⟨f - 1,by omega⟩
    rw [Wk (by omega),a1.here,if_neg (fun e=>h2 (.inr e)),if_neg (fun e=>h2 (.inl e)),KAu t f _ a2 (by omega)]
    omega
theorem KGj (t r:List UInt8):GN (Un t++r)=(Un t).length:=by
 have ha:At (Un t++r) 1 (t.flatMap qc++[39]):=by
  show(((t.flatMap qc++[39])++r)).take (t.flatMap qc++[39]).length=_
  exact List.take_left
 unfold GN
 rw [KAu t _ 1 ha (by omega)]
 simp [Un];omega
theorem KEI (n:Int):(∃d,itoa n=d∧d≠[]∧d.all digB=true)∨(∃d,itoa n=45::d∧d≠[]∧d.all digB=true):=by
 unfold itoa
 split
 ·obtain⟨a1,_,a3,_⟩:=NM _ n.natAbs (Nat.lt_succ_self _)
  exact .inr ⟨_,rfl,a3,a1⟩
 ·obtain⟨a1,_,a3,_⟩:=NM _ n.toNat (Nat.lt_succ_self _)
  exact .inl ⟨_,rfl,a3,a1⟩
theorem KPT {t:Tkn} (h:tokB t=true) {a:Nat}:tokB {t with a:=(a:Int)}=true:=by
 unfold tokB at h⊢
 rw [Bool.and_eq_true,Bool.not_eq_true',Bool.or_eq_false_iff]at h⊢
 exact⟨⟨decide_eq_false (by dsimp only;omega),h.1.2⟩,h.2⟩
theorem KDL {t:Tkn} (h:tokB t=true):(t.k=1∧KDB t.s=true∧t.n=0)∨(t.k=2∧t.s=[])∨(t.k=3∧t.s.length≤128∧t.n=0)∨(t.k=4∧∃c,t.s=[c]∧Xw c=true∧t.n=0):=by
 unfold tokB at h
 rw [Bool.and_eq_true,Bool.not_eq_true',Bool.or_eq_false_iff]at h
 obtain⟨⟨_,h2⟩,h3⟩:=h
 have hn:t.k≠2→t.n=0:=fun hk=>by
  rw [decide_eq_true hk,Bool.and_true]at h2
  exact Decidable.byContradiction (fun e=>by rw [decide_eq_true e]at h2;cases h2)
 split at h3
 ·rename_i hk;exact .inl ⟨hk,h3,hn (by omega)⟩
 split at h3
 ·rename_i hk;exact .inr (.inl ⟨hk,of_decide_eq_true h3⟩)
 split at h3
 ·rename_i hk;exact .inr (.inr (.inl ⟨hk,of_decide_eq_true h3,hn (by omega)⟩))
 split at h3
 ·rename_i hk
  refine .inr (.inr (.inr ⟨hk,?_⟩))
  unfold KLC at h3
  split at h3
  ·rename_i c hc;exact⟨c,hc,h3,hn (by omega)⟩
  ·cases h3
 ·cases h3
theorem XV {t:Tkn} (h:tokB t=true):tkT t=if t.k=2 then itoa t.n else if t.k=3 then Un t.s else t.s:=by
 unfold tkT
 rw [h]
 exact if_neg (by decide)
theorem KIk {t:Tkn} (h:tokB t=true):∃c w,tkT t=c::w∧U8 c=false∧(t.k=4→N2 c=false):=by
 rw [XV h]
 rcases KDL h with⟨hk,hs,_⟩|⟨hk,_⟩|⟨hk,_⟩|⟨hk,c,hs,hm,_⟩
 ·rw [if_neg (by omega),if_neg (by omega)]
  match t.s,hs with
  | [],hs=>cases hs
  |c::w,hs=>
   rw [Gk,Bool.and_eq_true,Bool.and_eq_true]at hs
   exact⟨c,w,rfl,KBU c (.inr (.inl hs.1.2)),fun e=>by omega⟩
 ·rw [if_pos hk]
  rcases KEI t.n with⟨d,hd,h0,hd2⟩|⟨d,hd,h0,hd2⟩
  ·obtain⟨c,r,rfl⟩:=List.exists_cons_of_ne_nil h0
   rw [List.all_cons,Bool.and_eq_true]at hd2
   exact⟨c,r,hd,KBU c (.inr (.inr (.inl hd2.1))),fun e=>by omega⟩
  ·exact⟨45,d,hd,by decide,fun e=>by omega⟩
 ·rw [if_neg (by omega),if_pos hk]
  exact⟨39,_,rfl,by decide,fun e=>by omega⟩
 ·rw [if_neg (by omega),if_neg (by omega),hs]
  exact⟨c,[],rfl,KBU c (.inl hm),fun _=>KLU c (.inl hm)⟩
theorem KPU {t:Tkn} {r:List UInt8} (h:tokB t=true) (hn:NumT t) (hr:t.k=1∨t.k=2→∀c,r.head?=some c→N2 c=false):oneP (tkT t++r)=({t with a:=0},(tkT t).length):=by
 rw [XV h]
 obtain⟨k,s,n,a⟩:=t
 rcases KDL h with⟨hk,hs,h0⟩|⟨hk,hs⟩|⟨hk,hs,h0⟩|⟨hk,c,hs,hm,h0⟩<;>dsimp only at hk hs hr⊢
 ·subst hk
  have h0:n=0:=h0
  subst h0
  rw [if_neg (by decide),if_neg (by decide)]
  match s,hs with
  | [],hs=>cases hs
  |c::w,hs=>
   rw [Gk,Bool.and_eq_true,Bool.and_eq_true]at hs
   have hw:=KBV (w:=c::w) (r:=r) (fun d hd=>List.all_eq_true.1 hs.2 d hd) (hr (.inl rfl))
   rw [List.cons_append]at hw⊢
   rw [W3,if_neg (by rw [(KND c hs.1.2).1];decide),if_pos (show letB c=true from hs.1.2),hw,←List.cons_append,List.take_left]
 ·subst hk
  rw [if_pos rfl]
  obtain⟨v,p,hp,hv,hvn⟩:=hn rfl
  dsimp only at hp hvn
  subst hs
  have hrr:=hr (.inr rfl)
  rcases KEI n with⟨d,hd,hd0,hd2⟩|⟨d,hd,hd0,hd2⟩
  ·obtain⟨c,w,rfl⟩:=List.exists_cons_of_ne_nil hd0
   rw [hd]at hp⊢
   have hw:=KBV (w:=c::w) (r:=r) (fun x hx=>(KFW x (List.all_eq_true.1 hd2 x hx)).1) hrr
   rw [List.all_cons,Bool.and_eq_true]at hd2
   obtain⟨m1,m2,m3⟩:=KIj c (.inl hd2.1)
   rw [List.cons_append]at hw⊢
   rw [W3,if_neg (by rw [m1];decide),if_neg (by rw [m2];decide),if_neg m3,if_neg (KFW c hd2.1).2,hw]
   rw [KHj (w:=c::w) (by rw [←List.cons_append,List.take_left]) hp hv,hvn]
  ·rw [hd]at hp⊢
   have hw:=KBV (w:=d) (r:=r) (fun x hx=>(KFW x (List.all_eq_true.1 hd2 x hx)).1) hrr
   obtain⟨m1,m2,m3⟩:=KIj 45 (.inr rfl)
   rw [List.cons_append,W3,if_neg (by rw [m1];decide),if_neg (by rw [m2];decide),if_neg m3,if_pos rfl,hw]
   rw [KHj (w:=45::d) (by rw [←List.cons_append,show 1+d.length=(45::d).length by simp;omega,List.take_left]) hp hv,hvn]
   congr 1
   simp;omega
 ·subst hk
  have h0:n=0:=h0
  subst h0
  rw [if_neg (by decide),if_pos rfl]
  have hc:=KGj s r
  have hp:J1 (Un s)=(.mk 2 0 s [],0,0):=by
   rw [←KLS 0 s []]
   refine KAt ?_ ⟨⟨by decide,by decide⟩,fun x hx=>by cases hx⟩
   have hl:s.length≤128:=hs
   simp [mayV,hl]
  have ht:Un s++r=39::((s.flatMap qc++[39])++r):=rfl
  have htk:(Un s++r).take (Un s).length=Un s:=List.take_left
  rw [ht]at hc htk⊢
  rw [W3,if_neg (by decide),if_neg (by decide),if_pos rfl,hc,KHj (k:=2) htk hp rfl]
  rfl
 ·subst hk
  have h0:n=0:=h0
  subst h0
  subst hs
  rw [if_neg (by decide),if_neg (by decide),List.cons_append,W3,if_pos hm]
  rfl
theorem KLV {s:List UInt8} {p:Nat} (h0:(oneP s).2≠0) (hb:tokB {(oneP s).1 with a:=(p:Int)}=true):tkT {(oneP s).1 with a:=(p:Int)}=s.take (oneP s).2∧NumT {(oneP s).1 with a:=(p:Int)}:=by
 cases s with
 |nil=>exact absurd rfl h0
 |cons c r=>
  rw [XV hb]
  clear hb
  rw [W3]at h0⊢
  split at h0
  ·rename_i hm
   rw [if_pos hm]
   exact⟨rfl,fun h=>by have h:(4:Int)=2:=h;omega⟩
  split at h0
  ·rename_i hm hl
   rw [if_neg hm,if_pos hl]
   exact⟨rfl,fun h=>by have h:(1:Int)=2:=h;omega⟩
  split at h0
  ·rename_i hm hl h39
   rw [if_neg hm,if_neg hl,if_pos h39]
   obtain⟨h1,h2,h3,h4⟩:=KLT h0
   rw [h4]
   refine⟨?_,fun h=>by have h:(3:Int)=2:=h;omega⟩
   dsimp only
   rw [if_neg (by decide),if_pos rfl]
   refine Eq.trans ?_ h3
   generalize(J1 _).1=v at h2⊢
   obtain⟨k,n,s,l⟩:=v
   have h2:k=2:=h2
   subst h2
   exact(KLS _ _ _).symm
  ·rename_i hm hl h39
   rw [if_neg hm,if_neg hl,if_neg h39]
   obtain⟨h1,h2,h3,h4⟩:=KLT h0
   rw [h4]
   dsimp only
   generalize hq:J1 _=q at h1 h2 h3⊢
   obtain⟨⟨k,n,ss,l⟩,p,e⟩:=q
   have h2:k=1:=h2
   have h1:e=0:=h1
   subst h2
   subst h1
   dsimp only at h3⊢
   rw [KLR]at h3
   rw [if_pos rfl,show(Vl.mk 1 n ss l).n=n from rfl,h3]
   exact⟨rfl,fun _=>⟨_,_,by dsimp only;rw [h3];exact hq,rfl,rfl⟩⟩
theorem KLW {s:List UInt8} {a:Nat} {sep w:List UInt8} (hd:s.drop a=sep++w) (hs:∀c∈sep,U8 c=true) (hw:∀c,w.head?=some c→U8 c=false):J2 s a=a+sep.length:=by
 unfold J2
 rw [hd,List.takeWhile_append_of_pos hs,List.length_append]
 cases w with
 |nil=>rfl
 |cons c w=>rw [List.takeWhile_cons_of_neg (by rw [hw c rfl];decide)];rfl
theorem KNE {s:List UInt8} {a:Nat} {sep r:List UInt8} {t:Tkn} (hd:s.drop a=sep++(tkT t++r)) (hs:∀c∈sep,U8 c=true) (h:tokB t=true) (hn:NumT t) (hr:t.k=1∨t.k=2→∀c,r.head?=some c→N2 c=false):
  Gl s a=some ({t with a:=((a+sep.length:Nat):Int)},a+sep.length+(tkT t).length):=by
 obtain⟨c,w,hc,hb,_⟩:=KIk h
 have hsk:=KLW hd hs (by rw [hc];rintro d hd;cases hd;exact hb)
 have hd2:s.drop (a+sep.length)=tkT t++r:=by rw [←List.drop_drop,hd,List.drop_left]
 have hlt:a+sep.length<s.length:=by
  have:=congrArg List.length hd2
  rw [List.length_drop,hc]at this
  simp only [List.cons_append,List.length_cons]at this
  omega
 unfold Gl
 rw [hsk,if_pos hlt,hd2,KPU h hn hr]
 dsimp only
 rw [if_neg (fun e=>e.elim (fun e=>by rw [hc]at e;cases e) (fun e=>by rw [KPT h]at e;cases e))]
def keyT (t:Tkn):Int×List UInt8×Int:=(t.k,t.s,t.n)
theorem KHk {s:List UInt8} {a a':Nat} {t:Tkn} (ha:a≤s.length) (h:Gl s a=some (t,a')):
  ∃p:Nat,t.a=(p:Int)∧a≤p∧tokB t=true∧NumT t∧tkT t≠[]∧(s.drop p).take (tkT t).length=tkT t∧a'=p+(tkT t).length∧p+(tkT t).length≤s.length∧((s.drop a).take (p - a)).all U8=true:=by
 have hsk:=KCF ha
 have hol:=KHe (s.drop (J2 s a))
 rw [List.length_drop]at hol
 have hbl:((s.drop a).take (J2 s a - a)).all U8=true:=by
  unfold J2
  rw [Nat.add_sub_cancel_left,show((s.drop a).take ((s.drop a).takeWhile U8).length)=(s.drop a).takeWhile U8 from(List.prefix_iff_eq_take.1 (List.takeWhile_prefix _)).symm]
  exact List.all_takeWhile
 unfold Gl at h
 split at h
 ·split at h
  ·cases h
  ·rename_i h0 h1
   cases h
   have ho:(oneP (s.drop (J2 s a))).2≠0:=fun e=>h1 (.inl e)
   have hb:tokB {(oneP (s.drop (J2 s a))).1 with a:=(J2 s a:Int)}=true:=by
    cases hh:tokB {(oneP (s.drop (J2 s a))).1 with a:=(J2 s a:Int)}with
    |true=>rfl
    |false=>exact absurd (.inr hh) h1
   obtain⟨hx,hn⟩:=KLV ho hb
   have hl:(tkT {(oneP (s.drop (J2 s a))).1 with a:=(J2 s a:Int)}).length=(oneP (s.drop (J2 s a))).2:=by
    rw [hx,List.length_take,List.length_drop];omega
   refine⟨J2 s a,rfl,hsk.1,hb,hn,fun e=>by rw [e]at hl;exact ho hl.symm,?_,by rw [hl],by rw [hl];omega,hbl⟩
   rw [hl,hx]
 ·cases h
theorem KGk {s:List UInt8}:∀(f a:Nat),a≤s.length→s.length - a<f→∀t∈(allT s a).1,tokB t=true∧NumT t
 |0,a,ha,hf=>by omega
 |f+1,a,ha,hf=>by
  cases hn:Gl s a with
  |none=>rw [Gm hn];intro t ht;cases ht
  |some p=>
   obtain⟨t,a'⟩:=p
   have hlt:=NL ha hn
   rw [Gp ha hn]
   intro x hx
   rcases List.mem_cons.1 hx with rfl|hx
   ·obtain⟨_,_,_,h1,h2,_⟩:=KHk ha hn
    exact⟨h1,h2⟩
   ·exact KGk f a' hlt.2 (by omega) x hx
end Gx
namespace Gx
open Go Go.Proofs Go.Shelf Go.RowKit Go.Lib
def lexP (s:List UInt8):List Tkn×Nat×Int:=
 if 16384<s.length then([],0,3)else
  match(allT s 0).1[4096]? with
  |some t=>([],t.a.toNat,3)
  |none=>if(allT s 0).2<s.length then([],(allT s 0).2,150)else((allT s 0).1,s.length,0)
theorem KLX {s:List UInt8}:∀(f a:Nat),a≤s.length→s.length - a<f→(allT s a).2≤s.length
 |0,a,ha,hf=>by omega
 |f+1,a,ha,hf=>by
  cases hn:Gl s a with
  |none=>rw [Gm hn];exact(KCF ha).2
  |some p=>
   obtain⟨t,a'⟩:=p
   have hlt:=NL ha hn
   rw [Gp ha hn]
   exact KLX f a' hlt.2 (by omega)
theorem KIl (s:List UInt8):(allT s 0).2≤s.length:=KLX _ 0 (Nat.zero_le _) (Nat.lt_succ_self _)
theorem KEJ (s:List UInt8):∀t∈(allT s 0).1,tokB t=true∧NumT t:=KGk _ 0 (Nat.zero_le _) (Nat.lt_succ_self _)
theorem KPV {s:List UInt8} (h:(lexP s).2.2=0):s.length≤16384∧lexP s=((allT s 0).1,s.length,0)∧(allT s 0).1.length≤4096∧(allT s 0).2=s.length:=by
 have hle:=KIl s
 unfold lexP at h⊢
 split at h
 ·have h:(3:Int)=0:=h
  omega
 ·rename_i h1
  rw [if_neg h1]
  split at h
  ·have h:(3:Int)=0:=h
   omega
  ·rename_i h2
   split at h
   ·have h:(150:Int)=0:=h
    omega
   ·rename_i h3
    rw [if_neg h3]
    refine⟨by omega,rfl,?_,by omega⟩
    have:=List.getElem?_eq_none_iff.1 h2
    omega
theorem KPW {s:List UInt8} (h1:s.length≤16384) (h2:(allT s 0).1.length≤4096) (h3:(allT s 0).2=s.length):lexP s=((allT s 0).1,s.length,0):=by
 unfold lexP
 rw [if_neg (by omega),List.getElem?_eq_none h2]
 dsimp only
 rw [if_neg (by omega)]
end Gx
namespace Gx
open Go
theorem KPX {s:List UInt8} {b c a:Nat} (ha:a≤s.length) (hs:s.length≤1099511627776) (hb:b≠gER):
  SeqT Go.Proofs.Tryz.prog (allT s a).1 (.func (.func WI) #[] #[.pointer (some ⟨c,0,none⟩)]) b (fun h1=>ErrV h1∧h1[c]?=some (.cells #[.pointer (some ⟨b,0,none⟩)] Y0 (0,0))) (Yw s a) (fun h1=>h1[b]?=some (Yw s (allT s a).2)):=
 fun l Inv Stop h hU hC g h0 hround=>KR2 ha hs hb hU hC g h0 hround
theorem KPY {β:Type} {lo n:Nat} {h:Heap} {Q:β→Heap→Prop} {r:Sl} {ts:List Tkn} {t:Tkn} {f:Sl→M β} (G:Gw lo h r 4 (Jh (tks ts))) (hlo:lo≤h.size) (hm:ts.length≤1099511627776) (hn:h[n]?=some (.cells t.cells KX (0,0)))
  (H:∀h' r',Gw lo h' r' 4 (Jh (tks (ts++[t])))→h.size≤h'.size→(∀i,i<h.size→¬Sl.on r i→h'[i]?=h[i]?)→(f r').wp h' Q):(ldG 4 ⟨n,0,none⟩>>=fun x=>XI 4 1 (#[.int .i64 0,.string ByteArray.empty,.int .i64 0,.int .i64 0]:Array Value) [(0,.agg x)]>>=fun y=>bdL KX 1 y>>=fun z=>apL KX 4 40 (#[.int .i64 0,.string ByteArray.empty,.int .i64 0,.int .i64 0]:Array Value) r z>>=f).wp h Q:=by
 refine ldR hn rfl (GB rfl (Nh ?_))
 have e6:=Ext.push h (.cells t.cells KX)
 have g6:(h.push (.cells t.cells KX))[h.size]?=some (.cells t.cells KX (0,0)):=ZH
 generalize h.push (.cells t.cells KX)=h6 at e6 g6⊢
 have G6:=G.ext e6
 have hrl:=G6.len
 rw [WT (KLG ts),KBR]at hrl
 have hs6:=e6.size
 have hnew:Jh (tks [t])=t.cells.toList:=by simp [Jh,tks]
 refine KA7 (vs:=Jh (tks ts)) (news:=Jh (tks [t])) rfl G6 (by rw [hnew];rfl) (.inr ⟨_,rfl,fun j v hj=>?_⟩) (fun v hv=>XU t v (by rw [hnew]at hv;exact hv)) (by dsimp only;omega) (by dsimp only;omega) (by omega) (fun h7 r7 G7 hlen7 hs7 same7 on7=>?_)
 ·rw [Ke,Nat.zero_add,KP g6]
  rw [hnew]at hj
  simpa using hj
 ·refine H h7 r7 ?_ (by omega) (fun i hi ho=>(same7 i (by omega) ho).trans (e6.same i hi))
  rw [KPO]
  unfold Jh at G7⊢
  rw [List.flatMap_append]
  exact G7
structure LxJ (hA:Heap) (c b n6:Nat) (t6:TypeId) (ts:List Tkn) (h:Heap):Prop where
 size:hA.size+2≤h.size
 same:∀i,i<hA.size→i≠b→i≠n6→h[i]?=hA[i]?
 df:h[hA.size]?=some (.deferred (some []))
 c6:∃r,h[n6]?=some (.cells #[r.v] t6 (0,0))∧Gw (hA.size+2) h r 4 (Jh (tks ts))
theorem LxJ.km {hA:Heap} {c b n6 k:Nat} {t6:TypeId} {ts:List Tkn} {h h':Heap} (J:LxJ hA c b n6 t6 ts h) (u:Kb k h h') (hk:k=b∨k=hA.size+1) (h6:n6<hA.size) (hb6:b≠n6) (hb:b<hA.size):LxJ hA c b n6 t6 ts h':=by
 obtain⟨r,c6,G⟩:=J.c6
 have hz:=J.size
 exact⟨by have:=u.size;omega,fun i hi hib hi6=>(u.same i (by omega) (by omega)).trans (J.same i hi hib hi6),u.blk J.df (by omega),⟨r,u.blk c6 (by omega),G.same (fun i hi=>u.same i (G.lt hi).1 (by have:=(G.lt hi).2;omega))⟩⟩
theorem Upd.kb {k:Nat} {h h':Heap} (u:Upd k h h'):Kb k h h':=Km.upd u rfl
theorem KQ5 {p:UInt8→Bool}:∀l:List UInt8,(l.dropWhile p).takeWhile p=[]
 | []=>rfl
 |c::l=>by
  cases h:p c with
  |true=>rw [List.dropWhile_cons_of_pos h];exact KQ5 l
  |false=>rw [List.dropWhile_cons_of_neg (by rw [h];decide),List.takeWhile_cons_of_neg (by rw [h];decide)]
theorem KLY {p:UInt8→Bool}:∀l:List UInt8,l.drop (l.takeWhile p).length=l.dropWhile p
 | []=>rfl
 |c::l=>by
  cases h:p c with
  |true=>rw [List.dropWhile_cons_of_pos h,List.takeWhile_cons_of_pos h,List.length_cons,List.drop_succ_cons];exact KLY l
  |false=>rw [List.dropWhile_cons_of_neg (by rw [h];decide),List.takeWhile_cons_of_neg (by rw [h];decide)];rfl
theorem KJg (s:List UInt8) (a:Nat):J2 s (J2 s a)=J2 s a:=by
 have hd:s.drop (J2 s a)=(s.drop a).dropWhile U8:=by
  unfold J2
  rw [←List.drop_drop,KLY]
 have:((s.drop (J2 s a)).takeWhile U8).length=0:=by rw [hd,KQ5];rfl
 show J2 s a+((s.drop (J2 s a)).takeWhile U8).length=J2 s a
 omega
theorem KGl {s:List UInt8}:∀(f a:Nat),a≤s.length→s.length - a<f→J2 s (allT s a).2=(allT s a).2
 |0,a,ha,hf=>by omega
 |f+1,a,ha,hf=>by
  cases hn:Gl s a with
  |none=>rw [Gm hn];exact KJg s a
  |some p=>
   obtain⟨t,a'⟩:=p
   have hlt:=NL ha hn
   rw [Gp ha hn]
   exact KGl f a' hlt.2 (by omega)
theorem KIm {n2 n3 n4:Nat} {t2 t3 t4:TypeId} {ds:List Nat} {v2:Sl} {v3 v4:Int} {h:Heap} {Q:Sl×Int×Int→Heap→Prop}
  (g2:h[n2]?=some (.cells #[v2.v] t2 (0,0))) (g3:h[n3]?=some (.cells #[.int .i64 v3] t3 (0,0))) (g4:h[n4]?=some (.cells #[.int .i64 v4] t4 (0,0)))
  (hd:ds=[]∨∃d,ds=[d]∧h[d]?=some (.deferred (some []))∧n2≠d∧n3≠d∧n4≠d)
  (H:∀h',h'.size=h.size→(∀i,(∀d∈ds,i≠d)→h'[i]?=h[i]?)→Q (v2,v3,v4) h'):
  (shut ds>>=fun _=>ldL ⟨n2,0,none⟩>>=fun a=>ldI .i64 ⟨n3,0,none⟩>>=fun b=>ldI .i64 ⟨n4,0,none⟩>>=fun c=>(M.pure (a,b,c):M (Sl×Int×Int))).wp h Q:=by
 rcases hd with rfl|⟨d,rfl,gd,e2,e3,e4⟩
 ·exact Jm (oneC g2) (ZC (oneC g3) (ZC (oneC g4) (KI (H h rfl (fun _ _=>rfl)))))
 ·refine⟨gd,?_⟩
  have u:=Upd.set_ h d (.deferred none)
  exact Jm (oneC ((u.ne _ e2).trans g2)) (ZC (oneC ((u.ne _ e3).trans g3)) (ZC (oneC ((u.ne _ e4).trans g4)) (KI (H _ u.size (fun i hi=>u.ne i (hi d (by simp)))))))
def KQ6 (c2 c3 c4 c6:Addr):Addr→M Nat:=fun Xx26=>do
  let Xx30←ldL c6
  M.ite ((Xx30.len:Int)==4096) (do
   let Xx32←ldI .i64 ((Xx26).add 3)
   stV c2 ((Sl.nil:Sl).v)
   chk (fun h:Heap=>(KM h ((Xx26).add 3)=some (.int .i64 Xx32)))
   stV c3 (.int .i64 Xx32)
   stV c4 (.int .i64 3)
   M.pure 1
   ) (do
   let Xx36←ldL c6
   let Xx37←ldG 4 Xx26
   let y_39←XI 4 1 (#[.int .i64 0,.string ByteArray.empty,.int .i64 0,.int .i64 0]:Array Value) [(0,.agg Xx37)]
   let Xx38←bdL KX 1 y_39
   let Xx40←apL KX 4 40 (#[.int .i64 0,.string ByteArray.empty,.int .i64 0,.int .i64 0]:Array Value) Xx36 Xx38
   stV c6 ((Xx40:Sl).v)
   M.pure 0
   )
structure LxE (h0 hA:Heap) (n2 n3 n4:Nat) (v3:Int) (h:Heap):Prop where
 size:hA.size+2≤h.size
 same:∀i,i<h0.size→h[i]?=h0[i]?
 df:h[hA.size]?=some (.deferred (some []))
 g2:h[n2]?=some (.cells #[(Sl.nil:Sl).v] Uz (0,0))
 g3:h[n3]?=some (.cells #[.int .i64 v3] VE (0,0))
 g4:h[n4]?=some (.cells #[.int .i64 3] GD (0,0))
theorem KNF {s:List UInt8} {h:Heap} {Q:Sl×Int×Int→Heap→Prop} (he:ErrV h)
  (H:∀h' r,Ext h h'→TkR h' r (lexP s).1→r.len≤r.cap→Q (r,((lexP s).2.1:Int),(lexP s).2.2) h'):(KCj (bs s)).wp h Q:=by
 unfold KCj
 refine ZV (fun h1 e1 s1 g1=>ZV (fun h2 e2 s2 g2=>ZV (fun h3 e3 s3 g3=>?_)))
 rw [Zc]
 have hER:gER<h.size:=by obtain⟨t,p,hc⟩:=he;exact XT hc
 have E3:=(e1.trans e2).trans e3
 have n1:h3[h.size]?=some (.cells #[.slice none 0 0] Uz (0,0)):=e3.blk (e2.blk g1)
 have n2:=e3.blk g2
 refine KY (fun hlong=>?_) (fun hshort=>?_)
 ·unfold lexP at H
  rw [if_pos (by have:=of_decide_eq_true hlong;omega)]at H
  refine stO n1 (qy _) (fun h4 u4 k1=>stO ((u4.ne _ (by omega)).trans n2) rfl (fun h5 u5 k2=>stO ((u5.ne _ (by omega)).trans ((u4.ne _ (by omega)).trans g3)) rfl (fun h6 u6 k3=>?_)))
  have k1':=(u6.ne _ (by omega)).trans ((u5.ne _ (by omega)).trans k1)
  have k2':=(u6.ne _ (by omega)).trans k2
  exact KIm (v2:=Sl.nil) k1' k2' k3 (.inl rfl) (fun h' hz hsame=>H h' Sl.nil ⟨by rw [hz,u6.size,u5.size,u4.size];exact E3.size,fun i hi=>(hsame i (fun d hd=>by cases hd)).trans ((u6.ne _ (by omega)).trans ((u5.ne _ (by omega)).trans ((u4.ne _ (by omega)).trans (E3.same i hi))))⟩ (TkR.nil _) (Nat.le_refl _))
 ·have hshort:=of_decide_eq_false hshort
  have hsl:s.length≤16384:=by omega
  have hs:s.length≤1099511627776:=by omega
  refine ZV (fun h4 e4 s4 g4=>ZV (fun h5 e5 s5 g5=>?_))
  unfold Xi
  refine Kf (ZV (fun hA eA sA gA=>ZM ?_))
  have E5:=(E3.trans e4).trans e5
  have EA:=E5.trans eA
  obtain⟨al,hal⟩:∃al,al=allT s 0:=⟨_,rfl⟩
  have gb:hA[h3.size]?=some (Yw s 0):=eA.blk (e5.blk g4)
  have hle:=KIl s
  have hskp:=KGl _ 0 (Nat.zero_le s.length) (Nat.lt_succ_self _)
  have heA:=he.ext EA
  have m1:hA[h.size]?=some (.cells #[.slice none 0 0] Uz (0,0)):=((e4.trans e5).trans eA).blk n1
  have m2:=((e4.trans e5).trans eA).blk n2
  have m3:=((e4.trans e5).trans eA).blk g3
  have m6:=eA.blk g5
  refine KL (KR3 (Yb:=KQ6 ⟨h.size,0,none⟩ ⟨h1.size,0,none⟩ ⟨h2.size,0,none⟩ ⟨h4.size,0,none⟩) (fun l x=>rfl) (c:=.ret) rfl (fun l hh=>by cases hh) (ts:=(allT s 0).1) (b:=h3.size)
   (fun i h'=>i≤4096∧LxJ hA h5.size h3.size h4.size Uz ((allT s 0).1.take i) h')
   (fun h'=>∃t,(allT s 0).1[4096]?=some t∧LxE h hA h.size h1.size h2.size t.a h') ?_ ?_ ?_ ?_ ?_ gb (KPX (c:=h5.size) (Nat.zero_le _) hs (by omega)) ?_ ?_ ?_ ?_)
  ·exact fun i h' h'' hj u=>⟨hj.1,hj.2.km u.kb (.inr rfl) (by omega) (by omega) (by omega)⟩
  ·rintro h' h'' ⟨t,ht,hj⟩ u
   exact⟨t,ht,by rw [u.size];exact hj.size,fun i hi=>(u.ne _ (by omega)).trans (hj.same i hi),(u.ne _ (by omega)).trans hj.df,(u.ne _ (by omega)).trans hj.g2,(u.ne _ (by omega)).trans hj.g3,(u.ne _ (by omega)).trans hj.g4⟩
  ·exact fun h' h'' hj u=>(u.ne _ (by omega)).trans hj
  ·exact fun i h' h'' hj hz u=>⟨hj.1,hj.2.km u (.inl rfl) (by omega) (by omega) (by omega)⟩
  ·rintro i h' ⟨_,hj⟩
   refine⟨?_,(hj.same _ (by omega) (by omega) (by omega)).trans gA⟩
   obtain⟨t,p,hc⟩:=heA
   refine⟨t,p,?_⟩
   unfold KM at hc⊢
   rw [show(⟨gER,0,none⟩:Addr).block=gER from rfl]at hc⊢
   rw [hj.same gER (by omega) (by omega) (by omega)]
   exact hc
  ·intro r
   have e7:Ext hA ((hA.push (.deferred (some []))).push (Gt r .ready none)):=(Ext.push _ _).pushed _
   exact⟨Nat.zero_le _,by simp,fun i hi _ _=>e7.same i hi,by rw [Xd (by simp)];exact ZH,⟨Sl.nil,e7.blk m6,Gw.nil _ _ _⟩⟩
  ·rintro i hi h' o n ⟨him,J⟩ hn hnl ho
   obtain⟨r,c6,G⟩:=J.c6
   have hrl:=G.tkR.1
   rw [List.length_take,Nat.min_eq_left (by omega)]at hrl
   have hz:=J.size
   unfold KQ6
   refine Jm (oneC c6) (KY (fun hc=>?_) (fun hc=>?_))
   ·rw [eqI]at hc
    have hc:=of_decide_eq_true hc
    obtain rfl:i=4096:=by omega
    have q1:=(J.same h.size (by omega) (by omega) (by omega)).trans m1
    have q2:=(J.same h1.size (by omega) (by omega) (by omega)).trans m2
    have q3:=(J.same h2.size (by omega) (by omega) (by omega)).trans m3
    refine ZC (n:=((allT s 0).1[4096]).a) (by rw [Ke,KP hn];rfl) (stO q1 (qy _) (fun h6 u6 k1=>X5 (by rw [Ke,KP ((u6.ne n (by omega)).trans hn)];rfl) (stO ((u6.ne _ (by omega)).trans q2) rfl (fun h7 u7 k2=>stO ((u7.ne _ (by omega)).trans ((u6.ne _ (by omega)).trans q3)) rfl (fun h8 u8 k3=>KI ?_)))))
    have keep:∀k,k≠h.size→k≠h1.size→k≠h2.size→h8[k]?=h'[k]?:=fun k a1 a2 a3=>(u8.ne k a3).trans ((u7.ne k a2).trans (u6.ne k a1))
    refine⟨(keep _ (by omega) (by omega) (by omega)).trans ho,keep _ (by omega) (by omega) (by omega),.inr ⟨rfl,(allT s 0).1[4096],List.getElem?_eq_getElem hi,by rw [u8.size,u7.size,u6.size];exact hz,fun k hk=>(keep k (by omega) (by omega) (by omega)).trans ((J.same k (by have:=EA.size;omega) (by have:=E3.size;omega) (by have:=(E3.trans e4).size;omega)).trans (EA.same k hk)),(keep _ (by omega) (by omega) (by omega)).trans J.df,(u8.ne _ (by omega)).trans ((u7.ne _ (by omega)).trans k1),(u8.ne _ (by omega)).trans k2,k3⟩⟩
   ·rw [eqI]at hc
    have hc:=of_decide_eq_false hc
    refine Jm (oneC c6) (KPY G (by omega) (by rw [List.length_take];omega) hn (fun h6 r6 G6 hs6 same6=>?_))
    have hG:∀{k:Nat},Sl.on r k→k<h'.size∧hA.size+2≤k:=fun ho=>G.lt ho
    have nn:∀k,k<hA.size+2→¬Sl.on r k:=fun k hk ho=>by have:=(hG ho).2;omega
    have c6':=(same6 _ (by omega) (nn h4.size (by omega))).trans c6
    refine stO c6' (qy _) (fun h7 u7 k6=>KI ?_)
    have keep:∀k,k<hA.size+2→k≠h4.size→h7[k]?=h'[k]?:=fun k hk hk6=>(u7.ne k hk6).trans (same6 k (by omega) (nn k hk))
    refine⟨(keep _ (by omega) (by omega)).trans ho,keep _ (by omega) (by omega),.inl ⟨rfl,by omega,by rw [u7.size];omega,fun k hk hkb hk6=>(keep k (by omega) hk6).trans (J.same k hk hkb hk6),(keep _ (by omega) (by omega)).trans J.df,⟨r6,k6,?_⟩⟩⟩
    rw [List.take_succ_eq_append_getElem hi]
    exact G6.same (fun k hk=>u7.ne k (by have:=(G6.lt hk).2;omega))
  ·rintro h' ⟨him,J⟩ hend
   refine iteF rfl (KL (KDF hend hle hs (fun h6 u6 k6=>?_)))
   rw [hskp]at k6⊢
   obtain⟨r,c6,G⟩:=J.c6
   rw [List.take_length]at G
   have hz:=J.size
   have nn:∀k,k<hA.size+2→¬Sl.on r k:=fun k hk ho=>by have:=(G.lt ho).2;omega
   have q1:=(u6.ne h.size (by omega)).trans ((J.same h.size (by omega) (by omega) (by omega)).trans m1)
   have q2:=(u6.ne h1.size (by omega)).trans ((J.same h1.size (by omega) (by omega) (by omega)).trans m2)
   have q3:=(u6.ne h2.size (by omega)).trans ((J.same h2.size (by omega) (by omega) (by omega)).trans m3)
   have qd:=(u6.ne hA.size (by omega)).trans J.df
   have hnone:(allT s 0).1[4096]?=none:=List.getElem?_eq_none him
   unfold lexP at H
   rw [if_neg (by omega),hnone]at H
   dsimp only at H
   refine KY (fun hlt=>?_) (fun hge=>?_)
   ·rw [if_pos (of_decide_eq_true hlt)]at H
    refine Zi (ZC (KB5 k6) (stO q1 (qy _) (fun h7 u7 k1=>X5 (KB5 ((u7.ne _ (by omega)).trans k6)) (stO ((u7.ne _ (by omega)).trans q2) rfl (fun h8 u8 k2=>stO ((u8.ne _ (by omega)).trans ((u7.ne _ (by omega)).trans q3)) rfl (fun h9 u9 k3=>?_))))))
    have keep:∀k,k≠h3.size→k≠h.size→k≠h1.size→k≠h2.size→h9[k]?=h'[k]?:=fun k a0 a1 a2 a3=>(u9.ne k a3).trans ((u8.ne k a2).trans ((u7.ne k a1).trans (u6.ne k a0)))
    exact KIm (v2:=Sl.nil) ((u9.ne _ (by omega)).trans ((u8.ne _ (by omega)).trans k1)) ((u9.ne _ (by omega)).trans k2) k3 (.inr ⟨hA.size,rfl,(keep _ (by omega) (by omega) (by omega) (by omega)).trans J.df,by omega,by omega,by omega⟩)
     (fun h' hz' hsame=>H h' Sl.nil ⟨by rw [hz',u9.size,u8.size,u7.size,u6.size];have:=EA.size;omega,fun i hi=>(hsame i (fun d hd=>by have:=EA.size;simp at hd;omega)).trans ((keep i (by have:=E3.size;omega) (by omega) (by omega) (by omega)).trans ((J.same i (by have:=EA.size;omega) (by have:=E3.size;omega) (by have:=(E3.trans e4).size;omega)).trans (EA.same i hi)))⟩ (TkR.nil _) (Nat.le_refl _))
   ·rw [if_neg (of_decide_eq_false hge)]at H
    have q6:=(u6.ne h4.size (by omega)).trans c6
    refine Jm (oneC q6) (stO q1 (qy _) (fun h7 u7 k1=>stO ((u7.ne _ (by omega)).trans q2) rfl (fun h8 u8 k2=>stO ((u8.ne _ (by omega)).trans ((u7.ne _ (by omega)).trans q3)) rfl (fun h9 u9 k3=>?_))))
    have keep:∀k,k≠h3.size→k≠h.size→k≠h1.size→k≠h2.size→h9[k]?=h'[k]?:=fun k a0 a1 a2 a3=>(u9.ne k a3).trans ((u8.ne k a2).trans ((u7.ne k a1).trans (u6.ne k a0)))
    exact KIm (v2:=r) ((u9.ne _ (by omega)).trans ((u8.ne _ (by omega)).trans k1)) ((u9.ne _ (by omega)).trans k2) k3 (.inr ⟨hA.size,rfl,(keep _ (by omega) (by omega) (by omega) (by omega)).trans J.df,by omega,by omega,by omega⟩)
     (fun h'' hz' hsame=>H h'' r ⟨by rw [hz',u9.size,u8.size,u7.size,u6.size];have:=EA.size;omega,fun i hi=>(hsame i (fun d hd=>by have:=EA.size;simp at hd;omega)).trans ((keep i (by have:=E3.size;omega) (by omega) (by omega) (by omega)).trans ((J.same i (by have:=EA.size;omega) (by have:=E3.size;omega) (by have:=(E3.trans e4).size;omega)).trans (EA.same i hi)))⟩
      (G.same (fun k hk=>by have:=(G.lt hk).2;exact(hsame k (fun d hd=>by simp at hd;omega)).trans (keep k (by omega) (by omega) (by omega) (by omega)))).tkR G.cap)
  ·rintro h' ⟨t,ht,J⟩
   unfold lexP at H
   rw [if_neg (by omega),ht]at H
   dsimp only at H
   have hta:((t.a.toNat:Nat):Int)=t.a:=by
    obtain⟨hi,hte⟩:=List.getElem?_eq_some_iff.1 ht
    have:=(KEJ s t (hte▸List.getElem_mem hi)).1
    have:¬t.a<0:=fun hneg=>by
     unfold tokB at this
     rw [decide_eq_true hneg]at this
     simp at this
    omega
   rw [hta]at H
   exact iteT rfl (KIm (v2:=Sl.nil) J.g2 J.g3 J.g4 (.inr ⟨hA.size,rfl,J.df,by omega,by omega,by omega⟩)
    (fun h'' hz' hsame=>H h'' Sl.nil ⟨by rw [hz'];have:=J.size;have:=EA.size;omega,fun i hi=>(hsame i (fun d hd=>by have:=EA.size;simp at hd;omega)).trans (J.same i hi)⟩ (TkR.nil _) (Nat.le_refl _)))
end Gx
namespace Gx
open Go Go.Proofs Go.Shelf Go.RowKit Go.Lib
end Gx
namespace Gx
open Go Go.Proofs Go.Shelf Go.RowKit Go.Lib
structure Rgd (h:Heap) (b:Nat) (s:List UInt8) (i:Nat):Prop where
 blk:h[b]?=some (.cells #[.string (bs s),.int .i64 (i:Int),.int .i64 (-1)] Yi (0,0))
 le:i≤s.length
 small:s.length≤1099511627776
def Rx (h:Heap) (b:Nat) (s:List UInt8) (e:Nat):Prop:=∃i:Nat,i≤s.length∧s.length≤1099511627776∧h[b]?=some (.cells #[.string (bs s),.int .i64 (i:Int),.int .i64 (e:Int)] Yi (0,0))
theorem Rgd.ext {h h':Heap} {b:Nat} {s:List UInt8} {i:Nat} (R:Rgd h b s i) (e:Ext h h'):Rgd h' b s i:=⟨e.blk R.blk,R.le,R.small⟩
theorem Rgd.lt {h:Heap} {b:Nat} {s:List UInt8} {i:Nat} (R:Rgd h b s i):b<h.size:=JT R.blk
theorem Rgd.upd {h h':Heap} {b g:Nat} {s:List UInt8} {i:Nat} (R:Rgd h b s i) (u:Upd g h h') (hg:b≠g):Rgd h' b s i:=⟨(u.ne b hg).trans R.blk,R.le,R.small⟩
theorem Rx.ext {h h':Heap} {b:Nat} {s:List UInt8} {i:Nat} (R:Rx h b s i) (e:Ext h h'):Rx h' b s i:=let⟨k,h1,h2,h3⟩:=R;⟨k,h1,h2,e.blk h3⟩
theorem Rx.upd {h h':Heap} {b g:Nat} {s:List UInt8} {i:Nat} (R:Rx h b s i) (u:Upd g h h') (hg:b≠g):Rx h' b s i:=let⟨k,h1,h2,h3⟩:=R;⟨k,h1,h2,(u.ne b hg).trans h3⟩
theorem Rx.lt {h:Heap} {b:Nat} {s:List UInt8} {i:Nat} (R:Rx h b s i):b<h.size:=let⟨k,h1,h2,h3⟩:=R;JT h3
section
variable {β:Type} {h:Heap} {Q:β→Heap→Prop} {b i e:Nat} {s:List UInt8}
end
section
variable {h:Heap} {b i e:Nat} {s:List UInt8}
end
end Gx
namespace Gx
open Go
end Gx
namespace Gx
open Go Go.Proofs Go.Shelf Go.RowKit Go.Lib
end Gx
namespace Gx
open Go Go.Proofs Go.Shelf Go.RowKit Go.Lib
end Gx
namespace Gx
open Go
end Gx
namespace Gx
open Go
end Gx
namespace Gx
open Go
end Gx
namespace Gx
open Go Go.Lib
theorem KNG {s:List UInt8} {d i j:Nat} {v:Vl} (hi:i≤s.length) (h:pval s d i=.ok (v,j)):I64 v.n:=by
 have z:I64 0:=⟨by decide,by decide⟩
 have o:I64 1:=⟨by decide,by decide⟩
 cases d with
 |zero=>cases h
 |succ d=>
  rw [pval]at h
  split at h
  ·split at h
   ·cases h
   ·rename_i n j1 h1
    cases h
    exact(KC9 h1 hi).1
  split at h
  ·split at h
   ·cases h
   ·cases h;exact z
  split at h
  ·split at h
   ·cases h
   ·cases h;exact o
  split at h
  ·split at h
   ·cases h
   ·cases h;exact z
  split at h
  ·obtain⟨n,rfl,hn,_⟩:=qB h;exact hn
  split at h
  ·obtain⟨n,rfl,hn,_⟩:=qB h;exact hn
  split at h
  ·split at h
   ·cases h
   ·cases h;exact z
  split at h
  ·split at h
   ·cases h
   ·cases h;exact z
  ·cases h
theorem KJh (s:List UInt8):I64 (J1 s).1.n:=by
 have z:I64 (Vl.n vl0):=⟨by decide,by decide⟩
 unfold J1
 split
 ·exact z
 ·rename_i v hv
  split
  ·unfold KBP at hv
   split at hv
   ·cases hv
   ·rename_i w j hp
    split at hv
    ·cases hv
    ·cases hv
     exact KNG (Nat.zero_le _) hp
  ·exact z
theorem KNH (s:List UInt8):I64 (oneP s).1.n:=by
 have z:I64 0:=⟨by decide,by decide⟩
 have key:∀(k:Int) (s:List UInt8) (n:Nat) (t:Vl→Tkn),(∀v,I64 v.n→I64 (t v).n)→I64 (oneV k s n t).1.n:=fun k s n t ht=>by
  unfold oneV oneW
  split
  ·exact z
  ·exact ht _ (KJh _)
 cases s with
 |nil=>exact z
 |cons c r=>
  rw [W3]
  split
  ·exact z
  split
  ·exact z
  split
  ·exact key _ _ _ _ (fun _ _=>z)
  ·exact key _ _ _ _ (fun _ h=>h)
theorem KIn {s:List UInt8}:∀(f a:Nat),a≤s.length→s.length - a<f→∀t∈(allT s a).1,I64 t.n
 |0,a,ha,hf=>by omega
 |f+1,a,ha,hf=>by
  cases hn:Gl s a with
  |none=>rw [Gm hn];intro t ht;cases ht
  |some q=>
   obtain⟨t,a'⟩:=q
   have hlt:=NL ha hn
   rw [Gp ha hn]
   intro x hx
   rcases List.mem_cons.1 hx with rfl|hx
   ·unfold Gl at hn
    split at hn
    ·split at hn
     ·cases hn
     ·cases hn
      exact KNH _
    ·cases hn
   ·exact KIn f a' hlt.2 (by omega) x hx
theorem KLZ (s:List UInt8):∀t∈(allT s 0).1,I64 t.n:=KIn _ 0 (Nat.zero_le _) (Nat.lt_succ_self _)
end Gx
namespace Gx
open Go Go.Lib
end Gx
namespace Gx
end Gx
namespace Gx
open Go Go.Lib
theorem KIo {t:Tkn} (h:tokB t=true):t.s.length≤128:=by
 rcases KDL h with⟨_,h1,_⟩|⟨_,h1⟩|⟨_,h1,_⟩|⟨_,c,h1,_⟩
 ·match hs:t.s,h1 with
  | [],_=>simp
  |c::r,h1=>
   rw [Gk,Bool.and_eq_true,Bool.and_eq_true]at h1
   have:=of_decide_eq_true h1.1.1
   omega
 ·rw [h1];simp
 ·exact h1
 ·rw [h1];simp
end Gx
namespace Gx
open Go
def US (e:Int×Int):Value:=.iface WR (.agg #[.int .i64 e.1,.int .i64 e.2])
structure PRd (lo b en:Nat) (h:Heap) (ts:List Tkn) (n:Nat):Prop where
 obj:∃x:Sl,h[b]?=some (.cells #[x.v,.int .i64 (en:Int),.int .i64 (n:Int)] Nk (0,0))∧TkR h x ts∧x.len≤x.cap∧∀a,x.base=some a→ts≠[]→a.block≠b∧a.block<lo
 bl:b<lo
 lh:lo≤h.size
 small:ts.length≤1099511627776
 good:∀t∈ts,tokB t=true∧I64 t.n
 nb:n≤256
theorem TkR.sameB {h h':Heap} {x:Sl} {ts:List Tkn} (H:TkR h x ts) (hk:∀a,x.base=some a→ts≠[]→h'[a.block]?=h[a.block]?):TkR h' x ts:=by
 refine⟨H.1,?_⟩
 by_cases hne:ts=[]
 ·subst hne;exact .inl rfl
 rcases H.2 with h0|⟨a,ha,hr⟩
 ·exact .inl h0
 ·refine .inr ⟨a,ha,fun j v hj=>?_⟩
  have:=hr j v hj
  unfold KM at this⊢
  rw [JS]at this⊢
  rw [hk a ha hne]
  exact this
theorem PRd.same {lo b en n:Nat} {h h':Heap} {ts:List Tkn} (R:PRd lo b en h ts n) (hs:h.size≤h'.size) (hk:∀k,k<lo→h'[k]?=h[k]?):PRd lo b en h' ts n:=by
 obtain⟨x,g,T,hc,hb⟩:=R.obj
 exact⟨⟨x,(hk b R.bl).trans g,T.sameB (fun a ha hne=>hk _ (hb a ha hne).2),hc,hb⟩,R.bl,Nat.le_trans R.lh hs,R.small,R.good,R.nb⟩
theorem PRd.ext {lo b en n:Nat} {h h':Heap} {ts:List Tkn} (R:PRd lo b en h ts n) (e:Ext h h'):PRd lo b en h' ts n:=R.same e.size (fun k hk=>e.same k (by have:=R.lh;omega))
theorem PRd.upd {lo b en n g:Nat} {h h':Heap} {ts:List Tkn} (R:PRd lo b en h ts n) (u:Upd g h h') (hg:lo≤g):PRd lo b en h' ts n:=R.same (by rw [u.size];exact Nat.le_refl _) (fun k hk=>u.ne k (by omega))
theorem PRd.lt {lo b en n:Nat} {h:Heap} {ts:List Tkn} (R:PRd lo b en h ts n):b<h.size:=by have:=R.bl;have:=R.lh;omega
def GO (en:Nat):List Tkn→Int
 | []=>(en:Int)
 |t::_=>t.a
def isT (k:Int) (s:List UInt8):List Tkn→Bool
 | []=>false
 |t::_=>decide (t.k=k)&&decide (t.s=s)
def nxT (en:Nat) (k:Int):List Tkn→Except (Int×Int) (Tkn×List Tkn)
 | []=>.error ((en:Int),160)
 |t::r=>if t.k=k then .ok (t,r)else .error (t.a,160)
theorem qE {en:Nat} {k:Int} {t:Tkn} {r:List Tkn}:nxT en k (t::r)=if t.k=k then .ok (t,r)else .error (t.a,160):=rfl
def takT (en:Nat) (k:Int) (s:List UInt8) (ts:List Tkn):Except (Int×Int) (List Tkn):=if isT k s ts=true then .ok ts.tail else .error (GO en ts,160)
theorem PRd.head {lo b en n:Nat} {h:Heap} {t:Tkn} {ts:List Tkn} {x:Sl} (T:TkR h x (t::ts)):∃a,x.base=some a∧∀j,j<4→KM h (a.add j)=t.cells[j]?:=by
 obtain⟨a,ha,hc⟩:=T.at (i:=0) (by simp)
 refine⟨a,ha,fun j hj=>?_⟩
 have:=hc j hj
 rwa [show 0*4=0 from rfl,add_zero]at this
theorem Xx {lo b en n:Nat} {h:Heap} {ts:List Tkn} {Q:Int→Heap→Prop} (R:PRd lo b en h ts n) (H:Q (GO en ts) h):(ZN (some ⟨b,0,none⟩)).wp h Q:=by
 obtain⟨x,g,T,hc,hb⟩:=R.obj
 unfold ZN
 have c0:KM h ((⟨b,0,none⟩:Addr).add 0)=some x.v:=by rw [add_zero,KP g];rfl
 have c1:KM h ((⟨b,0,none⟩:Addr).add 1)=some (.int .i64 (en:Int)):=by rw [Ke,KP g];rfl
 refine Zi (Jm c0 ?_)
 have hl:=T.1
 cases ts with
 |nil=>exact iteF (decide_eq_false (by rw [hl];simp)) (Zi (ZC c1 (KI H)))
 |cons t r=>
  obtain⟨a,ha,hca⟩:=PRd.head (lo:=lo) (b:=b) (en:=en) (n:=n) T
  exact iteT (decide_eq_true (by rw [hl,List.length_cons];omega)) (Zi (Jm c0 (X6 (by decide) (by rw [hl,List.length_cons];omega) ha (ZC (n:=t.a) (by rw [show(0:Int).toNat*4=0 from rfl,add_zero];exact hca 3 (by decide)) (KI H)))))
theorem KDM {lo b en n:Nat} {h:Heap} {ts:List Tkn} {k:Int} {s:List UInt8} {Q:Bool→Heap→Prop} (R:PRd lo b en h ts n) (H:Q (isT k s ts) h):(ZQ (some ⟨b,0,none⟩) k (bs s)).wp h Q:=by
 obtain⟨x,g,T,hc,hb⟩:=R.obj
 unfold ZQ
 have c0:KM h ((⟨b,0,none⟩:Addr).add 0)=some x.v:=by rw [add_zero,KP g];rfl
 refine Zi (Jm c0 ?_)
 have hl:=T.1
 cases ts with
 |nil=>exact NQ (decide_eq_false (by rw [hl];simp)) (ZM (NQ rfl (ZM (KI H))))
 |cons t r=>
  obtain⟨a,ha,hca⟩:=PRd.head (lo:=lo) (b:=b) (en:=en) (n:=n) T
  have z:a.add ((0:Int).toNat*4)=a:=rfl
  refine Y9 (decide_eq_true (by rw [hl,List.length_cons];omega)) (Kf (Zi (Kf (Jm c0 (Kf (X6 (by decide) (by rw [hl,List.length_cons];omega) ha (Kf (ZC (n:=t.k) (by rw [z];exact hca 0 (by decide)) (ZM ?_)))))))))
  rw [eqI]
  refine Wf (c:=decide (t.s=s)) (fun _ Q' hq=>Zi (Jm c0 (X6 (by decide) (by rw [hl,List.length_cons];omega) ha (Yh (n:=bs t.s) (by rw [z];exact hca 1 (by decide)) (KI (by rw [KD9];exact hq)))))) (KI H)
theorem KOF {β:Type} {lo b en n:Nat} {h:Heap} {t:Tkn} {ts:List Tkn} {Q:β→Heap→Prop} {f:Unit→M β} (R:PRd lo b en h (t::ts) n) (H:∀h',Upd b h h'→PRd lo b en h' ts n→(f ()).wp h' Q):
  (nilP (some ⟨b,0,none⟩)>>=fun a=>ldL (a.add 0)>>=fun x=>slL x 1 x.len 4>>=fun y=>nilP (some ⟨b,0,none⟩)>>=fun c=>stV (c.add 0) (y:Sl).v>>=f).wp h Q:=by
 obtain⟨x,g,T,hc,hb⟩:=R.obj
 have c0:KM h ((⟨b,0,none⟩:Addr).add 0)=some x.v:=by rw [add_zero,KP g];rfl
 have hl:=T.1
 rw [List.length_cons]at hl
 have hsm:=R.small
 rw [List.length_cons]at hsm
 refine Zi (Jm c0 (KQU (by decide) (by omega) (by omega) (Zi (Gu (x:=x.v) c0 (by rw [add_zero];exact ZL g) (qy _) ?_))))
 rw [add_zero]
 obtain⟨y,hy⟩:∃y:Sl,y=⟨if x.cap=(1:Int).toNat then x.base else x.base.map (fun a=>a.add ((1:Int).toNat*4)),(x.len:Int).toNat - (1:Int).toNat,x.cap - (1:Int).toNat⟩:=⟨_,rfl⟩
 rw [←hy]
 have hyb:y.base=if x.cap=1 then x.base else x.base.map (fun a=>a.add 4):=by rw [hy];rfl
 have hyl:y.len=x.len - 1:=by rw [hy];rfl
 have hyc:y.cap=x.cap - 1:=by rw [hy];rfl
 clear hy
 have u:=Upd.hset h b 0 y.v
 have g':=Ul (o:=0) (v:=y.v) g
 generalize hset h ⟨b,0,none⟩ y.v=h2 at u g'⊢
 refine H _ u ⟨⟨y,g',⟨by omega,?_⟩,by omega,fun a ha _=>?_⟩,R.bl,by rw [u.size];exact R.lh,by omega,fun t ht=>R.good t (List.mem_cons_of_mem _ ht),R.nb⟩
 ·rcases T.2 with h0|⟨a,ha,hr⟩
  ·have:=congrArg List.length h0
   rw [WT (KLG _),KBR]at this;simp at this
  ·cases ts with
   |nil=>exact .inl rfl
   |cons t2 r=>
    rw [List.length_cons]at hl
    rw [if_neg (by omega),ha]at hyb
    refine .inr ⟨a.add 4,hyb,fun j v hj=>?_⟩
    have h1:=hr (4+j) v (by
     show(t.cells.toList++Jh (tks (t2::r)))[4+j]?=some v
     rw [List.getElem?_append_right (by show 4≤4+j;omega)]
     show(Jh (tks (t2::r)))[4+j - 4]?=some v
     rw [Nat.add_sub_cancel_left]
     exact hj)
    rw [Addr.add_add]
    unfold KM at h1⊢
    rw [JS]at h1⊢
    rw [u.ne a.block (hb a ha (by simp)).1]
    exact h1
 ·rw [hyb]at ha
  split at ha
  ·exact hb a ha (by simp)
  ·cases hx:x.base with
   |none=>rw [hx]at ha;cases ha
   |some q=>
    rw [hx]at ha
    cases ha
    rw [JS]
    exact hb q hx (by simp)
theorem Y8 {at_ e:Int} {h:Heap} {Q:Value⊕Unit→Heap→Prop} (H:Q (.inl (US (at_,e))) h):(JH at_ e).wp h Q:=by
 unfold JH
 exact KI H
theorem KEK {lo b en n:Nat} {h:Heap} {ts:List Tkn} {k:Int} {s:List UInt8} {Q:Value⊕Unit→Heap→Prop} (R:PRd lo b en h ts n)
  (H1:∀r h',takT en k s ts=.ok r→Kb b h h'→PRd lo b en h' r n→Q (.inr ()) h') (H2:∀e h',takT en k s ts=.error e→Kb b h h'→Q (.inl (US e)) h'):(UJ (some ⟨b,0,none⟩) k (bs s)).wp h Q:=by
 unfold UJ
 refine KL (KDM R ?_)
 unfold takT at H1 H2
 cases hi:isT k s ts with
 |false=>
  rw [hi]at H2
  exact iteT rfl (KL (Xx R (Zv (Y8 (H2 _ h rfl (Km.refl _ _))))))
 |true=>
  rw [hi]at H1
  cases ts with
  |nil=>cases hi
  |cons t r=>
   unfold UA
   exact iteF rfl (KOF R (fun h' u R'=>KI (H1 r h' rfl (Km.upd u rfl) R')))
theorem UL {lo b en n:Nat} {h:Heap} {ts:List Tkn} {s:List UInt8} {Q:Value⊕Unit→Heap→Prop} (R:PRd lo b en h ts n)
  (H1:∀r h',takT en 4 s ts=.ok r→Kb b h h'→PRd lo b en h' r n→Q (.inr ()) h') (H2:∀e h',takT en 4 s ts=.error e→Kb b h h'→Q (.inl (US e)) h'):(Kc (some ⟨b,0,none⟩) (bs s)).wp h Q:=by
 unfold Kc
 exact Zv (KEK R (fun r h' hr K R'=>KI (H1 r h' hr K R')) H2)
theorem YV {lo b en n:Nat} {h:Heap} {ts:List Tkn} {k:Int} {Q:Value⊕Array Value→Heap→Prop} (R:PRd lo b en h ts n)
  (H1:∀t r h',nxT en k ts=.ok (t,r)→Kb b h h'→PRd lo b en h' r n→Q (.inr t.cells) h') (H2:∀e h',nxT en k ts=.error e→Kb b h h'→Q (.inl (US e)) h'):(ZD (some ⟨b,0,none⟩) k).wp h Q:=by
 unfold ZD
 refine ZV (fun h1 e1 s1 g1=>?_)
 have R1:=R.ext e1
 obtain⟨x,g,T,hc,hb⟩:=R1.obj
 have c0:KM h1 ((⟨b,0,none⟩:Addr).add 0)=some x.v:=by rw [add_zero,KP g];rfl
 have hl:=T.1
 have hlo:=R.lh
 refine Zi (Jm c0 ?_)
 rw [eqI]
 cases ts with
 |nil=>
  exact Y9 (decide_eq_true (by rw [hl];rfl)) (ZM (iteT rfl (KL (Xx R1 (Zv (Y8 (H2 _ h1 rfl (Km.ext e1))))))))
 |cons t r=>
  obtain⟨a,ha,hca⟩:=PRd.head (lo:=lo) (b:=b) (en:=en) (n:=n) T
  have z:a.add ((0:Int).toNat*4)=a:=rfl
  rw [List.length_cons]at hl
  refine NQ (decide_eq_false (by rw [hl];omega)) (Kf (Zi (Kf (Jm c0 (Kf (X6 (by decide) (by omega) ha (Kf (ZC (n:=t.k) (by rw [z];exact hca 0 (by decide)) (ZM ?_)))))))))
  rw [bne,eqI]
  rw [show nxT en k (t::r)=if t.k=k then .ok (t,r)else .error (t.a,160)from rfl]at H1 H2
  refine KY (fun hk=>?_) (fun hk=>?_)
  ·rw [if_neg (fun e=>by rw [decide_eq_true e]at hk;cases hk)]at H2
   exact KL (Xx R1 (Zv (Y8 (H2 _ h1 rfl (Km.ext e1)))))
  ·rw [if_pos (Decidable.byContradiction (fun e=>by rw [decide_eq_false e]at hk;cases hk))]at H1
   unfold UB
   refine Zi (Jm c0 (X6 (by decide) (by omega) ha (Xc (cs:=t.cells) rfl (fun i hi=>by rw [z];exact hca i hi) (ZV (fun h2 e2 s2 g2=>Zt rfl (stR g2 (Nat.le_refl 4) (XU t) (fun h3 u3 g3=>?_)))))))
   have g3:h3[h1.size]?=some (.cells t.cells KX (0,0)):=by
    have e:lay tkn0.cells 0 t.cells.toList=t.cells:=by rw [Kp (cs:=tkn0.cells) (vs:=t.cells.toList) rfl,Array.toArray_toList]
    rw [←e];exact g3
   have E3:Ext h1 h3:=e2.upd u3 (Nat.le_refl _)
   refine KOF (R1.ext E3) (fun h4 u4 R4=>?_)
   have hbl:=R.lt
   have g4:=(u4.ne h1.size (by omega)).trans g3
   have gz:h4[h.size]?=some (.cells tkn0.cells KX (0,0)):=(u4.ne h.size (by omega)).trans (E3.blk g1)
   refine ldR g4 rfl (qt (t0:=tkn0) (t:=t) gz (fun h5 u5=>KI (H1 t r h5 rfl ?_ (R4.upd u5 hlo))))
   exact((Km.ext (e1.trans E3)).trans u4.kb).own u5 (Nat.le_refl _)
end Gx
namespace Gx
open Go
theorem zk {en:Nat} {k:Int} {s:List UInt8} {ts r:List Tkn} (h:takT en k s ts=.ok r):∃t,ts=t::r∧t.k=k∧t.s=s:=by
 unfold takT at h
 split at h
 ·rename_i hi
  cases ts with
  |nil=>cases hi
  |cons t q=>
   cases h
   unfold isT at hi
   rw [Bool.and_eq_true]at hi
   exact⟨t,rfl,of_decide_eq_true hi.1,of_decide_eq_true hi.2⟩
 ·cases h
theorem KDN {en:Nat} {k:Int} {t:Tkn} {ts r:List Tkn} (h:nxT en k ts=.ok (t,r)):ts=t::r∧t.k=k:=by
 cases ts with
 |nil=>cases h
 |cons u q=>
  rw [qE]at h
  split at h
  ·rename_i hk;cases h;exact⟨rfl,hk⟩
  ·cases h
def KAv (en:Nat) (k:Int) (r:List Tkn):Except (Int×Int) (Vl×List Tkn):=
 match takT en 4 [91] r with
 | .error e=>.error e
 | .ok r1=>match nxT en 2 r1 with
  | .error e=>.error e
  | .ok (t,r2)=>match takT en 4 [93] r2 with
   | .error e=>.error e
   | .ok r3=>.ok (.mk k t.n [] [],r3)
abbrev KBW:List UInt8:=[116,114,117,101]
abbrev KDO:List UInt8:=[102,97,108,115,101]
def qu (en:Nat):List Tkn→Option (Except (Int×Int) (Vl×List Tkn))
 | []=>none
 |t::r=>
  if t.k=2 then some (.ok (.mk 1 t.n [] [],r))else if t.k=3 then some (.ok (.mk 2 0 t.s [],r))
  else if(isT 1 KBW (t::r)||isT 1 KDO (t::r))=true then some (.ok (.mk 3 (if t.s=KBW then 1 else 0) [] [],r))
  else if isT 1 [118] (t::r)=true then some (KAv en 6 r)else if isT 1 [101] (t::r)=true then some (KAv en 7 r)else none
theorem VS {en:Nat} {t:Tkn} {r:List Tkn}:qu en (t::r)=if t.k=2 then some (.ok (.mk 1 t.n [] [],r))else if t.k=3 then some (.ok (.mk 2 0 t.s [],r))
  else if(isT 1 KBW (t::r)||isT 1 KDO (t::r))=true then some (.ok (.mk 3 (if t.s=KBW then 1 else 0) [] [],r))
  else if isT 1 [118] (t::r)=true then some (KAv en 6 r)else if isT 1 [101] (t::r)=true then some (KAv en 7 r)else none:=rfl
def comT (en:Nat) (first:Bool) (ts:List Tkn):Except (Int×Int) (List Tkn):=if first=true then .ok ts else takT en 4 [44] ts
def Wo (pv:List Tkn→Except (Int×Int) (Vl×List Tkn)) (cl:List UInt8) (two:Bool) (en:Nat):Nat→List Tkn→List Vl→Except (Int×Int) (List Vl×List Tkn)
 |0,_,_=>.error (0,0)
 |f+1,ts,l=>if isT 4 cl ts=true then .ok (l,ts.tail)else
  match comT en l.isEmpty ts with
  | .error e=>.error e
  | .ok ts1=>match pv ts1 with
   | .error e=>.error e
   | .ok (v,ts2)=>if two=true then(match takT en 4 [58] ts2 with
     | .error e=>.error e
     | .ok ts3=>match pv ts3 with
      | .error e=>.error e
      | .ok (w,ts4)=>Wo pv cl two en f ts4 (l++[v]++[w]))else Wo pv cl two en f ts2 (l++[v])
def valT (en:Nat):Nat→List Tkn→Except (Int×Int) (Vl×List Tkn)
 |0,ts=>.error (GO en ts,160)
 |d+1,ts=>match(match qu en ts with
   |some r=>r
   |none=>if isT 4 [91] ts=true then(match Wo (valT en d) [93] false en (ts.tail.length+1) ts.tail []with
     | .error e=>.error e
     | .ok (l,r)=>.ok (.mk 4 0 [] l,r))else if isT 4 [123] ts=true then(match Wo (valT en d) [125] true en (ts.tail.length+1) ts.tail []with
     | .error e=>.error e
     | .ok (l,r)=>.ok (.mk 5 0 [] l,r))else .error (GO en ts,160))with
  | .error e=>.error e
  | .ok (v,r)=>if mayV 8 v=true then .ok (v,r)else .error (GO en ts,160)
theorem KIp {en:Nat} {k:Int} {ts r:List Tkn} {v:Vl} (h:KAv en k ts=.ok (v,r)):r.length<ts.length:=by
 unfold KAv at h
 split at h
 ·cases h
 ·rename_i r1 h1
  obtain⟨t1,rfl,_⟩:=zk h1
  split at h
  ·cases h
  ·rename_i t r2 h2
   obtain⟨rfl,_⟩:=KDN h2
   split at h
   ·cases h
   ·rename_i r3 h3
    obtain⟨t3,rfl,_⟩:=zk h3
    cases h
    simp only [List.length_cons];omega
theorem KLa {en:Nat} {ts r:List Tkn} {v:Vl} (h:qu en ts=some (.ok (v,r))):r.length<ts.length:=by
 cases ts with
 |nil=>cases h
 |cons t q=>
  rw [VS]at h
  split at h
  ·cases h;simp
  split at h
  ·cases h;simp
  split at h
  ·cases h;simp
  split at h
  ·have:=KIp (Option.some.inj h);rw [List.length_cons];omega
  split at h
  ·have:=KIp (Option.some.inj h);rw [List.length_cons];omega
  ·cases h
theorem KPZ {en:Nat} {f:Bool} {ts r:List Tkn} (h:comT en f ts=.ok r):r.length≤ts.length:=by
 unfold comT at h
 split at h
 ·cases h;exact Nat.le_refl _
 ·obtain⟨t,rfl,_⟩:=zk h;simp
theorem KGm {k:Int} {s:List UInt8} {ts:List Tkn} (h:isT k s ts=true):ts.tail.length<ts.length:=by
 cases ts with
 |nil=>cases h
 |cons t r=>simp
theorem KCH {pv:List Tkn→Except (Int×Int) (Vl×List Tkn)} {cl:List UInt8} {two:Bool} {en:Nat} (hp:∀ts v r,pv ts=.ok (v,r)→r.length<ts.length):∀(f:Nat) (ts:List Tkn) (l l':List Vl) (r:List Tkn),Wo pv cl two en f ts l=.ok (l',r)→r.length<ts.length
 |0,ts,l,l',r,h=>by cases h
 |f+1,ts,l,l',r,h=>by
  rw [Wo]at h
  split at h
  ·rename_i hi;cases h;exact KGm hi
  split at h
  ·cases h
  ·rename_i ts1 h1
   have a1:=KPZ h1
   split at h
   ·cases h
   ·rename_i v ts2 h2
    have a2:=hp _ _ _ h2
    split at h
    ·split at h
     ·cases h
     ·rename_i ts3 h3
      obtain⟨t3,rfl,_⟩:=zk h3
      split at h
      ·cases h
      ·rename_i w ts4 h4
       have a4:=hp _ _ _ h4
       have:=KCH hp f _ _ _ _ h
       rw [List.length_cons]at a2
       omega
    ·have:=KCH hp f _ _ _ _ h
     omega
theorem KDP {en:Nat}:∀(d:Nat) (ts:List Tkn) (v:Vl) (r:List Tkn),valT en d ts=.ok (v,r)→r.length<ts.length
 |0,ts,v,r,h=>by cases h
 |d+1,ts,v,r,h=>by
  have ih:=KDP (en:=en) d
  rw [valT]at h
  split at h
  ·cases h
  ·rename_i v1 r1 h1
   split at h
   ·cases h
    split at h1
    ·rename_i q hq
     subst h1
     exact KLa hq
    ·split at h1
     ·rename_i hi
      split at h1
      ·cases h1
      ·rename_i l r2 h2
       cases h1
       have:=KCH ih _ _ _ _ _ h2
       have:=KGm hi
       omega
     split at h1
     ·rename_i hi
      split at h1
      ·cases h1
      ·rename_i l r2 h2
       cases h1
       have:=KCH ih _ _ _ _ _ h2
       have:=KGm hi
       omega
     ·cases h1
   ·cases h
theorem KPa {β:Type} {k:IntKind} {cs:Array Value} {i:Nat} {n:Int} {f:Int→M β} {h:Heap} {Q:β→Heap→Prop} (hc:cs[i]?=some (.int k n)) (H:(f n).wp h Q):(fdI k cs i>>=f).wp h Q:=⟨n,hc,H⟩
theorem KNI {β:Type} {cs:Array Value} {i:Nat} {n:ByteArray} {f:ByteArray→M β} {h:Heap} {Q:β→Heap→Prop} (hc:cs[i]?=some (.string n)) (H:(f n).wp h Q):(fdS cs i>>=f).wp h Q:=⟨n,hc,H⟩
theorem KGn {h:Heap} {Q:Value⊕(Array Value×Bool)→Heap→Prop} {g:Nat} {z cs:Array Value} {t:TypeId} {c:Bool} (hg:h[g]?=some (.cells z t (0,0))) (hz:z.size=4) (hc:cs.size=4) (h1:∀v∈cs.toList,one v=true)
  (H:∀h',Upd g h h'→Q (.inr (cs,c)) h'):(M.need (cs.size=4)>>=fun _=>stG ⟨g,0,none⟩ cs>>=fun _=>ldG 4 ⟨g,0,none⟩>>=fun r=>(M.pure (.inr (r,c)):M (Value⊕(Array Value×Bool)))).wp h Q:=by
 refine Zt hc (stR hg (by omega) h1 (fun h' u g'=>?_))
 have hl:lay z 0 cs.toList=cs:=by
  rw [Kp (by rw [Array.length_toList];omega)]
 rw [hl]at g'
 exact ldR g' hc (KI (H _ u))
theorem KEL {lo b en n:Nat} {h h0:Heap} {t0:Tkn} {ts:List Tkn} {k:Int} {g:Nat} {Q:Value⊕(Array Value×Bool)→Heap→Prop} (R:PRd lo b en h (t0::ts) n) (ht0:t0.k=1) (hk:I64 k) (E:Ext h0 h) (hlo:lo≤h0.size) (hg0:h0.size≤g) (gz:h[g]?=some (.cells vz KH (0,0)))
  (H1:∀v r h' c,KAv en k ts=.ok (v,r)→Kb b h0 h'→PRd lo b en h' r n→(∀S h2,JE S h2 v c)→Q (.inr (c,true)) h') (H2:∀e h',KAv en k ts=.error e→Kb b h0 h'→Q (.inl (US e)) h'):
  (JI (some ⟨b,0,none⟩) ⟨g,0,none⟩ k).wp h Q:=by
 unfold JI
 have hbl:=R.bl
 have K0:Kb b h0 h:=Km.ext E
 refine Zv (YV R (fun t r h1 hn K1 R1=>?_) (fun e h1 hn K1=>?_))
 ·obtain⟨e1,_⟩:=KDN hn
  cases e1
  refine Zv (UL R1 (fun r1 h2 hr1 K2 R2=>?_) (fun e h2 hr1 K2=>H2 e h2 (by unfold KAv;rw [hr1]) ((K0.trans K1).trans K2)))
  refine Zv (YV R2 (fun t2 r2 h3 hn2 K3 R3=>?_) (fun e h3 hn2 K3=>H2 e h3 (by unfold KAv;rw [hr1];dsimp only;rw [hn2]) (((K0.trans K1).trans K2).trans K3)))
  have hI:I64 t2.n:=by
   obtain⟨rfl,_⟩:=KDN hn2
   exact(R2.good t2 (by simp)).2
  refine KPa (n:=t2.n) rfl (ZV (fun h4 e4 s4 g4=>Zt rfl (stR g4 (Nat.le_refl 4) (Zy k t2.n [] Sl.nil) (fun h5 u5 g5=>?_))))
  have g5:h5[h3.size]?=some (.cells (UH k t2.n [] Sl.nil) KH (0,0)):=by
   have e:lay vz 0 (UH k t2.n [] Sl.nil).toList=UH k t2.n [] Sl.nil:=Kp (cs:=vz) (vs:=(UH k t2.n [] Sl.nil).toList) rfl
   rw [←e];exact g5
  have E5:Ext h3 h5:=e4.upd u5 (Nat.le_refl _)
  have K5:Kb b h0 h5:=(((K0.trans K1).trans K2).trans K3).trans (Km.ext E5)
  refine Zv (UL (R3.ext E5) (fun r3 h6 hr3 K6 R6=>?_) (fun e h6 hr3 K6=>H2 e h6 (by unfold KAv;rw [hr1];dsimp only;rw [hn2];dsimp only;rw [hr3]) (K5.trans K6)))
  have hz0:=E.size
  have hlt3:=R3.lt
  have g6:=K6.blk g5 (show ¬h3.size=b by omega)
  have gz6:=((((K1.trans K2).trans K3).trans (Km.ext E5)).trans K6).blk gz (show ¬g=b by omega)
  refine ldR g6 rfl (KGn gz6 rfl rfl (Zy k t2.n [] Sl.nil) (fun h7 u7=>H1 (.mk k t2.n [] []) r3 h7 _ ?_ ((K5.trans K6).own u7 hg0) (R6.upd u7 (by omega)) (fun S h'=>KAq S h' hk hI (by decide))))
  unfold KAv;rw [hr1];dsimp only;rw [hn2];dsimp only;rw [hr3]
 ·rw [qE,if_pos ht0]at hn
  cases hn
theorem KHl {lo b en n:Nat} {h:Heap} {ts:List Tkn} {Q:Value⊕(Array Value×Bool)→Heap→Prop} (R:PRd lo b en h ts n)
  (H0:∀h',qu en ts=none→Kb b h h'→PRd lo b en h' ts n→Q (.inr (vz,false)) h')
  (H1:∀v r h' c,qu en ts=some (.ok (v,r))→Kb b h h'→PRd lo b en h' r n→(∀S h2,JE S h2 v c)→Q (.inr (c,true)) h')
  (H2:∀e h',qu en ts=some (.error e)→Kb b h h'→Q (.inl (US e)) h'):(Ug (some ⟨b,0,none⟩)).wp h Q:=by
 unfold Ug
 have hlh:=R.lh
 have hbl:=R.bl
 refine ZV (fun h1 e1 s1 g1=>?_)
 have R1:=R.ext e1
 obtain⟨x,g,T,hc,hb⟩:=R1.obj
 have c0:KM h1 ((⟨b,0,none⟩:Addr).add 0)=some x.v:=by rw [add_zero,KP g];rfl
 have hl:=T.1
 have none_:∀{h2:Heap},qu en ts=none→Ext h1 h2→(M.need ((vz:Array Value).size=4)>>=fun _=>stG ⟨h.size,0,none⟩ vz>>=fun _=>ldG 4 ⟨h.size,0,none⟩>>=fun r=>(M.pure (.inr (r,false)):M (Value⊕(Array Value×Bool)))).wp h2 Q:=fun {h2} hp E2=>
  KGn (E2.blk g1) rfl rfl (Zy 0 0 [] Sl.nil) (fun h3 u3=>H0 h3 hp ((Km.ext (e1.trans E2)).own u3 (Nat.le_refl _)) ((R1.ext E2).upd u3 hlh))
 refine Zi (Jm c0 ?_)
 rw [eqI]
 cases ts with
 |nil=>exact iteT (decide_eq_true (by rw [hl];rfl)) (none_ rfl (Ext.refl _))
 |cons t r=>
  obtain⟨a,ha,hca⟩:=PRd.head (lo:=lo) (b:=b) (en:=en) (n:=n) T
  have z:a.add ((0:Int).toNat*4)=a:=rfl
  rw [List.length_cons]at hl
  obtain⟨htok,hI⟩:=R.good t (by simp)
  refine iteF (decide_eq_false (by rw [hl];omega)) (Zi (Jm c0 (X6 (by decide) (by omega) ha (Xc (cs:=t.cells) rfl (fun i hi=>by rw [z];exact hca i hi) (ZV (fun h2 e2 s2 g2=>Zt rfl (stR g2 (Nat.le_refl 4) (XU t) (fun h3 u3 g3=>?_))))))))
  have g3:h3[h1.size]?=some (.cells t.cells KX (0,0)):=by
   have e:lay tkn0.cells 0 t.cells.toList=t.cells:=by rw [Kp (cs:=tkn0.cells) (vs:=t.cells.toList) rfl,Array.toArray_toList]
   rw [←e];exact g3
  have E3:Ext h1 h3:=e2.upd u3 (Nat.le_refl _)
  have R3:=R1.ext E3
  have gz:=E3.blk g1
  have cK:KM h3 ((⟨h1.size,0,none⟩:Addr).add 0)=some (.int .i64 t.k):=by rw [add_zero,KP g3];rfl
  have E03:=e1.trans E3
  rw [VS]at H0 H1 H2 none_
  have nx:∀{h4:Heap} {F:Array Value→M (Value⊕(Array Value×Bool))} {k:Int},k=t.k→Ext h3 h4→PRd lo b en h4 (t::r) n→(∀h5,Kb b h4 h5→PRd lo b en h5 r n→h5[h.size]?=some (.cells vz KH (0,0))→(F t.cells).wp h5 Q)→(thr (ZD (some ⟨b,0,none⟩) k) F).wp h4 Q:=fun {h4 F k} hk E4 R4 HF=>by
   subst hk
   refine Zv (YV R4 (fun t' r' h5 hn K5 R5=>?_) (fun e h5 hn K5=>?_))
   ·obtain⟨e,_⟩:=KDN hn
    cases e
    exact HF h5 K5 R5 (K5.blk (E4.blk gz) (by omega))
   ·rw [qE,if_pos rfl]at hn
    cases hn
  refine ZC cK ?_
  rw [eqI]
  refine KY (fun k2=>?_) (fun k2=>?_)
  ·rw [if_pos (of_decide_eq_true k2)]at H1
   refine ZC cK (nx rfl (Ext.refl _) R3 (fun h5 K5 R5 gz5=>KPa (n:=t.n) rfl (KN7 (fun h6 e6=>KGn (e6.blk gz5) rfl rfl (Zy 1 t.n [] Sl.nil) (fun h7 u7=>H1 _ r h7 _ rfl ((((Km.ext E03).trans K5).trans (Km.ext e6)).own u7 (Nat.le_refl _)) ((R5.ext e6).upd u7 hlh) (fun S h'=>KAq S h' ⟨by decide,by decide⟩ hI (by decide)))))))
  rw [if_neg (of_decide_eq_false k2)]at H0 H1 H2 none_
  refine ZC cK ?_
  rw [eqI]
  refine KY (fun k3=>?_) (fun k3=>?_)
  ·rw [if_pos (of_decide_eq_true k3)]at H1
   have hsl:=KIo htok
   refine ZC cK (nx rfl (Ext.refl _) R3 (fun h5 K5 R5 gz5=>KNI (n:=bs t.s) rfl (KN8 (fun h6 e6=>KGn (e6.blk gz5) rfl rfl (Zy 2 0 t.s Sl.nil) (fun h7 u7=>H1 _ r h7 _ rfl ((((Km.ext E03).trans K5).trans (Km.ext e6)).own u7 (Nat.le_refl _)) ((R5.ext e6).upd u7 hlh) (fun S h'=>KAq S h' ⟨by decide,by decide⟩ ⟨by decide,by decide⟩ (by omega)))))))
  rw [if_neg (of_decide_eq_false k3)]at H0 H1 H2 none_
  refine KL (KDM (s:=KBW) R3 ?_)
  refine or_b (c:=isT 1 KDO (t::r)) (fun _ Q' hq=>KL (KDM (s:=KDO) R3 (KI hq))) ?_
  refine KY (fun kb=>?_) (fun kb=>?_)
  ·rw [if_pos kb]at H1
   refine ZC cK (nx rfl (Ext.refl _) R3 (fun h5 K5 R5 gz5=>KNI (n:=bs t.s) rfl ?_))
   rw [show sEq (bs t.s) (⟨#[116,114,117,101]⟩:ByteArray)=decide (t.s=KBW)from KD9 t.s KBW]
   refine KHY (fun h6 e6=>KGn (e6.blk gz5) rfl rfl (Zy 3 _ [] Sl.nil) (fun h7 u7=>H1 _ r h7 _ rfl ((((Km.ext E03).trans K5).trans (Km.ext e6)).own u7 (Nat.le_refl _)) ((R5.ext e6).upd u7 hlh) (fun S h'=>?_)))
   have:(if decide (t.s=KBW)=true then(1:Int)else 0)=if t.s=KBW then 1 else 0:=by
    by_cases hh:t.s=KBW
    ·rw [if_pos hh,if_pos (decide_eq_true hh)]
    ·rw [if_neg hh,if_neg (by rw [decide_eq_false hh];decide)]
   rw [this]
   exact KAq S h' ⟨by decide,by decide⟩ (by split<;>exact⟨by decide,by decide⟩) (by decide)
  rw [if_neg (by rw [kb];decide)]at H0 H1 H2 none_
  have hk1:∀{w:List UInt8},isT 1 w (t::r)=true→t.k=1:=fun {w} hw=>by
   unfold isT at hw
   rw [Bool.and_eq_true]at hw
   exact of_decide_eq_true hw.1
  refine KL (KDM (s:=[118]) R3 (KY (fun kv=>?_) (fun kv=>?_)))
  ·rw [if_pos kv]at H1 H2
   exact KEL R3 (hk1 kv) ⟨by decide,by decide⟩ E03 hlh (Nat.le_refl _) gz (fun v r' h' c hv K' R' V=>H1 v r' h' c (by rw [hv]) K' R' V) (fun e h' hv K'=>H2 e h' (by rw [hv]) K')
  rw [if_neg (by rw [kv];decide)]at H0 H1 H2 none_
  refine KL (KDM (s:=[101]) R3 (KY (fun ke=>?_) (fun ke=>?_)))
  ·rw [if_pos ke]at H1 H2
   exact KEL R3 (hk1 ke) ⟨by decide,by decide⟩ E03 hlh (Nat.le_refl _) gz (fun v r' h' c hv K' R' V=>H1 v r' h' c (by rw [hv]) K' R' V) (fun e h' hv K'=>H2 e h' (by rw [hv]) K')
  rw [if_neg (by rw [ke];decide)]at H0 H1 H2 none_
  exact none_ rfl E3
end Gx
namespace Gx
open Go
def KOG (en d:Nat):Prop:=∀(ts:List Tkn) (n:Nat) (h:Heap) (Q:Value⊕Array Value→Heap→Prop) (lo b:Nat),PRd lo b en h ts n→
 (∀v r h' c,valT en d ts=.ok (v,r)→Kb b h h'→PRd lo b en h' r n→JE (HS h h') h' v c→Q (.inr c) h')→
 (∀e h',valT en d ts=.error e→Kb b h h'→Q (.inl (US e)) h')→(Kt (some ⟨b,0,none⟩) ((9 - d:Nat):Int)).wp h Q
theorem KHm {α:Type} (l:List α):l.isEmpty=!decide ((l.length:Int)>0):=by
 cases l with
 |nil=>rfl
 |cons a r=>rw [decide_eq_true (by rw [List.length_cons];omega)];rfl
theorem KJi {en d:Nat} (hd:d≤7) (IH:KOG en d) {cl:List UInt8} {two:Bool} {ts:List Tkn} {n lo b:Nat} {h:Heap} {Q:Value⊕Sl→Heap→Prop} (R:PRd lo b en h ts n)
  (H1:∀l r h' x,Wo (valT en d) cl two en (ts.length+1) ts []=.ok (l,r)→Kb b h h'→PRd lo b en h' r n→VsRepS (HS h h') h' x l→Q (.inr x) h')
  (H2:∀e h',Wo (valT en d) cl two en (ts.length+1) ts []=.error e→Kb b h h'→Q (.inl (US e)) h'):
  (WD (some ⟨b,0,none⟩) (bs cl) two ((8 - d:Nat):Int)).wp h Q:=by
 unfold WD
 have hP:=KDP (en:=en) d
 have hlh:=R.lh
 have hbl:=R.bl
 have hsm:=R.small
 refine M.loop_inv (fun(x:Sl) hh=>∃(l:List Vl) (css:List (Array Value)) (f:Nat) (ts':List Tkn),ts'.length<f∧l.length+ts'.length≤ts.length∧Kb b h hh∧PRd lo b en hh ts' n∧VGw h.size (fun k=>h.size≤k∧k<hh.size∧¬Sl.on x k) hh x css l∧Wo (valT en d) cl two en f ts' l=Wo (valT en d) cl two en (ts.length+1) ts [])
  (fun x _=>ts.length+1 - x.len) ?_ ⟨[],[],_,ts,Nat.lt_succ_self _,by simp,Km.refl _ _,R,VGw.nil _ _ _,rfl⟩
 rintro x hh ⟨l,css,f,ts',hf,hli,K,R',G,hm⟩ self hself
 have hxl:x.len=l.length:=by rw [G.gw.len4 G.w4,G.len]
 obtain⟨f,rfl⟩:∃g,f=g+1:=⟨f - 1,by omega⟩
 rw [Wo]at hm
 have hKs:=K.size
 unfold Us
 refine KL (KDM R' ?_)
 refine KY (fun hne=>?_) (fun heq=>?_)
 ·have hne:isT 4 cl ts'=false:=by simpa using hne
  rw [if_neg (by rw [hne];decide)]at hm
  have one_:∀{l2:List Vl} {css2:List (Array Value)} {ts2:List Tkn} {h2:Heap} {x2:Sl} {Qs:Value⊕Sl→Heap→Prop} {F:Sl→M (Value⊕Sl)},l2.length≤1099511627776→Kb b h h2→PRd lo b en h2 ts2 n→VGw h.size (fun k=>h.size≤k∧k<h2.size∧¬Sl.on x2 k) h2 x2 css2 l2→
    (∀v r h3 x3 css3,valT en d ts2=.ok (v,r)→Kb b h h3→PRd lo b en h3 r n→VGw h.size (fun k=>h.size≤k∧k<h3.size∧¬Sl.on x3 k) h3 x3 css3 (l2++[v])→(F x3).wp h3 Qs)→
    (∀e h3,valT en d ts2=.error e→Kb b h h3→Qs (.inl (US e)) h3)→
    (thr (GR Go.Proofs.Tryz.prog Vu #[.pointer (some ⟨b,0,none⟩),.int .i64 (IntKind.wrap .i64 (((8 - d:Nat):Int)+1))] (fun r:Array Value=>.agg r)) fun Xx24=>
     (XI 4 1 (#[.int .i64 0,.int .i64 0,.string ByteArray.empty,.slice none 0 0]:Array Value) [(0,.agg Xx24)]>>=fun y=>bdL KH 1 y>>=fun x=>apL KH 4 56 (#[.int .i64 0,.int .i64 0,.string ByteArray.empty,.slice none 0 0]:Array Value) x2 x>>=F)).wp h2 Qs:=by
   intro l2 css2 ts2 h2 x2 Qs F hli2 K2 R2 G2 HF HE
   rw [w64 (by omega) (by omega),show(((8 - d:Nat):Int)+1)=((9 - d:Nat):Int) by omega]
   have hK2:=K2.size
   refine Zv (zm (Z1 _ _) (IH ts2 n h2 _ lo b R2 (fun v r h3 c hv K3 R3 V3=>?_) (fun e h3 hv K3=>HE e h3 hv (K2.trans K3))))
   have hK3:=K3.size
   have G3:VGw h.size (fun k=>h.size≤k∧k<h3.size∧¬Sl.on x2 k) h3 x2 css2 l2:=
    (G2.same (fun k hk=>K3.same k (G2.gw.lt hk).1 (fun e=>by have:=(G2.gw.lt hk).2;omega)) (fun k hk=>K3.same k hk.2.1 (fun e=>by have:=hk.1;omega))).mono (fun k hk=>⟨hk.1,by have:=hk.2.1;omega,hk.2.2⟩)
   refine KK9 G3 (fun k hk=>hk.2) (V3.mono (fun k hk=>⟨by have:=hk.1;omega,hk.2,fun ho=>by have:=(G2.gw.lt ho).1;have:=hk.1;omega⟩)) (by omega) (by omega) (fun h4 x4 G4 hs4 same4 on4=>?_)
   refine HF v r h4 x4 _ hv ⟨by omega,fun k hk hkb=>(same4 k (by omega) (fun ho=>by have:=(G2.gw.lt ho).2;omega)).trans ((K2.trans K3).same k hk hkb)⟩ (R3.same hs4 (fun k hk=>same4 k (by have:=R3.lh;omega) (fun ho=>by have:=(G2.gw.lt ho).2;omega))) (G4.mono (fun k hk=>⟨hk.1,by have:=hk.2.1;omega,fun ho=>(on4 k ho).elim hk.2.2 (fun h=>by have:=hk.2.1;omega)⟩))
  have body:∀(ts1:List Tkn) (h2:Heap),ts1.length≤ts'.length→Kb b h h2→PRd lo b en h2 ts1 n→VGw h.size (fun k=>h.size≤k∧k<h2.size∧¬Sl.on x k) h2 x css l→
    (match valT en d ts1 with
     | .error e=>.error e
     | .ok (v,ts2)=>if two=true then(match takT en 4 [58] ts2 with
       | .error e=>.error e
       | .ok ts3=>match valT en d ts3 with
        | .error e=>.error e
        | .ok (w,ts4)=>Wo (valT en d) cl two en f ts4 (l++[v]++[w]))else Wo (valT en d) cl two en f ts2 (l++[v]))=Wo (valT en d) cl two en (ts.length+1) ts []→
    (Jc self (some ⟨b,0,none⟩) two ((8 - d:Nat):Int) x).wp h2 Q:=by
   intro ts1 h2 hle K2 R2 G2 hm2
   unfold Jc
   refine one_ (by omega) K2 R2 G2 (fun v r h3 x3 css3 hv K3 R3 G3=>?_) (fun e h3 hv K3=>?_)
   ·have hvj:=hP _ _ _ hv
    rw [hv]at hm2
    dsimp only at hm2
    have hx3:x3.len=(l++[v]).length:=by rw [G3.gw.len4 G3.w4,G3.len]
    rw [List.length_append,List.length_singleton]at hx3
    cases two with
    |false=>
     rw [if_neg (by decide)]at hm2
     exact iteF rfl (hself _ _ ⟨l++[v],css3,f,r,by omega,by rw [List.length_append,List.length_singleton];omega,K3,R3,G3,hm2⟩ (by omega))
    |true=>
     rw [if_pos rfl]at hm2
     refine iteT rfl (Zv (UL (s:=[58]) R3 (fun r2 h4 hr2 K4 R4=>?_) (fun e h4 hr2 K4=>?_)))
     ·obtain⟨tc,rfl,_⟩:=zk hr2
      rw [hr2]at hm2
      dsimp only at hm2
      rw [List.length_cons]at hvj
      have hK4:=K4.size
      have G4:VGw h.size (fun k=>h.size≤k∧k<h4.size∧¬Sl.on x3 k) h4 x3 css3 (l++[v]):=
       (G3.same (fun k hk=>K4.same k (G3.gw.lt hk).1 (fun e=>by have:=(G3.gw.lt hk).2;omega)) (fun k hk=>K4.same k hk.2.1 (fun e=>by have:=hk.1;omega))).mono (fun k hk=>⟨hk.1,by have:=hk.2.1;omega,hk.2.2⟩)
      refine one_ (by rw [List.length_append,List.length_singleton];omega) (K3.trans K4) R4 G4 (fun w r3 h5 x5 css5 hw K5 R5 G5=>?_) (fun e h5 hw K5=>?_)
      ·have hwj:=hP _ _ _ hw
       rw [hw]at hm2
       dsimp only at hm2
       have hx5:x5.len=(l++[v]++[w]).length:=by rw [G5.gw.len4 G5.w4,G5.len]
       rw [List.length_append,List.length_append,List.length_singleton,List.length_singleton]at hx5
       exact hself _ _ ⟨l++[v]++[w],css5,f,r3,by omega,by rw [List.length_append,List.length_append,List.length_singleton,List.length_singleton];omega,K5,R5,G5,hm2⟩ (by omega)
      ·rw [hw]at hm2
       exact H2 e h5 hm2.symm K5
     ·rw [hr2]at hm2
      exact H2 e h4 hm2.symm (K3.trans K4)
   ·rw [hv]at hm2
    exact H2 e h3 hm2.symm K3
  unfold comT at hm
  rw [KHm]at hm
  rw [hxl]
  refine KY (fun hpos=>?_) (fun hz=>?_)
  ·rw [hpos,if_neg (by decide)]at hm
   refine Zv (UL (s:=[44]) R' (fun r h2 hr K2 R2=>?_) (fun e h2 hr K2=>?_))
   ·obtain⟨tc,rfl,_⟩:=zk hr
    rw [hr]at hm
    have hK2:=K2.size
    exact body r h2 (by simp) (K.trans K2) R2 ((G.same (fun k hk=>K2.same k (G.gw.lt hk).1 (fun e=>by have:=(G.gw.lt hk).2;omega)) (fun k hk=>K2.same k hk.2.1 (fun e=>by have:=hk.1;omega))).mono (fun k hk=>⟨hk.1,by have:=hk.2.1;omega,hk.2.2⟩)) hm
   ·rw [hr]at hm
    exact H2 e h2 hm.symm (K.trans K2)
  ·rw [hz,if_pos (show(!false)=true from rfl)]at hm
   exact body ts' hh (Nat.le_refl _) K R' G hm
 ·have heq:isT 4 cl ts'=true:=by simpa using heq
  rw [if_pos heq]at hm
  refine Zv (UL R' (fun r h2 hr K2 R2=>?_) (fun e h2 hr K2=>?_))
  ·unfold takT at hr
   rw [if_pos heq]at hr
   cases hr
   have hK2:=K2.size
   have hl9:l.length≤9223372036854775807:=by omega
   refine KI (H1 l ts'.tail h2 x hm.symm (K.trans K2) R2 ?_)
   refine(G.rep_ hl9).same (fun k hk=>K2.same k ?_ ?_) (fun k hk=>⟨?_,?_⟩)
   all_goals (rcases hk with hk|hk)
   ·exact hk.2.1
   ·exact(G.gw.lt hk).1
   ·intro e;have:=hk.1;omega
   ·intro e;have:=(G.gw.lt hk).2;omega
   ·exact hk.1
   ·exact(G.gw.lt hk).2
   ·have:=hk.2.1;omega
   ·have:=(G.gw.lt hk).1;omega
  ·unfold takT at hr
   rw [if_pos heq]at hr
   cases hr
theorem KNJ {v:Vl} {h:Heap} {Q:Bool→Heap→Prop} {x:Array Value} (hx:VRep h v x) (H:∀h',Ext h h'→Q (!mayV 8 v) h'):(Ya x).wp h Q:=by
 unfold Ya
 refine ZV (fun h1 e1 s1 g1=>ldR g1 hx.size (KL (KC2 (hx.ext e1) (fun h2 e2=>KI ?_))))
 have:=H _ (e1.trans e2)
 unfold KBj
 cases hm:mayV 8 v<;>(rw [hm]at this;exact this)
theorem NN (en:Nat):∀d,d≤8→KOG en d
 |0,_=>fun ts n h Q lo b R H1 H2=>by
  unfold Kt
  refine ZV (fun h1 e1 hs1 g1=>KL (Xx (R.ext e1) (iteT (by rfl) (Zv (Y8 (H2 _ h1 rfl (Km.ext e1)))))))
 |d+1,hd=>fun ts n h Q lo b R H1 H2=>by
  have IH:=NN en d (by omega)
  unfold Kt
  have hlh:=R.lh
  have hbl:=R.bl
  refine ZV (fun h1 e1 hs1 g1=>KL (Xx (R.ext e1) (iteF (decide_eq_false (by omega)) ?_)))
  have R1:=R.ext e1
  unfold Jz
  rw [valT]at H1 H2
  have K1:Kb b h h1:=Km.ext e1
  have fin:∀{v:Vl} {r:List Tkn} {c:Array Value} {g:Nat} {h2:Heap},(∀e h',(if mayV 8 v=true then(.ok (v,r):Except (Int×Int) (Vl×List Tkn))else .error (GO en ts,160))=.error e→Kb b h h'→Q (.inl (US e)) h')→
    (∀v' r' h' c',(if mayV 8 v=true then(.ok (v,r):Except (Int×Int) (Vl×List Tkn))else .error (GO en ts,160))=.ok (v',r')→Kb b h h'→PRd lo b en h' r' n→JE (HS h h') h' v' c'→Q (.inr c') h')→
    Kb b h1 h2→PRd lo b en h2 r n→h2[g]?=some (.cells c KH (0,0))→JE (fun k=>h1.size≤k∧k<h2.size∧k≠g) h2 v c→h1.size≤g→(ZR ⟨h.size,0,none⟩ (GO en ts) ⟨g,0,none⟩).wp h2 Q:=fun {v r c g h2} HE HO K2 R2 gg V2 hg=>by
   unfold ZR
   refine ldR gg V2.size (KL (KNJ V2.to (fun h3 e3=>?_)))
   have K3:=(K1.trans K2).trans (Km.ext e3)
   cases hm:mayV 8 v with
   |false=>
    rw [hm]at HE
    exact iteT rfl (Zv (Y8 (HE _ h3 rfl K3)))
   |true=>
    rw [hm]at HO
    unfold Jy
    have g3:=e3.blk gg
    have gz3:h3[h.size]?=some (.cells vz KH (0,0)):=e3.blk (K2.blk g1 (by omega))
    refine iteF rfl (ldR g3 V2.size (KK8 gz3 rfl V2.size V2.to.one (fun h4 u4=>HO v r h4 c rfl (K3.own u4 (Nat.le_refl _)) ((R2.ext e3).upd u4 hlh) ?_)))
    have hz2:=K2.size
    have hz3:=e3.size
    have hz4:=u4.size
    exact(V2.same (fun k hk=>(u4.ne k (by have:=hk.1;omega)).trans (e3.same k hk.2.1))).mono (fun k hk=>⟨by have:=hk.1;omega,by have:=hk.2.1;omega⟩)
  refine Zv (KHl R1 (fun h2 hp K2 R2=>?_) (fun v r h2 c hp K2 R2 V2=>?_) (fun e h2 hp K2=>H2 e h2 (by rw [hp]) (K1.trans K2)))
  ·rw [hp]at H1 H2
   dsimp only at H1 H2
   refine ZV (fun h3 e3 hs3 g3=>Zt rfl (stR g3 (Nat.le_refl 4) (Zy 0 0 [] Sl.nil) (fun h4 u4 g4=>iteF rfl ?_)))
   have g4:h4[h2.size]?=some (.cells vz KH (0,0)):=by
    have e:lay vz 0 (vz:Array Value).toList=vz:=Kp (cs:=vz) (vs:=(vz:Array Value).toList) rfl
    rw [←e];exact g4
   have E4:Ext h2 h4:=e3.upd u4 (Nat.le_refl _)
   have R4:=R2.ext E4
   have K4:=K2.trans (Km.ext E4)
   have hz2:=K2.size
   have hz4:=E4.size
   have hlt2:=R2.lt
   have coll:∀{cl:List UInt8} {two:Bool} {k:Int} {op:List UInt8} {F:Sl→M (Value⊕Array Value)},I64 k→isT 4 op ts=true→
     (∀e h',Wo (valT en d) cl two en (ts.tail.length+1) ts.tail []=.error e→Kb b h h'→Q (.inl (US e)) h')→
     (∀l r h5 x,Wo (valT en d) cl two en (ts.tail.length+1) ts.tail []=.ok (l,r)→Kb b h4 h5→PRd lo b en h5 r n→VsRepS (HS h4 h5) h5 x l→(F x).wp h5 Q)→
     (thr (Kc (some ⟨b,0,none⟩) (bs op)) fun x27=>thr (GR Go.Proofs.Tryz.prog WJ #[.pointer (some ⟨b,0,none⟩),.string (bs cl),.bool two,.int .i64 ((9 - (d+1):Nat):Int)] (fun r:Sl=>(r:Sl).v)) F).wp h4 Q:=fun {cl two k op F} hk hop HE HF=>by
    refine Zv (UL R4 (fun r h5 hr K5 R5=>?_) (fun e h5 hr K5=>?_))
    ·unfold takT at hr
     rw [if_pos hop]at hr
     cases hr
     rw [show((9 - (d+1):Nat):Int)=((8 - d:Nat):Int) by omega]
     refine Zv (zm (ze _ _ _ _) (KJi (by omega) IH R5 (fun l r h6 x hl K6 R6 V6=>HF l r h6 x hl (K5.trans K6) R6 (V6.same (fun _ _=>rfl) (fun k hk=>⟨by have:=hk.1;have:=K5.size;omega,hk.2⟩))) (fun e h6 hl K6=>HE e h6 hl (((K1.trans K4).trans K5).trans K6))))
    ·unfold takT at hr
     rw [if_pos hop]at hr
     cases hr
   have put:∀{k:Int} {l:List Vl} {r:List Tkn} {h5:Heap} {x:Sl},I64 k→(∀e h',(if mayV 8 (.mk k 0 [] l)=true then(.ok (.mk k 0 [] l,r):Except (Int×Int) (Vl×List Tkn))else .error (GO en ts,160))=.error e→Kb b h h'→Q (.inl (US e)) h')→
     (∀v' r' h' c',(if mayV 8 (.mk k 0 [] l)=true then(.ok (.mk k 0 [] l,r):Except (Int×Int) (Vl×List Tkn))else .error (GO en ts,160))=.ok (v',r')→Kb b h h'→PRd lo b en h' r' n→JE (HS h h') h' v' c'→Q (.inr c') h')→
     Kb b h4 h5→PRd lo b en h5 r n→VsRepS (HS h4 h5) h5 x l→(M.need ((#[.int .i64 k,.int .i64 0,.string ByteArray.empty,(x:Sl).v]:Array Value).size=4)>>=fun _=>stG ⟨h2.size,0,none⟩ (#[.int .i64 k,.int .i64 0,.string ByteArray.empty,(x:Sl).v]:Array Value)>>=fun _=>ZR ⟨h.size,0,none⟩ (GO en ts) ⟨h2.size,0,none⟩:M (Value⊕Array Value)).wp h5 Q:=fun {k l r h5 x} hk HE HO K5 R5 V5=>by
    have g5:=K5.blk g4 (show ¬h2.size=b by omega)
    have hz5:=K5.size
    refine Zt rfl (stR g5 (Nat.le_refl 4) (Zy k 0 [] x) (fun h6 u6 g6=>?_))
    have g6:h6[h2.size]?=some (.cells (UH k 0 [] x) KH (0,0)):=by
     have e:lay vz 0 (UH k 0 [] x).toList=UH k 0 [] x:=Kp (cs:=vz) (vs:=(UH k 0 [] x).toList) rfl
     rw [←e];exact g6
    have hlt4:h2.size<h4.size:=JT g4
    refine fin HE HO ((K4.trans K5).own u6 (by omega)) (R5.upd u6 (by have:=R2.lh;omega)) g6 (KFN hk ⟨by decide,by decide⟩ (V5.same (fun k hk=>u6.ne k (by have:=hk.1;omega)) (fun k hk=>⟨by have:=hk.1;omega,by have:=hk.2;have:=u6.size;omega,by have:=hk.1;omega⟩))) (by omega)
   refine KL (KDM (s:=[91]) R4 (KY (fun hb1=>?_) (fun hb1=>?_)))
   ·rw [if_pos hb1]at H1 H2
    refine coll (op:=[91]) (cl:=[93]) (two:=false) (k:=4) ⟨by decide,by decide⟩ hb1 (fun e h' hl K'=>H2 e h' (by rw [hl]) K') (fun l r h5 x hl K5 R5 V5=>?_)
    rw [hl]at H1 H2
    exact put ⟨by decide,by decide⟩ H2 H1 K5 R5 V5
   rw [if_neg (by rw [hb1];decide)]at H1 H2
   refine KL (KDM (s:=[123]) R4 (KY (fun hb2=>?_) (fun hb2=>?_)))
   ·rw [if_pos hb2]at H1 H2
    refine coll (op:=[123]) (cl:=[125]) (two:=true) (k:=5) ⟨by decide,by decide⟩ hb2 (fun e h' hl K'=>H2 e h' (by rw [hl]) K') (fun l r h5 x hl K5 R5 V5=>?_)
    rw [hl]at H1 H2
    exact put ⟨by decide,by decide⟩ H2 H1 K5 R5 V5
   rw [if_neg (by rw [hb2];decide)]at H2
   exact Zv (Y8 (H2 _ h4 rfl (K1.trans K4)))
  ·rw [hp]at H1 H2
   dsimp only at H1 H2
   refine ZV (fun h3 e3 hs3 g3=>Zt (V2 (fun _=>True) h2).size (stR g3 (by rw [(V2 (fun _=>True) h2).size];exact Nat.le_refl 4) (V2 (fun _=>True) h2).to.one (fun h4 u4 g4=>iteT rfl ?_)))
   rw [Kp (cs:=vz) (vs:=c.toList) (by rw [Array.length_toList,(V2 (fun _=>True) h2).size];rfl),Array.toArray_toList]at g4
   have E4:Ext h2 h4:=e3.upd u4 (Nat.le_refl _)
   exact fin H2 H1 (K2.trans (Km.ext E4)) (R2.ext E4) g4 (V2 _ _) (by have:=K2.size;omega)
end Gx
namespace Gx
open Go
def splW:List UInt8→List (List UInt8)
 | []=>[[]]
 |c::r=>if c=32 then []::splW r else match splW r with
  | []=>[[c]]
  |w::ws=>(c::w)::ws
theorem KHn:∀s,splW s≠[]
 | []=>by simp [splW]
 |c::r=>by
  rw [splW]
  split
  ·simp
  ·split<;>simp
theorem KLb:∀s:List UInt8,(if(32:UInt8)∈s then ∃a r,s=a++32::r∧Lib.indexByte s 32=(a.length:Int)∧splW s=a::splW r else Lib.indexByte s 32=-1∧splW s=[s])
 | []=>by simp [Lib.indexByte,splW]
 |c::r=>by
  have ih:=KLb r
  by_cases hc:c=32
  ·subst hc
   rw [if_pos (by simp)]
   exact⟨[],r,rfl,by simp [Lib.indexByte],by rw [splW,if_pos rfl]⟩
  ·have hb:(c==32)=false:=by simpa using hc
   have hm:((32:UInt8)∈c::r)↔(32:UInt8)∈r:=by
    rw [List.mem_cons]
    exact⟨fun h=>h.elim (fun e=>absurd e.symm hc) id,.inr⟩
   by_cases hr:(32:UInt8)∈r
   ·rw [if_pos hr]at ih
    rw [if_pos (hm.2 hr)]
    obtain⟨a,q,h1,h2,h3⟩:=ih
    refine⟨c::a,q,by rw [h1];rfl,?_,?_⟩
    ·rw [Lib.indexByte,hb,h2]
     have:¬((a.length:Int)== -1)=true:=by simp
     simp only [Bool.false_eq_true,if_false]
     rw [if_neg this];simp
    ·rw [splW,if_neg hc,h3]
   ·rw [if_neg hr]at ih
    rw [if_neg (fun h=>hr (hm.1 h))]
    refine⟨?_,?_⟩
    ·rw [Lib.indexByte,hb,ih.1];simp
    ·rw [splW,if_neg hc,ih.2]
theorem KCI:∀s:List UInt8,(splW s).length=Lib.countByte s 32+1
 | []=>rfl
 |c::r=>by
  have ih:=KCI r
  unfold Lib.countByte at ih⊢
  rw [splW]
  by_cases hc:c=32
  ·subst hc
   rw [if_pos rfl,List.length_cons,ih,List.count_cons_self]
  ·rw [if_neg hc,List.count_cons_of_ne hc]
   have:=KHn r
   split
   ·rename_i h;exact absurd h this
   ·rename_i w ws h;rw [h]at ih;rw [←ih];rfl
def idxW:List (List UInt8)→List UInt8→Nat
 | [],_=>0
 |a::r,w=>if w=a then 1 else if idxW r w=0 then 0 else idxW r w+1
theorem KLc (z:Array Value) (n:Nat):(zRow z n).size=n:=by unfold zRow;simp
theorem KEM {s:List UInt8} {h:Heap} {Q:Sl→Heap→Prop} (hs:s.length≤1073741824) (H:∀h' x,Ext h h'→x.len=(splW s).length→Gq h' x.base ((splW s).map sv)→Q x h'):(WB (bs s) (⟨#[32]⟩:ByteArray)).wp h Q:=by
 unfold WB WV
 have hN:=KCI s
 have hcl:Lib.countByte s 32≤s.length:=List.count_le_length
 refine KL (iteF rfl (iteF ?_ (iteT rfl (KL ⟨32,rfl,?_⟩))))
 ·show sEq (bs [32]) ByteArray.empty=false
  rw [sEq0];rfl
 rw [show(bs s).data.toList=s by simp [bs]]
 unfold VL
 rw [Zc]
 obtain⟨N,hNe⟩:∃N,N=(splW s).length:=⟨_,rfl⟩
 have hmin:iMin (IntKind.wrap .i64 (((Lib.countByte s 32:Nat):Int)+1)) (IntKind.wrap .i64 ((s.length:Int)+1))=(N:Int):=by
  rw [w64 (by omega) (by omega),w64 (by omega) (by omega)]
  unfold iMin
  split<;>omega
 rw [hmin,w64 (by omega) (by omega)]
 refine⟨by omega,by omega,by omega,by omega,?_⟩
 have e1:=Ext.push h (.cells (zRow (#[.string ByteArray.empty]:Array Value) ((N:Int).toNat*1)) Yj)
 have g1:(h.push (.cells (zRow (#[.string ByteArray.empty]:Array Value) ((N:Int).toNat*1)) Yj))[h.size]?=some (.cells (zRow (#[.string ByteArray.empty]:Array Value) ((N:Int).toNat*1)) Yj (0,0)):=ZH
 have hsz:(zRow (#[.string ByteArray.empty]:Array Value) ((N:Int).toNat*1)).size=N:=by rw [KLc];omega
 generalize zRow (#[.string ByteArray.empty]:Array Value) ((N:Int).toNat*1)=C0 at e1 g1 hsz⊢
 generalize h.push (.cells C0 Yj)=h1 at e1 g1⊢
 rw [show((N:Int).toNat)=N from rfl]
 refine M.loop_inv (fun(x:ByteArray×Int) hh=>∃(i:Nat) (rest:List UInt8) (C:Array Value),x=(bs rest,(i:Int))∧Ext h hh∧hh[h.size]?=some (.cells C Yj (0,0))∧C.size=N∧i+(splW rest).length=N∧rest.length≤s.length∧(splW s).drop i=splW rest∧∀j,j<i→C[j]?=((splW s).map sv)[j]?)
  (fun x _=>N - x.2.toNat) ?_ ⟨0,s,C0,rfl,e1,g1,hsz,by omega,Nat.le_refl _,rfl,fun j hj=>by omega⟩
 rintro x hh ⟨i,rest,C,rfl,E,g,hC,hi,hr,hd,hdone⟩ self hself
 have hne:=KHn rest
 have hpos:0<(splW rest).length:=List.length_pos_iff.2 hne
 have cell:∀{j:Nat},j<N→∃v,KM hh ((⟨h.size,0,none⟩:Addr).add ((j:Int).toNat*1))=some v:=fun {j} hj=>by
  rw [Ke,KP g,show 0+(j:Int).toNat*1=j by omega]
  exact⟨_,Array.getElem?_eq_getElem (by omega)⟩
 have last:splW rest=[rest]→(UP ⟨some ⟨h.size,0,none⟩,N,N⟩ (bs rest) (i:Int)).wp hh Q:=fun h1r=>by
  have hi1:i+1=N:=by rw [h1r]at hi;simpa using hi
  unfold UP
  obtain⟨v,hv⟩:=cell (j:=i) (by omega)
  refine X6 (by omega) (by dsimp only;omega) rfl (Gu (v:=.string (bs rest)) hv (by rw [Ke];exact ZL g) rfl ?_)
  rw [Ke,show 0+(i:Int).toNat*1=i by omega]
  have u:=Upd.hset hh h.size i (.string (bs rest))
  have g':=Ul (o:=i) (v:=.string (bs rest)) g
  generalize hset hh ⟨h.size,i,none⟩ (.string (bs rest))=h2 at u g'⊢
  rw [w64 (by omega) (by omega)]
  refine KQU (by omega) (by omega) (by dsimp only;omega) (KI (H _ _ (E.upd u (Nat.le_refl _)) (by show((i:Int)+1).toNat - (0:Int).toNat=_;omega) ?_))
  have hb:(if N=(0:Int).toNat then some (⟨h.size,0,none⟩:Addr)else(some (⟨h.size,0,none⟩:Addr)).map (fun a=>a.add ((0:Int).toNat*1)))=some ⟨h.size,0,none⟩:=by
   split<;>rfl
  show Gq h2 (if N=(0:Int).toNat then some (⟨h.size,0,none⟩:Addr)else(some (⟨h.size,0,none⟩:Addr)).map (fun a=>a.add ((0:Int).toNat*1))) _
  rw [hb]
  refine .inr ⟨_,rfl,fun j v hj=>?_⟩
  rw [Ke,Nat.zero_add,KP g',←hj]
  have hjN:j<N:=by
   have:=(List.getElem?_eq_some_iff.1 hj).1
   rw [List.length_map]at this
   omega
  rw [Array.getElem?_setIfInBounds]
  by_cases hji:i=j
  ·subst hji
   rw [if_pos rfl,if_pos (by omega),List.getElem?_map]
   have:(splW s)[i]?=some rest:=by
    have:=congrArg (fun l=>l[0]?) hd
    rw [h1r]at this
    simpa using this
   rw [this];rfl
  ·rw [if_neg hji]
   exact hdone j (by omega)
 unfold Wd
 dsimp only
 rw [w64 (by omega) (by omega)]
 have heq:=KLb rest
 refine KY (fun hlt=>?_) (fun hge=>?_)
 ·have hlt:=of_decide_eq_true hlt
  unfold XO
  refine KL (KL ⟨32,rfl,KI ?_⟩)
  rw [show(bs rest).data.toList=rest by simp [bs]]
  by_cases hm:(32:UInt8)∈rest
  ·rw [if_pos hm]at heq
   obtain⟨a,q,h1,h2,h3⟩:=heq
   rw [h2]
   have hal:rest.length=a.length+(q.length+1):=by rw [h1];simp
   refine iteF (decide_eq_false (by omega)) ?_
   rw [w64 (by omega) (by omega)]
   refine KHZ (a:=0) (b:=a.length) rfl (by omega) (Nat.zero_le _) (by omega) ?_
   have e1':(rest.drop 0).take (a.length - 0)=a:=by rw [List.drop_zero,Nat.sub_zero,h1,List.take_left]
   rw [e1']
   obtain⟨v,hv⟩:=cell (j:=i) (by omega)
   refine X6 (by omega) (by dsimp only;omega) rfl (Gu (v:=.string (bs a)) hv (by rw [Ke];exact ZL g) rfl ?_)
   rw [Ke,show 0+(i:Int).toNat*1=i by omega]
   have u:=Upd.hset hh h.size i (.string (bs a))
   have g':=Ul (o:=i) (v:=.string (bs a)) g
   generalize hset hh ⟨h.size,i,none⟩ (.string (bs a))=h2 at u g'⊢
   rw [show((⟨#[32]⟩:ByteArray).size:Int)=1 from rfl,w64 (by omega) (by omega)]
   refine KHZ (a:=a.length+1) (b:=rest.length) (by push_cast;rfl) (by rw [Zc]) (by omega) (Nat.le_refl _) ?_
   have e2':(rest.drop (a.length+1)).take (rest.length - (a.length+1))=q:=by
    rw [List.take_of_length_le (by rw [List.length_drop];omega),h1]
    rw [List.drop_append,List.drop_eq_nil_iff.2 (by omega)]
    simp
   rw [e2']
   rw [h3]at hd hi
   refine hself _ _ ⟨i+1,q,C.setIfInBounds i (.string (bs a)),by push_cast;rfl,E.upd u (Nat.le_refl _),g',by simpa using hC,by rw [List.length_cons]at hi;omega,by omega,?_,fun j hj=>?_⟩ (by dsimp only;omega)
   ·have:=congrArg List.tail hd
    rw [List.tail_drop]at this
    simpa using this
   ·rw [Array.getElem?_setIfInBounds]
    by_cases hji:i=j
    ·subst hji
     rw [if_pos rfl,if_pos (by omega),List.getElem?_map]
     have:(splW s)[i]?=some a:=by
      have:=congrArg (fun l=>l[0]?) hd
      simpa using this
     rw [this];rfl
    ·rw [if_neg hji]
     exact hdone j (by omega)
  ·rw [if_neg hm]at heq
   rw [heq.1]
   exact iteT rfl (last heq.2)
 ·have hge:=of_decide_eq_false hge
  refine last ?_
  by_cases hm:(32:UInt8)∈rest
  ·rw [if_pos hm]at heq
   obtain⟨a,q,h1,h2,h3⟩:=heq
   have:=KHn q
   have:0<(splW q).length:=List.length_pos_iff.2 this
   rw [h3,List.length_cons]at hi
   omega
  ·rw [if_neg hm]at heq
   exact heq.2
theorem KHo {x:Sl} {ws:List (List UInt8)} {w:List UInt8} {h:Heap} {Q:Int→Heap→Prop} (hx:x.len=ws.length) (hr:Gq h x.base (ws.map sv)) (hm:ws.length≤1073741824) (H:Q ((idxW ws w:Int) - 1) h):(Zr x (bs w)).wp h Q:=by
 unfold Zr
 rw [hx]
 refine M.loop_inv (fun(t:Int) hh=>hh=h∧∃i:Nat,t=(i:Int)∧i≤ws.length∧idxW ws w=(if idxW (ws.drop i) w=0 then 0 else i+idxW (ws.drop i) w)) (fun t _=>ws.length - t.toNat) ?_ ⟨rfl,0,rfl,Nat.zero_le _,by rw [List.drop_zero];split<;>omega⟩
 rintro t hh ⟨rfl,i,rfl,hi,hidx⟩ self hself
 unfold Jn
 refine KY (fun hlt=>?_) (fun hge=>KI ?_)
 ·have hlt:i<ws.length:=by have:=of_decide_eq_true hlt;omega
  rw [List.drop_eq_getElem_cons hlt,idxW]at hidx
  rcases hr with h0|⟨a,ha,hc⟩
  ·have:=congrArg List.length h0
   rw [List.length_map,List.length_nil]at this
   omega
  ·have hci:=hc i (sv ws[i]) (by rw [List.getElem?_map,List.getElem?_eq_getElem hlt];rfl)
   refine X6 (by omega) (by rw [hx];omega) ha (Yh (n:=bs ws[i]) (by rw [show(i:Int).toNat*1=i by omega];exact hci) ?_)
   rw [KD9]
   refine KY (fun he=>KI ?_) (fun he=>?_)
   ·rw [if_pos (of_decide_eq_true he),if_neg (by decide)]at hidx
    rw [hidx]at H
    rw [show(((i+1:Nat):Int) - 1)=(i:Int) by omega]at H
    exact H
   ·rw [if_neg (of_decide_eq_false he)]at hidx
    rw [w64 (by omega) (by omega)]
    refine hself _ _ ⟨rfl,i+1,by push_cast;rfl,hlt,?_⟩ (by omega)
    rw [hidx]
    split
    ·simp
    ·rename_i h0
     rw [if_neg (by omega)]
     omega
 ·have hi':i=ws.length:=by have:=of_decide_eq_false hge;omega
  rw [List.drop_eq_nil_iff.2 (by omega)]at hidx
  have hidx:idxW ws w=0:=hidx
  rw [hidx]at H
  exact H
theorem KFX:∀(ws:List (List UInt8)) (w:List UInt8),idxW ws w≤ws.length
 | [],_=>Nat.le_refl _
 |a::r,w=>by
  have:=KFX r w
  rw [idxW,List.length_cons]
  split
  ·omega
  split
  ·omega
  ·omega
theorem KDQ {s w:List UInt8} {h:Heap} {Q:Int→Heap→Prop} (hs:s.length≤1000000) (H:∀h',Ext h h'→Q (idxW (splW s) w:Int) h'):(Xl (bs s) (bs w)).wp h Q:=by
 unfold Xl
 have h1:=KCI s
 have h2:Lib.countByte s 32≤s.length:=List.count_le_length
 have h3:=KFX (splW s) w
 refine KL (KEM (by omega) (fun h1 x e1 hx hr=>KL (KHo hx hr (by omega) (KI ?_))))
 rw [w64 (by omega) (by omega),show((idxW (splW s) w:Nat):Int) - 1+1=((idxW (splW s) w:Nat):Int) by omega]
 exact H h1 e1
end Gx
namespace Gx
open Go
def KHp (en:Nat) (ts:List Tkn):Except (Int×Int) (List UInt8×List Tkn):=
 match nxT en 3 ts with
 | .error e=>.error e
 | .ok (t,r)=>if KDB t.s=true then .ok (t.s,r)else .error (GO en ts,160)
def numT (en:Nat) (ts:List Tkn):Except (Int×Int) (Int×List Tkn):=
 match nxT en 2 ts with
 | .error e=>.error e
 | .ok (t,r)=>if t.n<0∨t.n>9007199254740992 then .error (GO en ts,160)else .ok (t.n,r)
theorem KJj {lo b en n:Nat} {h:Heap} {ts:List Tkn} {Q:Value⊕ByteArray→Heap→Prop} (R:PRd lo b en h ts n)
  (H1:∀s r h',KHp en ts=.ok (s,r)→s.length≤128→Kb b h h'→PRd lo b en h' r n→Q (.inr (bs s)) h') (H2:∀e h',KHp en ts=.error e→Kb b h h'→Q (.inl (US e)) h'):(U5 (some ⟨b,0,none⟩)).wp h Q:=by
 unfold U5
 refine KL (Xx R (Zv (YV R (fun t r h1 hn K1 R1=>?_) (fun e h1 hn K1=>H2 e h1 (by unfold KHp;rw [hn]) K1))))
 have htok:tokB t=true:=by
  obtain⟨rfl,_⟩:=KDN hn
  exact(R.good t (by simp)).1
 unfold KHp at H1 H2
 rw [hn]at H1 H2
 dsimp only at H1 H2
 refine KNI (n:=bs t.s) rfl ?_
 unfold NG
 refine KL (KL (KEF (fun h2 e2=>KI ?_)))
 unfold UE
 cases hb:KDB t.s with
 |false=>
  rw [hb]at H2
  exact iteT rfl (Zv (Y8 (H2 _ h2 rfl (K1.trans (Km.ext e2)))))
 |true=>
  rw [hb]at H1
  exact iteF rfl (KI (H1 _ r h2 rfl (KIo htok) (K1.trans (Km.ext e2)) (R1.ext e2)))
theorem KLd {lo b en n:Nat} {h:Heap} {ts:List Tkn} {Q:Value⊕Int→Heap→Prop} (R:PRd lo b en h ts n)
  (H1:∀m r h',numT en ts=.ok (m,r)→I64 m→Kb b h h'→PRd lo b en h' r n→Q (.inr m) h') (H2:∀e h',numT en ts=.error e→Kb b h h'→Q (.inl (US e)) h'):(VY (some ⟨b,0,none⟩)).wp h Q:=by
 unfold VY
 refine KL (Xx R (Zv (YV R (fun t r h1 hn K1 R1=>?_) (fun e h1 hn K1=>H2 e h1 (by unfold numT;rw [hn]) K1))))
 have hI:I64 t.n:=by
  obtain⟨rfl,_⟩:=KDN hn
  exact(R.good t (by simp)).2
 unfold numT at H1 H2
 rw [hn]at H1 H2
 dsimp only at H1 H2
 refine KPa (n:=t.n) rfl ?_
 unfold Nv
 refine KL (or_b (c:=decide (t.n>9007199254740992)) (fun _ Q' hq=>KI hq) (KI ?_))
 rw [←Bool.decide_or]
 unfold UQ
 refine KY (fun hc=>?_) (fun hc=>?_)
 ·rw [if_pos (of_decide_eq_true hc)]at H2
  exact Zv (Y8 (H2 _ h1 rfl K1))
 ·rw [if_neg (of_decide_eq_false hc)]at H1
  exact KI (H1 _ r h1 rfl hI K1 R1)
abbrev PR (σ:Type):=Except (Int×Int) (σ×List Tkn×Nat)
def KDR {σ:Type} (en least:Nat) (one:Nat→σ→List Tkn→Nat→PR σ):Nat→Nat→σ→List Tkn→Nat→PR σ
 |0,_,a,ts,n=>.ok (a,ts,n)
 |f+1,i,a,ts,n=>if(decide (least≤i)&&isT 4 [41] ts)=true then .ok (a,ts,n)else
  match(if 0<i then takT en 4 [44] ts else .ok ts)with
  | .error e=>.error e
  | .ok ts1=>match one i a ts1 n with
   | .error e=>.error e
   | .ok (a',ts2,n')=>KDR en least one f (i+1) a' ts2 n'
def KPb (en most:Nat) {σ:Type} (a:σ) (ts:List Tkn) (n:Nat):PR σ:=
 if(decide (most=32)&&isT 4 [44] ts)=true then .error (GO en ts.tail,3)else match takT en 4 [41] ts with
  | .error e=>.error e
  | .ok r=>.ok (a,r,n)
def KDS {σ:Type} (en least most:Nat) (one:Nat→σ→List Tkn→Nat→PR σ) (a:σ) (ts:List Tkn) (n:Nat):PR σ:=
 match KDR en least one most 0 a ts n with
 | .error e=>.error e
 | .ok (a,ts,n)=>KPb en most a ts n
abbrev uEnc:Unit→Value:=fun _=>.tuple #[]
abbrev Fz (b sb z:Nat):Heap→Heap→Prop:=Km (fun k=>k=b∨k=sb∨z<k)
theorem Km.wkb {S T:Nat→Prop} {h h':Heap} (a:Km S h h') (i:∀x,S x→T x):Km T h h':=⟨a.size,fun j hj hn=>a.same j hj (fun s=>hn (i j s))⟩
theorem KOH {σ:Type} {en lo b sb least most n:Nat} {one:Nat→σ→List Tkn→Nat→PR σ} {cv:Value} {h:Heap} {ts:List Tkn} {a0:σ} {Q:Value⊕Unit→Heap→Prop} (Inv:Nat→σ→Heap→Prop) (R:PRd lo b en h ts n) (hsb:sb<h.size) (hbsb:b≠sb) (hlos:lo≤sb) (hm:most≤1000)
  (hI00:∀h',Ext h h'→Inv 0 a0 h') (hIk:∀i a h1 h2,Inv i a h1→h.size<h1.size→Kb b h1 h2→Inv i a h2)
  (hone:∀(i:Nat) (a:σ) (ts:List Tkn) (n:Nat) (h1:Heap) (Q1:Value⊕Unit→Heap→Prop),i<most→Inv i a h1→h.size<h1.size→PRd lo b en h1 ts n→
   (∀a' r n' h2,one i a ts n=.ok (a',r,n')→Fz b sb h.size h1 h2→PRd lo b en h2 r n'→Inv (i+1) a' h2→Q1 (.inr ()) h2)→(∀e h2,one i a ts n=.error e→Fz b sb h.size h1 h2→Q1 (.inl (US e)) h2)→
   (KCY Go.Proofs.Tryz.prog uEnc cv [.int .i64 (i:Int)]).wp h1 Q1)
  (H1:∀i a r n' h',KDS en least most one a0 ts n=.ok (a,r,n')→Fz b sb h.size h h'→PRd lo b en h' r n'→i≤most→Inv i a h'→h.size<h'.size→Q (.inr ()) h')
  (H2:∀e h',KDS en least most one a0 ts n=.error e→Fz b sb h.size h h'→Q (.inl (US e)) h'):(Jo (some ⟨b,0,none⟩) #[.int .i64 (least:Int),.int .i64 (most:Int)] cv).wp h Q:=by
 unfold Jo
 refine ZV (fun h1 e1 s1 g1=>?_)
 have hbl:=R.lt
 unfold KDS at H1 H2
 refine M.loop_inv (fun(x:Int) hh=>∃(i f:Nat) (a:σ) (ts':List Tkn) (n':Nat),x=(i:Int)∧i+f=most∧Inv i a hh∧PRd lo b en hh ts' n'∧Fz b sb h.size h1 hh∧h.size<hh.size∧KDR en least one f i a ts' n'=KDR en least one most 0 a0 ts n) (fun x _=>most - x.toNat) ?_
  ⟨0,most,a0,ts,n,rfl,by omega,hI00 _ e1,R.ext e1,Km.refl _ _,by omega,rfl⟩
 rintro x hh ⟨i,f,a,ts',n',rfl,hif,hI,R',F,hz,hL⟩ self hself
 have gs:hh[h.size]?=some (.cells #[.int .i64 (least:Int),.int .i64 (most:Int)] ZI (0,0)):=F.blk g1 (by omega)
 have c0:KM hh ((⟨h.size,0,none⟩:Addr).add 0)=some (.int .i64 (least:Int)):=by rw [add_zero,KP gs];rfl
 have c1:∀{h2:Heap},h2[h.size]?=some (.cells #[.int .i64 (least:Int),.int .i64 (most:Int)] ZI (0,0))→KM h2 ((⟨h.size,0,none⟩:Addr).add 1)=some (.int .i64 (most:Int)):=fun {h2} g=>by rw [Ke,KP g];rfl
 have Fh:∀{h2:Heap},Fz b sb h.size h1 h2→Fz b sb h.size h h2:=fun {h2} F2=>⟨by have:=F2.size;have:=e1.size;omega,fun k hk hn=>(F2.same k (by omega) hn).trans (e1.same k hk)⟩
 have fin:KDR en least one most 0 a0 ts n=.ok (a,ts',n')→(JY (some ⟨b,0,none⟩) ⟨h.size,0,none⟩).wp hh Q:=fun hend=>by
  rw [hend]at H1 H2
  dsimp only at H1 H2
  unfold KPb at H1 H2
  unfold JY
  refine ZC (c1 gs) ?_
  rw [eqI,show decide ((most:Int)=32)=decide (most=32)from decide_eq_decide.2 (by omega)]
  refine Wf (c:=isT 4 [44] ts') (fun _ Q' hq=>KL (KDM (s:=[44]) R' (KI hq))) ?_
  refine KY (fun hc=>?_) (fun hc=>?_)
  ·rw [if_pos hc]at H2
   refine Zv (UL (s:=[44]) R' (fun r h2 hr K2 R2=>?_) (fun e h2 hr K2=>?_))
   ·have hr':r=ts'.tail:=by
     obtain⟨t,rfl,_⟩:=zk hr
     rfl
    subst hr'
    exact KL (Xx R2 (Zv (Y8 (H2 _ h2 rfl (Fh ⟨by have:=F.size;have:=K2.size;omega,fun k hk hn=>(K2.same k (by have:=F.size;omega) (fun e=>hn (.inl e))).trans (F.same k hk hn)⟩)))))
   ·rw [Bool.and_eq_true]at hc
    unfold takT at hr
    rw [if_pos hc.2]at hr
    cases hr
  ·rw [if_neg (by rw [hc];decide)]at H1 H2
   unfold UC
   refine Zv (UL (s:=[41]) R' (fun r h2 hr K2 R2=>KI ?_) (fun e h2 hr K2=>?_))
   ·rw [hr]at H1
    exact H1 i a r n' h2 rfl (Fh ⟨by have:=F.size;have:=K2.size;omega,fun k hk hn=>(K2.same k (by have:=F.size;omega) (fun e=>hn (.inl e))).trans (F.same k hk hn)⟩) R2 (by omega) (hIk i a hh h2 hI hz K2) (by have:=K2.size;omega)
   ·rw [hr]at H2
    exact H2 e h2 rfl (Fh ⟨by have:=F.size;have:=K2.size;omega,fun k hk hn=>(K2.same k (by have:=F.size;omega) (fun e=>hn (.inl e))).trans (F.same k hk hn)⟩)
 unfold Uq
 refine ZC (c1 gs) ?_
 refine KY (fun hlt=>?_) (fun hge=>?_)
 ·have hlt:i<most:=by have:=of_decide_eq_true hlt;omega
  obtain⟨f,rfl⟩:∃g,f=g+1:=⟨f - 1,by omega⟩
  rw [KDR]at hL
  refine ZC c0 ?_
  rw [show decide ((i:Int)≥(least:Int))=decide (least≤i)from decide_eq_decide.2 (by omega)]
  refine Wf (c:=isT 4 [41] ts') (fun _ Q' hq=>KL (KDM (s:=[41]) R' (KI hq))) ?_
  refine KY (fun hc=>?_) (fun hc=>?_)
  ·rw [if_pos hc]at hL
   exact fin hL.symm
  ·rw [if_neg (by rw [hc];decide)]at hL
   have go:∀{ts1:List Tkn} {h2:Heap},Kb b hh h2→PRd lo b en h2 ts1 n'→(match one i a ts1 n' with
     | .error e=>.error e
     | .ok (a',ts2,n')=>KDR en least one f (i+1) a' ts2 n')=KDR en least one most 0 a0 ts n→(JZ self cv (i:Int)).wp h2 Q:=fun {ts1 h2} K2 R2 hL2=>by
    have hK2:=K2.size
    have F2:Fz b sb h.size h1 h2:=⟨by have:=F.size;omega,fun k hk hn=>(K2.same k (by have:=F.size;omega) (fun e=>hn (.inl e))).trans (F.same k hk hn)⟩
    unfold JZ
    refine Zv (hone i a ts1 n' h2 _ hlt (hIk i a hh h2 hI hz K2) (by omega) R2 (fun a' r n2 h3 ho F3 R3 I3=>?_) (fun e h3 ho F3=>?_))
    ·rw [ho]at hL2
     have hF3:=F3.size
     rw [w64 (by omega) (by omega)]
     exact hself _ _ ⟨i+1,f,a',r,n2,by push_cast;rfl,by omega,I3,R3,F2.trans F3,by omega,hL2⟩ (by omega)
    ·rw [ho]at hL2
     rw [←hL2]at H2
     exact H2 e h3 rfl (Fh (F2.trans F3))
   refine KY (fun hp=>?_) (fun hz0=>?_)
   ·rw [if_pos (show 0<i by have:=of_decide_eq_true hp;omega)]at hL
    refine Zv (UL (s:=[44]) R' (fun r h2 hr K2 R2=>?_) (fun e h2 hr K2=>?_))
    ·rw [hr]at hL
     exact go K2 R2 hL
    ·rw [hr]at hL
     rw [←hL]at H2
     exact H2 e h2 rfl (Fh ⟨by have:=F.size;have:=K2.size;omega,fun k hk hn=>(K2.same k (by have:=F.size;omega) (fun e=>hn (.inl e))).trans (F.same k hk hn)⟩)
   ·rw [if_neg (show ¬0<i by have:=of_decide_eq_false hz0;omega)]at hL
    exact go (Km.refl _ _) R' hL
 ·have hf0:f=0:=by have:=of_decide_eq_false hge;omega
  subst hf0
  exact fin hL.symm
def KHq (op:Nat):Nat×Nat:=if op=7∨op=8 then(0,32)else if op=9 then(2,2)else(1,1)
def YW (p:Nat×Nat):Array Value:=#[.int .i64 (p.1:Int),.int .i64 (p.2:Int)]
end Gx
namespace Gx
open Go
abbrev RepT (α:Type):=(Nat→Prop)→Heap→α→Array Value→Prop
structure Stay {α:Type} (Rep:RepT α):Prop where
 same:∀{S T:Nat→Prop} {h h':Heap} {a:α} {c:Array Value},Rep S h a c→(∀k,S k→h'[k]?=h[k]?)→(∀k,S k→T k)→Rep T h' a c
def WN (sz:Nat) (css:List (Array Value)):Prop:=∀c∈css,c.size=sz∧∀u∈c.toList,one u=true
theorem KGo {sz:Nat}:∀{css:List (Array Value)},WN sz css→(Jh css).length=css.length*sz
 | [],_=>by simp [Jh]
 |c::r,h=>by
  have:=KGo (css:=r) (fun x hx=>h x (List.mem_cons_of_mem _ hx))
  have hc:=(h c (by simp)).1
  unfold Jh at this⊢
  rw [List.flatMap_cons,List.length_append,this,Array.length_toList,hc,List.length_cons,Nat.add_mul,Nat.one_mul];omega
theorem KDT {sz:Nat}:∀{css:List (Array Value)},WN sz css→∀(i j:Nat),j<sz→(Jh css)[i*sz+j]?=(css[i]?).bind (fun c=>c[j]?)
 | [],_,i,j,_=>by simp [Jh]
 |c::r,h,i,j,hj=>by
  have hc:=(h c (by simp)).1
  unfold Jh
  rw [List.flatMap_cons]
  cases i with
  |zero=>rw [List.getElem?_append_left (by rw [Array.length_toList];omega)];simp
  |succ i=>
   rw [List.getElem?_append_right (by rw [Array.length_toList,hc,Nat.add_mul];omega),Array.length_toList,hc,show(i+1)*sz+j - sz=i*sz+j by rw [Nat.add_mul];omega]
   have:=KDT (css:=r) (fun x hx=>h x (List.mem_cons_of_mem _ hx)) i j hj
   unfold Jh at this
   rw [this];simp
theorem WN.append {sz:Nat} {a b:List (Array Value)} (ha:WN sz a) (hb:WN sz b):WN sz (a++b):=fun c hc=>(List.mem_append.1 hc).elim (ha c) (hb c)
structure RGw {α:Type} (Rep:RepT α) (sz lo:Nat) (S:Nat→Prop) (h:Heap) (r:Sl) (css:List (Array Value)) (l:List α):Prop where
 gw:Gw lo h r sz (Jh css)
 wn:WN sz css
 len:css.length=l.length
 rep:∀j (h1:j<l.length) (h2:j<css.length),Rep S h l[j] css[j]
theorem RGw.nil {α:Type} (Rep:RepT α) (sz lo:Nat) (S:Nat→Prop) (h:Heap):RGw Rep sz lo S h Sl.nil [] []:=⟨Gw.nil _ _ _,fun c hc=>(by cases hc),rfl,fun j h1=>(by cases h1)⟩
theorem RGw.rlen {α:Type} {Rep:RepT α} {sz lo:Nat} {S:Nat→Prop} {h:Heap} {r:Sl} {css:List (Array Value)} {l:List α} (G:RGw Rep sz lo S h r css l) (hz:0<sz):r.len=l.length:=by
 have h1:=G.gw.len
 rw [KGo G.wn,G.len]at h1
 exact(Nat.eq_of_mul_eq_mul_right hz h1).symm
theorem RGw.same {α:Type} {Rep:RepT α} (ok:Stay Rep) {sz lo:Nat} {S T:Nat→Prop} {h h':Heap} {r:Sl} {css:List (Array Value)} {l:List α} (G:RGw Rep sz lo S h r css l) (e1:∀k,Sl.on r k→h'[k]?=h[k]?) (e2:∀k,S k→h'[k]?=h[k]?) (e3:∀k,S k→T k):RGw Rep sz lo T h' r css l:=
 ⟨G.gw.same e1,G.wn,G.len,fun j h1 h2=>ok.same (G.rep j h1 h2) e2 e3⟩
theorem KQ7 {α β:Type} {Rep:RepT α} (ok:Stay Rep) {sz lo bytes:Nat} {S:Nat→Prop} {ty:TypeId} {z:Array Value} {h:Heap} {Q:β→Heap→Prop} {r:Sl} {css:List (Array Value)} {l:List α} {a:α} {c:Array Value} {f:Sl→M β} (hz:z.size=sz) (hsz:0<sz) (G:RGw Rep sz lo S h r css l) (hS:∀k,S k→k<h.size∧¬Sl.on r k)
  (hc:c.size=sz) (h1:∀u∈c.toList,one u=true) (hv:Rep S h a c) (hlo:lo≤h.size) (hm:(l.length+1)*bytes≤140737488355328) (hm2:l.length+1≤9223372036854775807)
  (H:∀h' r',RGw Rep sz lo S h' r' (css++[c]) (l++[a])→h.size≤h'.size→(∀i,i<h.size→¬Sl.on r i→h'[i]?=h[i]?)→(∀i,Sl.on r' i→Sl.on r i∨h.size≤i)→(f r').wp h' Q):
  (bdL ty 1 c>>=fun x=>apL ty sz bytes z r x>>=f).wp h Q:=by
 refine Nh ?_
 have e1:=Ext.push h (.cells c ty)
 have g1:(h.push (.cells c ty))[h.size]?=some (.cells c ty (0,0)):=ZH
 generalize h.push (.cells c ty)=hA at e1 g1⊢
 have hs1:=e1.size
 have G1:RGw Rep sz lo S hA r css l:=G.same ok (fun k hk=>e1.same k (G.gw.lt hk).1) (fun k hk=>e1.same k (hS k hk).1) (fun k hk=>hk)
 have hrl:=G.rlen hsz
 have hflat:Jh [c]=c.toList:=by simp [Jh]
 refine KL (KA7 (vs:=Jh css) (news:=Jh [c]) hz G1.gw (by rw [hflat,Array.length_toList,hc];show sz=1*sz;omega) (.inr ⟨_,rfl,fun j u hj=>?_⟩) (by rw [hflat];exact h1) (by show(r.len+1)*bytes≤_;rw [hrl];exact hm) (by show r.len+1≤_;omega) (by omega) (fun h2 r2 G2 hlen2 hs2 same2 on2=>?_))
 ·rw [Ke,Nat.zero_add,KP g1]
  rw [hflat,Array.getElem?_toList]at hj
  exact hj
 ·have he:∀k,S k→h2[k]?=hA[k]?:=fun k hk=>same2 k (by have:=(hS k hk).1;omega) (hS k hk).2
  refine H h2 r2 ⟨?_,G.wn.append (fun x hx=>by simp only [List.mem_cons,List.not_mem_nil,or_false]at hx;subst hx;exact⟨hc,h1⟩),by rw [List.length_append,List.length_append,G.len];rfl,fun j hj1 hj2=>?_⟩ (by omega) (fun i hi ho=>(same2 i (by omega) ho).trans (e1.same i hi)) (fun i hi=>(on2 i hi).imp id (fun h=>by omega))
  ·unfold Jh at G2⊢
   rw [List.flatMap_append]
   exact G2
  ·by_cases hj:j<l.length
   ·rw [List.getElem_append_left hj,List.getElem_append_left (by rw [G.len];exact hj)]
    exact ok.same (G1.rep j hj (by rw [G.len];exact hj)) he (fun _ hk=>hk)
   ·have hj0:j=l.length:=by rw [List.length_append,List.length_singleton]at hj1;omega
    subst hj0
    rw [List.getElem_append_right (Nat.le_refl _),List.getElem_append_right (by rw [G.len];exact Nat.le_refl _)]
    simp only [G.len,Nat.sub_self,List.getElem_cons_zero]
    exact ok.same hv (fun k hk=>(he k hk).trans (e1.same k (hS k hk).1)) (fun _ hk=>hk)
structure RowS {α:Type} (sz:Nat) (Rep:RepT α) (S:Nat→Prop) (h:Heap) (x:Sl) (l:List α):Prop where
 len:x.len=l.length
 cap:x.len≤x.cap
 at_:∀j (hj:j<l.length),∃a cs,x.base=some a∧S a.block∧cs.size=sz∧(∀m,m<sz→KM h (a.add (j*sz+m))=cs[m]?)∧Rep S h l[j] cs
theorem RGw.row {α:Type} {Rep:RepT α} (ok:Stay Rep) {sz lo:Nat} {S:Nat→Prop} {h:Heap} {r:Sl} {css:List (Array Value)} {l:List α} (hz:0<sz) (G:RGw Rep sz lo S h r css l):RowS sz Rep (fun k=>S k∨Sl.on r k) h r l:=by
 refine⟨G.rlen hz,G.gw.cap,fun j hj=>?_⟩
 have hjc:j<css.length:=by rw [G.len];exact hj
 have hc:=G.wn _ (List.getElem_mem hjc)
 have h0:=KDT G.wn j 0 hz
 rw [List.getElem?_eq_getElem hjc,Option.bind_some,Array.getElem?_eq_getElem (by omega)]at h0
 obtain⟨b,hb,_⟩:=G.gw.cell h0
 refine⟨⟨b,0,none⟩,css[j],hb,.inr ⟨_,hb,rfl⟩,hc.1,fun m hm=>?_,ok.same (G.rep j hj hjc) (fun _ _=>rfl) (fun _ hk=>.inl hk)⟩
 have hm':=KDT G.wn j m hm
 rw [List.getElem?_eq_getElem hjc,Option.bind_some,Array.getElem?_eq_getElem (by omega)]at hm'
 obtain⟨b',hb',hv⟩:=G.gw.cell hm'
 rw [hb]at hb'
 cases hb'
 rw [Ke,Nat.zero_add,hv,Array.getElem?_eq_getElem (by omega)]
theorem RowS.same {α:Type} {sz:Nat} {Rep:RepT α} (ok:Stay Rep) {S T:Nat→Prop} {h h':Heap} {x:Sl} {l:List α} (H:RowS sz Rep S h x l) (e:∀k,S k→h'[k]?=h[k]?) (e2:∀k,S k→T k):RowS sz Rep T h' x l:=
 ⟨H.len,H.cap,fun j hj=>by
  obtain⟨a,cs,h1,h2,h3,h4,h5⟩:=H.at_ j hj
  exact⟨a,cs,h1,e2 _ h2,h3,fun m hm=>by rw [←h4 m hm];unfold KM;rw [JS,e _ h2],ok.same h5 e e2⟩⟩
theorem RowS.nil {α:Type} {sz:Nat} {Rep:RepT α} {S:Nat→Prop} {h:Heap}:RowS sz Rep S h Sl.nil []:=⟨rfl,Nat.le_refl _,fun j hj=>by cases hj⟩
def KIq:RepT (List UInt8):=fun _ _ s c=>c=#[sv s]
def KIr:RepT Int:=fun _ _ n c=>c=#[.int .i64 n]∧I64 n
def KEN:RepT (Int×List Vl):=fun S h p c=>∃y:Sl,c=#[.int .i64 p.1,y.v]∧I64 p.1∧VsRepS S h y p.2
theorem W7:Stay KIq:=⟨fun h _ _=>h⟩
theorem W8:Stay KIr:=⟨fun h _ _=>h⟩
theorem WY:Stay KEN:=⟨fun⟨y,h1,h2,h3⟩ e e2=>⟨y,h1,h2,h3.same e e2⟩⟩
inductive St where
 |mk (op:Int) (names:List (List UInt8)) (nums:List Int) (preds:List (Int×List Vl)) (vals:List Vl) (subs:List (List St))
mutual
def YX (S:Nat→Prop) (h:Heap):St→Array Value→Prop
 | .mk op names nums preds vals subs,cs=>∃x1 x2 x3 x4 x5:Sl,cs=#[.int .i64 op,x1.v,x2.v,x3.v,x4.v,x5.v]∧I64 op∧RowS 1 KIq S h x1 names∧RowS 1 KIr S h x2 nums∧RowS 2 KEN S h x3 preds∧VsRepS S h x4 vals∧(x5.len=subs.length∧x5.len≤x5.cap∧WG S h subs x5.base 0)
def XW (S:Nat→Prop) (h:Heap):List St→Option Addr→Nat→Prop
 | [],_,_=>True
 |s::l,b,i=>(∃a cs,b=some a∧S a.block∧cs.size=6∧(∀m,m<6→KM h (a.add (i*6+m))=cs[m]?)∧YX S h s cs)∧XW S h l b (i+1)
def WG (S:Nat→Prop) (h:Heap):List (List St)→Option Addr→Nat→Prop
 | [],_,_=>True
 |l::r,b,i=>(∃a x,b=some a∧S a.block∧KM h (a.add i)=some (Sl.v x)∧x.len=l.length∧x.len≤x.cap∧XW S h l x.base 0)∧WG S h r b (i+1)
end
mutual
theorem YX.stay {S T:Nat→Prop} {h h':Heap} (e:∀k,S k→h'[k]?=h[k]?) (e2:∀k,S k→T k):∀(s:St) (c:Array Value),YX S h s c→YX T h' s c
 | .mk op names nums preds vals subs,c,H=>by
  rw [YX]at H⊢
  obtain⟨x1,x2,x3,x4,x5,h1,h2,h3,h4,h5,h6,h7,h8,h9⟩:=H
  exact⟨x1,x2,x3,x4,x5,h1,h2,h3.same W7 e e2,h4.same W8 e e2,h5.same WY e e2,h6.same e e2,h7,h8,WG.stay e e2 subs _ _ h9⟩
theorem XW.stay {S T:Nat→Prop} {h h':Heap} (e:∀k,S k→h'[k]?=h[k]?) (e2:∀k,S k→T k):∀(l:List St) (b:Option Addr) (i:Nat),XW S h l b i→XW T h' l b i
 | [],_,_,_=>by rw [XW];trivial
 |s::l,b,i,H=>by
  rw [XW]at H⊢
  obtain⟨⟨a,cs,h1,h2,h3,h4,h5⟩,h6⟩:=H
  exact⟨⟨a,cs,h1,e2 _ h2,h3,fun m hm=>by rw [←h4 m hm];unfold KM;rw [JS,e _ h2],YX.stay e e2 s cs h5⟩,XW.stay e e2 l b (i+1) h6⟩
theorem WG.stay {S T:Nat→Prop} {h h':Heap} (e:∀k,S k→h'[k]?=h[k]?) (e2:∀k,S k→T k):∀(r:List (List St)) (b:Option Addr) (i:Nat),WG S h r b i→WG T h' r b i
 | [],_,_,_=>by rw [WG];trivial
 |l::r,b,i,H=>by
  rw [WG]at H⊢
  obtain⟨⟨a,x,h1,h2,h3,h4,h5,h6⟩,h7⟩:=H
  exact⟨⟨a,x,h1,e2 _ h2,by rw [←h3];unfold KM;rw [JS,e _ h2],h4,h5,XW.stay e e2 l _ _ h6⟩,WG.stay e e2 r b (i+1) h7⟩
end
def StR:RepT St:=fun S h s c=>YX S h s c
theorem GP:Stay StR:=⟨fun h e e2=>YX.stay e e2 _ _ h⟩
def Xy (S:Nat→Prop) (h:Heap) (x:Sl) (l:List St):Prop:=RowS 6 StR S h x l
def KIs:RepT (List St):=fun S h l c=>∃y:Sl,c=#[y.v]∧Xy S h y l
theorem Yd:Stay KIs:=⟨fun⟨y,h1,h2⟩ e e2=>⟨y,h1,RowS.same GP h2 e e2⟩⟩
theorem XW.get {S:Nat→Prop} {h:Heap}:∀{l:List St} {b:Option Addr} {i:Nat},XW S h l b i→∀{j:Nat} (hj:j<l.length),∃a cs,b=some a∧S a.block∧cs.size=6∧(∀m,m<6→KM h (a.add ((i+j)*6+m))=cs[m]?)∧YX S h l[j] cs
 | [],_,_,_,j,hj=>by simp at hj
 |s::l,b,i,H,0,hj=>by rw [XW]at H;exact H.1
 |s::l,b,i,H,j+1,hj=>by
  rw [XW]at H
  have:=XW.get H.2 (j:=j) (by simpa using hj)
  rw [show i+(j+1)=i+1+j by omega]
  exact this
theorem XW.of {S:Nat→Prop} {h:Heap}:∀{l:List St} {b:Option Addr} {i:Nat},(∀j (hj:j<l.length),∃a cs,b=some a∧S a.block∧cs.size=6∧(∀m,m<6→KM h (a.add ((i+j)*6+m))=cs[m]?)∧YX S h l[j] cs)→XW S h l b i
 | [],_,_,_=>by rw [XW];trivial
 |s::l,b,i,H=>by
  rw [XW]
  refine⟨H 0 (by simp),XW.of (fun j hj=>?_)⟩
  have:=H (j+1) (by simpa using hj)
  rw [show i+(j+1)=i+1+j by omega]at this
  exact this
theorem Xy.at {S:Nat→Prop} {h:Heap} {x:Sl} {l:List St} (H:Xy S h x l):XW S h l x.base 0:=XW.of (fun j hj=>by rw [Nat.zero_add];exact H.at_ j hj)
theorem Xy.of {S:Nat→Prop} {h:Heap} {x:Sl} {l:List St} (h1:x.len=l.length) (h2:x.len≤x.cap) (H:XW S h l x.base 0):Xy S h x l:=⟨h1,h2,fun j hj=>by have:=H.get hj;rw [Nat.zero_add]at this;exact this⟩
theorem WG.get {S:Nat→Prop} {h:Heap}:∀{r:List (List St)} {b:Option Addr} {i:Nat},WG S h r b i→∀{j:Nat} (hj:j<r.length),∃a x,b=some a∧S a.block∧KM h (a.add (i+j))=some (Sl.v x)∧Xy S h x r[j]
 | [],_,_,_,j,hj=>by simp at hj
 |l::r,b,i,H,0,hj=>by
  rw [WG]at H
  obtain⟨⟨a,x,h1,h2,h3,h4,h5,h6⟩,_⟩:=H
  exact⟨a,x,h1,h2,h3,Xy.of h4 h5 h6⟩
 |l::r,b,i,H,j+1,hj=>by
  rw [WG]at H
  have:=WG.get H.2 (j:=j) (by simpa using hj)
  rw [show i+(j+1)=i+1+j by omega]
  exact this
theorem WG.of {S:Nat→Prop} {h:Heap}:∀{r:List (List St)} {b:Option Addr} {i:Nat},(∀j (hj:j<r.length),∃a x,b=some a∧S a.block∧KM h (a.add (i+j))=some (Sl.v x)∧Xy S h x r[j])→WG S h r b i
 | [],_,_,_=>by rw [WG];trivial
 |l::r,b,i,H=>by
  rw [WG]
  obtain⟨a,x,h1,h2,h3,h4⟩:=H 0 (by simp)
  refine⟨⟨a,x,h1,h2,h3,h4.len,h4.cap,Xy.at h4⟩,WG.of (fun j hj=>?_)⟩
  have:=H (j+1) (by simpa using hj)
  rw [show i+(j+1)=i+1+j by omega]at this
  exact this
theorem YX.eq {S:Nat→Prop} {h:Heap} {op:Int} {names:List (List UInt8)} {nums:List Int} {preds:List (Int×List Vl)} {vals:List Vl} {subs:List (List St)} {cs:Array Value}:YX S h (.mk op names nums preds vals subs) cs↔
  ∃x1 x2 x3 x4 x5:Sl,cs=#[.int .i64 op,x1.v,x2.v,x3.v,x4.v,x5.v]∧I64 op∧RowS 1 KIq S h x1 names∧RowS 1 KIr S h x2 nums∧RowS 2 KEN S h x3 preds∧VsRepS S h x4 vals∧RowS 1 KIs S h x5 subs:=by
 rw [YX]
 constructor
 ·rintro⟨x1,x2,x3,x4,x5,h1,h2,h3,h4,h5,h6,h7,h8,h9⟩
  refine⟨x1,x2,x3,x4,x5,h1,h2,h3,h4,h5,h6,h7,h8,fun j hj=>?_⟩
  obtain⟨a,x,g1,g2,g3,g4⟩:=h9.get hj
  refine⟨a,#[x.v],g1,g2,rfl,fun m hm=>?_,x,rfl,g4⟩
  obtain rfl:m=0:=by omega
  rw [Nat.mul_one,Nat.add_zero]
  rw [Nat.zero_add]at g3
  exact g3
 ·rintro⟨x1,x2,x3,x4,x5,h1,h2,h3,h4,h5,h6,h7⟩
  refine⟨x1,x2,x3,x4,x5,h1,h2,h3,h4,h5,h6,h7.len,h7.cap,WG.of (fun j hj=>?_)⟩
  obtain⟨a,c,g1,g2,g3,g4,x,rfl,g5⟩:=h7.at_ j hj
  refine⟨a,x,g1,g2,?_,g5⟩
  have:=g4 0 (by omega)
  rw [Nat.mul_one,Nat.add_zero]at this
  rw [Nat.zero_add]
  exact this
end Gx
namespace Gx
open Go
theorem KLe {lo:Nat} {h:Heap} {r:Sl} {css:List (Array Value)} {i:Nat} {c:Array Value} (G:Gw lo h r 4 (Jh css)) (hw:W4 css) (hi:i<css.length) (hc:c.size=4) (h1:∀u∈c.toList,one u=true) {g:Nat} (hb:r.base=some ⟨g,0,none⟩)
  {β:Type} {f:Unit→M β} {Q:β→Heap→Prop} (H:∀h',Upd g h h'→Gw lo h' r 4 (Jh (css.set i c))→(f ()).wp h' Q):(stG ((⟨g,0,none⟩:Addr).add ((i:Int).toNat*4)) c>>=f).wp h Q:=by
 have key:=KQx (f:=f) (Q:=Q) (t:=(i:Int)) G hw hi rfl hc h1 (fun b h' hb' u G'=>by rw [hb]at hb';cases hb';exact H h' u G')
 obtain⟨a,⟨_,_,b',hb',rfl⟩,_,hst⟩:=key
 rw [hb]at hb'
 cases hb'
 exact hst
abbrev zvS:Array Value:=#[.int .i64 0,.int .i64 0,.string ByteArray.empty,.slice none 0 0]
theorem KLf {en lo b n kb off cb z:Nat} {C:Array Value} {ty:TypeId} {ts:List Tkn} {x5:Sl} {css:List (Array Value)} {l:List Vl} {S:Nat→Prop} {h:Heap} {Q:Value⊕Unit→Heap→Prop} (R:PRd lo b en h ts n)
  (gk:h[kb]?=some (.cells C ty (0,0))) (hoff:C[off]?=some x5.v) (gc:KM h ⟨cb,0,none⟩=some (.pointer (some ⟨b,0,none⟩))) (hkb:kb≠b) (hcb:cb≠b) (hck:cb≠kb) (hlk:lo≤kb) (hz:lo≤z) (hkz:kb<z)
  (hcz:cb<z) (hzh:z≤h.size) (G:VGw z S h x5 css l) (hS:∀k,S k→z≤k∧k<h.size∧¬Sl.on x5 k) (hl:l.length≤1000000) (hbz:b<lo)
  (H1:∀v r h' x' css',valT en 8 ts=.ok (v,r)→Km (fun k=>k=b∨k=kb∨Sl.on x5 k) h h'→PRd lo b en h' r n→h'[kb]?=some (.cells (C.setIfInBounds off (Sl.v x')) ty (0,0))→VGw z (fun k=>(S k∨h.size≤k)∧k<h'.size∧¬Sl.on x' k) h' x' css' (l++[v])→(∀k,Sl.on x' k→Sl.on x5 k∨h.size≤k)→Q (.inr ()) h')
  (H2:∀e h',valT en 8 ts=.error e→Kb b h h'→Q (.inl (US e)) h'):
  (thr (M.both (do
    thr (Kt (some ⟨b,0,none⟩) 1) fun Xx3=>do
     chk (fun h:Heap=>(KM h ⟨kb,off,none⟩=some ((x5:Sl).v))∧(KM h ⟨cb,0,none⟩=some (.pointer (some ⟨b,0,none⟩))))
     let y_5←XI 4 1 zvS [(0,.agg zvS)]
     let Xx4←bdL KH 1 y_5
     chk (fun h:Heap=>(KM h ⟨kb,off,none⟩=some ((x5:Sl).v))∧(KM h ⟨cb,0,none⟩=some (.pointer (some ⟨b,0,none⟩))))
     M.pure (.inr (Xx3,Xx4))
    ) (do
    let y_7←XI 4 1 zvS [(0,.agg zvS)]
    let Xx6←bdL KH 1 y_7
    chk (fun h:Heap=>(KM h ⟨kb,off,none⟩=some ((x5:Sl).v))∧(KM h ⟨cb,0,none⟩=some (.pointer (some ⟨b,0,none⟩))))
    thr (Kt (some ⟨b,0,none⟩) 1) fun Xx8=>do
     chk (fun h:Heap=>(KM h ⟨kb,off,none⟩=some ((x5:Sl).v))∧(KM h ⟨cb,0,none⟩=some (.pointer (some ⟨b,0,none⟩))))
     M.pure (.inr (Xx8,Xx6))
    ):M (Value⊕(Array Value×Sl))) fun y_9=>do
   let Xx10←apL KH 4 56 zvS x5 y_9.2
   let Xx11←ixL Xx10 (x5.len:Int) 4
   let y_16←do
    M.both (do
     M.need (y_9.1.size=4)
     stG Xx11 y_9.1
     stV ⟨kb,off,none⟩ ((Xx10:Sl).v)
     M.pure ()
     ) (do
     stV ⟨kb,off,none⟩ ((Xx10:Sl).v)
     M.need (y_9.1.size=4)
     stG Xx11 y_9.1
     M.pure ()
     )
   (M.pure (.inr ()):M (Value⊕Unit))).wp h Q:=by
 have hv1:∀{h1:Heap} {Q1:Value⊕Array Value→Heap→Prop},PRd lo b en h1 ts n→(∀v r h' c,valT en 8 ts=.ok (v,r)→Kb b h1 h'→PRd lo b en h' r n→JE (HS h1 h') h' v c→Q1 (.inr c) h')→(∀e h',valT en 8 ts=.error e→Kb b h1 h'→Q1 (.inl (US e)) h')→(Kt (some ⟨b,0,none⟩) 1).wp h1 Q1:=fun R1 h1 h2=>NN en 8 (Nat.le_refl _) ts n _ _ lo b R1 h1 h2
 have hkh:kb<h.size:=JT gk
 have hch:cb<h.size:=XT gc
 have ck:∀{h':Heap},h'[kb]?=h[kb]?→h'[cb]?=h[cb]?→(KM h' ⟨kb,off,none⟩=some ((x5:Sl).v))∧(KM h' ⟨cb,0,none⟩=some (.pointer (some ⟨b,0,none⟩))):=fun {h'} e1 e2=>by
  refine⟨by rw [KP (e1.trans gk)];exact hoff,?_⟩
  unfold KM at gc⊢
  rw [show(⟨cb,0,none⟩:Addr).block=cb from rfl]at gc⊢
  rw [e2]
  exact gc
 have hxl:x5.len=l.length:=by rw [G.gw.len4 G.w4,G.len]
 have zsz:(zvS:Array Value).size=4:=rfl
 have rest:∀{h3:Heap} {v:Vl} {r:List Tkn} {c:Array Value} {q:Nat},valT en 8 ts=.ok (v,r)→Kb b h h3→PRd lo b en h3 r n→JE (fun k=>h.size≤k∧k<h3.size∧k≠q) h3 v c→h3[q]?=some (.cells zvS KH (0,0))→h.size≤q→(do
   let Xx10←apL KH 4 56 zvS x5 (⟨some ⟨q,0,none⟩,1,1⟩:Sl)
   let Xx11←ixL Xx10 (x5.len:Int) 4
   let y_16←do
    M.both (do
     M.need (c.size=4)
     stG Xx11 c
     stV ⟨kb,off,none⟩ ((Xx10:Sl).v)
     M.pure ()
     ) (do
     stV ⟨kb,off,none⟩ ((Xx10:Sl).v)
     M.need (c.size=4)
     stG Xx11 c
     M.pure ()
     )
   (M.pure (.inr ()):M (Value⊕Unit))).wp h3 Q:=fun {h3 v r c q} hv K R3 V gq hq=>by
  have hK:=K.size
  have G3:VGw z S h3 x5 css l:=G.same (fun k hk=>K.same k (G.gw.lt hk).1 (fun e=>by have:=(G.gw.lt hk).2;omega)) (fun k hk=>K.same k (hS k hk).2.1 (fun e=>by have:=(hS k hk).1;omega))
  have hzs:Jh [zvS]=(zvS:Array Value).toList:=by simp [Jh]
  refine KL (KIP (l':=[vl0]) (css':=[zvS]) G3 (by omega) (fun k hk=>⟨by have:=(hS k hk).2.1;omega,(hS k hk).2.2⟩) (fun x hx=>by simp only [List.mem_cons,List.not_mem_nil,or_false]at hx;subst hx;exact⟨rfl,Zy 0 0 [] Sl.nil⟩) rfl rfl (.inr ⟨_,rfl,fun j u hj=>?_⟩) (fun j h1 h2=>?_) (by simp only [List.length_cons,List.length_nil];omega) (fun h4 x' G4 hs4 same4 on4=>?_))
  ·rw [Ke,Nat.zero_add,KP gq]
   rw [hzs,Array.getElem?_toList]at hj
   exact hj
  ·have hj0:j=0:=by simp only [List.length_cons,List.length_nil]at h1;omega
   subst hj0
   exact KHT S h3
  have hcl:css.length=l.length:=G.len
  have hi4:l.length<(css++[zvS]).length:=by rw [List.length_append,List.length_singleton];omega
  have hx':x'.len=l.length+1:=by rw [G4.gw.len4 G4.w4,List.length_append,List.length_singleton,hcl]
  obtain⟨g,hg,hgon,_⟩:=G4.gw.row4 G4.w4 hi4
  have hg4:g<h4.size∧z≤g:=G4.gw.lt hgon
  have hgn:Sl.on x5 g∨h3.size≤g:=on4 g hgon
  have hkx:∀{k:Nat},Sl.on x5 k→z≤k:=fun {k} ho=>(G.gw.lt ho).2
  have nk:¬Sl.on x5 kb:=fun ho=>by have:=hkx ho;omega
  have gk4:h4[kb]?=some (.cells C ty (0,0)):=(same4 kb (by omega) nk).trans (K.blk gk hkb)
  have hcon:∀k,(h.size≤k∧k<h3.size∧k≠q)→h4[k]?=h3[k]?∧k≠g∧k≠kb:=fun k hk=>by
   have nx:¬Sl.on x5 k:=fun ho=>by have:=(G.gw.lt ho).1;omega
   exact⟨same4 k hk.2.1 nx,fun e=>by subst e;exact hgn.elim nx (fun h=>by omega),by omega⟩
  have fin:∀{h6:Heap},h6.size=h4.size→(∀k,k≠g→k≠kb→h6[k]?=h4[k]?)→h6[kb]?=some (.cells (C.setIfInBounds off (Sl.v x')) ty (0,0))→Gw z h6 x' 4 (Jh ((css++[zvS]).set l.length c))→Q (.inr ()) h6:=fun {h6} hs6 same6 gk6 G6=>by
   have hset:(css++[zvS]).set l.length c=css++[c]:=by rw [←hcl,List.set_append_right _ _ (Nat.le_refl _)];simp
   rw [hset]at G6
   refine H1 v r h6 x' (css++[c]) hv ⟨by omega,fun k hk hn=>?_⟩ (R3.same (by omega) (fun k hk=>?_)) gk6 ?_ (fun k hk=>(on4 k hk).imp id (fun h=>by omega))
   ·have n1:k≠b:=fun e=>hn (.inl e)
    have n2:k≠kb:=fun e=>hn (.inr (.inl e))
    have n3:¬Sl.on x5 k:=fun e=>hn (.inr (.inr e))
    have n4:k≠g:=fun e=>by subst e;exact hgn.elim n3 (fun h=>by omega)
    exact(same6 k n4 n2).trans ((same4 k (by omega) n3).trans (K.same k hk n1))
   ·have n3:¬Sl.on x5 k:=fun e=>by have:=hkx e;omega
    exact(same6 k (by omega) (by omega)).trans (same4 k (by have:=R3.lh;omega) n3)
   ·have hb6:∀k,S k→h6[k]?=h4[k]?:=fun k hk=>same6 k (fun e=>by subst e;exact hgn.elim (hS _ hk).2.2 (fun h=>by have:=(hS _ hk).2.1;omega)) (fun e=>by have:=(hS k hk).1;omega)
    refine⟨G6,G.w4.append (fun x hx=>by simp only [List.mem_cons,List.not_mem_nil,or_false]at hx;subst hx;exact⟨V.size,V.to.one⟩),by rw [List.length_append,List.length_append,hcl];rfl,fun j h1 h2=>?_⟩
    by_cases hj:j<l.length
    ·rw [List.getElem_append_left hj,List.getElem_append_left (by omega)]
     have:=G4.rep j (by rw [List.length_append];omega) (by rw [List.length_append];omega)
     rw [List.getElem_append_left hj,List.getElem_append_left (by omega)]at this
     refine(this.same hb6).mono (fun k hk=>⟨.inl hk,by have:=(hS k hk).2.1;omega,fun ho=>(on4 k ho).elim (hS k hk).2.2 (fun h=>by have:=(hS k hk).2.1;omega)⟩)
    ·have hj0:j=l.length:=by rw [List.length_append,List.length_singleton]at h1;omega
     subst hj0
     rw [List.getElem_append_right (Nat.le_refl _),List.getElem_append_right (by omega)]
     simp only [hcl,Nat.sub_self,List.getElem_cons_zero]
     refine(V.same (fun k hk=>(same6 k (hcon k hk).2.1 (hcon k hk).2.2).trans (hcon k hk).1)).mono (fun k hk=>⟨.inr hk.1,by omega,fun ho=>(on4 k ho).elim (fun ho=>by have:=(G.gw.lt ho).1;omega) (fun h=>by omega)⟩)
  rw [hxl]
  refine X6 (by omega) (by omega) hg (KNr ?_ ?_)
  ·refine Kf (Zt V.size (Kf (KLe G4.gw G4.w4 hi4 V.size V.to.one hg (fun h5 u5 G5=>?_))))
   have gk5:=(u5.ne kb (by omega)).trans gk4
   refine Kf (Gu (x:=x5.v) (by rw [KP gk5];exact hoff) (ZL gk5) (qy _) (ZM (KI ?_)))
   have u6:=Upd.hset h5 kb off (Sl.v x')
   have g6:=Ul (o:=off) (v:=Sl.v x') gk5
   generalize hset h5 ⟨kb,off,none⟩ (Sl.v x')=h6 at u6 g6⊢
   exact fin (by rw [u6.size,u5.size]) (fun k n1 n2=>(u6.ne k n2).trans (u5.ne k n1)) g6 (G5.same (fun k hk=>u6.ne k (by have:=(G5.lt hk).2;omega)))
  ·refine Kf (Gu (x:=x5.v) (by rw [KP gk4];exact hoff) (ZL gk4) (qy _) ?_)
   have u5:=Upd.hset h4 kb off (Sl.v x')
   have g5:=Ul (o:=off) (v:=Sl.v x') gk4
   generalize hset h4 ⟨kb,off,none⟩ (Sl.v x')=h5 at u5 g5⊢
   have G5:Gw z h5 x' 4 (Jh (css++[zvS])):=G4.gw.same (fun k hk=>u5.ne k (by have:=(G4.gw.lt hk).2;omega))
   refine Kf (Zt V.size (Kf (KLe G5 G4.w4 hi4 V.size V.to.one hg (fun h6 u6 G6=>ZM (KI ?_)))))
   exact fin (by rw [u6.size,u5.size]) (fun k n1 n2=>(u6.ne k n1).trans (u5.ne k n2)) ((u6.ne kb (by omega)).trans g5) G6
 refine Zv (KD3 ?_ ?_)
 ·refine Zv (hv1 R (fun v r h2 c hv K2 R2 V2=>?_) (fun e h2 hv K2=>H2 e h2 hv K2))
  have hK2:=K2.size
  refine X5 (ck (K2.same kb hkh hkb) (K2.same cb hch hcb)) (GB rfl (Nh ?_))
  have e3:=Ext.push h2 (.cells zvS KH)
  have g3:(h2.push (.cells zvS KH))[h2.size]?=some (.cells zvS KH (0,0)):=ZH
  generalize h2.push (.cells zvS KH)=h3 at e3 g3⊢
  have hs3:=e3.size
  refine X5 (ck ((e3.same kb (by omega)).trans (K2.same kb hkh hkb)) ((e3.same cb (by omega)).trans (K2.same cb hch hcb))) (KI ?_)
  exact rest hv (K2.trans (Km.ext e3)) (R2.ext e3) ((V2.same (fun k hk=>e3.same k hk.2)).mono (fun k hk=>⟨hk.1,by have:=hk.2;omega,by have:=hk.2;omega⟩)) g3 hK2
 ·refine GB rfl (Nh ?_)
  have e2:=Ext.push h (.cells zvS KH)
  have g2:(h.push (.cells zvS KH))[h.size]?=some (.cells zvS KH (0,0)):=ZH
  have hs2':(h.push (.cells zvS KH)).size=h.size+1:=Array.size_push ..
  generalize h.push (.cells zvS KH)=h2 at e2 g2 hs2'⊢
  refine X5 (ck (e2.same kb hkh) (e2.same cb hch)) (Zv (hv1 (R.ext e2) (fun v r h3 c hv K3 R3 V3=>?_) (fun e h3 hv K3=>H2 e h3 hv ((Km.ext e2).trans K3))))
  have hK3:=K3.size
  refine X5 (ck ((K3.same kb (by omega) hkb).trans (e2.same kb hkh)) ((K3.same cb (by omega) hcb).trans (e2.same cb hch))) (KI ?_)
  exact rest hv ((Km.ext e2).trans K3) R3 (V3.mono (fun k hk=>⟨by have:=hk.1;omega,hk.2,by have:=hk.1;omega⟩)) (K3.blk g2 (by omega)) (Nat.le_refl _)
end Gx
namespace Gx
open Go
def prW:List UInt8:=[101,113,32,110,101,113,32,108,116,32,108,116,101,32,103,116,32,103,116,101,32,119,105,116,104,105,110,32,119,105,116,104,111,117,116,32,98,101,116,119,101,101,110]
def opT:List Tkn→Nat
 | []=>0
 |t::_=>if t.k=1 then idxW (splW prW) t.s else 0
def KGp (en:Nat):Nat→List Vl→List Tkn→Nat→PR (List Vl):=fun _ l ts n=>match valT en 8 ts with
 | .error e=>.error e
 | .ok (v,r)=>.ok (l++[v],r,n)
def KJk (en:Nat) (ts:List Tkn) (n:Nat):PR (Int×List Vl):=
 if opT ts=0 then(match valT en 8 ts with
  | .error e=>.error e
  | .ok (v,r)=>.ok ((1,[v]),r,n))
 else match takT en 4 [40] ts.tail with
  | .error e=>.error e
  | .ok r1=>match KDS en (KHq (opT ts)).1 (KHq (opT ts)).2 (KGp en) [] r1 n with
   | .error e=>.error e
   | .ok (l,r,n')=>.ok (((opT ts:Nat),l),r,n')
theorem KGq {h:Heap} {Q:Array Value→Heap→Prop} {g:Nat} {z:Array Value} {p:Nat×Nat} {ty:TypeId} (hg:h[g]?=some (.cells z ty (0,0))) (hz:z.size=2) (H:∀h',Upd g h h'→Q (YW p) h'):
  (M.need ((YW p).size=2)>>=fun _=>stG ⟨g,0,none⟩ (YW p)>>=fun _=>ldG 2 ⟨g,0,none⟩>>=fun r=>(M.pure r:M (Array Value))).wp h Q:=by
 refine Zt rfl (stR hg (by rw [hz];exact Nat.le_refl 2) (by intro v hv;simp only [YW,List.mem_cons,List.not_mem_nil,or_false]at hv;rcases hv with rfl|rfl<;>rfl) (fun h' u g'=>?_))
 have e:lay z 0 (YW p).toList=YW p:=Kp (by rw [hz];rfl)
 rw [e]at g'
 exact ldR g' rfl (KI (H _ u))
theorem ZW {k:Nat} {h:Heap} {Q:Array Value→Heap→Prop} (H:∀h',Ext h h'→Q (YW (k,k)) h'):(Zk (k:Int)).wp h Q:=by
 unfold Zk
 exact ZV (fun h1 e1 s1 g1=>KGq (p:=(k,k)) g1 rfl (fun h2 u2=>H _ (e1.upd u2 (Nat.le_refl _))))
theorem JW {k:Nat} {h:Heap} {Q:Array Value→Heap→Prop} (H:∀h',Ext h h'→Q (YW (k,32)) h'):(U3 (k:Int)).wp h Q:=by
 unfold U3
 exact ZV (fun h1 e1 s1 g1=>KGq (p:=(k,32)) g1 rfl (fun h2 u2=>H _ (e1.upd u2 (Nat.le_refl _))))
theorem KFY {k:Nat} {h:Heap} {Q:Array Value→Heap→Prop} (H:∀h',Ext h h'→Q (YW (KHq k)) h'):(Yc (k:Int)).wp h Q:=by
 unfold Yc
 refine ZV (fun h1 e1 s1 g1=>?_)
 have g1':∀{h2:Heap},Ext h1 h2→h2[h.size]?=some (.cells #[.int .i64 0,.int .i64 0] ZI (0,0)):=fun e=>e.blk g1
 have j1:∀c:Bool,c=decide (k=7∨k=8)→(U6 ⟨h.size,0,none⟩ (k:Int) c).wp h1 Q:=fun c hc=>by
  unfold U6
  unfold KHq at H
  refine KY (fun h0=>?_) (fun h0=>?_)
  ·rw [if_pos (of_decide_eq_true (hc.symm.trans h0))]at H
   exact KL (JW (k:=0) (fun h2 e2=>KGq (p:=(0,32)) (g1' e2) rfl (fun h3 u3=>H _ ((e1.trans e2).upd u3 (Nat.le_refl _)))))
  ·rw [if_neg (of_decide_eq_false (hc.symm.trans h0))]at H
   rw [eqI,show decide ((k:Int)=9)=decide (k=9)from decide_eq_decide.2 (by omega)]
   refine KY (fun h9=>?_) (fun h9=>?_)
   ·rw [if_pos (of_decide_eq_true h9)]at H
    exact KL (ZW (k:=2) (fun h2 e2=>KGq (p:=(2,2)) (g1' e2) rfl (fun h3 u3=>H _ ((e1.trans e2).upd u3 (Nat.le_refl _)))))
   ·rw [if_neg (of_decide_eq_false h9)]at H
    exact KL (ZW (k:=1) (fun h2 e2=>KGq (p:=(1,1)) (g1' e2) rfl (fun h3 u3=>H _ ((e1.trans e2).upd u3 (Nat.le_refl _)))))
 rw [eqI,eqI,show decide ((k:Int)=7)=decide (k=7)from decide_eq_decide.2 (by omega),show decide ((k:Int)=8)=decide (k=8)from decide_eq_decide.2 (by omega)]
 refine KY (fun h7=>?_) (fun h7=>?_)
 ·rw [h7]
  exact j1 true (decide_eq_true (.inl (of_decide_eq_true h7))).symm
 ·refine j1 _ (decide_eq_decide.2 ⟨.inr,fun hh=>hh.resolve_left (of_decide_eq_false h7)⟩)
theorem KFZ {p:Int×List Vl} {y:Sl}:∀u∈(#[.int .i64 p.1,y.v]:Array Value).toList,one u=true:=by
 intro u hu
 simp only [List.mem_cons,List.not_mem_nil,or_false]at hu
 rcases hu with rfl|rfl
 ·rfl
 ·exact qy _
theorem KLg {h:Heap} {Q:Value⊕Array Value→Heap→Prop} {g:Nat} {z:Array Value} {op:Int} {y:Sl} {t:TypeId} (hg:h[g]?=some (.cells z t (0,0))) (hz:z.size=2)
  (H:∀h',Upd g h h'→Q (.inr #[.int .i64 op,y.v]) h'):(M.need ((#[.int .i64 op,y.v]:Array Value).size=2)>>=fun _=>stG ⟨g,0,none⟩ (#[.int .i64 op,y.v]:Array Value)>>=fun _=>ldG 2 ⟨g,0,none⟩>>=fun r=>(M.pure (.inr r):M (Value⊕Array Value))).wp h Q:=by
 refine Zt rfl (stR hg (by rw [hz];exact Nat.le_refl 2) (KFZ (p:=(op,[]))) (fun h' u g'=>?_))
 have e:lay z 0 (#[.int .i64 op,y.v]:Array Value).toList=#[.int .i64 op,y.v]:=Kp (by rw [hz];rfl)
 rw [e]at g'
 exact ldR g' rfl (KI (H _ u))
theorem KLh {lo q sz:Nat} {h:Heap} {c:Array Value} {ty:TypeId} (g:h[q]?=some (.cells c ty (0,0))) (hc:c.size=sz) (hl:lo≤q):Gw lo h ⟨some ⟨q,0,none⟩,1,1⟩ sz (Jh [c]):=by
 have hf:Jh [c]=c.toList:=by simp [Jh]
 rw [hf]
 exact .inr ⟨q,ty,c,rfl,hl,g,by rw [hc];show sz=1*sz;omega,Nat.le_refl _,by rw [Array.length_toList,hc];show sz=1*sz;omega,fun j v hj=>by rw [←hj];simp⟩
theorem KQ8 (ts:List Tkn):opT ts≤10:=by
 cases ts with
 |nil=>exact Nat.zero_le _
 |cons t r=>
  rw [show opT (t::r)=if t.k=1 then idxW (splW prW) t.s else 0 from rfl]
  split
  ·have h1:=KFX (splW prW) t.s
   have h2:(splW prW).length=9:=by decide+kernel
   omega
  ·exact Nat.zero_le _
theorem KNK (k:Nat):(KHq k).1≤2∧(KHq k).2≤32:=by
 unfold KHq
 split
 ·exact⟨by decide,by decide⟩
 ·split<;>exact⟨by decide,by decide⟩
theorem KJl {lo b en n:Nat} {h:Heap} {ts:List Tkn} {Q:Value⊕Array Value→Heap→Prop} (R:PRd lo b en h ts n)
  (H1:∀p r n' h' c,KJk en ts n=.ok (p,r,n')→Kb b h h'→PRd lo b en h' r n'→KEN (HS h h') h' p c→Q (.inr c) h') (H2:∀e h',KJk en ts n=.error e→Kb b h h'→Q (.inl (US e)) h'):(U7 (some ⟨b,0,none⟩)).wp h Q:=by
 unfold U7
 have hlh:=R.lh
 have hbl:=R.bl
 refine ZV (fun h1 e1 s1 g1=>ZV (fun h2 e2 s2 g2=>?_))
 have E2:=e1.trans e2
 have R2:=R.ext E2
 have g1':=e2.blk g1
 have cP:KM h2 ⟨h.size,0,none⟩=some (.pointer (some ⟨b,0,none⟩)):=oneC g1'
 have j1:∀{h3:Heap},Ext h2 h3→(Jd ⟨h.size,0,none⟩ ⟨h1.size,0,none⟩ ((opT ts:Nat):Int)).wp h3 Q:=fun {h3} e3=>by
  have E3:=E2.trans e3
  have hz3:=E3.size
  have hz32:=e3.size
  have R3:=R.ext E3
  have k1:=e3.blk g1'
  have k2:=e3.blk g2
  unfold Jd
  rw [eqI,show decide (((opT ts:Nat):Int)=0)=decide (opT ts=0)from decide_eq_decide.2 (by omega)]
  unfold KJk at H1 H2
  refine KY (fun h0=>?_) (fun h0=>?_)
  ·rw [if_pos (of_decide_eq_true h0)]at H1 H2
   refine GV (n:=some ⟨b,0,none⟩) (oneC k1) (Zv (NN en 8 (Nat.le_refl _) ts n h3 _ lo b R3 (fun v r h4 c hv K4 R4 V4=>?_) (fun e h4 hv K4=>H2 e h4 (by rw [hv]) ((Km.ext E3).trans K4))))
   rw [hv]at H1
   have hz4:=K4.size
   refine GB V4.size (Nh ?_)
   have e5:=Ext.push h4 (.cells c KH)
   have g5:(h4.push (.cells c KH))[h4.size]?=some (.cells c KH (0,0)):=ZH
   have hs5:(h4.push (.cells c KH)).size=h4.size+1:=Array.size_push ..
   generalize h4.push (.cells c KH)=h5 at e5 g5 hs5⊢
   have k5:=e5.blk (K4.blk k2 (show ¬h1.size=b by omega))
   refine KLg (op:=1) (y:=⟨some ⟨h4.size,0,none⟩,1,1⟩) k5 rfl (fun h6 u6=>H1 (1,[v]) r n h6 _ rfl ?_ ((R4.ext e5).upd u6 (by omega)) ?_)
   ·exact(((Km.ext E3).trans K4).trans (Km.ext e5)).own u6 (by omega)
   ·have g6:=(u6.ne h4.size (by omega)).trans g5
    have G:VGw h.size (HS h h4) h6 ⟨some ⟨h4.size,0,none⟩,1,1⟩ [c] [v]:=⟨KLh g6 V4.size (by omega),fun x hx=>by simp only [List.mem_cons,List.not_mem_nil,or_false]at hx;subst hx;exact⟨V4.size,V4.to.one⟩,rfl,fun j a1 a2=>by
     obtain rfl:j=0:=by simp only [List.length_cons,List.length_nil]at a1;omega
     exact(V4.same (fun k hk=>(u6.ne k (by have:=hk.1;omega)).trans (e5.same k hk.2))).mono (fun k hk=>⟨by have:=hk.1;omega,hk.2⟩)⟩
    refine⟨_,rfl,⟨by show(-9223372036854775808:Int)≤1;decide,by show(1:Int)≤9223372036854775807;decide⟩,(G.rep_ (by show 1≤9223372036854775807;decide)).same (fun _ _=>rfl) (fun k hk=>?_)⟩
    rcases hk with hk|hk
    ·exact⟨hk.1,by have:=hk.2;have:=u6.size;omega⟩
    ·obtain⟨a,ha,rfl⟩:=hk
     cases ha
     exact⟨by show h.size≤h4.size;omega,by show h4.size<h6.size;have:=u6.size;omega⟩
  ·have h0:=of_decide_eq_false h0
   rw [if_neg h0]at H1 H2
   have hne:∃t r0,ts=t::r0∧t.k=1:=by
    cases ts with
    |nil=>exact absurd rfl h0
    |cons t r0=>
     refine⟨t,r0,rfl,Decidable.byContradiction (fun e=>h0 ?_)⟩
     show(if t.k=1 then _ else _)=0
     rw [if_neg e]
   obtain⟨t,r0,hts,htk⟩:=hne
   have hop:=KQ8 ts
   have hle:=KNK (opT ts)
   obtain⟨op,hope⟩:∃op,op=opT ts:=⟨_,rfl⟩
   rw [←hope]at H1 H2 hop hle⊢
   subst hts
   refine ZV (fun h4 e4 s4 g4=>Zt rfl (stR g4 (Nat.le_refl 2) (KFZ (p:=((op:Int),[])) (y:=Sl.nil)) (fun h5 u5 g5=>?_)))
   have g5:h5[h3.size]?=some (.cells #[.int .i64 (op:Int),(Sl.nil:Sl).v] Vw (0,0)):=by
    have e:lay (#[.int .i64 0,.slice none 0 0]:Array Value) 0 (#[.int .i64 (op:Int),(Sl.nil:Sl).v]:Array Value).toList=#[.int .i64 (op:Int),(Sl.nil:Sl).v]:=Kp (by rfl)
    rw [←e];exact g5
   have E5:Ext h3 h5:=e4.upd u5 (Nat.le_refl _)
   have R5:=R3.ext E5
   refine GV (n:=some ⟨b,0,none⟩) (oneC (E5.blk k1)) (Zv (YV R5 (fun t' r' h6 hn K6 R6=>?_) (fun e h6 hn K6=>?_)))
   ·obtain⟨e,_⟩:=KDN hn
    cases e
    have g6:=K6.blk g5 (show ¬h3.size=b by omega)
    have k6:=K6.blk (E5.blk k1) (show ¬h.size=b by omega)
    refine GV (n:=some ⟨b,0,none⟩) (oneC k6) (Zv (UL (s:=[40]) R6 (fun r1 h7 hr1 K7 R7=>?_) (fun e h7 hr1 K7=>H2 e h7 (by rw [show(t::r0).tail=r0 from rfl,hr1]) ((((Km.ext E3).trans (Km.ext E5)).trans K6).trans K7))))
    rw [show(t::r0).tail=r0 from rfl,hr1]at H1 H2
    dsimp only at H1 H2
    have k7:=K7.blk k6 (show ¬h.size=b by omega)
    have g7:=K7.blk g6 (show ¬h3.size=b by omega)
    refine GV (n:=some ⟨b,0,none⟩) (oneC k7) (KL (KFY (fun h8 e8=>X5 (oneC (e8.blk k7)) ?_)))
    have R8:=R7.ext e8
    have k8:=e8.blk k7
    have g8:=e8.blk g7
    have K08:Kb b h h8:=((((Km.ext E3).trans (Km.ext E5)).trans K6).trans K7).trans (Km.ext e8)
    have hz8:h3.size<h8.size:=JT g8
    have k2':h8[h1.size]?=some (.cells (#[.int .i64 0,.slice none 0 0]:Array Value) Vw (0,0)):=e8.blk (K7.blk (K6.blk (E5.blk k2) (by omega)) (by omega))
    refine Zv (KOH (one:=KGp en) (a0:=[]) (sb:=h3.size) (fun i l hh=>∃r css,hh[h3.size]?=some (.cells #[.int .i64 (op:Int),(r:Sl).v] Vw (0,0))∧VGw (h8.size+1) (fun k=>h8.size+1≤k∧k<hh.size∧¬Sl.on r k) hh r css l∧hh[h.size]?=some (.cells #[.pointer (some ⟨b,0,none⟩)] JF (0,0))∧l.length≤i)
     R8 hz8 (by omega) (by omega) (by omega) ?_ ?_ ?_ ?_ ?_)
    ·exact fun h' e'=>⟨Sl.nil,[],e'.blk g8,VGw.nil _ _ _,e'.blk k8,Nat.le_refl _⟩
    ·rintro i l ha hb ⟨r,css,a1,a2,a3,a4⟩ hsz K
     have hK:=K.size
     exact⟨r,css,K.blk a1 (by omega),(a2.same (fun k hk=>K.same k (a2.gw.lt hk).1 (by have:=(a2.gw.lt hk).2;omega)) (fun k hk=>K.same k hk.2.1 (by have:=hk.1;omega))).mono (fun k hk=>⟨hk.1,by have:=hk.2.1;omega,hk.2.2⟩),K.blk a3 (by omega),a4⟩
    ·rintro i l ts2 n2 h9 Q1 hi ⟨r,css,a1,a2,a3,a4⟩ hsz R9 G1 G2
     refine KB8 NW (Nx (i:Int) ⟨h3.size,0,none⟩ ⟨h.size,0,none⟩) ?_
     unfold We
     refine Jm (n:=r) (by rw [Ke,KP a1];rfl) (GV (n:=some ⟨b,0,none⟩) (oneC a3) ?_)
     simp only [Ke,Nat.zero_add]
     unfold KGp at G1 G2
     refine KLf (C:=#[.int .i64 (op:Int),r.v]) (z:=h8.size+1) (kb:=h3.size) (cb:=h.size) (off:=1) R9 a1 rfl (oneC a3) (by omega) (by omega) (by omega) (by omega) (by omega) (by omega) (by omega) (by omega) a2 (fun k hk=>hk) (by omega) hbl ?_ ?_
     ·intro v r' h' x' css' hv K' R' g' V' on'
      rw [hv]at G1
      have hK':=K'.size
      refine G1 (l++[v]) r' n2 h' rfl ⟨hK',fun k hk hn=>K'.same k hk (fun hh=>hh.elim (fun e=>hn (.inl e)) (fun hh=>hh.elim (fun e=>hn (.inr (.inl e))) (fun ho=>hn (.inr (.inr (by have:=(a2.gw.lt ho).2;omega))))))⟩ R' ⟨x',css',g',?_,?_,by rw [List.length_append,List.length_singleton];omega⟩
      ·exact V'.mono (fun k hk=>⟨hk.1.elim (fun h=>h.1) (fun h=>by omega),hk.2.1,hk.2.2⟩)
      ·exact K'.blk a3 (fun hh=>hh.elim (fun e=>by omega) (fun hh=>hh.elim (fun e=>by omega) (fun ho=>by have:=(a2.gw.lt ho).2;omega)))
     ·intro e h' hv K'
      rw [hv]at G2
      exact G2 e h' rfl (K'.wkb (fun k hk=>.inl hk))
    ·rintro i l r' n' h9 hs F9 R9 hi ⟨r,css,a1,a2,a3,a4⟩ hsz
     rw [hs]at H1
     have hF:=F9.size
     have k9:h9[h1.size]?=some (.cells (#[.int .i64 0,.slice none 0 0]:Array Value) Vw (0,0)):=F9.blk k2' (by omega)
     refine ldR a1 rfl (KLg (op:=(op:Int)) (y:=r) k9 rfl (fun h10 u10=>H1 ((op:Int),l) r' n' h10 _ rfl ?_ (R9.upd u10 (by omega)) ?_))
     ·refine⟨by have:=K08.size;have:=u10.size;omega,fun k hk hn=>(u10.ne k (by omega)).trans ((F9.same k (by have:=K08.size;omega) (fun hh=>hh.elim hn (fun hh=>by omega))).trans (K08.same k hk hn))⟩
     ·have hu:=u10.size
      refine⟨r,rfl,⟨by show(-9223372036854775808:Int)≤(op:Int);omega,by show(op:Int)≤9223372036854775807;omega⟩,(a2.rep_ (by omega)).same (fun k hk=>u10.ne k ?_) (fun k hk=>?_)⟩
      ·rcases hk with hk|hk
       ·have:=hk.1;omega
       ·have:=(a2.gw.lt hk).2;omega
      ·rcases hk with hk|hk
       ·exact⟨by have:=hk.1;omega,by have:=hk.2.1;omega⟩
       ·exact⟨by have:=(a2.gw.lt hk).2;omega,by have:=(a2.gw.lt hk).1;omega⟩
    ·intro e h9 hs F9
     rw [hs]at H2
     exact H2 e h9 rfl ⟨by have:=F9.size;have:=K08.size;omega,fun k hk hn=>(F9.same k (by have:=K08.size;omega) (fun hh=>hh.elim hn (fun hh=>by omega))).trans (K08.same k hk hn)⟩
   ·rw [qE,if_pos htk]at hn
    cases hn
 obtain⟨x,g,T,hc,hb⟩:=R2.obj
 have c0:KM h2 ((⟨b,0,none⟩:Addr).add 0)=some x.v:=by rw [add_zero,KP g];rfl
 have hl:=T.1
 refine GV cP (Zi (Jm c0 ?_))
 cases ts with
 |nil=>exact NQ (decide_eq_false (by rw [hl];simp)) (ZM (iteF rfl (j1 (Ext.refl _))))
 |cons t r=>
  obtain⟨a,ha,hca⟩:=PRd.head (lo:=lo) (b:=b) (en:=en) (n:=n) T
  have z:a.add ((0:Int).toNat*4)=a:=rfl
  rw [List.length_cons]at hl
  have htok:=(R.good t (by simp)).1
  refine Y9 (decide_eq_true (by rw [hl];omega)) (Kf (GV cP (Kf (Zi (Kf (Jm c0 (Kf (X6 (by decide) (by omega) ha (Kf (ZC (n:=t.k) (by rw [z];exact hca 0 (by decide)) (ZM ?_)))))))))))
  rw [eqI]
  have hopt:opT (t::r)=if t.k=1 then idxW (splW prW) t.s else 0:=rfl
  refine KY (fun hk=>?_) (fun hk=>?_)
  ·rw [if_pos (of_decide_eq_true hk)]at hopt
   refine GV cP (Zi (Jm c0 (X6 (by decide) (by omega) ha (Yh (n:=bs t.s) (by rw [z];exact hca 1 (by decide)) (KL (KDQ (s:=prW) (by decide) (fun h3 e3=>?_)))))))
   have:=j1 e3
   rw [hopt]at this
   exact this
  ·rw [if_neg (of_decide_eq_false hk)]at hopt
   have:=j1 (Ext.refl h2)
   rw [hopt]at this
   exact this
end Gx
