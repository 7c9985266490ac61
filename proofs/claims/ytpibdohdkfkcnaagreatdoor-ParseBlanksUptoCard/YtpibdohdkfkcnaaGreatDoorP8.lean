/- Own proofs: what those Lean programs compute. No condition. -/
import Derived.Test.YtpibdohdkfkcnaaGreatDoorP0
import Derived.Test.YtpibdohdkfkcnaaGreatDoorP1
import Derived.Test.YtpibdohdkfkcnaaGreatDoorP2
import Derived.Test.YtpibdohdkfkcnaaGreatDoorP3
import Derived.Test.YtpibdohdkfkcnaaGreatDoorP4
import Derived.Test.YtpibdohdkfkcnaaGreatDoorP5
import Derived.Test.YtpibdohdkfkcnaaGreatDoorP6
import Derived.Test.YtpibdohdkfkcnaaGreatDoorP7
set_option linter.unusedVariables false
set_option linter.unusedSimpArgs false
set_option maxRecDepth 100000
open Go.Proofs
namespace Gx
open Go Go.Proofs Go.Shelf Go.RowKit Go.Lib
theorem KOQ (n:Int) (s:Eb) (l:List Vl):txV (.mk 1 n s l)=itoa n:=by
 show txt 8 _=_
 rw [txt,if_pos rfl]
theorem KOR (n:Int) (s:Eb) (l:List Vl):txV (.mk 2 n s l)=J7 s:=by
 show txt 8 _=_
 rw [txt,if_neg (by decide),if_pos rfl]
def tkT (t:Tkn):Eb:=if tokB t=false then []else if t.k=2 then itoa t.n else if t.k=3 then J7 t.s else t.s
theorem KSI {k:Int} {s:Eb} {n:Nat} {t:Vl->Tkn} (h:(oneV k s n t).2≠0):(ZT (s.take n)).2.2=0/\(ZT (s.take n)).1.k=k/\txV (ZT (s.take n)).1=s.take n/\oneV k s n t=(t (ZT (s.take n)).1,n):=by
 unfold oneV oneW at h⊢
 split at h
 ·exact absurd rfl h
 ·rename_i hh
  have h1:(ZT (s.take n)).2.2=0:=EM (λe=>hh (.inl e))
  have h2:(ZT (s.take n)).1.k=k:=EM (λe=>hh (.inr e))
  exact⟨h1,h2,KLR (KSH h1).1,by rw [if_neg hh]⟩
theorem KOS {k:Int} {s w:Eb} {n:Nat} {t:Vl->Tkn} {v:Vl} {p:Nat} (hs:s.take n=w) (hp:ZT w=(v,p,0)) (hk:v.k=k):oneV k s n t=(t v,n):=by
 unfold oneV oneW
 rw [hs,hp]
 exact if_neg (λh=>h.elim (λh=>h rfl) (λh=>h hk))
def NumT (t:Tkn):Prop:=t.k=2->∃v p,ZT (itoa t.n)=(v,p,0)/\v.k=1/\v.n=t.n
theorem NumT.of {t:Tkn} (h:I64 t.n):NumT t:=λ_=>⟨.mk 1 t.n [] [],0,by
 rw [<-KOQ t.n [] []]
 exact KFs (by simp [mayV,KIS]) ⟨h,λx hx=>by cases hx⟩,rfl,rfl⟩
theorem KBp {p:UInt8->Prop} [∀c,Decidable (p c)] (hk:∀n,n<256->p (UInt8.ofNat n)) (c:UInt8):p c:=by
 have:=hk c.toNat c.toNat_lt
 rwa [FS]at this
theorem KPX:∀c:UInt8,(digB c=true\/c=45)->GL c=false/\letB c=false/\c≠39:=KBp (by decide+kernel)
theorem KLS:∀c:UInt8,digB c=true->KAA c=true/\c≠45:=KBp (by decide+kernel)
theorem KUO:∀c:UInt8,letB c=true->GL c=false/\KAA c=true:=KBp (by decide+kernel)
theorem KSJ:∀c:UInt8,(GL c=true\/c=32)->KAA c=false:=KBp (by decide+kernel)
theorem KGi:∀c:UInt8,(GL c=true\/letB c=true\/digB c=true\/c=45\/c=39)->JD c=false:=KBp (by decide+kernel)
theorem KGj {w r:Eb} (hw:∀c∈w,KAA c=true) (hr:∀c,r.head?=some c->KAA c=false):Jd (w++r)=w.length:=by
 unfold Jd
 rw [List.takeWhile_append_of_pos hw,List.length_append]
 cases r with
 |nil=>rfl
 |cons c r=>rw [FC (by rw [hr c rfl];decide)];rfl
theorem KW1:∀k:Fin 16,hexc k.val≠92/\hexc k.val≠39:=by decide+kernel
theorem KVj {k:Nat} (h:k<16):hexc k≠92/\hexc k≠39:=KW1 ⟨k,h⟩
theorem Xl {s:Eb} {f i:Nat} (hi:i<s.length):GF s (f+1) i=if KI s i=92 then GF s f (i+2)else if KI s i=39 then i+1 else GF s f (i+1):=by rw [GF,if_pos hi]
theorem KFt {s:Eb}:∀(t:Eb) (f i:Nat),At s i (t.flatMap qc++[39])->s.length<f+i->GF s f i=i+(t.flatMap qc).length+1
 | [],f,i,ha,hf=>by
  have hl:=ha.len (by simp)
  have:i+1<=s.length:=hl
  obtain⟨f,rfl⟩:∃g,f=g+1:=⟨f - 1,by omega⟩
  rw [Xl (by omega),ha.here,if_neg (by decide),if_pos rfl]
  rfl
 |c::t,f,i,ha,hf=>by
  rw [ET,Ek]at ha
  obtain⟨a1,a2⟩:=Zz.1 ha
  have hl:=ha.len (by simp)
  have hrl:(List.flatMap qc t++[39]).length=(List.flatMap qc t).length+1:=by simp
  rw [List.length_append,hrl]at hl
  rw [ET,List.length_append]
  by_cases h1:c.toNat<32\/126<c.toNat
  ·have hq:=KPQ h1
   rw [hq]at a1 a2 hl⊢
   have hc:=c.toNat_lt
   have n1:=KVj (show c.toNat / 16<16 by omega)
   have n2:=KVj (show c.toNat%16<16 by omega)
   simp only [Ef,En]at a2 hl⊢
   obtain⟨f,rfl⟩:∃g,f=g+3:=⟨f - 3,by omega⟩
   have b0:KI s i=92:=a1.here
   have b2:KI s (i+2)=hexc (c.toNat / 16):=a1.get (k:=2) (by simp)
   have b3:KI s (i+2+1)=hexc (c.toNat%16):=a1.get (k:=3) (by simp)
   rw [Xl (by omega),if_pos b0,Xl (by omega),b2,if_neg n1.1,if_neg n1.2,Xl (by omega),b3,if_neg n2.1,if_neg n2.2,KFt t f _ a2 (by omega)]
   omega
  ·by_cases h2:c=39\/c=92
   ·rw [KPR h2]at a1 a2 hl⊢
    simp only [Ef,En]at a2 hl⊢
    obtain⟨f,rfl⟩:∃g,f=g+1:=⟨f - 1,by omega⟩
    rw [Xl (by omega),if_pos a1.here,KFt t f _ a2 (by omega)]
    omega
   ·rw [KW0 h1 h2]at a1 a2 hl⊢
    simp only [Ef,En]at a2 hl⊢
    obtain⟨f,rfl⟩:∃g,f=g+1:=⟨f - 1,by omega⟩
    rw [Xl (by omega),a1.here,if_neg (λe=>h2 (.inr e)),if_neg (λe=>h2 (.inl e)),KFt t f _ a2 (by omega)]
    omega
theorem KM5 (t r:Eb):Wl (J7 t++r)=(J7 t).length:=by
 have ha:At (J7 t++r) 1 (t.flatMap qc++[39]):=by
  show(((t.flatMap qc++[39])++r)).take (t.flatMap qc++[39]).length=_
  exact F7
 unfold Wl
 rw [KFt t _ 1 ha (by omega)]
 simp [J7];omega
theorem KJ1 (n:Int):(∃d,itoa n=d/\d≠[]/\d.all digB=true)\/(∃d,itoa n=45::d/\d≠[]/\d.all digB=true):=by
 unfold itoa
 split
 ·obtain⟨a1,_,a3,_⟩:=KAZ _ n.natAbs (EH _)
  exact .inr ⟨_,rfl,a3,a1⟩
 ·obtain⟨a1,_,a3,_⟩:=KAZ _ n.toNat (EH _)
  exact .inl ⟨_,rfl,a3,a1⟩
theorem KW2 {t:Tkn} (h:tokB t=true) {a:Nat}:tokB {t with a:=(a:Int)}=true:=by
 unfold tokB at h⊢
 rw [Eg,FJ,Ff]at h⊢
 exact⟨⟨Eo (by dsimp only;omega),h.1.2⟩,h.2⟩
theorem KIm {t:Tkn} (h:tokB t=true):(t.k=1/\Gf t.s=true/\t.n=0)\/(t.k=2/\t.s=[])\/(t.k=3/\t.s.length<=128/\t.n=0)\/(t.k=4/\∃c,t.s=[c]/\GL c=true/\t.n=0):=by
 unfold tokB at h
 rw [Eg,FJ,Ff]at h
 obtain⟨⟨_,h2⟩,h3⟩:=h
 have hn:t.k≠2->t.n=0:=λhk=>by
  rw [Ej hk,IR]at h2
  exact EM (λe=>by rw [Ej e]at h2;cases h2)
 split at h3
 ·rename_i hk;exact .inl ⟨hk,h3,hn (by omega)⟩
 split at h3
 ·rename_i hk;exact .inr (.inl ⟨hk,Ec h3⟩)
 split at h3
 ·rename_i hk;exact .inr (.inr (.inl ⟨hk,Ec h3,hn (by omega)⟩))
 split at h3
 ·rename_i hk
  refine .inr (.inr (.inr ⟨hk,?_⟩))
  unfold KIe at h3
  split at h3
  ·rename_i c hc;exact⟨c,hc,h3,hn (by omega)⟩
  ·cases h3
 ·cases h3
theorem Yd {t:Tkn} (h:tokB t=true):tkT t=if t.k=2 then itoa t.n else if t.k=3 then J7 t.s else t.s:=by
 unfold tkT
 rw [h]
 exact if_neg (by decide)
theorem KHX {t:Tkn} (h:tokB t=true):∃c w,tkT t=c::w/\JD c=false/\(t.k=4->KAA c=false):=by
 rw [Yd h]
 rcases KIm h with⟨hk,hs,_⟩|⟨hk,_⟩|⟨hk,_⟩|⟨hk,c,hs,hm,_⟩
 ·rw [if_neg (by omega),if_neg (by omega)]
  match t.s,hs with
  | [],hs=>cases hs
  |c::w,hs=>
   rw [Gg,Eg,Eg]at hs
   exact⟨c,w,rfl,KGi c (.inr (.inl hs.1.2)),λe=>by omega⟩
 ·rw [if_pos hk]
  rcases KJ1 t.n with⟨d,hd,h0,hd2⟩|⟨d,hd,h0,hd2⟩
  ·obtain⟨c,r,rfl⟩:=F8 h0
   rw [EX,Eg]at hd2
   exact⟨c,r,hd,KGi c (.inr (.inr (.inl hd2.1))),λe=>by omega⟩
  ·exact⟨45,d,hd,by decide,λe=>by omega⟩
 ·rw [if_neg (by omega),if_pos hk]
  exact⟨39,_,rfl,by decide,λe=>by omega⟩
 ·rw [if_neg (by omega),if_neg (by omega),hs]
  exact⟨c,[],rfl,KGi c (.inl hm),λ_=>KSJ c (.inl hm)⟩
theorem KW3 {t:Tkn} {r:Eb} (h:tokB t=true) (hn:NumT t) (hr:t.k=1\/t.k=2->∀c,r.head?=some c->KAA c=false):oneP (tkT t++r)=({t with a:=0},(tkT t).length):=by
 rw [Yd h]
 obtain⟨k,s,n,a⟩:=t
 rcases KIm h with⟨hk,hs,h0⟩|⟨hk,hs⟩|⟨hk,hs,h0⟩|⟨hk,c,hs,hm,h0⟩<;>dsimp only at hk hs hr⊢
 ·subst hk
  have h0:n=0:=h0
  subst h0
  rw [if_neg (by decide),if_neg (by decide)]
  match s,hs with
  | [],hs=>cases hs
  |c::w,hs=>
   rw [Gg,Eg,Eg]at hs
   have hw:=KGj (w:=c::w) (r:=r) (λd hd=>EB.1 hs.2 d hd) (hr (.inl rfl))
   rw [Ey]at hw⊢
   rw [YX,if_neg (by rw [(KUO c hs.1.2).1];decide),if_pos (show letB c=true from hs.1.2),hw,<-Ey,F7]
 ·subst hk
  rw [if_pos rfl]
  obtain⟨v,p,hp,hv,hvn⟩:=hn rfl
  dsimp only at hp hvn
  subst hs
  have hrr:=hr (.inr rfl)
  rcases KJ1 n with⟨d,hd,hd0,hd2⟩|⟨d,hd,hd0,hd2⟩
  ·obtain⟨c,w,rfl⟩:=F8 hd0
   rw [hd]at hp⊢
   have hw:=KGj (w:=c::w) (r:=r) (λx hx=>(KLS x (EB.1 hd2 x hx)).1) hrr
   rw [EX,Eg]at hd2
   obtain⟨m1,m2,m3⟩:=KPX c (.inl hd2.1)
   rw [Ey]at hw⊢
   rw [YX,if_neg (by rw [m1];decide),if_neg (by rw [m2];decide),if_neg m3,if_neg (KLS c hd2.1).2,hw]
   rw [KOS (w:=c::w) (by rw [<-Ey,F7]) hp hv,hvn]
  ·rw [hd]at hp⊢
   have hw:=KGj (w:=d) (r:=r) (λx hx=>(KLS x (EB.1 hd2 x hx)).1) hrr
   obtain⟨m1,m2,m3⟩:=KPX 45 (.inr rfl)
   rw [Ey,YX,if_neg (by rw [m1];decide),if_neg (by rw [m2];decide),if_neg m3,if_pos rfl,hw]
   rw [KOS (w:=45::d) (by rw [<-Ey,show 1+d.length=(45::d).length by simp;omega,F7]) hp hv,hvn]
   congr 1
   simp;omega
 ·subst hk
  have h0:n=0:=h0
  subst h0
  rw [if_neg (by decide),if_pos rfl]
  have hc:=KM5 s r
  have hp:ZT (J7 s)=(.mk 2 0 s [],0,0):=by
   rw [<-KOR 0 s []]
   refine KFs ?_ ⟨⟨by decide,by decide⟩,λx hx=>by cases hx⟩
   have hl:s.length<=128:=hs
   simp [mayV,hl]
  have ht:J7 s++r=39::((s.flatMap qc++[39])++r):=rfl
  have htk:(J7 s++r).take (J7 s).length=J7 s:=F7
  rw [ht]at hc htk⊢
  rw [YX,if_neg (by decide),if_neg (by decide),if_pos rfl,hc,KOS (k:=2) htk hp rfl]
  rfl
 ·subst hk
  have h0:n=0:=h0
  subst h0
  subst hs
  rw [if_neg (by decide),if_neg (by decide),Ey,YX,if_pos hm]
  rfl
theorem KSK {s:Eb} {p:Nat} (h0:(oneP s).2≠0) (hb:tokB {(oneP s).1 with a:=(p:Int)}=true):tkT {(oneP s).1 with a:=(p:Int)}=s.take (oneP s).2/\NumT {(oneP s).1 with a:=(p:Int)}:=by
 cases s with
 |nil=>exact absurd rfl h0
 |cons c r=>
  rw [Yd hb]
  clear hb
  rw [YX]at h0⊢
  split at h0
  ·rename_i hm
   rw [if_pos hm]
   exact⟨rfl,λh=>by have h:(4:Int)=2:=h;omega⟩
  split at h0
  ·rename_i hm hl
   rw [if_neg hm,if_pos hl]
   exact⟨rfl,λh=>by have h:(1:Int)=2:=h;omega⟩
  split at h0
  ·rename_i hm hl h39
   rw [if_neg hm,if_neg hl,if_pos h39]
   obtain⟨h1,h2,h3,h4⟩:=KSI h0
   rw [h4]
   refine⟨?_,λh=>by have h:(3:Int)=2:=h;omega⟩
   dsimp only
   rw [if_neg (by decide),if_pos rfl]
   refine Eq.trans ?_ h3
   generalize(ZT _).1=v at h2⊢
   obtain⟨k,n,s,l⟩:=v
   have h2:k=2:=h2
   subst h2
   exact(KOR _ _ _).symm
  ·rename_i hm hl h39
   rw [if_neg hm,if_neg hl,if_neg h39]
   obtain⟨h1,h2,h3,h4⟩:=KSI h0
   rw [h4]
   dsimp only
   generalize hq:ZT _=q at h1 h2 h3⊢
   obtain⟨⟨k,n,ss,l⟩,p,e⟩:=q
   have h2:k=1:=h2
   have h1:e=0:=h1
   subst h2
   subst h1
   dsimp only at h3⊢
   rw [KOQ]at h3
   rw [if_pos rfl,show(Vl.mk 1 n ss l).n=n from rfl,h3]
   exact⟨rfl,λ_=>⟨_,_,by dsimp only;rw [h3];exact hq,rfl,rfl⟩⟩
theorem KM6 {s:Eb} {a:Nat} {sep w:Eb} (hd:s.drop a=sep++w) (hs:∀c∈sep,JD c=true) (hw:∀c,w.head?=some c->JD c=false):JN s a=a+sep.length:=by
 unfold JN
 rw [hd,List.takeWhile_append_of_pos hs,List.length_append]
 cases w with
 |nil=>rfl
 |cons c w=>rw [FC (by rw [hw c rfl];decide)];rfl
theorem KUP {s:Eb} {a:Nat} {sep r:Eb} {t:Tkn} (hd:s.drop a=sep++(tkT t++r)) (hs:∀c∈sep,JD c=true) (h:tokB t=true) (hn:NumT t) (hr:t.k=1\/t.k=2->∀c,r.head?=some c->KAA c=false):
  Xp s a=some ({t with a:=((a+sep.length:Nat):Int)},a+sep.length+(tkT t).length):=by
 obtain⟨c,w,hc,hb,_⟩:=KHX h
 have hsk:=KM6 hd hs (by rw [hc];rintro d hd;cases hd;exact hb)
 have hd2:s.drop (a+sep.length)=tkT t++r:=by rw [<-FV,hd,Is]
 have hlt:a+sep.length<s.length:=by
  have:=Ew List.length hd2
  rw [Ex,hc]at this
  simp only [Ey,Ef]at this
  omega
 unfold Xp
 rw [hsk,if_pos hlt,hd2,KW3 h hn hr]
 dsimp only
 rw [if_neg (λe=>e.elim (λe=>by rw [hc]at e;cases e) (λe=>by rw [KW2 h]at e;cases e))]
def keyT (t:Tkn):Int×Eb×Int:=(t.k,t.s,t.n)
theorem KIn {s:Eb} {a a':Nat} {t:Tkn} (ha:a<=s.length) (h:Xp s a=some (t,a')):
  ∃p:Nat,t.a=(p:Int)/\a<=p/\tokB t=true/\NumT t/\tkT t≠[]/\(s.drop p).take (tkT t).length=tkT t/\a'=p+(tkT t).length/\p+(tkT t).length<=s.length/\((s.drop a).take (p - a)).all JD=true:=by
 have hsk:=KFq ha
 have hol:=KLI (s.drop (JN s a))
 rw [Ex]at hol
 have hbl:((s.drop a).take (JN s a - a)).all JD=true:=by
  unfold JN
  rw [Oq,show((s.drop a).take ((s.drop a).takeWhile JD).length)=(s.drop a).takeWhile JD from(List.prefix_iff_eq_take.1 (List.takeWhile_prefix _)).symm]
  exact List.all_takeWhile
 unfold Xp at h
 split at h
 ·split at h
  ·cases h
  ·rename_i h0 h1
   cases h
   have ho:(oneP (s.drop (JN s a))).2≠0:=λe=>h1 (.inl e)
   have hb:tokB {(oneP (s.drop (JN s a))).1 with a:=(JN s a:Int)}=true:=by
    cases hh:tokB {(oneP (s.drop (JN s a))).1 with a:=(JN s a:Int)}with
    |true=>rfl
    |false=>exact absurd (.inr hh) h1
   obtain⟨hx,hn⟩:=KSK ho hb
   have hl:(tkT {(oneP (s.drop (JN s a))).1 with a:=(JN s a:Int)}).length=(oneP (s.drop (JN s a))).2:=by
    rw [hx,EI,Ex];omega
   refine⟨JN s a,rfl,hsk.1,hb,hn,λe=>by rw [e]at hl;exact ho hl.symm,?_,by rw [hl],by rw [hl];omega,hbl⟩
   rw [hl,hx]
 ·cases h
theorem KM7 {s:Eb}:∀(f a:Nat),a<=s.length->s.length - a<f->∀t∈(allT s a).1,tokB t=true/\NumT t
 |0,a,ha,hf=>by omega
 |f+1,a,ha,hf=>by
  cases hn:Xp s a with
  |none=>rw [XJ hn];intro t ht;cases ht
  |some p=>
   obtain⟨t,a'⟩:=p
   have hlt:=N5 ha hn
   rw [XK ha hn]
   intro x hx
   rcases ED.1 hx with rfl|hx
   ·obtain⟨_,_,_,h1,h2,_⟩:=KIn ha hn
    exact⟨h1,h2⟩
   ·exact KM7 f a' hlt.2 (by omega) x hx
end Gx
namespace Gx
open Go Go.Proofs Go.Shelf Go.RowKit Go.Lib
def lexP (s:Eb):List Tkn×Nat×Int:=
 if 16384<s.length then([],0,3)else
  match(allT s 0).1[4096]? with
  |some t=>([],t.a.toNat,3)
  |none=>if(allT s 0).2<s.length then([],(allT s 0).2,150)else((allT s 0).1,s.length,0)
theorem KSL {s:Eb}:∀(f a:Nat),a<=s.length->s.length - a<f->(allT s a).2<=s.length
 |0,a,ha,hf=>by omega
 |f+1,a,ha,hf=>by
  cases hn:Xp s a with
  |none=>rw [XJ hn];exact(KFq ha).2
  |some p=>
   obtain⟨t,a'⟩:=p
   have hlt:=N5 ha hn
   rw [XK ha hn]
   exact KSL f a' hlt.2 (by omega)
theorem KLT (s:Eb):(allT s 0).2<=s.length:=KSL _ 0 (El _) (EH _)
theorem KJ2 (s:Eb):∀t∈(allT s 0).1,tokB t=true/\NumT t:=KM7 _ 0 (El _) (EH _)
theorem KW4 {s:Eb} (h:(lexP s).2.2=0):s.length<=16384/\lexP s=((allT s 0).1,s.length,0)/\(allT s 0).1.length<=4096/\(allT s 0).2=s.length:=by
 have hle:=KLT s
 unfold lexP at h⊢
 split at h
 ·have h:(3:Int)=0:=h
  omega
 ·rename_i h1
  rw [if_neg h1]
  split at h
  ·have h:(3:Int)=0:=h
   omega
  ·rename_i h2
   split at h
   ·have h:(150:Int)=0:=h
    omega
   ·rename_i h3
    rw [if_neg h3]
    refine⟨by omega,rfl,?_,by omega⟩
    have:=List.getElem?_eq_none_iff.1 h2
    omega
theorem KSM {s:Eb} (h1:s.length<=16384) (h2:(allT s 0).1.length<=4096) (h3:(allT s 0).2=s.length):lexP s=((allT s 0).1,s.length,0):=by
 unfold lexP
 rw [if_neg (by omega),EK h2]
 dsimp only
 rw [if_neg (by omega)]
end Gx
namespace Gx
open Go
theorem KW5 {s:Eb} {b c a:Nat} (ha:a<=s.length) (hs:s.length<=1099511627776) (hb:b≠gER):
  SeqT Tryz.prog (allT s a).1 (.func (.func Yi) #[] #[.pointer (some ⟨c,0,none⟩)]) b (λh1=>ErrV h1/\h1[c]?=some (.cells #[.pointer (some ⟨b,0,none⟩)] NQ (0,0))) (NI s a) (λh1=>h1[b]?=some (NI s (allT s a).2)):=
 λl Inv Stop h hU hC g h0 hround=>KaG ha hs hb hU hC g h0 hround
theorem KSN {β:Type} {lo n:Nat} {h:Heap} {Q:β->Heap->Prop} {r:Sl} {ts:List Tkn} {t:Tkn} {f:Sl->M β} (G:Gw lo h r 4 (JC (tks ts))) (hlo:lo<=h.size) (hm:ts.length<=1099511627776) (hn:h[n]?=some (.cells t.cells KL (0,0)))
  (H:∀h' r',Gw lo h' r' 4 (JC (tks (ts++[t])))->h.size<=h'.size->(∀i,i<h.size->¬Sl.on r i->h'[i]?=h[i]?)->(f r').wp h' Q):(ldG 4 ⟨n,0,none⟩>>=λx=>Xs 4 1 (#[.int .i64 0,.string ByteArray.empty,.int .i64 0,.int .i64 0]:Ea) [(0,.agg x)]>>=λy=>bdL KL 1 y>>=λz=>apL KL 4 40 (#[.int .i64 0,.string ByteArray.empty,.int .i64 0,.int .i64 0]:Ea) r z>>=f).wp h Q:=by
 refine ldR hn rfl (zD rfl (KAz ?_))
 have e6:=Ext.push h (.cells t.cells KL)
 have g6:(h.push (.cells t.cells KL))[h.size]?=some (.cells t.cells KL (0,0)):=Kx
 generalize h.push (.cells t.cells KL)=h6 at e6 g6⊢
 have G6:=G.ext e6
 have hrl:=G6.len
 rw [XH (KR6 ts),KGg]at hrl
 have hs6:=e6.size
 have hnew:JC (tks [t])=t.cells.toList:=by simp [JC,tks]
 refine KGA (vs:=JC (tks ts)) (news:=JC (tks [t])) rfl G6 (by rw [hnew];rfl) (.inr ⟨_,rfl,λj v hj=>?_⟩) (λv hv=>Yc t v (by rw [hnew]at hv;exact hv)) (by dsimp only;omega) (by dsimp only;omega) (by omega) (λh7 r7 G7 hlen7 hs7 same7 on7=>?_)
 ·rw [KM,EC,KF g6]
  rw [hnew]at hj
  simpa using hj
 ·refine H h7 r7 ?_ (by omega) (λi hi ho=>(same7 i (by omega) ho).trans (e6.same i hi))
  rw [KWx]
  unfold JC at G7⊢
  rw [Ij]
  exact G7
structure LxJ (hA:Heap) (c b n6:Nat) (t6:TypeId) (ts:List Tkn) (h:Heap):Prop where
 size:hA.size+2<=h.size
 same:∀i,i<hA.size->i≠b->i≠n6->h[i]?=hA[i]?
 df:h[hA.size]?=some (.deferred (some []))
 c6:∃r,h[n6]?=some (.cells #[r.v] t6 (0,0))/\Gw (hA.size+2) h r 4 (JC (tks ts))
theorem LxJ.km {hA:Heap} {c b n6 k:Nat} {t6:TypeId} {ts:List Tkn} {h h':Heap} (J:LxJ hA c b n6 t6 ts h) (u:Kb k h h') (hk:k=b\/k=hA.size+1) (h6:n6<hA.size) (hb6:b≠n6) (hb:b<hA.size):LxJ hA c b n6 t6 ts h':=by
 obtain⟨r,c6,G⟩:=J.c6
 have hz:=J.size
 exact⟨by have:=u.size;omega,λi hi hib hi6=>(u.same i (by omega) (by omega)).trans (J.same i hi hib hi6),u.blk J.df (by omega),⟨r,u.blk c6 (by omega),G.same (λi hi=>u.same i (G.lt hi).1 (by have:=(G.lt hi).2;omega))⟩⟩
theorem Upd.kb {k:Nat} {h h':Heap} (u:Upd k h h'):Kb k h h':=Km.upd u rfl
theorem KZA {p:UInt8->Bool}:∀l:Eb,(l.dropWhile p).takeWhile p=[]
 | []=>rfl
 |c::l=>by
  cases h:p c with
  |true=>rw [Ia h];exact KZA l
  |false=>rw [Ib (by rw [h];decide),FC (by rw [h];decide)]
theorem KSO {p:UInt8->Bool}:∀l:Eb,l.drop (l.takeWhile p).length=l.dropWhile p
 | []=>rfl
 |c::l=>by
  cases h:p c with
  |true=>rw [Ia h,IJ h,Ef,OE];exact KSO l
  |false=>rw [Ib (by rw [h];decide),FC (by rw [h];decide)];rfl
theorem KQo (s:Eb) (a:Nat):JN s (JN s a)=JN s a:=by
 have hd:s.drop (JN s a)=(s.drop a).dropWhile JD:=by
  unfold JN
  rw [<-FV,KSO]
 have:((s.drop (JN s a)).takeWhile JD).length=0:=by rw [hd,KZA];rfl
 show JN s a+((s.drop (JN s a)).takeWhile JD).length=JN s a
 omega
theorem KM8 {s:Eb}:∀(f a:Nat),a<=s.length->s.length - a<f->JN s (allT s a).2=(allT s a).2
 |0,a,ha,hf=>by omega
 |f+1,a,ha,hf=>by
  cases hn:Xp s a with
  |none=>rw [XJ hn];exact KQo s a
  |some p=>
   obtain⟨t,a'⟩:=p
   have hlt:=N5 ha hn
   rw [XK ha hn]
   exact KM8 f a' hlt.2 (by omega)
theorem KPY {n2 n3 n4:Nat} {t2 t3 t4:TypeId} {ds:List Nat} {v2:Sl} {v3 v4:Int} {h:Heap} {Q:Sl×Int×Int->Heap->Prop}
  (g2:h[n2]?=some (.cells #[v2.v] t2 (0,0))) (g3:h[n3]?=some (.cells #[.int .i64 v3] t3 (0,0))) (g4:h[n4]?=some (.cells #[.int .i64 v4] t4 (0,0)))
  (hd:ds=[]\/∃d,ds=[d]/\h[d]?=some (.deferred (some []))/\n2≠d/\n3≠d/\n4≠d)
  (H:∀h',h'.size=h.size->(∀i,(∀d∈ds,i≠d)->h'[i]?=h[i]?)->Q (v2,v3,v4) h'):
  (shut ds>>=λ_=>ldL ⟨n2,0,none⟩>>=λa=>ldI .i64 ⟨n3,0,none⟩>>=λb=>ldI .i64 ⟨n4,0,none⟩>>=λc=>(M.pure (a,b,c):M (Sl×Int×Int))).wp h Q:=by
 rcases hd with rfl|⟨d,rfl,gd,e2,e3,e4⟩
 ·exact Kn (oneC g2) (KV (oneC g3) (KV (oneC g4) (KA (H h rfl (λ_ _=>rfl)))))
 ·refine⟨gd,?_⟩
  have u:=Upd.set_ h d (.deferred none)
  exact Kn (oneC ((u.ne _ e2).trans g2)) (KV (oneC ((u.ne _ e3).trans g3)) (KV (oneC ((u.ne _ e4).trans g4)) (KA (H _ u.size (λi hi=>u.ne i (hi d (by simp)))))))
def KZB (c2 c3 c4 c6:Addr):Addr->M Nat:=λXx26=>do
  let Xx30<-ldL c6
  M.ite ((Xx30.len:Int)==4096) (do
   let Xx32<-ldI .i64 ((Xx26).add 3)
   stV c2 ((Sl.nil:Sl).v)
   chk (λh:Heap=>(KJ h ((Xx26).add 3)=some (.int .i64 Xx32)))
   stV c3 (.int .i64 Xx32)
   stV c4 (.int .i64 3)
   M.pure 1
   ) (do
   let Xx36<-ldL c6
   let Xx37<-ldG 4 Xx26
   let y_39<-Xs 4 1 (#[.int .i64 0,.string ByteArray.empty,.int .i64 0,.int .i64 0]:Ea) [(0,.agg Xx37)]
   let Xx38<-bdL KL 1 y_39
   let Xx40<-apL KL 4 40 (#[.int .i64 0,.string ByteArray.empty,.int .i64 0,.int .i64 0]:Ea) Xx36 Xx38
   stV c6 ((Xx40:Sl).v)
   M.pure 0
   )
structure LxE (h0 hA:Heap) (n2 n3 n4:Nat) (v3:Int) (h:Heap):Prop where
 size:hA.size+2<=h.size
 same:∀i,i<h0.size->h[i]?=h0[i]?
 df:h[hA.size]?=some (.deferred (some []))
 g2:h[n2]?=some (.cells #[(Sl.nil:Sl).v] Vy (0,0))
 g3:h[n3]?=some (.cells #[.int .i64 v3] WS (0,0))
 g4:h[n4]?=some (.cells #[.int .i64 3] zF (0,0))
theorem KUQ {s:Eb} {h:Heap} {Q:Sl×Int×Int->Heap->Prop} (he:ErrV h)
  (H:∀h' r,Ext h h'->TkR h' r (lexP s).1->r.len<=r.cap->Q (r,((lexP s).2.1:Int),(lexP s).2.2) h'):(KIA (bs s)).wp h Q:=by
 unfold KIA
 refine Kw (λh1 e1 s1 g1=>Kw (λh2 e2 s2 g2=>Kw (λh3 e3 s3 g3=>?_)))
 rw [Ke]
 have hER:gER<h.size:=by obtain⟨t,p,hc⟩:=he;exact N3 hc
 have E3:=(e1.trans e2).trans e3
 have n1:h3[h.size]?=some (.cells #[.slice none 0 0] Vy (0,0)):=e3.blk (e2.blk g1)
 have n2:=e3.blk g2
 refine KH (λhlong=>?_) (λhshort=>?_)
 ·unfold lexP at H
  rw [if_pos (by have:=Ec hlong;omega)]at H
  refine stO n1 (KC8 _) (λh4 u4 k1=>stO ((u4.ne _ (by omega)).trans n2) rfl (λh5 u5 k2=>stO ((u5.ne _ (by omega)).trans ((u4.ne _ (by omega)).trans g3)) rfl (λh6 u6 k3=>?_)))
  have k1':=(u6.ne _ (by omega)).trans ((u5.ne _ (by omega)).trans k1)
  have k2':=(u6.ne _ (by omega)).trans k2
  exact KPY (v2:=Sl.nil) k1' k2' k3 (.inl rfl) (λh' hz hsame=>H h' Sl.nil ⟨by rw [hz,u6.size,u5.size,u4.size];exact E3.size,λi hi=>(hsame i (λd hd=>by cases hd)).trans ((u6.ne _ (by omega)).trans ((u5.ne _ (by omega)).trans ((u4.ne _ (by omega)).trans (E3.same i hi))))⟩ (TkR.nil _) (Ee _))
 ·have hshort:=Ed hshort
  have hsl:s.length<=16384:=by omega
  have hs:s.length<=1099511627776:=by omega
  refine Kw (λh4 e4 s4 g4=>Kw (λh5 e5 s5 g5=>?_))
  unfold qN
  refine KR (Kw (λhA eA sA gA=>KZ ?_))
  have E5:=(E3.trans e4).trans e5
  have EA:=E5.trans eA
  obtain⟨al,hal⟩:∃al,al=allT s 0:=⟨_,rfl⟩
  have gb:hA[h3.size]?=some (NI s 0):=eA.blk (e5.blk g4)
  have hle:=KLT s
  have hskp:=KM8 _ 0 (El s.length) (EH _)
  have heA:=he.ext EA
  have m1:hA[h.size]?=some (.cells #[.slice none 0 0] Vy (0,0)):=((e4.trans e5).trans eA).blk n1
  have m2:=((e4.trans e5).trans eA).blk n2
  have m3:=((e4.trans e5).trans eA).blk g3
  have m6:=eA.blk g5
  refine KD (KaH (Yb:=KZB ⟨h.size,0,none⟩ ⟨h1.size,0,none⟩ ⟨h2.size,0,none⟩ ⟨h4.size,0,none⟩) (λl x=>rfl) (c:=.ret) rfl (λl hh=>by cases hh) (ts:=(allT s 0).1) (b:=h3.size)
   (λi h'=>i<=4096/\LxJ hA h5.size h3.size h4.size Vy ((allT s 0).1.take i) h')
   (λh'=>∃t,(allT s 0).1[4096]?=some t/\LxE h hA h.size h1.size h2.size t.a h') ?_ ?_ ?_ ?_ ?_ gb (KW5 (c:=h5.size) (El _) hs (by omega)) ?_ ?_ ?_ ?_)
  ·exact λi h' h'' hj u=>⟨hj.1,hj.2.km u.kb (.inr rfl) (by omega) (by omega) (by omega)⟩
  ·rintro h' h'' ⟨t,ht,hj⟩ u
   exact⟨t,ht,by rw [u.size];exact hj.size,λi hi=>(u.ne _ (by omega)).trans (hj.same i hi),(u.ne _ (by omega)).trans hj.df,(u.ne _ (by omega)).trans hj.g2,(u.ne _ (by omega)).trans hj.g3,(u.ne _ (by omega)).trans hj.g4⟩
  ·exact λh' h'' hj u=>(u.ne _ (by omega)).trans hj
  ·exact λi h' h'' hj hz u=>⟨hj.1,hj.2.km u (.inl rfl) (by omega) (by omega) (by omega)⟩
  ·rintro i h' ⟨_,hj⟩
   refine⟨?_,(hj.same _ (by omega) (by omega) (by omega)).trans gA⟩
   obtain⟨t,p,hc⟩:=heA
   refine⟨t,p,?_⟩
   unfold KJ at hc⊢
   rw [show(⟨gER,0,none⟩:Addr).block=gER from rfl]at hc⊢
   rw [hj.same gER (by omega) (by omega) (by omega)]
   exact hc
  ·intro r
   have e7:Ext hA ((hA.push (.deferred (some []))).push (KAJ r .ready none)):=(Ext.push _ _).pushed _
   exact⟨El _,by simp,λi hi _ _=>e7.same i hi,by rw [qG (by simp)];exact Kx,⟨Sl.nil,e7.blk m6,Gw.nil _ _ _⟩⟩
  ·rintro i hi h' o n ⟨him,J⟩ hn hnl ho
   obtain⟨r,c6,G⟩:=J.c6
   have hrl:=G.tkR.1
   rw [EI,FZ (by omega)]at hrl
   have hz:=J.size
   unfold KZB
   refine Kn (oneC c6) (KH (λhc=>?_) (λhc=>?_))
   ·rw [eqI]at hc
    have hc:=Ec hc
    obtain rfl:i=4096:=by omega
    have q1:=(J.same h.size (by omega) (by omega) (by omega)).trans m1
    have q2:=(J.same h1.size (by omega) (by omega) (by omega)).trans m2
    have q3:=(J.same h2.size (by omega) (by omega) (by omega)).trans m3
    refine KV (n:=((allT s 0).1[4096]).a) (by rw [KM,KF hn];rfl) (stO q1 (KC8 _) (λh6 u6 k1=>qE (by rw [KM,KF ((u6.ne n (by omega)).trans hn)];rfl) (stO ((u6.ne _ (by omega)).trans q2) rfl (λh7 u7 k2=>stO ((u7.ne _ (by omega)).trans ((u6.ne _ (by omega)).trans q3)) rfl (λh8 u8 k3=>KA ?_)))))
    have keep:∀k,k≠h.size->k≠h1.size->k≠h2.size->h8[k]?=h'[k]?:=λk a1 a2 a3=>(u8.ne k a3).trans ((u7.ne k a2).trans (u6.ne k a1))
    refine⟨(keep _ (by omega) (by omega) (by omega)).trans ho,keep _ (by omega) (by omega) (by omega),.inr ⟨rfl,(allT s 0).1[4096],Em hi,by rw [u8.size,u7.size,u6.size];exact hz,λk hk=>(keep k (by omega) (by omega) (by omega)).trans ((J.same k (by have:=EA.size;omega) (by have:=E3.size;omega) (by have:=(E3.trans e4).size;omega)).trans (EA.same k hk)),(keep _ (by omega) (by omega) (by omega)).trans J.df,(u8.ne _ (by omega)).trans ((u7.ne _ (by omega)).trans k1),(u8.ne _ (by omega)).trans k2,k3⟩⟩
   ·rw [eqI]at hc
    have hc:=Ed hc
    refine Kn (oneC c6) (KSN G (by omega) (by rw [EI];omega) hn (λh6 r6 G6 hs6 same6=>?_))
    have hG:∀{k:Nat},Sl.on r k->k<h'.size/\hA.size+2<=k:=λho=>G.lt ho
    have nn:∀k,k<hA.size+2->¬Sl.on r k:=λk hk ho=>by have:=(hG ho).2;omega
    have c6':=(same6 _ (by omega) (nn h4.size (by omega))).trans c6
    refine stO c6' (KC8 _) (λh7 u7 k6=>KA ?_)
    have keep:∀k,k<hA.size+2->k≠h4.size->h7[k]?=h'[k]?:=λk hk hk6=>(u7.ne k hk6).trans (same6 k (by omega) (nn k hk))
    refine⟨(keep _ (by omega) (by omega)).trans ho,keep _ (by omega) (by omega),.inl ⟨rfl,by omega,by rw [u7.size];omega,λk hk hkb hk6=>(keep k (by omega) hk6).trans (J.same k hk hkb hk6),(keep _ (by omega) (by omega)).trans J.df,⟨r6,k6,?_⟩⟩⟩
    rw [Et hi]
    exact G6.same (λk hk=>u7.ne k (by have:=(G6.lt hk).2;omega))
  ·rintro h' ⟨him,J⟩ hend
   refine iteF rfl (KD (KIg hend hle hs (λh6 u6 k6=>?_)))
   rw [hskp]at k6⊢
   obtain⟨r,c6,G⟩:=J.c6
   rw [ER]at G
   have hz:=J.size
   have nn:∀k,k<hA.size+2->¬Sl.on r k:=λk hk ho=>by have:=(G.lt ho).2;omega
   have q1:=(u6.ne h.size (by omega)).trans ((J.same h.size (by omega) (by omega) (by omega)).trans m1)
   have q2:=(u6.ne h1.size (by omega)).trans ((J.same h1.size (by omega) (by omega) (by omega)).trans m2)
   have q3:=(u6.ne h2.size (by omega)).trans ((J.same h2.size (by omega) (by omega) (by omega)).trans m3)
   have qd:=(u6.ne hA.size (by omega)).trans J.df
   have hnone:(allT s 0).1[4096]?=none:=EK him
   unfold lexP at H
   rw [if_neg (by omega),hnone]at H
   dsimp only at H
   refine KH (λhlt=>?_) (λhge=>?_)
   ·rw [if_pos (Ec hlt)]at H
    refine Kc (KV (KHP k6) (stO q1 (KC8 _) (λh7 u7 k1=>qE (KHP ((u7.ne _ (by omega)).trans k6)) (stO ((u7.ne _ (by omega)).trans q2) rfl (λh8 u8 k2=>stO ((u8.ne _ (by omega)).trans ((u7.ne _ (by omega)).trans q3)) rfl (λh9 u9 k3=>?_))))))
    have keep:∀k,k≠h3.size->k≠h.size->k≠h1.size->k≠h2.size->h9[k]?=h'[k]?:=λk a0 a1 a2 a3=>(u9.ne k a3).trans ((u8.ne k a2).trans ((u7.ne k a1).trans (u6.ne k a0)))
    exact KPY (v2:=Sl.nil) ((u9.ne _ (by omega)).trans ((u8.ne _ (by omega)).trans k1)) ((u9.ne _ (by omega)).trans k2) k3 (.inr ⟨hA.size,rfl,(keep _ (by omega) (by omega) (by omega) (by omega)).trans J.df,by omega,by omega,by omega⟩)
     (λh' hz' hsame=>H h' Sl.nil ⟨by rw [hz',u9.size,u8.size,u7.size,u6.size];have:=EA.size;omega,λi hi=>(hsame i (λd hd=>by have:=EA.size;simp at hd;omega)).trans ((keep i (by have:=E3.size;omega) (by omega) (by omega) (by omega)).trans ((J.same i (by have:=EA.size;omega) (by have:=E3.size;omega) (by have:=(E3.trans e4).size;omega)).trans (EA.same i hi)))⟩ (TkR.nil _) (Ee _))
   ·rw [if_neg (Ed hge)]at H
    have q6:=(u6.ne h4.size (by omega)).trans c6
    refine Kn (oneC q6) (stO q1 (KC8 _) (λh7 u7 k1=>stO ((u7.ne _ (by omega)).trans q2) rfl (λh8 u8 k2=>stO ((u8.ne _ (by omega)).trans ((u7.ne _ (by omega)).trans q3)) rfl (λh9 u9 k3=>?_))))
    have keep:∀k,k≠h3.size->k≠h.size->k≠h1.size->k≠h2.size->h9[k]?=h'[k]?:=λk a0 a1 a2 a3=>(u9.ne k a3).trans ((u8.ne k a2).trans ((u7.ne k a1).trans (u6.ne k a0)))
    exact KPY (v2:=r) ((u9.ne _ (by omega)).trans ((u8.ne _ (by omega)).trans k1)) ((u9.ne _ (by omega)).trans k2) k3 (.inr ⟨hA.size,rfl,(keep _ (by omega) (by omega) (by omega) (by omega)).trans J.df,by omega,by omega,by omega⟩)
     (λh'' hz' hsame=>H h'' r ⟨by rw [hz',u9.size,u8.size,u7.size,u6.size];have:=EA.size;omega,λi hi=>(hsame i (λd hd=>by have:=EA.size;simp at hd;omega)).trans ((keep i (by have:=E3.size;omega) (by omega) (by omega) (by omega)).trans ((J.same i (by have:=EA.size;omega) (by have:=E3.size;omega) (by have:=(E3.trans e4).size;omega)).trans (EA.same i hi)))⟩
      (G.same (λk hk=>by have:=(G.lt hk).2;exact(hsame k (λd hd=>by simp at hd;omega)).trans (keep k (by omega) (by omega) (by omega) (by omega)))).tkR G.cap)
  ·rintro h' ⟨t,ht,J⟩
   unfold lexP at H
   rw [if_neg (by omega),ht]at H
   dsimp only at H
   have hta:((t.a.toNat:Nat):Int)=t.a:=by
    obtain⟨hi,hte⟩:=Fj.1 ht
    have:=(KJ2 s t (hte▸EJ hi)).1
    have:¬t.a<0:=λhneg=>by
     unfold tokB at this
     rw [Ej hneg]at this
     simp at this
    omega
   rw [hta]at H
   exact iteT rfl (KPY (v2:=Sl.nil) J.g2 J.g3 J.g4 (.inr ⟨hA.size,rfl,J.df,by omega,by omega,by omega⟩)
    (λh'' hz' hsame=>H h'' Sl.nil ⟨by rw [hz'];have:=J.size;have:=EA.size;omega,λi hi=>(hsame i (λd hd=>by have:=EA.size;simp at hd;omega)).trans (J.same i hi)⟩ (TkR.nil _) (Ee _)))
end Gx
namespace Gx
open Go Go.Proofs Go.Shelf Go.RowKit Go.Lib
def negB (t:Eb):Bool:=decide (t.head?=some 45)
def topN (t:Eb):Nat:=if negB t=true then 9223372036854775808 else 9223372036854775807
def sgnV (t:Eb):Int:=if negB t=true then -(dcv 0 (numD t):Int)else(dcv 0 (numD t):Int)
theorem KM9 {M:Nat} (hM:M<18446744073709551616) {l:Eb} (h:l.all digB=true):parseUintM M 0 l=if dcv 0 l<=M then .ok (dcv 0 l)else .range:=by
 split
 ·rename_i hv;exact KFr M hM l 0 h hv
 ·rename_i hv
  have h1:=KGc M l 0 h
  cases hp:parseUintM M 0 l with
  |ok u=>
   have:=KBo M l 0 u hp
   exact absurd (this.1▸this.2 (El _)) hv
  |range=>rfl
  |_=>rw [hp]at h1;cases h1
theorem KSP {t:Eb} (h1:numD t≠[]) (h2:(numD t).all digB=true):Lib.parseIntB 64 t=if dcv 0 (numD t)<=topN t then .ok (sgnV t)else .range:=by
 have e63:(2:Nat)^(64 - 1)=9223372036854775808:=by decide
 have e64:(2:Nat)^64 - 1=18446744073709551615:=by decide
 cases t with
 |nil=>exact absurd rfl h1
 |cons c r=>
  by_cases h45:c=45
  ·subst h45
   have hD:numD (45::r)=r:=rfl
   have hN:negB (45::r)=true:=rfl
   unfold topN sgnV
   rw [hD]at h1 h2⊢
   rw [if_pos hN,if_pos hN]
   unfold parseIntB
   dsimp only
   rw [if_pos (by right;rfl)]
   unfold parseUintB
   rw [if_neg h1,e64,KM9 (by decide) h2,e63]
   have h45:(45:UInt8).toNat=45:=rfl
   by_cases hb:dcv 0 r<=18446744073709551615
   ·rw [if_pos hb]
    dsimp only
    rw [if_neg (λhh=>hh.1 h45)]
    by_cases hv:dcv 0 r<=9223372036854775808
    ·rw [if_pos hv,if_neg (λhh=>by have:=hh.2;omega),if_pos h45]
    ·rw [if_neg hv,if_pos ⟨h45,by omega⟩]
   ·rw [if_neg hb,if_neg (by omega)]
  ·have hD:numD (c::r)=c::r:=by unfold numD;rw [FL,if_neg (by simpa using h45)]
   have hN:negB (c::r)=false:=by unfold negB;rw [FL];exact Eo (by simpa using h45)
   unfold topN sgnV
   rw [hD]at h1 h2⊢
   rw [hN,if_neg Bool.false_ne_true,if_neg Bool.false_ne_true]
   have hc:digB c=true:=by rw [EX,Eg]at h2;exact h2.1
   unfold digB at hc
   rw [Eg,Ei,Ei]at hc
   unfold parseIntB
   dsimp only
   rw [if_neg (by omega)]
   unfold parseUintB
   rw [if_neg h1,e64,KM9 (by decide) h2,e63]
   by_cases hb:dcv 0 (c::r)<=18446744073709551615
   ·rw [if_pos hb]
    dsimp only
    by_cases hv:dcv 0 (c::r)<=9223372036854775807
    ·rw [if_pos hv,if_neg (λhh=>by have:=hh.2;omega),if_neg (λhh=>by have:=hh.1;omega),if_neg (by omega)]
    ·rw [if_neg hv,if_pos ⟨by omega,by omega⟩]
   ·rw [if_neg hb,if_neg (by omega)]
theorem KOT (t:Eb):numP t=if numD t=[]then(0,10)else if(numD t).all digB=false then(0,10)else if(numD t).head?=some 48/\t≠[48]then(0,10)
  else if dcv 0 (numD t)<=topN t then(sgnV t,0)else(0,7):=by
 unfold numP
 split
 ·rfl
 rename_i h1
 split
 ·rfl
 rename_i h2
 split
 ·rfl
 rw [KSP h1 (by cases hh:(numD t).all digB with|true=>rfl|false=>exact absurd hh h2)]
 by_cases hv:dcv 0 (numD t)<=topN t
 ·rw [if_pos hv,if_pos hv]
 ·rw [if_neg hv,if_neg hv]
theorem KSQ {c:UInt8} (h:digB c=true):48<=c.toNat/\c.toNat<=57:=by
 unfold digB at h
 rwa [Eg,Ei,Ei]at h
theorem KUR {l:Eb} {k:Nat} (hk:k<l.length):dcv 0 (l.take (k+1))=dcv 0 (l.take k)*10+((l[k]).toNat - 48):=by
 rw [Et hk,KLK]
theorem KW6 (l r:Eb) (acc:Nat):dcv acc (l++r)=dcv (dcv acc l) r:=by unfold dcv;rw [List.foldl_append]
theorem KUS {h:Heap} {Q:Int->Heap->Prop} {neg:Bool} {u:Nat} (hu:u<=9223372036854775808) (hn:neg=false->u<=9223372036854775807) (H:Q (if neg=true then -(u:Int)else(u:Int)) h):(VL neg (u:Int)).wp h Q:=by
 unfold VL
 cases neg with
 |true=>
  refine iteT rfl (KA ?_)
  rw [show IntKind.wrap .i64 (IntKind.wrap .u64 (0 - (u:Int)))=-(u:Int) by rw [IntKind.wrap_i64,IntKind.wrap_u64];omega]
  exact H
 |false=>
  have:=hn rfl
  refine iteF rfl (KA ?_)
  rw [w64 (by omega) (by omega)]
  exact H
theorem KJ3 {t:Eb} {h:Heap} {Q:Int×Int->Heap->Prop} (ht:t.length<=1099511627776) (H:Q (numP t) h):(Uc (bs t)).wp h Q:=by
 unfold Uc
 rw [Ke]
 have hj1:∀(d:Eb),d=numD t->(UJ (negB t) (bs d)).wp h Q:=by
  intro d hd
  have hdl:d.length<=t.length:=by rw [hd];unfold numD;split<;>simp
  unfold UJ
  rw [show(ByteArray.empty:ByteArray)=bs []from rfl,KC4]
  refine or_b (c:=decide (d.head?=some 48/\t≠[48])) (λhne Q' hq=>?_) ?_
  ·have hne:d≠[]:=Ed hne
   have hl:0<d.length:=Fl.2 hne
   refine VX (i:=0) rfl hl ?_
   have h0:d.head?=some d[0]:=by rw [Ir,Em hl]
   refine Jp (c:=decide (t≠[48])) (λh48 Q2 hq2=>?_) (KA ?_)
   ·rw [KRp,Ei]at h48
    rw [Ke]
    refine or_b (c:=negB t) (λ_ Q3 hq3=>KA hq3) (KA ?_)
    have e:(decide ((d.length:Int)>1)||negB t)=decide (t≠[48]):=by
     rw [EZ,EO,Ei,Ei]
     unfold negB
     rw [Ei]
     constructor
     ·rintro(h1|h1) e
      ·subst e
       rw [hd]at h1
       exact absurd h1 (by decide)
      ·subst e;cases h1
     ·intro h1
      by_cases hn:t.head?=some 45
      ·exact .inr hn
      ·refine .inl ?_
       have:d=t:=by rw [hd];unfold numD;rw [if_neg hn]
       have h3:¬d.length=1:=by
        intro e1
        refine h1 ?_
        have hh:=h0.trans h48
        rw [<-this]
        obtain⟨c,hc⟩:=List.length_eq_one_iff.1 e1
        rw [hc]at hh⊢
        exact Ew (λx=>[x]) (Option.some.inj hh)
       omega
    rw [e]
    exact hq2
   ·rw [KRp,<-h0,<-FM]
    exact hq
  ·rw [show(decide (d=[])||decide (d.head?=some 48/\t≠[48]))=decide (d=[]\/(d.head?=some 48/\t≠[48])) by rw [Fe]]
   rw [KOT,<-hd]at H
   refine KH (λhb=>KA ?_) (λhb=>?_)
   ·have hb:=Ec hb
    by_cases h1:d=[]
    ·rw [if_pos h1]at H;exact H
    ·rw [if_neg h1]at H
     split at H
     ·exact H
     ·rw [if_pos (hb.resolve_left h1)]at H;exact H
   ·have hb:=Ed hb
    rw [if_neg (λe=>hb (.inl e))]at H
    have hz:¬(d.head?=some 48/\t≠[48]):=λe=>hb (.inr e)
    rw [if_neg hz]at H
    refine M.loop_inv (λ(x:Int) hh=>∃k:Nat,x=(k:Int)/\k<=d.length/\hh=h/\(d.take k).all digB=true) (λx _=>((d.length:Int) - x).toNat) ?_ ⟨0,rfl,El _,rfl,rfl⟩
    rintro x hh ⟨k,rfl,hk,rfl,hall⟩ self hself
    unfold Yn
    rw [Ke]
    refine KH (λhc=>?_) (λhc=>?_)
    ·have hkl:k<d.length:=by have:=Ec hc;omega
     refine VX rfl hkl ?_
     refine or_b (c:=decide (((d[k]).toNat:Int)>57)) (λ_ Q' hq=>VX rfl hkl (KA hq)) ?_
     rw [show(decide (((d[k]).toNat:Int)<48)||decide (((d[k]).toNat:Int)>57))=!digB d[k] by
      unfold digB
      rw [Bool.not_and,<-FB,<-FB]
      congr 1
      ·exact Es.2 (by omega)
      ·exact Es.2 (by omega)]
     refine KH (λhn=>KA ?_) (λhn=>?_)
     ·rw [if_pos]at H
      ·exact H
      ·cases ha:d.all digB with
       |false=>rfl
       |true=>
        rw [EB]at ha
        rw [ha _ (EJ hkl)]at hn
        cases hn
     ·have hn:digB d[k]=true:=by simpa using hn
      rw [w64 (by omega) (by omega)]
      refine hself _ _ ⟨k+1,by omega,hkl,rfl,?_⟩ (by omega)
      rw [Et hkl,F1,hall,EX,hn]
      rfl
    ·have hkl:k=d.length:=by have:=Ed hc;omega
     subst hkl
     rw [ER]at hall
     rw [if_neg (by rw [hall];decide)]at H
     have hj2:∀top:Nat,top=topN t->(UI (negB t) (bs d) (top:Int)).wp hh Q:=by
      intro top htop
      have htop2:top<=9223372036854775808:=by rw [htop];unfold topN;split<;>omega
      have htop3:9223372036854775807<=top:=by rw [htop];unfold topN;split<;>omega
      unfold UI
      refine M.loop_inv (λ(x:Int×Int) h2=>∃k:Nat,x=(((dcv 0 (d.take k):Nat):Int),(k:Int))/\k<=d.length/\h2=hh/\dcv 0 (d.take k)<=top) (λx _=>((d.length:Int) - x.2).toNat) ?_ ⟨0,rfl,El _,rfl,El _⟩
      rintro x h2 ⟨k,rfl,hk,rfl,hv⟩ self hself
      unfold Ym
      dsimp only
      rw [Ke]
      refine KH (λhc=>?_) (λhc=>?_)
      ·have hkl:k<d.length:=by have:=Ec hc;omega
       refine VX rfl hkl ?_
       have hd9:=KSQ (EB.1 hall _ (EJ hkl))
       have e1:IntKind.wrap .u64 (IntKind.wrap .u8 (((d[k]).toNat:Int) - 48))=((d[k]).toNat:Int) - 48:=by rw [IntKind.wrap_u8,IntKind.wrap_u64];omega
       rw [e1]
       have e2:IntKind.wrap .u64 (Int.tdiv (IntKind.wrap .u64 ((top:Int) - (((d[k]).toNat:Int) - 48))) 10)=(((top - ((d[k]).toNat - 48)) / 10:Nat):Int):=by
        rw [show IntKind.wrap .u64 ((top:Int) - (((d[k]).toNat:Int) - 48))=((top - ((d[k]).toNat - 48):Nat):Int) by rw [IntKind.wrap_u64];omega]
        rw [show Int.tdiv ((top - ((d[k]).toNat - 48):Nat):Int) 10=(((top - ((d[k]).toNat - 48)) / 10:Nat):Int)from(Int.ofNat_tdiv _ 10).symm]
        rw [IntKind.wrap_u64];omega
       rw [e2]
       have hnext:=KUR hkl
       refine KH (λho=>KA ?_) (λho=>?_)
       ·have ho:=Ec ho
        rw [if_neg]at H
        ·exact H
        ·have hge:dcv 0 (d.take (k+1))<=dcv 0 d:=by
          conv=>rhs;rw [<-FR (k+1) d,KW6]
          exact KR8 _ _
         rw [<-htop]
         omega
       ·have ho:=Ed ho
        rw [show IntKind.wrap .u64 ((IntKind.wrap .u64 (((dcv 0 (d.take k):Nat):Int)*10))+(((d[k]).toNat:Int) - 48))=((dcv 0 (d.take (k+1)):Nat):Int) by rw [IntKind.wrap_u64,IntKind.wrap_u64,hnext];omega]
        rw [w64 (by omega) (by omega)]
        exact hself _ _ ⟨k+1,rfl,hkl,rfl,by rw [hnext];omega⟩ (by dsimp only;omega)
      ·have hkl:k=d.length:=by have:=Ed hc;omega
       subst hkl
       rw [ER]at hv⊢
       rw [if_pos (htop▸hv)]at H
       refine KD (KUS (by omega) (λhneg=>?_) (KA ?_))
       ·have:topN t=9223372036854775807:=by unfold topN;rw [hneg];rfl
        omega
       ·unfold sgnV at H
        rw [<-hd]at H
        exact H
     refine KH (λhneg=>?_) (λhneg=>?_)
     ·have hneg:negB t=false:=by simpa using hneg
      have:=hj2 9223372036854775807 (by unfold topN;rw [hneg];rfl)
      rw [show IntKind.wrap .u64 (9223372036854775808 - 1)=((9223372036854775807:Nat):Int) by decide]
      exact this
     ·have hneg:negB t=true:=by simpa using hneg
      exact hj2 9223372036854775808 (by unfold topN;rw [hneg];rfl)
 have hN:∀Q':Bool->Heap->Prop,Q' (negB t) h->(M.ite (decide ((t.length:Int)>0)) (ixS (bs t) 0>>=λx=>M.pure (x==45)) (M.pure false):M Bool).wp h Q':=by
  intro Q' hq
  refine KH (λhc=>?_) (λhc=>KA ?_)
  ·have hl:0<t.length:=by have:=Ec hc;omega
   refine VX (i:=0) rfl hl (KA ?_)
   rw [KRo]
   unfold negB at hq
   rw [Ir,Em hl]at hq
   exact hq
  ·have hl:t=[]:=E8.1 (by have:=Ed hc;omega)
   subst hl
   exact hq
 refine KD (hN _ ?_)
 refine KH (λhc=>?_) (λhc=>?_)
 ·have hc':=hc
  unfold negB at hc'
  have hc':=Ec hc'
  have hl:0<t.length:=by cases t with|nil=>cases hc'|cons c r=>simp
  refine KMk (a:=1) (b:=t.length) rfl rfl (by omega) (Ee _) ?_
  refine hj1 _ ?_
  unfold numD
  rw [if_pos hc',<-Oe,<-List.drop_one,ER]
 ·refine hj1 _ ?_
  unfold numD
  unfold negB at hc
  rw [if_neg (Ed hc)]
end Gx
namespace Gx
open Go Go.Proofs Go.Shelf Go.RowKit Go.Lib
structure Rgd (h:Heap) (b:Nat) (s:Eb) (i:Nat):Prop where
 blk:h[b]?=some (.cells #[.string (bs s),.int .i64 (i:Int),.int .i64 (-1)] ZV (0,0))
 le:i<=s.length
 small:s.length<=1099511627776
def Rx (h:Heap) (b:Nat) (s:Eb) (e:Nat):Prop:=∃i:Nat,i<=s.length/\s.length<=1099511627776/\h[b]?=some (.cells #[.string (bs s),.int .i64 (i:Int),.int .i64 (e:Int)] ZV (0,0))
theorem Rgd.ext {h h':Heap} {b:Nat} {s:Eb} {i:Nat} (R:Rgd h b s i) (e:Ext h h'):Rgd h' b s i:=⟨e.blk R.blk,R.le,R.small⟩
theorem Rgd.lt {h:Heap} {b:Nat} {s:Eb} {i:Nat} (R:Rgd h b s i):b<h.size:=JV R.blk
theorem Rgd.upd {h h':Heap} {b g:Nat} {s:Eb} {i:Nat} (R:Rgd h b s i) (u:Upd g h h') (hg:b≠g):Rgd h' b s i:=⟨(u.ne b hg).trans R.blk,R.le,R.small⟩
theorem Rx.ext {h h':Heap} {b:Nat} {s:Eb} {i:Nat} (R:Rx h b s i) (e:Ext h h'):Rx h' b s i:=let⟨k,h1,h2,h3⟩:=R;⟨k,h1,h2,e.blk h3⟩
theorem Rx.upd {h h':Heap} {b g:Nat} {s:Eb} {i:Nat} (R:Rx h b s i) (u:Upd g h h') (hg:b≠g):Rx h' b s i:=let⟨k,h1,h2,h3⟩:=R;⟨k,h1,h2,(u.ne b hg).trans h3⟩
theorem Rx.lt {h:Heap} {b:Nat} {s:Eb} {i:Nat} (R:Rx h b s i):b<h.size:=let⟨k,h1,h2,h3⟩:=R;JV h3
section
variable {β:Type} {h:Heap} {Q:β->Heap->Prop} {b i e:Nat} {s:Eb}
theorem KQp {f:ByteArray->M β} (R:Rgd h b s i) (H:(f (bs s)).wp h Q):(ldS ((⟨b,0,none⟩:Addr).add 0)>>=f).wp h Q:=WO (by rw [KM,KF R.blk];rfl) H
theorem KIo {f:Int->M β} (R:Rgd h b s i) (H:(f (i:Int)).wp h Q):(ldI .i64 ((⟨b,0,none⟩:Addr).add 1)>>=f).wp h Q:=KV (by rw [KM,KF R.blk];rfl) H
theorem KQq {f:Int->M β} (R:Rgd h b s i) (H:(f (-1)).wp h Q):(ldI .i64 ((⟨b,0,none⟩:Addr).add 2)>>=f).wp h Q:=KV (by rw [KM,KF R.blk];rfl) H
theorem KOU {f:Int->M β} (R:Rx h b s e) (H:(f (e:Int)).wp h Q):(ldI .i64 ((⟨b,0,none⟩:Addr).add 2)>>=f).wp h Q:=let⟨_,_,_,g⟩:=R;KV (by rw [KM,KF g];rfl) H
theorem KZC {f:Int->M β} (R:Rx h b s e) (H:∀i:Nat,i<=s.length->(f (i:Int)).wp h Q):(ldI .i64 ((⟨b,0,none⟩:Addr).add 1)>>=f).wp h Q:=let⟨i,hi,_,g⟩:=R;KV (n:=(i:Int)) (by rw [KM,KF g];rfl) (H i hi)
theorem KaI {f:Unit->M β} (R:Rgd h b s i) (hi:i<s.length) (H:∀h',Upd b h h'->Rgd h' b s (i+1)->(f ()).wp h' Q):(stV ((⟨b,0,none⟩:Addr).add 1) (.int .i64 (IntKind.wrap .i64 ((i:Int)+1)))>>=f).wp h Q:=by
 have hsm:=R.small
 rw [w64 (by omega) (by omega)]
 refine qF (x:=.int .i64 (i:Int)) (by rw [KM,KF R.blk];rfl) (by rw [KM];exact Kv R.blk) rfl ?_
 rw [KM]
 exact H _ (Upd.hset _ _ _ _) ⟨J8 R.blk,hi,hsm⟩
theorem ql {f:Unit->M β} (R:Rgd h b s i) (hi:i<s.length) (H:∀h',Upd b h h'->Rgd h' b s (i+1)->(f ()).wp h' Q):
  (nilP (some ⟨b,0,none⟩)>>=λx=>ldI .i64 (x.add 1)>>=λy=>nilP (some ⟨b,0,none⟩)>>=λz=>stV (z.add 1) (.int .i64 (IntKind.wrap .i64 (y+1)))>>=f).wp h Q:=
 Kc (KIo R (Kc (KaI R hi H)))
end
section
variable {h:Heap} {b i e:Nat} {s:Eb}
theorem KW7 {Q:Unit->Heap->Prop} (R:Rgd h b s i) (he:e<=s.length) (H:∀h',Upd b h h'->Rx h' b s e->Q () h'):(KO (some ⟨b,0,none⟩) (e:Int)).wp h Q:=by
 unfold KO
 refine Kc (KQq R (iteT rfl (Kc ?_)))
 refine qF (x:=.int .i64 (-1)) (by rw [KM,KF R.blk];rfl) (by rw [KM];exact Kv R.blk) rfl ?_
 rw [KM]
 exact KA (H _ (Upd.hset _ _ _ _) ⟨i,R.le,R.small,J8 R.blk⟩)
theorem KW8 {Q:Unit->Heap->Prop} {x:Int} (R:Rx h b s e) (H:Q () h):(KO (some ⟨b,0,none⟩) x).wp h Q:=by
 unfold KO
 refine Kc (KOU R (iteF (Eo (by omega)) (KA H)))
theorem XL {β:Type} {Q:β->Heap->Prop} {f:Unit->M β} (R:Rgd h b s i) (H:∀h',Upd b h h'->Rx h' b s i->(f ()).wp h' Q):(nilP (some ⟨b,0,none⟩)>>=λx=>ldI .i64 (x.add 1)>>=λy=>KO (some ⟨b,0,none⟩) y>>=f).wp h Q:=
 Kc (KIo R (KD (KW7 R R.le H)))
theorem KIp {β:Type} {Q:β->Heap->Prop} {f:Unit->M β} (R:Rx h b s e) (H:(f ()).wp h Q):(nilP (some ⟨b,0,none⟩)>>=λx=>ldI .i64 (x.add 1)>>=λy=>KO (some ⟨b,0,none⟩) y>>=f).wp h Q:=
 Kc (KZC R (λ_ _=>KD (KW8 R H)))
theorem Gh {Q:Int->Heap->Prop} (R:Rgd h b s i) (H:Q ((KI s i).toNat:Int) h):(KP (some ⟨b,0,none⟩)).wp h Q:=by
 unfold KP
 refine Kc (KQq R (iteF rfl (Kc (Kc (KIo R (KQp R ?_))))))
 rw [Ke]
 unfold Zq
 refine KH (λhc=>KA ?_) (λhc=>?_)
 ·have hi:¬i<s.length:=by have:=Ec hc;omega
  unfold KI at H
  rw [EK (by omega)]at H
  exact H
 ·have hi:i<s.length:=by have:=Ed hc;omega
  refine Kc (Kc (KQp R (KIo R (VX rfl hi (KA ?_)))))
  rw [<-Uz hi]
  exact H
theorem KIq {Q:Int->Heap->Prop} (R:Rx h b s e) (H:Q 0 h):(KP (some ⟨b,0,none⟩)).wp h Q:=by
 unfold KP
 refine Kc (KOU R (iteT (Ej (by omega)) ?_))
 unfold Zq
 exact iteT rfl (KA H)
theorem qm {c:UInt8} {Q:Bool->Heap->Prop} (H:Q (digB c) h):(Zo (c.toNat:Int)).wp h Q:=by
 unfold Zo
 refine Jp (c:=decide ((c.toNat:Int)<=57)) (λ_ Q' hq=>KA hq) (KA ?_)
 rw [show(decide ((c.toNat:Int)>=48)&&decide ((c.toNat:Int)<=57))=digB c by
  unfold digB
  congr 1
  ·exact Es.2 (by omega)
  ·exact Es.2 (by omega)]
 exact H
theorem KW9 {Q:Bool->Heap->Prop} (H:Q false h):(Zo 0).wp h Q:=qm (c:=0) H
theorem KBa {Q:Unit->Heap->Prop} {lit:Eb} (R:Rgd h b s i) (hl:lit.length<=1000)
  (H1:∀j h',Xo s lit i=.ok j->Kb b h h'->Rgd h' b s j->Q () h') (H2:∀e h',Xo s lit i=.error e->Kb b h h'->Rx h' b s e->Q () h'):(KN (some ⟨b,0,none⟩) (bs lit)).wp h Q:=by
 unfold KN
 refine M.loop_inv (λ(x:Int) hh=>∃k i':Nat,x=(k:Int)/\k<=lit.length/\Kb b h hh/\Rgd hh b s i'/\Xo s (lit.drop k) i'=Xo s lit i) (λx _=>((lit.length:Int) - x).toNat) ?_ ⟨0,i,rfl,El _,Km.refl _ _,R,rfl⟩
 rintro x hh ⟨k,i',rfl,hk,K,R',hm⟩ self hself
 unfold JX
 rw [Ke]
 refine KH (λhc=>?_) (λhc=>?_)
 ·have hkl:k<lit.length:=by have:=Ec hc;omega
  rw [Eh hkl,Xo]at hm
  have hfail:s[i']?≠some lit[k]->(ZI self (some ⟨b,0,none⟩) (k:Int) true).wp hh Q:=λhne=>by
   unfold ZI
   rw [if_neg hne]at hm
   exact iteT rfl (XL R' (λh2 u X=>KA (H2 _ _ hm.symm (K.trans (Km.upd u rfl)) X)))
  refine VX rfl hkl (KD (Gh R' ?_))
  refine KH (λhne=>?_) (λheq=>?_)
  ·refine hfail (λh1=>?_)
   have hil:=(Fj.1 h1).1
   rw [Em hil]at h1
   rw [Uz hil,Option.some.inj h1]at hne
   simp at hne
  ·have heq:KI s i'=lit[k]:=by
    refine Fg.1 ?_
    have:¬(((KI s i').toNat:Int)≠((lit[k]).toNat:Int)):=λhne=>by rw [IG.2 hne]at heq;cases heq
    omega
   refine Kc (Kc (KIo R' (KQp R' ?_)))
   rw [Ke]
   by_cases hil:i'<s.length
   ·rw [Eo (show ¬((i':Int)>=(s.length:Int)) by omega)]
    unfold ZI
    refine iteF rfl (ql R' hil (λh2 u R2=>?_))
    rw [w64 (by omega) (by omega)]
    rw [if_pos (by rw [Em hil,<-heq,Uz hil])]at hm
    exact hself _ _ ⟨k+1,i'+1,by omega,by omega,K.trans (Km.upd u rfl),R2,hm⟩ (by omega)
   ·rw [Ej (show((i':Int)>=(s.length:Int)) by omega)]
    refine hfail ?_
    rw [EK (by omega)]
    intro h;cases h
 ·have hkl:k=lit.length:=by have:=Ed hc;omega
  subst hkl
  rw [EY,Xo]at hm
  exact KA (H1 _ _ hm.symm K R')
theorem KLU {Q:Unit->Heap->Prop} {c:UInt8} {r:Eb} (R:Rx h b s e) (hc:c≠0) (H:Q () h):(KN (some ⟨b,0,none⟩) (bs (c::r))).wp h Q:=by
 unfold KN
 refine M.loop_inv (λ(x:Int) hh=>x=0/\hh=h) (λx _=>0) ?_ ⟨rfl,rfl⟩
 rintro x hh ⟨rfl,rfl⟩ self hself
 unfold JX
 rw [Ke]
 refine iteT (Ej (by simp)) (VX (i:=0) rfl (by simp) (KD (KIq R ?_)))
 have hc0:c.toNat≠0:=λe=>hc (Fg.1 (by rw [e];rfl))
 refine iteT (by rw [IG];show(0:Int)≠(c.toNat:Int);omega) ?_
 unfold ZI
 exact iteT rfl (KIp R (KA H))
theorem KSR {t:Eb} (h1:numD t≠[]) (h2:(numD t).all digB=true) (h3:(numD t).head?≠some 48):(numP t).2=0\/(numP t).2=7:=by
 rw [KOT,if_neg h1,if_neg (by rw [h2];decide),if_neg (λhh=>h3 hh.1)]
 split
 ·exact .inl rfl
 ·exact .inr rfl
theorem KSS (h48:KI s i=48):numF s i=.ok (0,i+1):=by
 have hi:i<s.length:=JM (by rw [h48];decide)
 have hJ:numJ s i=i:=by unfold numJ;rw [if_neg (by rw [h48];decide)]
 unfold numF
 rw [hJ,if_neg (by rw [h48];rintro(h|h);exact absurd h (by decide);omega)]
 rw [show s.length - i=(s.length - (i+1))+1 by omega,numL,if_pos (by rw [h48];decide)]
 have h1:(s.drop i).take (i+1 - i)=[48]:=by
  rw [show i+1 - i=1 by omega,Eh hi,<-Uz hi,h48];rfl
 rw [h1,show numP [48]=(0,0) by decide+kernel,if_neg (by decide),if_neg (by decide)]
 cases hf:s.length - (i+1)with
 |zero=>rfl
 |succ f=>
  rw [numL]
  split
  ·rename_i hd
   have hi2:=KIa hd
   have h2:(s.drop i).take (i+1+1 - i)=[48,KI s (i+1)]:=by
    rw [show i+1+1 - i=2 by omega,Eh hi,Eh hi2,<-Uz hi,<-Uz hi2,h48];rfl
   have h3:numP [48,KI s (i+1)]=(0,10):=by
    have hD:numD [48,KI s (i+1)]=[48,KI s (i+1)]:=rfl
    rw [KOT,hD,if_neg (by simp),if_neg,if_pos ⟨rfl,by simp⟩]
    show ¬([48,KI s (i+1)].all digB=false)
    rw [EX,EX,hd]
    decide
   rw [h2,h3,if_neg (by decide),if_pos (by decide)]
  ·rfl
theorem KUT {j k:Nat} (hjk:j<=k) (hk:k<s.length):(s.drop j).take (k+1 - j)=(s.drop j).take (k - j)++[s[k]]:=by
 rw [show k+1 - j=(k - j)+1 by omega,Et (by rw [Ex];omega),List.getElem_drop]
 simp only [show j+(k - j)=k by omega]
theorem KUU {k:Nat} (hJ:numJ s i<k) (hk:k<=s.length):numD ((s.drop i).take (k - i))=(s.drop (numJ s i)).take (k - numJ s i):=by
 have hij:i<=numJ s i:=by unfold numJ;split<;>omega
 unfold numJ at hJ⊢
 by_cases h45:KI s i=45
 ·rw [if_pos h45]at hJ⊢
  have hi:i<s.length:=JM (by rw [h45];decide)
  rw [Eh hi,show k - i=(k - (i+1))+1 by omega,Fq,<-Uz hi,h45]
  rfl
 ·rw [if_neg h45]at hJ⊢
  have hi:i<s.length:=by omega
  unfold numD
  rw [if_neg]
  rw [Eh hi,show k - i=(k - i - 1)+1 by omega,Fq,FL,<-Uz hi]
  intro e
  exact h45 (Option.some.inj e)
theorem KNA {Q:Int->Heap->Prop} (R:Rgd h b s i)
  (H1:∀n j h',numF s i=.ok (n,j)->Kb b h h'->Rgd h' b s j->Q n h') (H2:∀e h',numF s i=.error e->Kb b h h'->Rx h' b s e->Q 0 h'):(ZD (some ⟨b,0,none⟩) true).wp h Q:=by
 unfold ZD
 have hsm:=R.small
 have key:∀h1,Kb b h h1->Rgd h1 b s (numJ s i)->(ZM (some ⟨b,0,none⟩) (i:Int)).wp h1 Q:=by
  intro h1 K1 R1
  unfold ZM
  have hij:i<=numJ s i:=by unfold numJ;split<;>omega
  refine KD (Gh R1 (KD (qm ?_)))
  refine KH (λhd=>?_) (λhd=>?_)
  ·have hd:digB (KI s (numJ s i))=false:=by simpa using hd
   exact XL R1 (λh2 u X=>KA (H2 _ _ (by unfold numF;rw [if_pos (.inl hd)]) (K1.trans (Km.upd u rfl)) X))
  have hd:digB (KI s (numJ s i))=true:=by simpa using hd
  have hjl:=KIa hd
  refine KD (Gh R1 ?_)
  rw [KRp]
  refine KH (λh48=>?_) (λh48=>?_)
  ·have h48:KI s (numJ s i)=48:=Option.some.inj (Ec h48)
   refine Kc (KIo R1 ?_)
   refine KH (λhs=>?_) (λhs=>?_)
   ·have hs:i<numJ s i:=by have:=Ec hs;omega
    exact XL R1 (λh2 u X=>KA (H2 _ _ (by unfold numF;rw [if_pos (.inr ⟨hs,h48⟩)]) (K1.trans (Km.upd u rfl)) X))
   ·have hs:numJ s i=i:=by have:=Ed hs;omega
    rw [hs]at h48 R1 hjl
    exact ql R1 hjl (λh2 u R2=>KA (H1 _ _ _ (KSS h48) (K1.trans (Km.upd u rfl)) R2))
  ·have h48:KI s (numJ s i)≠48:=λe=>(Ed h48) (Ew some e)
   have hF:numF s i=numL s i (s.length - numJ s i) (numJ s i) 0:=by
    unfold numF
    rw [if_neg]
    rintro(h|h)
    ·rw [hd]at h;cases h
    ·exact h48 h.2
   rw [hF]at H1 H2
   refine M.loop_inv (λ(_:Unit) hh=>∃(i':Nat) (x:Int),numJ s i<=i'/\Kb b h hh/\Rgd hh b s i'/\((s.drop (numJ s i)).take (i' - numJ s i)).all digB=true/\(numJ s i<i'->x=(numP ((s.drop i).take (i' - i))).1)/\numL s i (s.length - i') i' x=numL s i (s.length - numJ s i) (numJ s i) 0)
    (λ_ hh=>match hh[b]? with|some (.cells #[_,.int _ z,_] _ _)=>s.length - z.toNat|_=>0) ?_ ⟨numJ s i,0,Ee _,K1,R1,by rw [Ou];rfl,λh=>absurd h (Nat.lt_irrefl _),rfl⟩
   rintro _ hh ⟨i',x,hfi,K,R',hall,hx,hm⟩ self hself
   unfold UV
   have hle:=R'.le
   refine KD (Gh R' (KD (qm ?_)))
   refine KH (λhd'=>?_) (λhd'=>?_)
   ·have hil:=KIa hd'
    rw [show s.length - i'=(s.length - (i'+1))+1 by omega,numL,if_pos hd']at hm
    have hall':((s.drop (numJ s i)).take (i'+1 - numJ s i)).all digB=true:=by
     rw [KUT hfi hil,F1,hall,EX,<-Uz hil,hd'];rfl
    have hD:=KUU (s:=s) (i:=i) (k:=i'+1) (by omega) (by omega)
    have hne:(s.drop (numJ s i)).take (i'+1 - numJ s i)≠[]:=by
     intro e
     have:=Ew List.length e
     rw [EI,Ex,En]at this
     omega
    have hhead:((s.drop (numJ s i)).take (i'+1 - numJ s i)).head?≠some 48:=by
     rw [Eh hjl,show i'+1 - numJ s i=(i' - numJ s i)+1 by omega,Fq,FL,<-Uz hjl]
     intro e
     exact h48 (Option.some.inj e)
    have h07:=KSR (t:=(s.drop i).take (i'+1 - i)) (by rw [hD];exact hne) (by rw [hD];exact hall') (by rw [hD];exact hhead)
    refine Kc (Kc (KQp R' (KIo R' ?_)))
    rw [w64 (by omega) (by omega)]
    refine KMk (a:=i) (b:=i'+1) rfl (by omega) (by omega) (by omega) (KD (KJ3 (by rw [EI,Ex];omega) ?_))
    refine KH (λh0=>?_) (λh0=>?_)
    ·rw [IG]at h0
     rw [if_pos (h07.resolve_left h0)]at hm
     exact XL R' (λh2 u X=>KA (H2 _ _ hm.symm (K.trans (Km.upd u rfl)) X))
    ·have h0:(numP ((s.drop i).take (i'+1 - i))).2=0:=by
      refine IP.1 (λhne=>?_)
      rw [IG.2 hne]at h0
      cases h0
     rw [if_neg (by rw [h0];decide),if_neg (by rw [h0];decide)]at hm
     refine ql R' hil (λh3 u3 R3=>?_)
     refine hself _ _ ⟨i'+1,_,by omega,K.trans (Km.upd u3 rfl),R3,hall',λ_=>rfl,hm⟩ ?_
     rw [R3.blk,R'.blk]
     show s.length - ((i'+1:Nat):Int).toNat<s.length - ((i':Nat):Int).toNat
     omega
   ·have hi':numJ s i<i':=by
     rcases ES (numJ s i) i' with h|h
     ·exact h
     ·have:i'=numJ s i:=by omega
      subst this
      rw [hd]at hd'
      cases hd'
    have:numL s i (s.length - i') i' x=.ok (x,i'):=by
     cases hf:s.length - i' with
     |zero=>rfl
     |succ f=>rw [numL,if_neg (by rw [hd'];decide)]
    rw [this]at hm
    refine Kc (Kc (KQp R' (KIo R' ?_)))
    refine KMk (a:=i) (b:=i') rfl rfl (by omega) (by omega) (KD (KJ3 (by rw [EI,Ex];omega) (KA ?_)))
    rw [<-hx hi']
    exact H1 _ _ _ hm.symm K R'
 refine Kc (KIo R ?_)
 refine Jp (c:=decide (KI s i=45)) (λ_ Q' hq=>KD (Gh R (KA ?_))) ?_
 ·rw [KRo,Es.2 (show some (KI s i)=some 45↔KI s i=45 from⟨Option.some.inj,Ew _⟩)]
  exact hq
 refine KH (λhc=>?_) (λhc=>?_)
 ·have h45:KI s i=45:=by simpa using hc
  refine ql R (JM (by rw [h45];decide)) (λh1 u1 R1=>key _ (Km.upd u1 rfl) ?_)
  unfold numJ
  rw [if_pos h45]
  exact R1
 ·have h45:¬KI s i=45:=by simpa using hc
  refine key _ (Km.refl _ _) ?_
  unfold numJ
  rw [if_neg h45]
  exact R
theorem KST {Q:Int->Heap->Prop} (R:Rx h b s e) (H:Q 0 h):(ZD (some ⟨b,0,none⟩) true).wp h Q:=by
 unfold ZD
 refine Kc (KZC R (λi hi=>?_))
 refine Jp (c:=false) (λ_ Q' hq=>KD (KIq R (KA hq))) (iteF rfl ?_)
 unfold ZM
 exact KD (KIq R (KD (KW9 (iteT rfl (KIp R (KA H))))))
def hexV (c:UInt8):Int:=if digB c=true then(c.toNat:Int) - 48 else if 97<=c.toNat/\c.toNat<=102 then(c.toNat:Int) - 87 else -1
theorem KUV:∀n:Fin 256,hexV (UInt8.ofNat n.val)=hexN (UInt8.ofNat n.val):=by decide+kernel
theorem KXA (c:UInt8):hexV c=hexN c:=by
 have:=KUV ⟨c.toNat,c.toNat_lt⟩
 simpa only [FS] using this
theorem KIr {c:UInt8} {Q:Int->Heap->Prop} (H:Q (hexN c) h):(Ul (c.toNat:Int)).wp h Q:=by
 rw [<-KXA]at H
 unfold hexV at H
 unfold Ul
 refine KD (qm ?_)
 refine KH (λhd=>KA ?_) (λhd=>?_)
 ·rw [if_pos hd]at H
  have:=KSQ hd
  rw [show IntKind.wrap .i64 (IntKind.wrap .u8 ((c.toNat:Int) - 48))=(c.toNat:Int) - 48 by rw [IntKind.wrap_u8,IntKind.wrap_i64];omega]
  exact H
 ·rw [if_neg (by rw [hd];decide)]at H
  refine Jp (c:=decide ((c.toNat:Int)<=102)) (λ_ Q' hq=>KA hq) ?_
  refine KH (λhc=>KA ?_) (λhc=>KA ?_)
  ·rw [Eg,Ei,Ei]at hc
   rw [if_pos (by omega)]at H
   rw [show IntKind.wrap .i64 ((IntKind.wrap .i64 (IntKind.wrap .u8 ((c.toNat:Int) - 97)))+10)=(c.toNat:Int) - 87 by rw [IntKind.wrap_u8,IntKind.wrap_i64,IntKind.wrap_i64];omega]
   exact H
  ·rw [It,EQ,EQ]at hc
   rw [if_neg (by omega)]at H
   exact H
theorem KaJ {Q:Int->Heap->Prop} (H:Q (-1) h):(Ul 0).wp h Q:=by
 refine KIr (c:=0) ?_
 rw [KJv]
 exact H
theorem KaK {x y:Int} (hx:0<=x) (hx2:x<=15) (hy:0<=y) (hy2:y<=15):IntKind.wrap .u8 (IntKind.wrap .i64 ((IntKind.wrap .i64 (16*x))+y))=((UInt8.ofNat ((x*16+y).toNat)).toNat:Int):=by
 rw [IntKind.wrap_u8,IntKind.wrap_i64,IntKind.wrap_i64,Il]
 omega
theorem KZD {Q:Int->Heap->Prop} (R:Rgd h b s i)
  (H1:∀(c:UInt8) j h',escP s i=.ok (c,j)->Kb b h h'->Rgd h' b s j->Q (c.toNat:Int) h') (H2:∀e h',escP s i=.error e->Kb b h h'->Rx h' b s e->Q 0 h'):(Zr (some ⟨b,0,none⟩)).wp h Q:=by
 unfold Zr
 refine KD (Gh R ?_)
 rw [u8_c (d:=39) (n:=39) rfl,u8_c (d:=92) (n:=92) rfl]
 refine or_b (c:=decide (KI s i=92)) (λ_ Q' hq=>KA hq) ?_
 refine KH (λhc=>?_) (λhc=>?_)
 ·rw [EO,Ei,Ei]at hc
  have hi:i<s.length:=JM (by rcases hc with h|h<;>(rw [h];decide))
  refine ql R hi (λh1 u1 R1=>KA (H1 _ _ _ ?_ (Km.upd u1 rfl) R1))
  unfold escP
  rw [if_pos hc]
 ·have hc':¬(KI s i=39\/KI s i=92):=by
   intro hh
   rw [<-Ei (p:=KI s i=39),<-Ei (p:=KI s i=92),<-EO,hc]at hh
   cases hh
  refine KD (KBa (lit:=[120]) R (by decide) (λj h1 hj K1 R1=>?_) (λe h1 hj K1 X1=>?_))
  ·have hE:escP s i=if hexN (KI s j)<0\/(1<hexN (KI s j)/\hexN (KI s j)<7)then .error j
     else if hexN (KI s (j+1))<0\/(hexN (KI s j)=7/\hexN (KI s (j+1))<15)then .error (j+1)
     else .ok (UInt8.ofNat ((hexN (KI s j)*16+hexN (KI s (j+1))).toNat),j+2):=by
    unfold escP
    rw [if_neg hc',hj]
   have hle15:=KEL (KI s j)
   have hle15':=KEL (KI s (j+1))
   refine KD (Gh R1 (KD (KIr ?_)))
   refine or_b (c:=decide (hexN (KI s j)>=2)&&decide (hexN (KI s j)<7)) (λ_ Q' hq=>Jp (c:=decide (hexN (KI s j)<7)) (λ_ Q2 hq2=>KA hq2) (KA hq)) ?_
   rw [show(decide (hexN (KI s j)<0)||(decide (hexN (KI s j)>=2)&&decide (hexN (KI s j)<7)))=decide (hexN (KI s j)<0\/(1<hexN (KI s j)/\hexN (KI s j)<7)) by
    rw [Fe,FM]
    congr 2]
   refine KH (λhb=>?_) (λhb=>?_)
   ·rw [if_pos (Ec hb)]at hE
    exact XL R1 (λh2 u X=>KA (H2 _ _ hE (K1.trans (Km.upd u rfl)) X))
   ·have hb:=Ed hb
    rw [if_neg hb]at hE
    have hjl:j<s.length:=KMo (by omega)
    refine ql R1 hjl (λh2 u2 R2=>?_)
    have K2:Kb b h h2:=K1.trans (Km.upd u2 rfl)
    refine KD (Gh R2 (KD (KIr ?_)))
    refine or_b (c:=decide (hexN (KI s j)=7)&&decide (hexN (KI s (j+1))≠15)) (λ_ Q' hq=>?_) ?_
    ·rw [eqI]
     refine Jp (c:=decide (hexN (KI s (j+1))≠15)) (λ_ Q2 hq2=>KA ?_) (KA hq)
     rw [show(hexN (KI s (j+1)) !=15)=decide (hexN (KI s (j+1))≠15) by rw [bne,eqI,FB]]
     exact hq2
    rw [show(decide (hexN (KI s (j+1))<0)||(decide (hexN (KI s j)=7)&&decide (hexN (KI s (j+1))≠15)))=decide (hexN (KI s (j+1))<0\/(hexN (KI s j)=7/\hexN (KI s (j+1))<15)) by
     rw [Fe,FM]
     congr 2
     exact Es.2 (by omega)]
    refine KH (λhb2=>?_) (λhb2=>?_)
    ·rw [if_pos (Ec hb2)]at hE
     exact XL R2 (λh3 u X=>KA (H2 _ _ hE (K2.trans (Km.upd u rfl)) X))
    ·have hb2:=Ed hb2
     rw [if_neg hb2]at hE
     have hjl2:j+1<s.length:=KMo (by omega)
     refine ql R2 hjl2 (λh3 u3 R3=>KA ?_)
     rw [KaK (by omega) hle15 (by omega) hle15']
     exact H1 _ _ _ hE (K2.trans (Km.upd u3 rfl)) R3
  ·have hE:escP s i=.error e:=by unfold escP;rw [if_neg hc',hj]
   refine KD (KIq X1 (KD (KaJ ?_)))
   refine or_b (c:=false) (λh=>absurd h (by decide)) (iteT rfl ?_)
   exact KIp X1 (KA (H2 _ _ hE K1 X1))
end
end Gx
namespace Gx
open Go
end Gx
namespace Gx
open Go Go.Proofs Go.Shelf Go.RowKit Go.Lib
theorem KZE {h:Heap} {Q:ByteArray->Heap->Prop} {b i:Nat} {s:Eb} (R:Rgd h b s i)
  (H1:∀t j h',strP s i=.ok (t,j)->Kb b h h'->Rgd h' b s j->Q (bs t) h') (H2:∀e h',strP s i=.error e->Kb b h h'->Rx h' b s e->Q (bs []) h'):(Ja (some ⟨b,0,none⟩)).wp h Q:=by
 unfold Ja
 have hbl:=R.lt
 have main:∀(h1:Heap),Kb b h h1->((∃j,Xo s [39] i=.ok j/\Rgd h1 b s j)\/∃e,strP s i=.error e/\Rx h1 b s e)->(M.loop (Jn (some ⟨b,0,none⟩)) Sl.nil).wp h1 Q:=by
  intro h1 K1 hst
  have hb1:b<h1.size:=Ez hbl K1.size
  refine M.loop_inv (λ(x:Sl) hh=>(∃(acc:Eb) (f i':Nat),s.length<f+i'/\acc.length<=i'/\Kb b h1 hh/\Rgd hh b s i'/\Gw h1.size hh x 1 (acc.map bv)/\strL s f i' acc=strP s i)\/∃e,strP s i=.error e/\Kb b h1 hh/\Rx hh b s e)
   (λx hh=>match hh[b]? with|some (.cells #[_,_,.int _ z] _ _)=>if z<0 then s.length+2 - x.len else 0|_=>0) ?_ ?_
  ·rintro x hh hst self hself
   unfold Jn
   rcases hst with⟨acc,f,i',hf,hai,K,R',G,hm⟩|⟨e,he,K,X⟩
   ·have hsm:=R'.small
    have hle:=R'.le
    have hxl:=G.len
    rw [EL,FT]at hxl
    have hmu:(match hh[b]? with|some (.cells #[_,_,.int _ z] _ _)=>if z<0 then s.length+2 - x.len else 0|_=>0)=s.length+2 - x.len:=by rw [R'.blk];rfl
    rw [hmu]at hself
    have bad:∀(e:Nat) (h2:Heap) (x2:Sl),strP s i=.error e->Kb b h1 h2->Rx h2 b s e->(self x2).wp h2 Q:=by
     intro e h2 x2 he K2 X2
     refine hself _ _ (.inr ⟨e,he,K2,X2⟩) ?_
     obtain⟨k,_,_,g⟩:=X2
     rw [g]
     show(if((e:Nat):Int)<0 then s.length+2 - x2.len else 0)<_
     rw [if_neg (by omega)]
     omega
    obtain⟨f,rfl⟩:∃g,f=g+1:=⟨f - 1,by omega⟩
    rw [strL]at hm
    refine Kc (KQq R' (iteT rfl (KD (Gh R' ?_))))
    refine Kc (Kc (KIo R' (KQp R' ?_)))
    rw [Ke]
    have hfail:¬KI s i'=39->((KI s i').toNat<32\/126<(KI s i').toNat)->(ZL self (some ⟨b,0,none⟩) x ((KI s i').toNat:Int) true).wp hh Q:=by
     intro h39 hbad
     rw [if_neg h39,if_pos hbad]at hm
     unfold ZL
     exact iteT rfl (XL R' (λh2 u X=>bad _ _ _ hm.symm (K.trans (Km.upd u rfl)) X))
    refine KH (λhge=>?_) (λhlt=>?_)
    ·have h0:KI s i'=0:=by unfold KI;rw [EK (by have:=Ec hge;omega)];rfl
     exact hfail (by rw [h0];decide) (.inl (by rw [h0];decide))
    have hil:i'<s.length:=by have:=Ed hlt;omega
    refine KH (λh32=>?_) (λh32=>?_)
    ·have h32:=Ec h32
     exact hfail (λe=>by rw [e]at h32;exact absurd h32 (by decide)) (.inl (by omega))
    have h32:=Ed h32
    by_cases h126:126<(KI s i').toNat
    ·rw [Ej (show((KI s i').toNat:Int)>126 by omega)]
     exact hfail (λe=>by rw [e]at h126;exact absurd h126 (by decide)) (.inr h126)
    rw [Eo (show ¬((KI s i').toNat:Int)>126 by omega)]
    unfold ZL
    refine iteF rfl ?_
    rw [u8_c (d:=39) (n:=39) rfl,u8_c (d:=92) (n:=92) rfl]
    refine KH (λh39=>?_) (λh39=>?_)
    ·have h39:=Ec h39
     rw [if_pos h39]at hm
     refine ql R' hil (λh2 u2 R2=>?_)
     have G2:Gw h1.size h2 x 1 (acc.map bv):=G.same (λk hk=>u2.ne k (λe=>by have:=(G.lt hk).2;omega))
     refine KTp (ns:=acc) hxl G2.reads (KA ?_)
     exact H1 _ _ _ hm.symm (K1.trans (K.trans (Km.upd u2 rfl))) R2
    have h39:=Ed h39
    rw [if_neg h39,if_neg (by omega)]at hm
    have next:∀(c:UInt8) (i2:Nat) (h3:Heap),i'<i2->Kb b h1 h3->Gw h1.size h3 x 1 (acc.map bv)->(∀h4 r4,Kb b h1 h4->h4[b]?=h3[b]?->Gw h1.size h4 r4 1 ((acc++[c]).map bv)->(self r4).wp h4 Q)->
      (bdL Ko 1 #[.int .u8 (c.toNat:Int)]>>=λy=>apL Ko 1 1 (#[.int .u8 0]:Ea) x y>>=λz=>self z).wp h3 Q:=by
     intro c i2 h3 hi2 K3 G3 hk
     refine KPG G3 K3.size (by omega) (λh4 r4 G4 hs4 same4=>?_)
     exact hk h4 r4 ⟨Fb K3.size hs4,λk hk hkb=>(same4 k hk).trans (K3.same k hk hkb)⟩ (same4 b hb1) G4
    have good:∀(c:UInt8) (i2:Nat) (h3:Heap),i'<i2->Kb b h1 h3->Rgd h3 b s i2->Gw h1.size h3 x 1 (acc.map bv)->strL s f i2 (acc++[c])=strP s i->
      (bdL Ko 1 #[.int .u8 (c.toNat:Int)]>>=λy=>apL Ko 1 1 (#[.int .u8 0]:Ea) x y>>=λz=>self z).wp h3 Q:=by
     intro c i2 h3 hi2 K3 R3 G3 hm3
     refine next c i2 h3 hi2 K3 G3 (λh4 r4 K4 hb4 G4=>?_)
     have hl4:=G4.len
     rw [EL,List.length_append,List.length_singleton,FT]at hl4
     have R4:Rgd h4 b s i2:=⟨by rw [hb4];exact R3.blk,R3.le,R3.small⟩
     have hle2:=R3.le
     refine hself _ _ (.inl ⟨acc++[c],f,i2,by omega,by rw [List.length_append,List.length_singleton];omega,K4,R4,G4,hm3⟩) ?_
     rw [R4.blk]
     show(if(-1:Int)<0 then s.length+2 - r4.len else 0)<_
     rw [if_pos (by decide)]
     omega
    refine KH (λh92=>?_) (λh92=>?_)
    ·rw [if_pos (Ec h92)]at hm
     refine ql R' hil (λh2 u2 R2=>?_)
     have K2:Kb b h1 h2:=K.trans (Km.upd u2 rfl)
     have G2:Gw h1.size h2 x 1 (acc.map bv):=G.same (λk hk=>u2.ne k (λe=>by have:=(G.lt hk).2;omega))
     refine KD (KZD R2 (λc j2 h3 he K3 R3=>?_) (λe h3 he K3 X3=>?_))
     ·rw [he]at hm
      exact good c j2 h3 (by have:=KOF he;omega) (K2.trans K3) R3 (G2.same (λk hk=>K3.same k (G2.lt hk).1 (λe=>by have:=(G2.lt hk).2;omega))) hm
     ·rw [he]at hm
      refine next 0 (i'+1) h3 (by omega) (K2.trans K3) (G2.same (λk hk=>K3.same k (G2.lt hk).1 (λe=>by have:=(G2.lt hk).2;omega))) (λh4 r4 K4 hb4 G4=>?_)
      obtain⟨q,q1,q2,q3⟩:=X3
      exact bad e h4 r4 hm.symm K4 ⟨q,q1,q2,hb4.trans q3⟩
    ·rw [if_neg (Ed h92)]at hm
     refine ql R' hil (λh2 u2 R2=>?_)
     have K2:Kb b h1 h2:=K.trans (Km.upd u2 rfl)
     have G2:Gw h1.size h2 x 1 (acc.map bv):=G.same (λk hk=>u2.ne k (λe=>by have:=(G.lt hk).2;omega))
     exact good _ (i'+1) h2 (by omega) K2 R2 G2 hm
   ·refine Kc (KOU X (iteF (Eo (by omega)) (KA ?_)))
    exact H2 e hh he (K1.trans K) X
  ·rcases hst with⟨j,hj,R1⟩|⟨e,he,X⟩
   ·refine .inl ⟨[],s.length+1 - j,j,by have:=R1.le;omega,El _,Km.refl _ _,R1,Gw.nil _ _ _,?_⟩
    unfold strP
    rw [hj]
   ·exact .inr ⟨e,he,Km.refl _ _,X⟩
 refine KD (KBa (lit:=[39]) R (by decide) (λj h1 hj K1 R1=>main h1 K1 (.inl ⟨j,hj,R1⟩)) (λe h1 hj K1 X1=>main h1 K1 (.inr ⟨e,?_,X1⟩)))
 unfold strP
 rw [hj]
theorem KSU {h:Heap} {Q:Ea->Heap->Prop} {g:Nat} {z cs:Ea} {t:TypeId} (hg:h[g]?=some (.cells z t (0,0))) (hz:z.size=4) (hc:cs.size=4) (h1:∀v∈cs.toList,one v=true)
  (H:∀h',Upd g h h'->Q cs h'):(M.need (cs.size=4)>>=λ_=>stG ⟨g,0,none⟩ cs>>=λ_=>ldG 4 ⟨g,0,none⟩>>=λr=>(M.pure r:M (Ea))).wp h Q:=by
 refine ZH hc (stR hg (by omega) h1 (λh' u g'=>?_))
 rw [KW (by rw [Ep];omega)]at g'
 exact ldR g' hc (KA (H _ u))
theorem KVk {β:Type} {h:Heap} {Q:β->Heap->Prop} {n:Int} {f:Ea->M β} (H:∀h',Ext h h'->(f (ZK 1 n [] Sl.nil)).wp h' Q):(V8 n>>=f).wp h Q:=KQk (cs:=ZK 1 n [] Sl.nil) rfl (ZF _ _ _ _) H
theorem KSV {β:Type} {h:Heap} {Q:β->Heap->Prop} {s:Eb} {f:Ea->M β} (H:∀h',Ext h h'->(f (ZK 2 0 s Sl.nil)).wp h' Q):(V9 (bs s)>>=f).wp h Q:=KQk (cs:=ZK 2 0 s Sl.nil) rfl (ZF _ _ _ _) H
theorem KHY {β:Type} {h:Heap} {Q:β->Heap->Prop} {c:Bool} {f:Ea->M β} (H:∀h',Ext h h'->(f (ZK 3 (if c=true then 1 else 0) [] Sl.nil)).wp h' Q):(U8 c>>=f).wp h Q:=by
 unfold U8
 refine KR (Kw (λh1 e1 hs1 g1=>?_))
 have key:∀n:Int,(∀h',Ext h h'->(f (ZK 3 n [] Sl.nil)).wp h' Q)->((M.need ((ZK 3 n [] Sl.nil).size=4)>>=λ_=>stG ⟨h.size,0,none⟩ (ZK 3 n [] Sl.nil)>>=λ_=>ldG 4 ⟨h.size,0,none⟩>>=λr=>(M.pure r:M (Ea)))>>=f).wp h1 Q:=by
  intro n HH
  refine KR (ZH rfl (KR (stR (cs:=vz) (vs:=ZK 3 n [] Sl.nil) g1 (Ee 4) (ZF _ _ _ _) (λh2 u2 g2=>KR ?_))))
  rw [KW (cs:=vz) (vs:=(ZK 3 n [] Sl.nil).toList) rfl]at g2
  exact ldR g2 rfl (KZ (HH _ (e1.upd u2 (Ee _))))
 refine KJF (λhc=>?_) (λhc=>?_)
 ·subst hc;exact key 1 H
 ·subst hc;exact key 0 H
def KZF (s:Eb) (d:Nat):Prop:=∀(i:Nat) (h:Heap) (Q:Ea->Heap->Prop) (b:Nat),Rgd h b s i->
 (∀v j h' c,pval s d i=.ok (v,j)->Kb b h h'->Rgd h' b s j->Zg (HS h h') h' v c->Q c h')->
 (∀e v h' c,pval s d i=.error e->Kb b h h'->Rx h' b s e->Zg (HS h h') h' v c->Q c h')->(Zi (some ⟨b,0,none⟩) ((8 - d:Nat):Int)).wp h Q
def KUW (two:Bool):Eb:=if two=true then [58,32]else [44,32]
theorem KSW {s:Eb} {d:Nat} (hd:d<=7) (IH:KZF s d) {en:UInt8} (hen:en≠0) (hen2:en≠44) {two:Bool} {i:Nat} {h:Heap} {Q:Sl->Heap->Prop} {b:Nat} (R:Rgd h b s (i+1)) (hi:i<s.length)
  (H1:∀l j h' r,Vc (pval s d) en two s (s.length - i) [] (i+1)=.ok (l,j)->Kb b h h'->Rgd h' b s j->VsRepS (HS h h') h' r l->Q r h')
  (H2:∀e h',Vc (pval s d) en two s (s.length - i) [] (i+1)=.error e->Kb b h h'->Rx h' b s e->Q Sl.nil h'):
  (Wj (some ⟨b,0,none⟩) ((7 - d:Nat):Int) (bs (KUW two)) (en.toNat:Int)).wp h Q:=by
 unfold Wj
 have hP:=KLG s d
 have hb1:=R.lt
 generalize htgt:Vc (pval s d) en two s (s.length - i) [] (i+1)=tgt at H1 H2
 refine KD (Gh R ?_)
 rw [u8_c (d:=en) (n:=(en.toNat:Int)) rfl]
 obtain⟨f0,hf0⟩:∃f0,s.length - i=f0+1:=⟨s.length - i - 1,by omega⟩
 rw [hf0,Vc]at htgt
 refine KH (λheq=>?_) (λhne=>?_)
 ·have heq:=Ec heq
  rw [if_pos heq]at htgt
  refine ql R (JM (by rw [heq];exact hen)) (λh2 u2 R2=>KA ?_)
  exact H1 [] _ h2 Sl.nil htgt.symm (Km.upd u2 rfl) R2 ⟨rfl,Ee _,by decide,by rw [qk];trivial⟩
 have hne:=Ed hne
 rw [if_neg hne]at htgt
 have hsep0:sepP ([]:List Vl) s (i+1)=.ok (i+1):=rfl
 rw [hsep0]at htgt
 let T (f:Nat) (l:List Vl) (i1:Nat):Except Nat (List Vl×Nat):=match Ya (pval s d) two s i1 with
  | .error e=>.error e
  | .ok (vs,i2)=>if KI s i2≠en/\KI s i2≠44 then .error i2 else Vc (pval s d) en two s f (l++vs) i2
 let C (f:Nat) (l:List Vl) (i2:Nat):Except Nat (List Vl×Nat):=if KI s i2≠en/\KI s i2≠44 then .error i2 else Vc (pval s d) en two s f l i2
 let B (f:Nat) (l:List Vl) (i1:Nat):Except Nat (List Vl×Nat):=match pval s d i1 with
  | .error e=>.error e
  | .ok (w,j)=>C f (l++[w]) j
 refine M.loop_inv (λ(x:Sl) hh=>(∃(l:List Vl) (css:List (Ea)) (f i':Nat),s.length<f+1+i'/\l.length<=i'/\Kb b h hh/\Rgd hh b s i'/\VGw h.size (λk=>h.size<=k/\k<hh.size/\¬Sl.on x k) hh x css l/\
   ((two=false/\T f l i'=tgt)\/(two=true/\l.length%2=0/\T f l i'=tgt)\/(two=true/\l.length%2=1/\B f l i'=tgt)))\/∃e,tgt=.error e/\Kb b h hh/\Rx hh b s e)
  (λx hh=>match hh[b]? with|some (.cells #[_,_,.int _ z] _ _)=>if z<0 then s.length+2 - x.len else 0|_=>0) ?_ ?_
 ·rintro x hh hst self hself
  unfold U2
  rcases hst with⟨l,css,f,i',hf,hli,K,R',G,hm⟩|⟨e,he,K,X⟩
  ·have hsm:=R'.small
   have hle:=R'.le
   have hxl:x.len=l.length:=by rw [G.gw.len4 G.w4,G.len]
   have hKs:=K.size
   have hmu:(match hh[b]? with|some (.cells #[_,_,.int _ z] _ _)=>if z<0 then s.length+2 - x.len else 0|_=>0)=s.length+2 - x.len:=by rw [R'.blk];rfl
   rw [hmu]at hself
   have bad:∀(e:Nat) (h2:Heap) (x2:Sl),tgt=.error e->Kb b h h2->Rx h2 b s e->(self x2).wp h2 Q:=by
    intro e h2 x2 he K2 X2
    refine hself _ _ (.inr ⟨e,he,K2,X2⟩) ?_
    obtain⟨k,_,_,g⟩:=X2
    rw [g]
    show(if((e:Nat):Int)<0 then s.length+2 - x2.len else 0)<_
    rw [if_neg (by omega)]
    omega
   refine Kc (KQq R' (iteT rfl ?_))
   rw [w64 (by omega) (by omega),show(((7 - d:Nat):Int)+1)=((8 - d:Nat):Int) by omega]
   have one_:∀{F:Sl->M Sl},(∀v j h3 x3 css3,pval s d i'=.ok (v,j)->Kb b h h3->Rgd h3 b s j->VGw h.size (λk=>h.size<=k/\k<h3.size/\¬Sl.on x3 k) h3 x3 css3 (l++[v])->(F x3).wp h3 Q)->
     (∀e h3 x3,pval s d i'=.error e->Kb b h h3->Rx h3 b s e->x3.len=l.length+1->(F x3).wp h3 Q)->
     (W5 Tryz.prog Zj #[.pointer (some ⟨b,0,none⟩),.int .i64 ((8 - d:Nat):Int)] (λr:Ea=>.agg r)>>=λXx24=>
      (Xs 4 1 (#[.int .i64 0,.int .i64 0,.string ByteArray.empty,.slice none 0 0]:Ea) [(0,.agg Xx24)]>>=λy=>bdL KB 1 y>>=λz=>apL KB 4 56 (#[.int .i64 0,.int .i64 0,.string ByteArray.empty,.slice none 0 0]:Ea) x z>>=F)).wp hh Q:=by
    intro F HF HE
    have put:∀(v:Vl) (h3:Heap) (c:Ea),Kb b hh h3->Zg (HS hh h3) h3 v c->(∀h4 x4 css4,Kb b h h4->h4[b]?=h3[b]?->VGw h.size (λk=>h.size<=k/\k<h4.size/\¬Sl.on x4 k) h4 x4 css4 (l++[v])->(F x4).wp h4 Q)->
      (Xs 4 1 (#[.int .i64 0,.int .i64 0,.string ByteArray.empty,.slice none 0 0]:Ea) [(0,.agg c)]>>=λy=>bdL KB 1 y>>=λz=>apL KB 4 56 (#[.int .i64 0,.int .i64 0,.string ByteArray.empty,.slice none 0 0]:Ea) x z>>=F).wp h3 Q:=by
     intro v h3 c K3 V3 hk
     have hK3:=K3.size
     have G3:VGw h.size (λk=>h.size<=k/\k<h3.size/\¬Sl.on x k) h3 x css l:=
      (G.same (λk hk=>K3.same k (G.gw.lt hk).1 (λe=>by have:=(G.gw.lt hk).2;omega)) (λk hk=>K3.same k hk.2.1 (λe=>by have:=hk.1;omega))).mono (λk hk=>⟨hk.1,by have:=hk.2.1;omega,hk.2.2⟩)
     refine KOH G3 (λk hk=>hk.2) (V3.mono (λk hk=>⟨by have:=hk.1;omega,hk.2,λho=>by have:=(G.gw.lt ho).1;have:=hk.1;omega⟩)) (by omega) (by omega) (λh4 x4 G4 hs4 same4 on4=>?_)
     refine hk h4 x4 _ ⟨by omega,λk hk hkb=>(same4 k (by omega) (λho=>by have:=(G.gw.lt ho).2;omega)).trans ((K.trans K3).same k hk hkb)⟩ (same4 b (by omega) (λho=>by have:=(G.gw.lt ho).2;omega)) (G4.mono (λk hk=>⟨hk.1,by have:=hk.2.1;omega,λho=>(on4 k ho).elim hk.2.2 (λh=>by have:=hk.2.1;omega)⟩))
    refine KD (YI (Ye _ _) (IH i' hh _ b R' (λv j h3 c hv K3 R3 V3=>?_) (λe v h3 c hv K3 X3 V3=>?_)))
    ·exact put v h3 c K3 V3 (λh4 x4 css4 K4 hb4 G4=>HF v j h4 x4 css4 hv K4 ⟨by rw [hb4];exact R3.blk,R3.le,R3.small⟩ G4)
    ·refine put v h3 c K3 V3 (λh4 x4 css4 K4 hb4 G4=>?_)
     obtain⟨q,q1,q2,q3⟩:=X3
     exact HE e h4 x4 hv K4 ⟨q,q1,q2,hb4.trans q3⟩ (by rw [G4.gw.len4 G4.w4,G4.len,List.length_append,List.length_singleton])
   have hev:sEq (bs (KUW two)) (⟨#[44,32]⟩:ByteArray)=!two:=by
    rw [show(⟨#[44,32]⟩:ByteArray)=bs [44,32]from rfl,KC4]
    cases two<;>decide
   rw [hev]
   have hmod:∀k:Nat,(Int.tmod (k:Int) 2)=((k%2:Nat):Int):=λk=>(Int.ofNat_tmod k 2).symm
   have whole:∀(l2:List Vl) (css2:List (Ea)) (j:Nat) (h3:Heap) (x3:Sl),i'<j->l2.length=l.length+1->Kb b h h3->Rgd h3 b s j->VGw h.size (λk=>h.size<=k/\k<h3.size/\¬Sl.on x3 k) h3 x3 css2 l2->(two=true->l2.length%2=0)->C f l2 j=tgt->
     (M.ite (decide (KI s j=en)) (nilP (some (⟨b,0,none⟩:Addr))>>=λx50=>ldI .i64 ((x50).add 1)>>=λx52=>nilP (some (⟨b,0,none⟩:Addr))>>=λx54=>stV ((x54).add 1) (.int .i64 (IntKind.wrap .i64 (x52+1)))>>=λ_=>M.pure x3)
      (M.ite ((Int.tmod (x3.len:Int) 2)==1) (KN (some ⟨b,0,none⟩) (bs (KUW two))>>=λ_=>self x3) (KN (some ⟨b,0,none⟩) (⟨#[44,32]⟩:ByteArray)>>=λ_=>self x3)):M Sl).wp h3 Q:=by
    intro l2 css2 j h3 x3 hij hl2 K3 R3 G3 hpar hC
    have hj:=R3.le
    have hx3:x3.len=l2.length:=by rw [G3.gw.len4 G3.w4,G3.len]
    refine KH (λheq=>?_) (λhne=>?_)
    ·have heq:=Ec heq
     have hjl:j<s.length:=JM (by rw [heq];exact hen)
     obtain⟨f',rfl⟩:∃f',f=f'+1:=⟨f - 1,by omega⟩
     refine ql R3 hjl (λh4 u4 R4=>KA ?_)
     have hu4:=u4.size
     have hC':tgt=.ok (l2,j+1):=by
      rw [<-hC]
      show(if KI s j≠en/\KI s j≠44 then _ else _)=_
      rw [if_neg (λhh=>hh.1 heq),Vc,if_pos heq]
     have G4:=G3.same (λk hk=>u4.ne k (λe=>by have:=(G3.gw.lt hk).2;omega)) (λk hk=>u4.ne k (λe=>by have:=hk.1;omega))
     refine H1 l2 (j+1) h4 x3 hC' (K3.trans (Km.upd u4 rfl)) R4 ?_
     refine(G4.rep_ (by omega)).same (λ_ _=>rfl) (λk hk=>?_)
     rcases hk with hk|hk
     ·exact⟨by have:=hk.1;omega,by have:=hk.2.1;omega⟩
     ·have:=G4.gw.lt hk
      exact⟨by omega,by omega⟩
    ·have hne:=Ed hne
     have hmust:(KN (some ⟨b,0,none⟩) (bs [44,32])>>=λ_=>self x3).wp h3 Q:=by
      refine KD (KBa (lit:=[44,32]) R3 (by decide) (λj2 h4 hj2 K4 R4=>?_) (λe h4 hj2 K4 X4=>?_))
      ·have hj2':=Vt hj2
       have h44:KI s j=44:=by
        rw [Xo]at hj2
        split at hj2
        ·rename_i hc
         unfold KI;rw [hc];rfl
        ·cases hj2
       have hjl:j<s.length:=JM (by rw [h44];decide)
       obtain⟨f',rfl⟩:∃f',f=f'+1:=⟨f - 1,by omega⟩
       have hT:T f' l2 j2=tgt:=by
        rw [<-hC]
        show _=(if KI s j≠en/\KI s j≠44 then _ else _)
        rw [if_neg (λhh=>hh.2 h44),Vc,if_neg hne]
        unfold sepP
        rw [if_neg (by omega),hj2]
        all_goals rfl
       have hK4:=K4.size
       have hK3:=K3.size
       have G4:VGw h.size (λk=>h.size<=k/\k<h4.size/\¬Sl.on x3 k) h4 x3 css2 l2:=
        (G3.same (λk hk=>K4.same k (G3.gw.lt hk).1 (λe=>by have:=(G3.gw.lt hk).2;omega)) (λk hk=>K4.same k hk.2.1 (λe=>by have:=hk.1;omega))).mono (λk hk=>⟨hk.1,by have:=hk.2.1;omega,hk.2.2⟩)
       have hj2l:j2=j+2:=hj2'.1
       refine hself _ _ (.inl ⟨l2,css2,f',j2,by omega,by omega,K3.trans K4,R4,G4,?_⟩) ?_
       ·cases two with
        |false=>exact .inl ⟨rfl,hT⟩
        |true=>exact .inr (.inl ⟨rfl,hpar rfl,hT⟩)
       ·rw [R4.blk]
        show(if(-1:Int)<0 then s.length+2 - x3.len else 0)<_
        rw [if_pos (by decide)]
        omega
      ·refine bad e h4 x3 ?_ (K3.trans K4) X4
       rw [<-hC]
       show(if KI s j≠en/\KI s j≠44 then _ else _)=_
       by_cases h44:KI s j=44
       ·have hjl:j<s.length:=JM (by rw [h44];decide)
        obtain⟨f',rfl⟩:∃f',f=f'+1:=⟨f - 1,by omega⟩
        rw [if_neg (λhh=>hh.2 h44),Vc,if_neg hne]
        unfold sepP
        rw [if_neg (by omega),hj2]
       ·rw [if_pos ⟨hne,h44⟩]
        rw [Xo,if_neg]at hj2
        ·cases hj2;rfl
        ·intro hc
         refine h44 ?_
         unfold KI;rw [hc];rfl
     refine KH (λhodd=>?_) (λheven=>?_)
     ·rw [hx3,hmod]at hodd
      have hodd:((l2.length%2:Nat):Int)=1:=by simpa using hodd
      cases two with
      |true=>have:=hpar rfl;omega
      |false=>exact hmust
     ·exact hmust
   have hbadmust:∀(e:Nat) (h3:Heap) (x3:Sl),tgt=.error e->Kb b h h3->Rx h3 b s e->(M.ite ((Int.tmod (x3.len:Int) 2)==1) (KN (some ⟨b,0,none⟩) (bs (KUW two))>>=λ_=>self x3) (KN (some ⟨b,0,none⟩) (⟨#[44,32]⟩:ByteArray)>>=λ_=>self x3):M Sl).wp h3 Q:=by
    intro e h3 x3 he K3 X3
    refine KH (λ_=>?_) (λ_=>?_)
    ·cases two with
     |true=>exact KD (KLU (c:=58) (r:=[32]) X3 (by decide) (bad e h3 x3 he K3 X3))
     |false=>exact KD (KLU (c:=44) (r:=[32]) X3 (by decide) (bad e h3 x3 he K3 X3))
    ·exact KD (KLU (c:=44) (r:=[32]) X3 (by decide) (bad e h3 x3 he K3 X3))
   refine one_ (λv j h3 x3 css3 hv K3 R3 G3=>?_) (λe h3 x3 hv K3 X3 hx3=>?_)
   ·have hvj:=hP _ _ _ hv
    have hx3:x3.len=(l++[v]).length:=by rw [G3.gw.len4 G3.w4,G3.len]
    have hll:(l++[v]).length=l.length+1:=by simp
    rw [hx3,hmod]
    rcases hm with⟨h2,hm⟩|⟨h2,hpar,hm⟩|⟨h2,hpar,hm⟩
    ·subst h2
     have hC:C f (l++[v]) j=tgt:=by
      rw [<-hm]
      show _=(match Ya (pval s d) false s i' with| .error e=>_| .ok (vs,i2)=>_)
      have hpair:Ya (pval s d) false s i'=.ok ([v],j):=by unfold Ya;rw [hv];rfl
      rw [hpair]
     refine or_b (c:=false) (λh=>by cases h) (Jp (c:=decide (KI s j=en)) (λ_ Q' hq=>KD (Gh R3 (KA (by rw [u8_c (d:=en) (n:=(en.toNat:Int)) rfl];exact hq)))) ?_)
     have:=whole _ _ j h3 x3 (by omega) hll K3 R3 G3 (λh=>by cases h) hC
     rw [hx3,hmod]at this
     exact this
    ·subst h2
     refine or_b (c:=false) (λ_ Q' hq=>KA ?_) (Jp (c:=false) (λh=>by cases h) (iteF rfl ?_))
     ·rw [show(((((l++[v]).length%2:Nat)):Int)==0)=false by rw [eqI];exact Eo (by omega)]
      exact hq
     refine iteT (by rw [eqI];exact Ej (by omega)) ?_
     refine KD (KBa (lit:=[58,32]) R3 (by decide) (λj2 h4 hj2 K4 R4=>?_) (λe h4 hj2 K4 X4=>?_))
     ·have hK4:=K4.size
      have hK3:=K3.size
      have G4:VGw h.size (λk=>h.size<=k/\k<h4.size/\¬Sl.on x3 k) h4 x3 css3 (l++[v]):=
       (G3.same (λk hk=>K4.same k (G3.gw.lt hk).1 (λe=>by have:=(G3.gw.lt hk).2;omega)) (λk hk=>K4.same k hk.2.1 (λe=>by have:=hk.1;omega))).mono (λk hk=>⟨hk.1,by have:=hk.2.1;omega,hk.2.2⟩)
      have hj2l:j2=j+2:=(Vt hj2).1
      have hB:B f (l++[v]) j2=tgt:=by
       rw [<-hm]
       show(match pval s d j2 with| .error e=>_| .ok (w,j)=>_)=(match Ya (pval s d) true s i' with| .error e=>_| .ok (vs,i2)=>_)
       unfold Ya
       rw [hv]
       dsimp only
       rw [if_pos rfl,hj2]
       dsimp only
       cases hw:pval s d j2 with
       |error e=>rfl
       |ok p=>
        obtain⟨w,j3⟩:=p
        dsimp only
        show(if KI s j3≠en/\KI s j3≠44 then _ else _)=_
        rw [Ek]
        rfl
      refine hself _ _ (.inl ⟨l++[v],css3,f,j2,by omega,by omega,K3.trans K4,R4,G4,.inr (.inr ⟨rfl,by omega,hB⟩)⟩) ?_
      rw [R4.blk]
      show(if(-1:Int)<0 then s.length+2 - x3.len else 0)<_
      rw [if_pos (by decide)]
      have:=R4.le
      omega
     ·refine bad e h4 x3 ?_ (K3.trans K4) X4
      rw [<-hm]
      show(match Ya (pval s d) true s i' with| .error e=>_| .ok (vs,i2)=>_)=_
      unfold Ya
      rw [hv]
      dsimp only
      rw [if_pos rfl,hj2]
    ·subst h2
     have hC:C f (l++[v]) j=tgt:=by
      rw [<-hm]
      show _=(match pval s d i' with| .error e=>_| .ok (w,j)=>_)
      rw [hv]
     refine or_b (c:=true) (λ_ Q' hq=>KA ?_) (Jp (c:=decide (KI s j=en)) (λ_ Q' hq=>KD (Gh R3 (KA (by rw [u8_c (d:=en) (n:=(en.toNat:Int)) rfl];exact hq)))) ?_)
     ·rw [show(((((l++[v]).length%2:Nat)):Int)==0)=true by rw [eqI];exact Ej (by omega)]
      exact hq
     have:=whole _ _ j h3 x3 (by omega) hll K3 R3 G3 (λ_=>by omega) hC
     rw [hx3,hmod]at this
     exact this
   ·have herr:tgt=.error e:=by
     rcases hm with⟨h2,hm⟩|⟨h2,hpar,hm⟩|⟨h2,hpar,hm⟩
     ·rw [<-hm]
      show(match Ya (pval s d) two s i' with| .error e=>_| .ok (vs,i2)=>_)=_
      unfold Ya
      rw [hv]
     ·rw [<-hm]
      show(match Ya (pval s d) two s i' with| .error e=>_| .ok (vs,i2)=>_)=_
      unfold Ya
      rw [hv]
     ·rw [<-hm]
      show(match pval s d i' with| .error e=>_| .ok (w,j)=>_)=_
      rw [hv]
    refine or_b (c:=((Int.tmod (x3.len:Int) 2)==0)) (λ_ Q' hq=>KA hq) (Jp (c:=false) (λ_ Q' hq=>KD (KIq X3 (KA ?_))) ?_)
    ·rw [show((0:Int)==(en.toNat:Int))=false by
      rw [eqI]
      refine Eo (λe=>hen (Fg.1 ?_))
      show en.toNat=0
      omega]
     exact hq
    ·rw [FH]
     exact iteF rfl (hbadmust e h3 x3 herr K3 X3)
  ·refine Kc (KOU X (iteF (Eo (by omega)) (KA ?_)))
   exact H2 e hh he K X
 ·refine .inl ⟨[],[],f0,i+1,by omega,El _,Km.refl _ _,R,VGw.nil _ _ _,?_⟩
  cases two with
  |false=>exact .inl ⟨rfl,htgt⟩
  |true=>exact .inr (.inl ⟨rfl,rfl,htgt⟩)
end Gx
namespace Gx
open Go Go.Proofs Go.Shelf Go.RowKit Go.Lib
theorem KVl (S:Nat->Prop) (h:Heap):Zg S h (.mk 0 0 [] []) (ZK 0 0 [] Sl.nil):=N4 S h ⟨by decide,by decide⟩ ⟨by decide,by decide⟩ (by decide)
theorem KPZ (s:Eb):∀d,d<=8->KZF s d
 |0,_=>λi h Q b R H1 H2=>by
  unfold Zi
  refine Kw (λh1 e1 hs1 g1=>iteT (by rfl) (XL (R.ext e1) (λh2 u2 X2=>?_)))
  have hbl:=R.lt
  refine KSU (cs:=ZK 0 0 [] Sl.nil) ((u2.ne _ (by omega)).trans g1) rfl rfl (ZF _ _ _ _) (λh3 u3=>?_)
  have Ku:Kb b h1 h2:=Km.upd u2 rfl
  have Kh:Kb b h h2:=(Km.ext e1).trans Ku
  exact H2 i (.mk 0 0 [] []) h3 _ rfl (Kh.own u3 (Ee _)) (X2.upd u3 (by omega)) (KVl _ _)
 |d+1,hd=>λi h Q b R H1 H2=>by
  have IH:=KPZ s d (by omega)
  unfold Zi
  refine Kw (λh1 e1 hs1 g1=>iteF (Eo (by omega)) ?_)
  have R1:=R.ext e1
  have hbl:=R.lt
  have K1:Kb b h h1:=Km.ext e1
  have fin:∀(v:Vl) (cs:Ea) (h2:Heap),Kb b h1 h2->Zg (λk=>h1.size<=k/\k<h2.size) h2 v cs->(∀h3,Kb b h h3->h3[b]?=h2[b]?->Zg (HS h h3) h3 v cs->Q cs h3)->
    (M.need (cs.size=4)>>=λ_=>stG ⟨h.size,0,none⟩ cs>>=λ_=>ldG 4 ⟨h.size,0,none⟩>>=λr=>(M.pure r:M (Ea))).wp h2 Q:=by
   intro v cs h2 K2 V2 hk
   have g2:=K2.blk g1 (show ¬h.size=b by omega)
   refine KSU g2 rfl V2.size V2.to.one (λh3 u3=>hk h3 ?_ (u3.ne b (by omega)) ?_)
   ·have:=K1.trans K2
    exact⟨by rw [u3.size];exact this.size,λq hq hqb=>(u3.ne q (by omega)).trans (this.same q hq hqb)⟩
   ·have hu:=u3.size
    exact(V2.same (λk hk=>u3.ne k (by omega))).mono (λk hk=>⟨by omega,by omega⟩)
  have finG:∀(v:Vl) (cs:Ea) (j:Nat) (h2:Heap),pval s (d+1) i=.ok (v,j)->Kb b h1 h2->Rgd h2 b s j->Zg (λk=>h1.size<=k/\k<h2.size) h2 v cs->
    (M.need (cs.size=4)>>=λ_=>stG ⟨h.size,0,none⟩ cs>>=λ_=>ldG 4 ⟨h.size,0,none⟩>>=λr=>(M.pure r:M (Ea))).wp h2 Q:=
   λv cs j h2 hv K2 R2 V2=>fin v cs h2 K2 V2 (λh3 K3 hb3 V3=>H1 v j h3 cs hv K3 ⟨by rw [hb3];exact R2.blk,R2.le,R2.small⟩ V3)
  have finX:∀(v:Vl) (cs:Ea) (e:Nat) (h2:Heap),pval s (d+1) i=.error e->Kb b h1 h2->Rx h2 b s e->Zg (λk=>h1.size<=k/\k<h2.size) h2 v cs->
    (M.need (cs.size=4)>>=λ_=>stG ⟨h.size,0,none⟩ cs>>=λ_=>ldG 4 ⟨h.size,0,none⟩>>=λr=>(M.pure r:M (Ea))).wp h2 Q:=by
   intro v cs e h2 hv K2 X2 V2
   refine fin v cs h2 K2 V2 (λh3 K3 hb3 V3=>H2 e v h3 cs hv K3 ?_ V3)
   obtain⟨q,q1,q2,q3⟩:=X2
   exact⟨q,q1,q2,hb3.trans q3⟩
  have scal:∀{k n:Int} {t:Eb} {S:Nat->Prop} {h2:Heap},I64 k->I64 n->t.length<=1099511627776->Zg S h2 (.mk k n t []) (ZK k n t Sl.nil):=λhk hn ht=>N4 _ _ hk hn (by omega)
  have hle:=R.le
  have hsm:=R.small
  have i1:I64 1:=⟨by decide,by decide⟩
  have i0:I64 0:=⟨by decide,by decide⟩
  rw [pval]at finG finX
  clear fin
  refine KD (Gh R1 ?_)
  refine or_b (c:=digB (KI s i)) (λ_ Q' hq=>KD (qm (KA hq))) ?_
  rw [u8_c (d:=45) (n:=45) rfl]
  refine KH (λhc=>?_) (λhc=>?_)
  ·have hc:KI s i=45\/digB (KI s i)=true:=by rwa [EO,Ei]at hc
   rw [if_pos hc]at finG finX
   refine KD (KNA R1 (λn j h2 hn K2 R2=>?_) (λe h2 hn K2 X2=>?_))
   ·exact KVk (λh3 e3=>finG (.mk 1 n [] []) _ j h3 (by rw [hn]) (K2.trans (Km.ext e3)) (R2.ext e3) (scal i1 (KEM hn hle).1 (by decide)))
   ·exact KVk (λh3 e3=>finX (.mk 1 0 [] []) _ e h3 (by rw [hn]) (K2.trans (Km.ext e3)) (X2.ext e3) (scal i1 i0 (by decide)))
  have hc:¬(KI s i=45\/digB (KI s i)=true):=λhh=>by
   rw [<-Ei (p:=KI s i=45),<-EO,hc]at hh
   cases hh
  rw [if_neg hc]at finG finX
  rw [u8_c (d:=39) (n:=39) rfl]
  refine KH (λhc=>?_) (λhc=>?_)
  ·rw [if_pos (Ec hc)]at finG finX
   refine KD (KZE R1 (λt j h2 ht K2 R2=>?_) (λe h2 ht K2 X2=>?_))
   ·exact KSV (λh3 e3=>finG (.mk 2 0 t []) _ j h3 (by rw [ht]) (K2.trans (Km.ext e3)) (R2.ext e3) (scal ⟨by decide,by decide⟩ i0 (by have:=(KLE ht).2.2;omega)))
   ·exact KSV (λh3 e3=>finX (.mk 2 0 [] []) _ e h3 (by rw [ht]) (K2.trans (Km.ext e3)) (X2.ext e3) (scal ⟨by decide,by decide⟩ i0 (by decide)))
  rw [if_neg (Ed hc)]at finG finX
  rw [u8_c (d:=116) (n:=116) rfl]
  refine KH (λhc=>?_) (λhc=>?_)
  ·rw [if_pos (Ec hc)]at finG finX
   refine KD (KBa (lit:=[116,114,117,101]) R1 (by decide) (λj h2 hj K2 R2=>?_) (λe h2 hj K2 X2=>?_))
   ·exact KHY (λh3 e3=>finG (.mk 3 1 [] []) _ j h3 (by rw [hj]) (K2.trans (Km.ext e3)) (R2.ext e3) (scal ⟨by decide,by decide⟩ i1 (by decide)))
   ·exact KHY (λh3 e3=>finX (.mk 3 1 [] []) _ e h3 (by rw [hj]) (K2.trans (Km.ext e3)) (X2.ext e3) (scal ⟨by decide,by decide⟩ i1 (by decide)))
  rw [if_neg (Ed hc)]at finG finX
  rw [u8_c (d:=102) (n:=102) rfl]
  refine KH (λhc=>?_) (λhc=>?_)
  ·rw [if_pos (Ec hc)]at finG finX
   refine KD (KBa (lit:=[102,97,108,115,101]) R1 (by decide) (λj h2 hj K2 R2=>?_) (λe h2 hj K2 X2=>?_))
   ·exact KHY (λh3 e3=>finG (.mk 3 0 [] []) _ j h3 (by rw [hj]) (K2.trans (Km.ext e3)) (R2.ext e3) (scal ⟨by decide,by decide⟩ i0 (by decide)))
   ·exact KHY (λh3 e3=>finX (.mk 3 0 [] []) _ e h3 (by rw [hj]) (K2.trans (Km.ext e3)) (X2.ext e3) (scal ⟨by decide,by decide⟩ i0 (by decide)))
  rw [if_neg (Ed hc)]at finG finX
  rw [u8_c (d:=118) (n:=118) rfl,u8_c (d:=101) (n:=101) rfl]
  refine or_b (c:=decide (KI s i=101)) (λ_ Q' hq=>KA hq) ?_
  refine KH (λhc=>?_) (λhc=>?_)
  ·have hc:KI s i=118\/KI s i=101:=by rwa [EO,Ei,Ei]at hc
   have hil:i<s.length:=JM (by rcases hc with h|h<;>(rw [h];decide))
   suffices body:∀k:Int,I64 k->(if decide (KI s i=118)=true then k=6 else k=7)->
     (∀(v:Vl) (cs:Ea) (j:Nat) (h2:Heap),zY k s i=.ok (v,j)->Kb b h1 h2->Rgd h2 b s j->Zg (λk=>h1.size<=k/\k<h2.size) h2 v cs->(M.need (cs.size=4)>>=λ_=>stG ⟨h.size,0,none⟩ cs>>=λ_=>ldG 4 ⟨h.size,0,none⟩>>=λr=>(M.pure r:M (Ea))).wp h2 Q)->
     (∀(v:Vl) (cs:Ea) (e:Nat) (h2:Heap),zY k s i=.error e->Kb b h1 h2->Rx h2 b s e->Zg (λk=>h1.size<=k/\k<h2.size) h2 v cs->(M.need (cs.size=4)>>=λ_=>stG ⟨h.size,0,none⟩ cs>>=λ_=>ldG 4 ⟨h.size,0,none⟩>>=λr=>(M.pure r:M (Ea))).wp h2 Q)->_ by
    by_cases h:KI s i=118
    ·rw [if_pos h]at finG finX
     exact body 6 ⟨by decide,by decide⟩ (by rw [if_pos (Ej h)]) finG finX
    ·rw [if_neg h,if_pos (hc.resolve_left h)]at finG finX
     exact body 7 ⟨by decide,by decide⟩ (by rw [if_neg (by simpa using h)]) finG finX
   clear finG finX
   intro k ik hkk finG finX
   refine ql R1 hil (λh2 u2 R2=>?_)
   have K2:Kb b h1 h2:=Km.upd u2 rfl
   have g2:h2[h.size]?=some (.cells vz KB (0,0)):=(u2.ne _ (by omega)).trans g1
   have tail:∀(n:Int) (h3:Heap),Kb b h2 h3->I64 n->(∀h4,Kb b h1 h4->h4[b]?=h3[b]?->h4[h3.size]?=some (.cells (ZK k n [] Sl.nil) KB (0,0))->h4[h.size]?=some (.cells vz KB (0,0))->h3.size<h4.size->(Ki (some ⟨b,0,none⟩) ⟨h.size,0,none⟩ ⟨h3.size,0,none⟩).wp h4 Q)->
     (mkB KB (#[.int .i64 0,.int .i64 0,.string ByteArray.empty,.slice none 0 0]:Ea)>>=λXx54=>
      M.need ((ZK 7 n [] Sl.nil).size=4)>>=λ_=>stG Xx54 (ZK 7 n [] Sl.nil)>>=λ_=>
      M.ite (decide (KI s i=118)) (stV ((Xx54).add 0) (.int .i64 6)>>=λ_=>Ki (some ⟨b,0,none⟩) ⟨h.size,0,none⟩ Xx54) (Ki (some ⟨b,0,none⟩) ⟨h.size,0,none⟩ Xx54):M (Ea)).wp h3 Q:=by
    intro n h3 K3 hn hk
    have hK3:=K3.size
    have hu2:=u2.size
    have hb3:b<h3.size:=by omega
    refine Kw (λh4 e4 hs4 g4=>ZH rfl (stR (cs:=vz) (vs:=ZK 7 n [] Sl.nil) g4 (Ee 4) (ZF _ _ _ _) (λh5 u5 g5=>?_)))
    rw [KW (cs:=vz) (vs:=(ZK 7 n [] Sl.nil).toList) rfl]at g5
    have hu5:=u5.size
    have K5:Kb b h1 h5:=K2.trans (K3.trans ⟨by omega,λq hq _=>(u5.ne q (by omega)).trans (e4.same q hq)⟩)
    have hb5:h5[b]?=h3[b]?:=(u5.ne b (by omega)).trans (e4.same b hb3)
    have hv5:h5[h.size]?=some (.cells vz KB (0,0)):=(u5.ne _ (by omega)).trans ((e4.same _ (by omega)).trans (K3.blk g2 (show ¬h.size=b by omega)))
    by_cases hv:KI s i=118
    ·rw [Ej hv]at hkk⊢
     rw [if_pos rfl]at hkk
     subst hkk
     refine iteT rfl (qF (x:=.int .i64 7) (by rw [KM,KF g5];rfl) (by rw [KM];exact Kv g5) rfl ?_)
     rw [KM,EC]
     have u6:=Upd.hset h5 h3.size 0 (.int .i64 6)
     have g6:(hset h5 ⟨h3.size,0,none⟩ (.int .i64 6))[h3.size]?=some (.cells (ZK 6 n [] Sl.nil) KB (0,0)):=J8 g5
     exact hk _ ⟨by rw [u6.size];exact K5.size,λq hq hqb=>(u6.ne q (by have:=K2.size;omega)).trans (K5.same q hq hqb)⟩ ((u6.ne b (by omega)).trans hb5) g6 ((u6.ne _ (by omega)).trans hv5) (by rw [u6.size];omega)
    ·rw [Eo hv]at hkk⊢
     rw [if_neg (by decide)]at hkk
     subst hkk
     exact iteF rfl (hk h5 K5 hb5 g5 hv5 (by omega))
   have j1X:∀(n:Int) (h3 h4:Heap) (e:Nat),zY k s i=.error e->I64 n->Rx h3 b s e->h1.size<=h3.size->Kb b h1 h4->h4[b]?=h3[b]?->h4[h3.size]?=some (.cells (ZK k n [] Sl.nil) KB (0,0))->h3.size<h4.size->(Ki (some ⟨b,0,none⟩) ⟨h.size,0,none⟩ ⟨h3.size,0,none⟩).wp h4 Q:=by
    intro n h3 h4 e he hn X3 hs3 K4 hb4 g4 hlt
    have X4:Rx h4 b s e:=by obtain⟨q,q1,q2,q3⟩:=X3;exact⟨q,q1,q2,hb4.trans q3⟩
    unfold Ki
    refine KD (KLU (c:=93) (r:=[]) X4 (by decide) (ldR g4 rfl ?_))
    exact finX (.mk k n [] []) _ e h4 he K4 X4 (scal ik hn (by decide))
   refine KD (KBa (lit:=[91]) R2 (by decide) (λj h3 hj K3 R3=>?_) (λe h3 hj K3 X3=>?_))
   ·refine KD (KNA R3 (λn j2 h4 hn K4 R4=>?_) (λe h4 hn K4 X4=>?_))
    ·have in_:=(KEM hn R3.le).1
     refine tail n h4 (K3.trans K4) in_ (λh5 K5 hb5 g5 hv5 hlt=>?_)
     have R5:Rgd h5 b s j2:=⟨by rw [hb5];exact R4.blk,R4.le,R4.small⟩
     have hs4:h1.size<=h4.size:=by have:=(K2.trans (K3.trans K4)).size;exact this
     have hbl1:b<h1.size:=by omega
     unfold Ki
     refine KD (KBa (lit:=[93]) R5 (by decide) (λj3 h6 hj3 K6 R6=>?_) (λe h6 hj3 K6 X6=>?_))
     ·refine ldR (K6.blk g5 (show ¬h4.size=b by omega)) rfl ?_
      refine finG (.mk k n [] []) _ j3 h6 ?_ (K5.trans K6) R6 (scal ik in_ (by decide))
      unfold zY;rw [hj];dsimp only;rw [hn];dsimp only;rw [hj3]
     ·refine ldR (K6.blk g5 (show ¬h4.size=b by omega)) rfl ?_
      refine finX (.mk k n [] []) _ e h6 ?_ (K5.trans K6) X6 (scal ik in_ (by decide))
      unfold zY;rw [hj];dsimp only;rw [hn];dsimp only;rw [hj3]
    ·refine tail 0 h4 (K3.trans K4) i0 (λh5 K5 hb5 g5 hv5 hlt=>?_)
     exact j1X 0 h4 h5 e (by unfold zY;rw [hj];dsimp only;rw [hn]) i0 X4 (by have:=(K2.trans (K3.trans K4)).size;exact this) K5 hb5 g5 hlt
   ·refine KD (KST X3 ?_)
    refine tail 0 h3 K3 i0 (λh5 K5 hb5 g5 hv5 hlt=>?_)
    exact j1X 0 h3 h5 e (by unfold zY;rw [hj]) i0 X3 (by have:=(K2.trans K3).size;exact this) K5 hb5 g5 hlt
  have hc:¬KI s i=118/\¬KI s i=101:=by
   rw [Ff,EQ,EQ]at hc
   exact hc
  rw [if_neg hc.1,if_neg hc.2]at finG finX
  rw [u8_c (d:=91) (n:=91) rfl,u8_c (d:=123) (n:=123) rfl,show((8 - (d+1):Nat):Int)=((7 - d:Nat):Int) by omega]
  refine KH (λhc=>?_) (λhc=>?_)
  ·have hcc:=Ec hc
   have hil:i<s.length:=JM (by rw [hcc];decide)
   rw [if_pos hcc]at finG finX
   refine ql R1 hil (λh2 u2 R2=>?_)
   have hu2:=u2.size
   have Ku:Kb b h1 h2:=Km.upd u2 rfl
   refine KD (YI (XG _ _ _ _) (KSW (two:=false) (en:=93) (by omega) IH (by decide) (by decide) R2 hil (λl j h3 r hl K3 R3 V3=>?_) (λe h3 hl K3 X3=>?_)))
   ·exact finG (.mk 4 0 [] l) _ j h3 (by rw [hl]) (Ku.trans K3) R3 (KFo ⟨by decide,by decide⟩ i0 (V3.same (λ_ _=>rfl) (λk hk=>⟨by have:=hk.1;omega,hk.2⟩)))
   ·exact finX (.mk 4 0 [] []) _ e h3 (by rw [hl]) (Ku.trans K3) X3 (scal ⟨by decide,by decide⟩ i0 (by decide))
  rw [if_neg (Ed hc)]at finG finX
  refine KH (λhc=>?_) (λhc=>?_)
  ·have hcc:=Ec hc
   have hil:i<s.length:=JM (by rw [hcc];decide)
   rw [if_pos hcc]at finG finX
   refine ql R1 hil (λh2 u2 R2=>?_)
   have hu2:=u2.size
   have Ku:Kb b h1 h2:=Km.upd u2 rfl
   refine KD (YI (XG _ _ _ _) (KSW (two:=true) (en:=125) (by omega) IH (by decide) (by decide) R2 hil (λl j h3 r hl K3 R3 V3=>?_) (λe h3 hl K3 X3=>?_)))
   ·exact finG (.mk 5 0 [] l) _ j h3 (by rw [hl]) (Ku.trans K3) R3 (KFo ⟨by decide,by decide⟩ i0 (V3.same (λ_ _=>rfl) (λk hk=>⟨by have:=hk.1;omega,hk.2⟩)))
   ·exact finX (.mk 5 0 [] []) _ e h3 (by rw [hl]) (Ku.trans K3) X3 (scal ⟨by decide,by decide⟩ i0 (by decide))
  rw [if_neg (Ed hc)]at finX
  exact XL R1 (λh2 u2 X2=>finX (.mk 0 0 [] []) (ZK 0 0 [] Sl.nil) i h2 rfl (Km.upd u2 rfl) X2 (KVl _ _))
theorem KIs {s:Eb} {h:Heap} {Q:Ea×Int×Int->Heap->Prop} (hs:s.length<=1099511627776)
  (H:∀h' c,Ext h h'->Zg (h.size<=·) h' (ZT s).1 c->Q (c,((ZT s).2.1:Int),(ZT s).2.2) h'):(Ud (bs s)).wp h Q:=by
 unfold Ud
 refine Kw (λh1 e1 s1 g1=>KWY ?_)
 have e2:=Ext.push h1 (.cells (#[.string (bs s),.int .i64 0,.int .i64 (-1)]:Ea) ZV)
 have g2:(h1.push (.cells (#[.string (bs s),.int .i64 0,.int .i64 (-1)]:Ea) ZV))[h1.size]?=some (.cells (#[.string (bs s),.int .i64 0,.int .i64 (-1)]:Ea) ZV (0,0)):=Kx
 have s2:(h1.push (.cells (#[.string (bs s),.int .i64 0,.int .i64 (-1)]:Ea) ZV)).size=h1.size+1:=F4 ..
 generalize h1.push (.cells (#[.string (bs s),.int .i64 0,.int .i64 (-1)]:Ea) ZV)=h2 at e2 g2 s2⊢
 have R2:Rgd h2 h1.size s 0:=⟨g2,El _,hs⟩
 have g1':h2[h.size]?=some (.cells vz KB (0,0)):=e2.blk g1
 have endX:∀(e:Nat) (h5:Heap) (p:Nat),ZT s=(vl0,e,22)->Kb h1.size h2 h5->Rx h5 h1.size s e->(JP ⟨h.size,0,none⟩ (some ⟨h1.size,0,none⟩) ⟨p,0,none⟩).wp h5 Q:=by
  intro e h5 p hP K5 X5
  rw [hP]at H
  have g5:=K5.blk g1' (show ¬h.size=h1.size by omega)
  unfold JP
  refine Kc (KOU X5 (iteT (Ej (by omega)) (Kc (KOU X5 ?_))))
  refine ZH rfl (stR (cs:=vz) (vs:=ZK 0 0 [] Sl.nil) g5 (Ee 4) (ZF 0 0 [] Sl.nil) (λh6 u6 g6=>?_))
  rw [KW (cs:=vz) (vs:=(ZK 0 0 [] Sl.nil).toList) rfl]at g6
  have X6:=X5.upd u6 (by omega)
  refine qE ?_ (ldR g6 rfl (KA (H h6 _ ?_ (KIY _ _))))
  ·obtain⟨q,_,_,q3⟩:=X6
   rw [KM,KF q3];rfl
  ·refine⟨by have:=K5.size;have:=u6.size;omega,λi hi=>?_⟩
   exact(u6.ne i (by omega)).trans ((K5.same i (by omega) (by omega)).trans ((e2.same i (by omega)).trans (e1.same i hi)))
 refine KD (KPZ s 8 (by decide) 0 h2 _ h1.size R2 (λv j h3 c hv K3 R3 V3=>?_) (λe v h3 c hv K3 X3 V3=>?_))
 ·refine Kw (λh4 e4 s4 g4=>ZH V3.size (stR g4 (by rw [V3.size];exact Ee 4) V3.to.one (λh5 u5 g5=>?_)))
  rw [KW (cs:=vz) (vs:=c.toList) (by rw [Ep,V3.size];rfl),EG]at g5
  have hK3:=K3.size
  have hu5:=u5.size
  have K5:Kb h1.size h2 h5:=K3.trans ⟨by omega,λq hq _=>(u5.ne q (by omega)).trans (e4.same q hq)⟩
  have R5:Rgd h5 h1.size s j:=⟨(u5.ne _ (by omega)).trans (e4.blk R3.blk),R3.le,R3.small⟩
  have V5:Zg (HS h2 h3) h5 v c:=V3.same (λk hk=>(u5.ne k (by have:=hk.2;omega)).trans (e4.same k hk.2))
  refine Kc (KQq R5 ?_)
  refine Jp (c:=decide (j<s.length)) (λ_ Q' hq=>Kc (KIo R5 (KA ?_))) ?_
  ·rw [Ke,show decide ((j:Int)<(s.length:Int))=decide (j<s.length)from Es.2 (by omega)]
   exact hq
  refine KH (λhc=>?_) (λhc=>?_)
  ·have hj:j<s.length:=by simpa using hc
   have hP:ZT s=(vl0,j,22):=by unfold ZT KBZ;rw [hv];dsimp only;rw [if_pos hj]
   exact XL R5 (λh6 u6 X6=>endX j h6 _ hP (K5.trans (Km.upd u6 rfl)) X6)
  ·have hj:¬j<s.length:=by simpa using hc
   have hR:KBZ s=.ok v:=by unfold KBZ;rw [hv];dsimp only;rw [if_neg hj]
   unfold JP
   have g5':=K5.blk g1' (show ¬h.size=h1.size by omega)
   refine Kc (KQq R5 (iteF rfl (ldR g5 V3.size (KD (KIU V5.to (λh6 e6=>?_))))))
   have g6:=e6.blk g5
   have g6':=e6.blk g5'
   have E6:Ext h h6:=⟨by have:=e6.size;omega,λi hi=>(e6.same i (by omega)).trans ((K5.same i (by omega) (by omega)).trans ((e2.same i (by omega)).trans (e1.same i hi)))⟩
   unfold KFn
   by_cases hm:mayV 8 v=true
   ·rw [if_pos hm]
    have hP:ZT s=(v,0,0):=by unfold ZT;rw [hR];dsimp only;rw [if_pos hm]
    rw [hP]at H
    refine iteF rfl (ldR g6 V3.size (ZH V3.size (stR g6' (by rw [V3.size];exact Ee 4) V3.to.one (λh7 u7 g7=>?_))))
    rw [KW (cs:=vz) (vs:=c.toList) (by rw [Ep,V3.size];rfl),EG]at g7
    refine ldR g7 V3.size (KA (H h7 c (E6.upd u7 (Ee _)) ?_))
    exact(V5.same (λk hk=>(u7.ne k (by have:=hk.1;omega)).trans (e6.same k (by have:=hk.2;omega)))).mono (λk hk=>by have:=hk.1;omega)
   ·rw [if_neg hm]
    have hP:ZT s=(vl0,0,20):=by unfold ZT;rw [hR];dsimp only;rw [if_neg hm]
    rw [hP]at H
    refine iteT rfl (ZH rfl (stR (cs:=vz) (vs:=ZK 0 0 [] Sl.nil) g6' (Ee 4) (ZF 0 0 [] Sl.nil) (λh7 u7 g7=>?_)))
    rw [KW (cs:=vz) (vs:=(ZK 0 0 [] Sl.nil).toList) rfl]at g7
    exact ldR g7 rfl (KA (H h7 _ (E6.upd u7 (Ee _)) (KIY _ _)))
 ·have hP:ZT s=(vl0,e,22):=by unfold ZT KBZ;rw [hv]
  refine Kw (λh4 e4 s4 g4=>ZH V3.size (stR g4 (by rw [V3.size];exact Ee 4) V3.to.one (λh5 u5 g5=>?_)))
  have hK3:=K3.size
  have hu5:=u5.size
  have K5:Kb h1.size h2 h5:=K3.trans ⟨by omega,λq hq _=>(u5.ne q (by omega)).trans (e4.same q hq)⟩
  have X5:Rx h5 h1.size s e:=(X3.ext e4).upd u5 (by omega)
  refine Kc (KOU X5 ?_)
  refine Jp (c:=false) (λhh=>absurd (Ec hh) (by omega)) ?_
  rw [FH]
  exact iteF rfl (endX e h5 _ hP K5 X5)
end Gx
namespace Gx
open Go
theorem KJ4 {c:UInt8} {h:Heap} {Q:Bool->Heap->Prop} (H:Q (GL c) h):(U6 (c.toNat:Int)).wp h Q:=by
 unfold U6
 refine M.loop_inv (λ(t:Int) hh=>hh=h/\∃i:Nat,t=(i:Int)/\i<=11/\(KMr.drop i).contains c=GL c) (λt _=>((11:Int) - t).toNat) ?_ ⟨rfl,0,rfl,El _,rfl⟩
 rintro t hh ⟨rfl,i,rfl,hi,hm⟩ self hself
 unfold XS
 refine KH (λhc=>?_) (λhc=>KA ?_)
 ·have hic:i<KMr.length:=by have:=Ec hc;show i<11;omega
  refine VX (l:=KMr) rfl hic ?_
  rw [Eh hic,List.contains_cons]at hm
  generalize KMr[i]=d at hm⊢
  rw [eqI]
  refine KH (λh1=>KA ?_) (λh1=>?_)
  ·have:d=c:=Fg.1 (by have:=Ec h1;omega)
   subst this
   rw [beq_self_eq_true,Bool.true_or]at hm
   rw [hm];exact H
  ·have hne:(c==d)=false:=by
    cases h2:(c==d)with
    |false=>rfl
    |true=>
     have:=eq_of_beq h2
     subst this
     exact absurd rfl (Ed h1)
   rw [hne,F5]at hm
   have hi11:i<11:=hic
   rw [w64 (by omega) (by omega)]
   exact hself _ _ ⟨rfl,i+1,by push_cast;rfl,hic,hm⟩ (by omega)
 ·have:i=11:=by have:=Ed hc;omega
  subst this
  have hm:false=GL c:=hm
  rw [hm];exact H
theorem KG1 {c:UInt8} {h:Heap} {Q:Bool->Heap->Prop} (H:Q (letB c) h):(J0 (c.toNat:Int)).wp h Q:=by
 unfold J0
 refine Jp (c:=decide ((c.toNat:Int)<=122)) (λ_ Q' hq=>KA hq) ?_
 refine or_b (c:=decide ((c.toNat:Int)>=65)&&decide ((c.toNat:Int)<=90)) (λ_ Q' hq=>Jp (c:=decide ((c.toNat:Int)<=90)) (λ_ Q'' hq2=>KA hq2) (KA hq)) ?_
 refine or_b (c:=decide ((c.toNat:Int)=95)) (λ_ Q' hq=>KA (by rw [eqI];exact hq)) (KA ?_)
 have:(decide ((c.toNat:Int)>=97)&&decide ((c.toNat:Int)<=122)||(decide ((c.toNat:Int)>=65)&&decide ((c.toNat:Int)<=90))||decide ((c.toNat:Int)=95))=letB c:=by
  unfold letB isLt
  rw [<-FM,<-FM,<-Fe,<-Fe]
  exact Es.2 (by omega)
 rw [this]
 exact H
theorem KOV {c:UInt8} {h:Heap} {Q:Bool->Heap->Prop} (H:Q (isDg c.toNat) h):(Vz (c.toNat:Int)).wp h Q:=by
 unfold Vz
 refine Jp (c:=decide ((c.toNat:Int)<=57)) (λ_ Q' hq=>KA hq) (KA ?_)
 have:(decide ((c.toNat:Int)>=48)&&decide ((c.toNat:Int)<=57))=isDg c.toNat:=by
  unfold isDg
  rw [<-FM]
  exact Es.2 (by omega)
 rw [this]
 exact H
theorem KJ5 {s:Eb} {h:Heap} {Q:Int->Heap->Prop} (hs:s.length<=1099511627776) (H:Q (Jd s:Int) h):(U7 (bs s)).wp h Q:=by
 unfold U7
 refine M.loop_inv (λ(z:Int) hh=>∃i:Nat,z=(i:Int)/\hh=h/\i<=s.length/\Jd s=i+Jd (s.drop i)) (λz _=>((s.length:Int) - z).toNat) ?_ ⟨0,rfl,rfl,El _,by rw [Fd];omega⟩
 rintro z hh ⟨i,rfl,rfl,hi,hw⟩ self hself
 unfold XT
 rw [Ke]
 by_cases hlt:i<s.length
 ·refine Ve (Ej (by omega)) (KR (VX (i:=i) rfl hlt (KR (KD (KG1 ?_)))))
  rw [Eh hlt,KEN]at hw
  refine KR (or_b (c:=isDg (s[i]).toNat) (λ_ Q' hq=>VX (i:=i) rfl hlt (KD (KOV (KA hq)))) (KZ ?_))
  rw [show(letB s[i]||isDg (s[i]).toNat)=KAA s[i]from rfl]
  refine KH (λhc=>?_) (λhc=>KA ?_)
  ·rw [if_pos hc]at hw
   rw [w64 (by omega) (by omega)]
   exact hself _ _ ⟨i+1,by simp,rfl,hlt,by omega⟩ (by omega)
  ·rw [if_neg (by rw [hc];decide)]at hw
   rw [show(i:Int)=(Jd s:Int) by omega]
   exact H
 ·refine Y9 (Eo (by omega)) (KZ (iteF rfl (KA ?_)))
  have hi':i=s.length:=by omega
  subst hi'
  rw [EY]at hw
  have hw:Jd s=s.length:=hw
  rw [show(s.length:Int)=(Jd s:Int) by omega]
  exact H
def KXB:Eb->Nat
 | []=>0
 |c::r=>if c=39 then Wl (c::r)else 0
theorem KNB {s:Eb} {h:Heap} {Q:Int->Heap->Prop} (hs:s.length<=1099511627776) (H:Q (KXB s:Int) h):(VJ (bs s)).wp h Q:=by
 unfold VJ
 rw [Ke,eqI]
 cases s with
 |nil=>exact Ve (Ej rfl) (KZ (iteT rfl (KA H)))
 |cons c r=>
  refine Y9 (Eo (by simp only [Ef];omega)) (KR (VX (i:=0) rfl (by simp) (KZ ?_)))
  rw [show(c::r)[0]=c from rfl,bne,u8_c (d:=39) (n:=39) rfl]
  rw [show KXB (c::r)=if c=39 then Wl (c::r)else 0 from rfl]at H
  refine KH (λh1=>KA ?_) (λh1=>?_)
  ·rw [if_neg (λe=>by rw [Ej e]at h1;cases h1)]at H
   exact H
  rw [if_pos (EM (λe=>by rw [Eo e]at h1;cases h1))]at H
  generalize c::r=s at hs H⊢
  refine M.loop_inv (λ(z:Int) hh=>∃i f:Nat,z=(i:Int)/\hh=h/\i<=s.length+2/\s.length<=f+i/\Wl s=GF s (f+1) i) (λz _=>((s.length:Int)+3 - z).toNat) ?_ ⟨1,s.length,rfl,rfl,by omega,by omega,rfl⟩
  rintro z hh ⟨i,f,rfl,rfl,hi,hf,hc⟩ self hself
  unfold YP
  dsimp only
  rw [Ke]
  rw [GF]at hc
  refine KH (λhlt=>?_) (λhge=>KA ?_)
  ·have hlt:i<s.length:=by have:=Ec hlt;omega
   rw [if_pos hlt,KR1 hlt]at hc
   obtain⟨f,rfl⟩:∃g,f=g+1:=⟨f - 1,by omega⟩
   refine VX (i:=i) rfl hlt ?_
   rw [u8_c (d:=92) (n:=92) rfl]
   unfold VI
   refine KH (λh1=>?_) (λh1=>?_)
   ·rw [if_pos (Ec h1)]at hc
    rw [show IntKind.wrap .i64 ((i:Int)+1)=(i:Int)+1 from w64 (by omega) (by omega),w64 (by omega) (by omega)]
    exact hself _ _ ⟨i+2,f,by push_cast;omega,rfl,by omega,by omega,hc⟩ (by omega)
   refine VX (i:=i) rfl hlt ?_
   rw [u8_c (d:=39) (n:=39) rfl]
   refine KH (λh2=>KA ?_) (λh2=>?_)
   ·rw [if_neg (Ed h1),if_pos (Ec h2)]at hc
    rw [w64 (by omega) (by omega),show(i:Int)+1=(Wl s:Int) by rw [hc];rfl]
    exact H
   ·rw [if_neg (Ed h1),if_neg (Ed h2)]at hc
    rw [w64 (by omega) (by omega)]
    exact hself _ _ ⟨i+1,f,by simp,rfl,by omega,by omega,hc⟩ (by omega)
  ·rw [if_neg (by have:=Ed hge;omega)]at hc
   rw [hc]at H
   exact H
theorem KQr:(ZT []).2.2≠0:=by decide+kernel
theorem KOW:(ZT [45]).2.2≠0\/(ZT [45]).1.k≠1:=by decide+kernel
theorem KNC {k:Int} {s:Eb} {t:Vl->Tkn}:oneV k s 0 t=(tkn0,0):=by
 unfold oneV oneW
 rw [FU,if_pos (.inl KQr)]
theorem KJ6 {s:Eb} {b z:Nat} {h h0:Heap} {Q:Ea×Int->Heap->Prop} (hz:z<=s.length) (hz1:z<=1) (hs:s.length<=1099511627776) (E:Ext h0 h) (hb0:h0.size<=b) (g:h[b]?=some (.cells tkn0.cells KL (0,0)))
  (H:∀h' o,o=(if Jd (s.drop z)=0 then(tkn0,0)else oneV 1 s (z+Jd (s.drop z)) (λv=>⟨2,[],v.n,0⟩))->Ext h0 h'->Q (o.1.cells,(o.2:Int)) h'):(VM (bs s) ⟨b,0,none⟩ (z:Int)).wp h Q:=by
 unfold VM
 have hw:=KAB (s.drop z)
 rw [Ex]at hw
 refine KAu (a:=z) (b:=s.length) rfl (by rw [Ke]) hz (Ee _) ?_
 rw [EU (by rw [Ex];omega)]
 refine KD (KJ5 (by rw [Ex];omega) ?_)
 generalize Jd (s.drop z)=k at hw H⊢
 rw [w64 (by omega) (by omega)]
 refine KAu (a:=0) (b:=z+k) rfl (by push_cast;rfl) (El _) (by omega) ?_
 rw [Fd,FW]
 refine KD (KIs (by rw [EI];omega) (λh2 c e2 V2=>?_))
 dsimp only
 refine Kw (λh3 e3 s3 g3=>ZH V2.size (stR g3 (by rw [V2.size];exact Ee 4) V2.to.one (λh4 u4 g4=>?_)))
 rw [KW (cs:=vz) (vs:=c.toList) (by rw [Ep,V2.size];rfl),EG]at g4
 have e4:Ext h h4:=(e2.trans e3).upd u4 e2.size
 obtain⟨v,hv⟩:∃v,v=(ZT (s.take (z+k))).1:=⟨_,rfl⟩
 obtain⟨er,her⟩:∃er,er=(ZT (s.take (z+k))).2.2:=⟨_,rfl⟩
 unfold oneV at H
 rw [<-hv]at V2 H
 rw [<-her]at H⊢
 obtain⟨kk,nn,ss,l⟩:=v
 dsimp only [Vl.k,Vl.n,Vl.s]at H
 unfold oneW at H
 obtain⟨x,rfl,_⟩:=Zg.eq.1 V2
 refine or_b (c:=decide (er≠0)) (λ_ Q' hq=>KA (by rw [bne,eqI,<-FB];exact hq)) ?_
 refine or_b (c:=decide (kk≠1)) (λ_ Q' hq=>KV (n:=kk) (by rw [KM,KF g4];rfl) (KA (by rw [bne,eqI,<-FB];exact hq))) ?_
 rw [eqI,<-Fe,<-Fe]
 have gb:=e4.blk g
 have E4:=E.trans e4
 refine KH (λhc=>?_) (λhc=>?_)
 ·have hc:=Ec hc
  refine Nm (t0:=tkn0) (t:=tkn0) gb (λh5 u5=>KA (H h5 (tkn0,0) ?_ (E4.upd u5 hb0)))
  split
  ·rfl
  ·rename_i hk
   rw [if_pos (by rcases hc with(h1|h2)|h3;exact absurd (by omega) hk;exact .inl h2;exact .inr h3)]
 ·have hc:=Ed hc
  refine KV (n:=nn) (by rw [KM,KF g4];rfl) ?_
  rw [show(z:Int)+(k:Int)=((z+k:Nat):Int) by push_cast;rfl]
  refine Nm (t0:=tkn0) (t:=⟨2,[],nn,0⟩) gb (λh5 u5=>KA (H h5 (⟨2,[],nn,0⟩,z+k) ?_ (E4.upd u5 hb0)))
  rw [if_neg (λe=>hc (.inl (.inl (by omega)))),if_neg (λe=>hc (e.elim (λe=>.inl (.inr e)) .inr))]
theorem KIt {s:Eb} {h:Heap} {Q:Ea×Int->Heap->Prop} (h0:s≠[]) (hs:s.length<=1099511627776)
  (H:∀h',Ext h h'->Q ((oneP s).1.cells,((oneP s).2:Int)) h'):(WA (bs s)).wp h Q:=by
 obtain⟨c,r,rfl⟩:=F8 h0
 unfold WA
 refine Kw (λh1 e1 s1 g1=>?_)
 have hl:=KAB (c::r)
 refine VX (i:=0) rfl (by simp) ?_
 rw [show(c::r)[0]=c from rfl]
 refine KD (KJ4 ?_)
 rw [YX]at H
 refine KH (λhm=>?_) (λhm=>?_)
 ·rw [if_pos hm]at H
  refine KAu (a:=0) (b:=1) rfl rfl (El _) (by simp) ?_
  exact Nm (t0:=tkn0) (t:=⟨4,[c],0,0⟩) g1 (λh5 u5=>KA (H _ (e1.upd u5 (Ee _))))
 rw [if_neg (by rw [hm];decide)]at H
 refine VX (i:=0) rfl (by simp) ?_
 rw [show(c::r)[0]=c from rfl]
 refine KD (KG1 ?_)
 refine KH (λhlt=>?_) (λhlt=>?_)
 ·rw [if_pos hlt]at H
  refine KD (KJ5 hs ?_)
  refine KAu (a:=0) (b:=Jd (c::r)) rfl rfl (El _) hl ?_
  rw [Fd,FW]
  exact Nm (t0:=tkn0) (t:=⟨1,(c::r).take (Jd (c::r)),0,0⟩) g1 (λh5 u5=>KA (H _ (e1.upd u5 (Ee _))))
 rw [if_neg (by rw [hlt];decide)]at H
 refine KD (KNB hs ?_)
 have hq:KXB (c::r)=if c=39 then Wl (c::r)else 0:=rfl
 have hcl:Wl (c::r)<=(c::r).length:=KAC _ _ _
 refine KH (λhpos=>?_) (λhpos=>?_)
 ·have hpos:=Ec hpos
  have h39:c=39:=EM (λe=>by rw [hq,if_neg e]at hpos;omega)
  rw [if_pos h39]at H hq
  rw [hq]
  refine KAu (a:=0) (b:=Wl (c::r)) rfl rfl (El _) hcl ?_
  rw [Fd,FW]
  generalize Wl (c::r)=n at hcl H⊢
  refine KD (KIs (by rw [EI];omega) (λh2 c2 e2 V2=>?_))
  dsimp only
  refine Kw (λh3 e3 s3 g3=>ZH V2.size (stR g3 (by rw [V2.size];exact Ee 4) V2.to.one (λh4 u4 g4=>?_)))
  rw [KW (cs:=vz) (vs:=c2.toList) (by rw [Ep,V2.size];rfl),EG]at g4
  have e4:Ext h1 h4:=(e2.trans e3).upd u4 e2.size
  obtain⟨v,hv⟩:∃v,v=(ZT ((c::r).take n)).1:=⟨_,rfl⟩
  obtain⟨er,her⟩:∃er,er=(ZT ((c::r).take n)).2.2:=⟨_,rfl⟩
  unfold oneV at H
  rw [<-hv]at V2 H
  rw [<-her]at H⊢
  obtain⟨k,nn,ss,l⟩:=v
  dsimp only [Vl.k,Vl.n,Vl.s]at H
  unfold oneW at H
  obtain⟨x,rfl,_⟩:=Zg.eq.1 V2
  refine or_b (c:=decide (k≠2)) (λ_ Q' hq=>KV (n:=k) (by rw [KM,KF g4];rfl) (KA (by rw [bne,eqI,<-FB];exact hq))) ?_
  rw [show(er !=0||decide (k≠2))=decide (er≠0\/k≠2) by rw [bne,eqI,<-FB,<-Fe]]
  have gb:=e4.blk g1
  have E4:=e1.trans e4
  refine KH (λhc=>?_) (λhc=>?_)
  ·rw [if_pos (Ec hc)]at H
   exact Nm (t0:=tkn0) (t:=tkn0) gb (λh5 u5=>KA (H _ (E4.upd u5 (Ee _))))
  ·rw [if_neg (Ed hc)]at H
   refine WO (n:=bs ss) (by rw [KM,KF g4];rfl) ?_
   exact Nm (t0:=tkn0) (t:=⟨3,ss,0,0⟩) gb (λh5 u5=>KA (H _ (E4.upd u5 (Ee _))))
 ·have hpos:=Ed hpos
  refine VX (i:=0) rfl (by simp) ?_
  rw [show(c::r)[0]=c from rfl,u8_c (d:=45) (n:=45) rfl]
  refine KH (λh45=>?_) (λh45=>?_)
  ·have h45:=Ec h45
   subst h45
   rw [if_neg (by decide),if_pos rfl]at H
   refine KJ6 (s:=45::r) (z:=1) (by simp) (Ee _) hs e1 (Ee _) g1 (λh' o ho E'=>?_)
   rw [show(45::r).drop 1=r from rfl]at ho
   have:o=oneV 1 (45::r) (1+Jd r) (λv=>⟨2,[],v.n,0⟩):=by
    rw [ho]
    split
    ·rename_i h0
     rw [h0]
     unfold oneV oneW
     rw [show(45::r).take (1+0)=[45]from rfl,if_pos KOW]
    ·rfl
   rw [this]
   exact H _ E'
  ·have h45:=Ed h45
   refine KJ6 (s:=c::r) (z:=0) (El _) (by omega) hs e1 (Ee _) g1 (λh' o ho E'=>?_)
   rw [Fd,EC]at ho
   by_cases h39:c=39
   ·subst h39
    rw [if_pos rfl]at H
    have hcl0:Wl (39::r)=0:=by rw [hq,if_pos rfl]at hpos;omega
    rw [hcl0,KNC]at H
    have hw0:Jd (39::r)=0:=by rw [KEN,if_neg (by decide)]
    rw [if_pos hw0]at ho
    rw [ho]
    exact H _ E'
   ·rw [if_neg h39,if_neg h45]at H
    have:o=oneV 1 (c::r) (Jd (c::r)) (λv=>⟨2,[],v.n,0⟩):=by
     rw [ho]
     split
     ·rename_i h0
      rw [h0,KNC]
     ·rfl
    rw [this]
    exact H _ E'
end Gx
namespace Gx
open Go
theorem KAa {t:Tkn} {h:Heap} {Q:Int->Heap->Prop} (H:∀h',Ext h h'->Q (tokE t) h'):(Ua t.cells).wp h Q:=by
 unfold Ua
 refine Kw (λh1 e1 s1 g1=>?_)
 obtain⟨k,s,n,a⟩:=t
 have cA:KJ h1 ((⟨h.size,0,none⟩:Addr).add 3)=some (.int .i64 a):=by rw [KM,KF g1];rfl
 have cN:KJ h1 ((⟨h.size,0,none⟩:Addr).add 2)=some (.int .i64 n):=by rw [KM,KF g1];rfl
 have cS:KJ h1 ((⟨h.size,0,none⟩:Addr).add 1)=some (.string (bs s)):=by rw [KM,KF g1];rfl
 have cK:KJ h1 ((⟨h.size,0,none⟩:Addr).add 0)=some (.int .i64 k):=by rw [add_zero,KF g1];rfl
 have fin:∀{b:Bool},tokB ⟨k,s,n,a⟩=(b&& !decide (a<0))->(Ze ⟨h.size,0,none⟩ b).wp h1 Q:=λ{b} hb=>by
  unfold Ze
  have:=H _ e1
  unfold tokE at this
  rw [hb]at this
  refine or_b (c:=decide (a<0)) (λ_ Q' hq=>KV cA (KA hq)) ?_
  refine KH (λhc=>KA ?_) (λhc=>KA ?_)
  ·rw [if_neg (by revert hc;cases b<;>cases decide (a<0)<;>decide)]at this
   exact this
  ·rw [if_pos (by revert hc;cases b<;>cases decide (a<0)<;>decide)]at this
   exact this
 have hT:tokB ⟨k,s,n,a⟩=(!(decide (a<0)||(decide (n≠0)&&decide (k≠2)))&&(if k=1 then Gf s else if k=2 then decide (s=[])else if k=3 then decide (s.length<=128)else if k=4 then KIe s else false)):=rfl
 have hn:decide (n≠0)=!decide (n=0):=FB
 refine KV cK ?_
 rw [eqI,eqI,eqI,eqI]
 refine KH (λk1=>?_) (λk1=>?_)
 ·have k1:=Ec k1
  subst k1
  rw [if_pos rfl,hn]at hT
  refine WO cS (KD (KJz ?_))
  refine Jp (c:=decide (n=0)) (λ_ Q' hq=>KV cN (KA (by rw [eqI];exact hq))) (fin ?_)
  rw [hT]
  cases decide (a<0)<;>cases decide (n=0)<;>cases Gf s<;>rfl
 rw [if_neg (Ed k1)]at hT
 refine KH (λk2=>?_) (λk2=>?_)
 ·have k2:=Ec k2
  subst k2
  rw [if_pos rfl]at hT
  refine WO cS ?_
  rw [sEq0]
  refine fin ?_
  rw [hT]
  cases decide (a<0)<;>cases decide (n≠0)<;>cases decide (s=[])<;>rfl
 have hk2:decide (k≠2)=true:=by rw [FB,k2];rfl
 rw [if_neg (Ed k2),hk2,IR,hn]at hT
 refine KH (λk3=>?_) (λk3=>?_)
 ·rw [if_pos (Ec k3)]at hT
  refine WO cS ?_
  refine Jp (c:=decide (n=0)) (λ_ Q' hq=>KV cN (KA (by rw [eqI];exact hq))) (fin ?_)
  rw [hT,Ke,show decide ((s.length:Int)<=128)=decide (s.length<=128)from Es.2 (by omega)]
  cases decide (a<0)<;>cases decide (n=0)<;>cases decide (s.length<=128)<;>rfl
 rw [if_neg (Ed k3)]at hT
 refine KH (λk4=>?_) (λk4=>?_)
 ·rw [if_pos (Ec k4)]at hT
  refine WO cS ?_
  rw [Ke]
  have fin2:tokB ⟨k,s,n,a⟩=(KIe s&&decide (n=0)&& !decide (a<0)):=by
   rw [hT]
   cases decide (a<0)<;>cases decide (n=0)<;>cases KIe s<;>rfl
  refine Jp (c:=KIe s) (λhl Q' hq=>?_) ?_
  ·rw [eqI]at hl
   have hl:=Ec hl
   match s,hl,cS,hq with
   | [c],_,cS,hq=>exact WO cS (VX (i:=0) rfl (by simp) (KD (KJ4 (KA hq))))
   | [],hl,_,_=>cases hl
   |_::_::_,hl,_,_=>simp only [Ef]at hl;omega
  ·have hm:((s.length:Int)==1&&KIe s)=KIe s:=by
    rw [eqI]
    match s with
    | []=>rfl
    | [c]=>exact E9 _
    |_::_::_=>exact FH _
   rw [hm]
   exact Jp (c:=decide (n=0)) (λ_ Q' hq=>KV cN (KA (by rw [eqI];exact hq))) (fin fin2)
 ·rw [if_neg (Ed k4)]at hT
  refine fin ?_
  rw [hT,FH];rfl
def KAg (s:Eb) (m:Nat):List Tkn×Nat:=((allT s 0).1.take m,match(allT s 0).1[m]? with|some t=>t.a.toNat|none=>(allT s 0).2)
theorem KOX {s:Eb} {m:Nat} {h:Heap} {Q:Sl×Int->Heap->Prop} (hs:s.length<=1099511627776)
  (H:∀h' r,Ext h h'->Gw h.size h' r 4 (JC (tks (KAg s m).1))->Q (r,((KAg s m).2:Int)) h'):(WB (bs s) (m:Int)).wp h Q:=by
 unfold WB
 refine M.loop_inv (λ(x:Sl×Int) hh=>∃i a':Nat,x.2=(a':Int)/\a'<=s.length/\i<=(allT s 0).1.length/\i<=a'/\i<=m/\(allT s 0).1.drop i=(allT s a').1/\(allT s 0).2=(allT s a').2/\Ext h hh/\Gw h.size hh x.1 4 (JC (tks ((allT s 0).1.take i)))) (λx _=>((s.length:Int) - x.2).toNat) ?_
  ⟨0,0,rfl,El _,El _,Ee _,El _,rfl,rfl,Ext.refl _,Gw.nil _ _ _⟩
 rintro⟨r,t⟩ hh ⟨i,a',ht,ha',hi,hia,him,hd,h2e,E,G⟩ self hself
 have ht:t=(a':Int):=ht
 subst ht
 have G:Gw h.size hh r 4 (JC (tks ((allT s 0).1.take i))):=G
 have hrl:=G.tkR.1
 rw [EI,FZ hi]at hrl
 unfold Yp
 dsimp only
 refine M.loop_inv (λ(z:Int) h'=>∃p:Nat,z=(p:Int)/\h'=hh/\a'<=p/\p<=s.length/\JN s a'=JN s p) (λz _=>((s.length:Int) - z).toNat) ?_ ⟨a',rfl,rfl,Ee _,ha',rfl⟩
 rintro z h' ⟨p,rfl,rfl,hap,hp,hsk⟩ self2 hself2
 unfold Yo
 dsimp only
 rw [Ke]
 have hcond:∀{β:Type} {Q':β->Heap->Prop} {f:Bool->M β},(f (decide (p<s.length/\JN s p≠p))).wp h' Q'->((M.ite (decide ((p:Int)<(s.length:Int))) (ixS (bs s) (p:Int)>>=λx17=>M.ite (x17==32) (M.pure true) (ixS (bs s) (p:Int)>>=λx22=>M.pure (x22==10))>>=λx24=>M.pure x24) (M.pure false))>>=f).wp h' Q':=λ{β Q' f} hf=>by
  by_cases hlt:p<s.length
  ·refine Ve (Ej (by omega)) (KR (VX (i:=p) rfl hlt ?_))
   refine KR (or_b (c:=decide (s[p]=10)) (λ_ Q'' hq=>VX (i:=p) rfl hlt (KA (by rw [u8_c (d:=10) (n:=10) rfl];exact hq))) (KZ ?_))
   rw [u8_c (d:=32) (n:=32) rfl,<-Fe]
   have:decide (s[p]=32\/s[p]=10)=decide (p<s.length/\JN s p≠p):=by
    refine Es.2 ⟨λhb=>⟨hlt,λe=>?_⟩,λhb=>EM (λe=>?_)⟩
    ·rw [KBn hlt,if_pos (show JD s[p]=true from Ej hb)]at e
     have:=(KFq (s:=s) (a:=p+1) hlt).1
     omega
    ·exact hb.2 (by rw [KBn hlt,if_neg (show ¬JD s[p]=true from λhb=>e (Ec hb))])
   rw [this];exact hf
  ·refine Y9 (Eo (by omega)) (KZ ?_)
   rw [Eo (λhb=>hlt hb.1)]at hf
   exact hf
 refine hcond (KH (λhc=>?_) (λhc=>?_))
 ·obtain⟨hlt,hne⟩:=Ec hc
  have hst:=KBn hlt
  have hb:JD s[p]=true:=EM (λe=>hne (by rw [hst,if_neg e]))
  rw [if_pos hb]at hst
  rw [w64 (by omega) (by omega)]
  exact hself2 _ _ ⟨p+1,by push_cast;rfl,rfl,by omega,hlt,hsk.trans hst⟩ (by omega)
 have hsp:JN s a'=p:=by
  rw [hsk]
  rcases ES p s.length with hlt|hge
  ·exact EM (λe=>Ed hc ⟨hlt,e⟩)
  ·exact KMt hge
 have stop:(Xp s a'=none\/i=m)->Q (r,(p:Int)) h':=λhst=>by
  have hf:KAg s m=((allT s 0).1.take i,p):=by
   unfold KAg
   cases hn:Xp s a' with
   |none=>
    rw [XJ hn]at hd h2e
    have hlen:(allT s 0).1.length=i:=by
     have:=FA.1 hd
     omega
    rw [EK (by omega),EU (by omega),EU (by omega),h2e,hsp]
   |some q=>
    obtain⟨t,a2⟩:=q
    rcases hst with hst|rfl
    ·rw [hn]at hst;cases hst
    ·rw [XK ha' hn]at hd
     have h0:(allT s 0).1[i]?=some t:=by
      have:=Ew (λl=>l[0]?) hd
      simpa using this
     rw [h0]
     obtain⟨p2,hp2,_⟩:=KIn ha' hn
     have:t.a=(p:Int):=by
      unfold Xp at hn
      rw [hsp]at hn
      split at hn
      ·split at hn
       ·cases hn
       ·cases hn;rfl
      ·cases hn
     dsimp only
     rw [this];rfl
  have:=H h' r E (by rw [hf];exact G)
  rw [hf]at this
  exact this
 refine or_b (c:=decide (r.len=m)) (λ_ Q' hq=>KA (by rw [eqI,show decide ((r.len:Int)=(m:Int))=decide (r.len=m)from Es.2 (by omega)];exact hq)) ?_
 rw [eqI,show decide ((p:Int)=(s.length:Int))=decide (p=s.length)from Es.2 (by omega),<-Fe]
 refine KH (λhc2=>KA (stop ?_)) (λhc2=>?_)
 ·rcases Ec hc2 with he|he
  ·left
   unfold Xp
   rw [hsp,if_neg (by omega)]
  ·right;omega
 have hc2:=Ed hc2
 have hlt:p<s.length:=by
  rcases ES p s.length with h|h
  ·exact h
  ·exact absurd (.inl (by omega)) hc2
 refine KAu (a:=p) (b:=s.length) rfl rfl hp (Ee _) ?_
 rw [EU (by rw [Ex];omega)]
 have hne:s.drop p≠[]:=λe=>by have:=Ew List.length e;rw [Ex]at this;simp at this;omega
 have hol:=KLI (s.drop p)
 rw [Ex]at hol
 refine KD (KIt hne (by rw [Ex];omega) (λh2 e2=>Kw (λh3 e3 s3 g3=>ZH rfl (stR g3 (Ee 4) (Yc _) (λh4 u4 g4=>?_)))))
 have g4:h4[h2.size]?=some (.cells (oneP (s.drop p)).1.cells KL (0,0)):=by
  have e:lay tkn0.cells 0 (oneP (s.drop p)).1.cells.toList=(oneP (s.drop p)).1.cells:=by rw [KW (cs:=tkn0.cells) (vs:=(oneP (s.drop p)).1.cells.toList) rfl,EG]
  rw [<-e];exact g4
 have E4:Ext h' h4:=(e2.trans e3).upd u4 e2.size
 refine qF (x:=.int .i64 (oneP (s.drop p)).1.a) (by rw [KM,KF g4];rfl) (by rw [KM];exact Kv g4) rfl ?_
 rw [KM]
 have u5:=Upd.hset h4 h2.size (0+3) (.int .i64 (p:Int))
 have g5:(hset h4 ⟨h2.size,0+3,none⟩ (.int .i64 (p:Int)))[h2.size]?=some (.cells (Tkn.cells {(oneP (s.drop p)).1 with a:=(p:Int)}) KL (0,0)):=by rw [J8 g4];rfl
 generalize hset h4 ⟨h2.size,0+3,none⟩ (.int .i64 (p:Int))=h5 at u5 g5⊢
 have E5:Ext h' h5:=E4.upd u5 e2.size
 have hnx:Xp s a'=if(oneP (s.drop p)).2=0\/tokB {(oneP (s.drop p)).1 with a:=(p:Int)}=false then none else some ({(oneP (s.drop p)).1 with a:=(p:Int)},p+(oneP (s.drop p)).2):=by
  unfold Xp
  rw [hsp,if_pos hlt]
 generalize ht:({(oneP (s.drop p)).1 with a:=(p:Int)}:Tkn)=t at g5 hnx
 generalize(oneP (s.drop p)).2=k at hnx hol
 have go:∀{h6:Heap} {c:Bool},Ext h5 h6->c=decide (k=0\/tokB t=false)->(M.ite c (do
     M.pure (r,(p:Int))
     ) (do
     let Xx39<-ldG 4 ⟨h2.size,0,none⟩
     let y_41<-Xs 4 1 (#[.int .i64 0,.string ByteArray.empty,.int .i64 0,.int .i64 0]:Ea) [(0,.agg Xx39)]
     let Xx40<-bdL KL 1 y_41
     let Xx42<-apL KL 4 40 (#[.int .i64 0,.string ByteArray.empty,.int .i64 0,.int .i64 0]:Ea) r Xx40
     self (Xx42,IntKind.wrap .i64 ((p:Int)+(k:Int)))
     ):M (Sl×Int)).wp h6 Q:=λ{h6 c} e6 hcc=>by
  have E6:=E5.trans e6
  refine KH (λh0=>KA ?_) (λh0=>?_)
  ·rw [if_pos (Ec (hcc.symm.trans h0))]at hnx
   have H':∀h'' r',Ext h h''->Gw h.size h'' r' 4 (JC (tks (KAg s m).1))->Q (r',((KAg s m).2:Int)) h'':=H
   have hf:KAg s m=((allT s 0).1.take i,p):=by
    unfold KAg
    rw [XJ hnx]at hd h2e
    have hlen:(allT s 0).1.length=i:=by
     have:=FA.1 hd
     omega
    rw [EK (by omega),EU (by omega),EU (by omega),h2e,hsp]
   have:=H h6 r (E.trans E6) (by rw [hf];exact G.ext E6)
   rw [hf]at this
   exact this
  ·have hno:=Ed (hcc.symm.trans h0)
   rw [if_neg hno]at hnx
   have hk0:k≠0:=λe=>hno (.inl e)
   rw [XK ha' hnx]at hd h2e
   have hlt2:i<(allT s 0).1.length:=by
    rcases ES i (allT s 0).1.length with h|h
    ·exact h
    ·rw [FA.2 h]at hd;cases hd
   rw [Eh hlt2]at hd
   obtain⟨hd1,hd2⟩:=List.cons.inj hd
   have G6:=G.ext E6
   have hz6:=(E.trans E6).size
   refine KSN G6 (by omega) (by rw [EI];omega) (e6.blk g5) (λh7 r7 G7 hs7 same7=>?_)
   rw [w64 (by omega) (by omega)]
   refine hself (_,_) _ ⟨i+1,p+k,by push_cast;rfl,by omega,hlt2,by omega,?_,hd2,h2e,⟨by omega,λj hj=>(same7 j (by omega) (λho=>by have:=(G6.lt ho).2;omega)).trans ((E.trans E6).same j hj)⟩,?_⟩ (by dsimp only;omega)
   ·have:i≠m:=λe=>hc2 (.inr (by omega))
    omega
   ·rw [Et hlt2,hd1]
    exact G7
 rw [eqI]
 by_cases hk0:k=0
 ·exact Ve (Ej (by omega)) (KZ (go (Ext.refl _) (Ej (.inl hk0)).symm))
 ·refine Y9 (Eo (by omega)) (KR (ldR g5 rfl (KR (KD (KAa (λh6 e6=>KZ (go e6 ?_)))))))
  rw [KR3]
  cases tokB t with
  |true=>exact(Eo (λh=>h.elim hk0 (λh=>by cases h))).symm
  |false=>exact(Ej (.inr rfl)).symm
end Gx
namespace Gx
open Go
theorem KVm {er kk k:Int} {t:Tkn} {n:Nat} (ht:t.a=0):(oneW er kk k t n).1.a=0:=by
 unfold oneW
 split
 ·rfl
 ·exact ht
theorem KVn:∀s:Eb,(oneP s).1.a=0
 | []=>rfl
 |c::r=>by
  rw [YX]
  split
  ·rfl
  split
  ·rfl
  split
  ·exact KVm rfl
  ·exact KVm rfl
theorem KVo {t:Tkn} (h:t.a=0) (p:Nat):tokB {t with a:=(p:Int)}=tokB t:=by
 obtain⟨k,s,n,a⟩:=t
 have h:a=0:=h
 subst h
 unfold tokB
 dsimp only
 rw [show decide ((p:Int)<0)=decide ((0:Int)<0)from Es.2 (by omega)]
theorem KSX {s:Eb}:∀(f a:Nat),a<=s.length->s.length - a<f->∀t∈(allT s a).1,∃p:Nat,t.a=(p:Int)/\p<s.length/\(oneP (s.drop p)).2≠0/\tokB (oneP (s.drop p)).1=true
 |0,a,ha,hf=>by omega
 |f+1,a,ha,hf=>by
  cases hn:Xp s a with
  |none=>rw [XJ hn];intro t ht;cases ht
  |some q=>
   obtain⟨t,a'⟩:=q
   have hlt:=N5 ha hn
   rw [XK ha hn]
   intro x hx
   rcases ED.1 hx with rfl|hx
   ·unfold Xp at hn
    split at hn
    ·rename_i hp
     split at hn
     ·cases hn
     ·rename_i h1
      cases hn
      refine⟨_,rfl,hp,λe=>h1 (.inl e),?_⟩
      rw [<-KVo (KVn _) (JN s a)]
      exact EM (λe=>h1 (.inr (by simpa using e)))
    ·cases hn
   ·exact KSX f a' hlt.2 (by omega) x hx
theorem KPa {s:Eb}:∀(f a:Nat),a<=s.length->s.length - a<f->(allT s a).2<s.length->(oneP (s.drop (allT s a).2)).2=0\/tokB (oneP (s.drop (allT s a).2)).1=false
 |0,a,ha,hf,_=>by omega
 |f+1,a,ha,hf,he=>by
  cases hn:Xp s a with
  |none=>
   rw [XJ hn]at he⊢
   dsimp only at he⊢
   unfold Xp at hn
   rw [if_pos he]at hn
   split at hn
   ·rename_i h1
    rw [KVo (KVn _) (JN s a)]at h1
    exact h1
   ·cases hn
  |some q=>
   obtain⟨t,a'⟩:=q
   have hlt:=N5 ha hn
   rw [XK ha hn]at he⊢
   exact KPa f a' hlt.2 (by omega) he
theorem KSY {s:Eb} {h:Heap} {Q:Sl×Int×Int->Heap->Prop}
  (H:∀h' r,Ext h h'->TkR h' r (lexP s).1->Q (r,((lexP s).2.1:Int),(lexP s).2.2) h'):(YQ (bs s)).wp h Q:=by
 unfold YQ
 rw [Ke]
 unfold lexP at H
 refine KH (λhlong=>KA ?_) (λhshort=>?_)
 ·rw [if_pos (by have:=Ec hlong;omega)]at H
  exact H h Sl.nil (Ext.refl _) (TkR.nil _)
 have hs:s.length<=1099511627776:=by have:=Ed hshort;omega
 rw [if_neg (by have:=Ed hshort;omega)]at H
 refine KD (KOX (m:=4096) hs (λh1 r e1 G=>?_))
 dsimp only
 rw [eqI]
 have hle:=KLT s
 have R:=G.tkR
 have hrl:=R.1
 cases hg:(allT s 0).1[4096]? with
 |some t=>
  rw [hg]at H
  have hf:KAg s 4096=((allT s 0).1.take 4096,t.a.toNat):=by unfold KAg;rw [hg]
  rw [hf]at R hrl⊢
  dsimp only at H R hrl⊢
  obtain⟨hi,hte⟩:=Fj.1 hg
  rw [EI,FZ (by omega)]at hrl
  obtain⟨p,hp,hpl,ho,hb⟩:=KSX _ 0 (El _) (EH _) t (hte▸EJ hi)
  have htn:t.a.toNat=p:=by rw [hp];rfl
  rw [htn]at H⊢
  refine iteF (Eo (by omega)) (iteT (by rw [eqI];exact Ej (by omega)) ?_)
  refine KAu (a:=p) (b:=s.length) rfl rfl (by omega) (Ee _) ?_
  rw [EU (by rw [Ex];omega)]
  have hne:s.drop p≠[]:=λe=>by have:=Ew List.length e;rw [Ex]at this;simp at this;omega
  refine KD (KIt hne (by rw [Ex];omega) (λh2 e2=>Kw (λh3 e3 s3 g3=>ZH rfl (stR g3 (Ee 4) (Yc _) (λh4 u4 g4=>?_)))))
  have g4:h4[h2.size]?=some (.cells (oneP (s.drop p)).1.cells KL (0,0)):=by
   have e:lay tkn0.cells 0 (oneP (s.drop p)).1.cells.toList=(oneP (s.drop p)).1.cells:=by rw [KW (cs:=tkn0.cells) (vs:=(oneP (s.drop p)).1.cells.toList) rfl,EG]
   rw [<-e];exact g4
  have E4:Ext h1 h4:=(e2.trans e3).upd u4 e2.size
  refine Ve (Ej (by omega)) (KR (ldR g4 rfl (KR (KD (KAa (λh5 e5=>KZ (iteT ?_ (KA ?_))))))))
  ·unfold tokE;rw [hb];rfl
  ·exact H _ Sl.nil ((e1.trans E4).trans e5) (TkR.nil _)
 |none=>
  rw [hg]at H
  dsimp only at H
  have hlen:=List.getElem?_eq_none_iff.1 hg
  have hf:KAg s 4096=((allT s 0).1,(allT s 0).2):=by unfold KAg;rw [hg,EU hlen]
  rw [hf]at R hrl⊢
  dsimp only at R hrl⊢
  have hend:=KPa _ 0 (El s.length) (EH _)
  generalize hq:(allT s 0).2=q at H hle hend⊢
  refine KH (λhc=>KA ?_) (λhc=>?_)
  ·have hc:=Ec hc
   rw [if_neg (by omega)]at H
   rw [hc]
   exact H h1 r e1 R
  ·have hc:=Ed hc
   rw [if_pos (by omega)]at H
   have stop:∀{h':Heap},Ext h1 h'->(VN (q:Int)).wp h' Q:=λ{h'} e'=>by
    unfold VN
    exact KA (H h' Sl.nil (e1.trans e') (TkR.nil _))
   refine KH (λhm=>?_) (λ_=>stop (Ext.refl _))
   have hbad:=hend (by omega)
   refine KAu (a:=q) (b:=s.length) rfl rfl (by omega) (Ee _) ?_
   rw [EU (by rw [Ex];omega)]
   have hne:s.drop q≠[]:=λe=>by have:=Ew List.length e;rw [Ex]at this;simp at this;omega
   refine KD (KIt hne (by rw [Ex];omega) (λh2 e2=>Kw (λh3 e3 s3 g3=>ZH rfl (stR g3 (Ee 4) (Yc _) (λh4 u4 g4=>?_)))))
   have g4:h4[h2.size]?=some (.cells (oneP (s.drop q)).1.cells KL (0,0)):=by
    have e:lay tkn0.cells 0 (oneP (s.drop q)).1.cells.toList=(oneP (s.drop q)).1.cells:=by rw [KW (cs:=tkn0.cells) (vs:=(oneP (s.drop q)).1.cells.toList) rfl,EG]
    rw [<-e];exact g4
   have E4:Ext h1 h4:=(e2.trans e3).upd u4 e2.size
   refine KJF (λh0=>?_) (λh0=>KZ (iteF rfl (stop E4)))
   have h0:=Ec h0
   refine KR (ldR g4 rfl (KR (KD (KAa (λh5 e5=>KZ (iteF ?_ (stop (E4.trans e5))))))))
   have hb:tokB (oneP (s.drop q)).1=false:=hbad.resolve_left (by omega)
   unfold tokE;rw [hb];rfl
end Gx
namespace Gx
open Go Go.Lib
theorem KUX {s:Eb} {d i j:Nat} {v:Vl} (hi:i<=s.length) (h:pval s d i=.ok (v,j)):I64 v.n:=by
 have z:I64 0:=⟨by decide,by decide⟩
 have o:I64 1:=⟨by decide,by decide⟩
 cases d with
 |zero=>cases h
 |succ d=>
  rw [pval]at h
  split at h
  ·split at h
   ·cases h
   ·rename_i n j1 h1
    cases h
    exact(KEM h1 hi).1
  split at h
  ·split at h
   ·cases h
   ·cases h;exact z
  split at h
  ·split at h
   ·cases h
   ·cases h;exact o
  split at h
  ·split at h
   ·cases h
   ·cases h;exact z
  split at h
  ·obtain⟨n,rfl,hn,_⟩:=KBm h;exact hn
  split at h
  ·obtain⟨n,rfl,hn,_⟩:=KBm h;exact hn
  split at h
  ·split at h
   ·cases h
   ·cases h;exact z
  split at h
  ·split at h
   ·cases h
   ·cases h;exact z
  ·cases h
theorem KQs (s:Eb):I64 (ZT s).1.n:=by
 have z:I64 (Vl.n vl0):=⟨by decide,by decide⟩
 unfold ZT
 split
 ·exact z
 ·rename_i v hv
  split
  ·unfold KBZ at hv
   split at hv
   ·cases hv
   ·rename_i w j hp
    split at hv
    ·cases hv
    ·cases hv
     exact KUX (El _) hp
  ·exact z
theorem KUY (s:Eb):I64 (oneP s).1.n:=by
 have z:I64 0:=⟨by decide,by decide⟩
 have key:∀(k:Int) (s:Eb) (n:Nat) (t:Vl->Tkn),(∀v,I64 v.n->I64 (t v).n)->I64 (oneV k s n t).1.n:=λk s n t ht=>by
  unfold oneV oneW
  split
  ·exact z
  ·exact ht _ (KQs _)
 cases s with
 |nil=>exact z
 |cons c r=>
  rw [YX]
  split
  ·exact z
  split
  ·exact z
  split
  ·exact key _ _ _ _ (λ_ _=>z)
  ·exact key _ _ _ _ (λ_ h=>h)
theorem KPb {s:Eb}:∀(f a:Nat),a<=s.length->s.length - a<f->∀t∈(allT s a).1,I64 t.n
 |0,a,ha,hf=>by omega
 |f+1,a,ha,hf=>by
  cases hn:Xp s a with
  |none=>rw [XJ hn];intro t ht;cases ht
  |some q=>
   obtain⟨t,a'⟩:=q
   have hlt:=N5 ha hn
   rw [XK ha hn]
   intro x hx
   rcases ED.1 hx with rfl|hx
   ·unfold Xp at hn
    split at hn
    ·split at hn
     ·cases hn
     ·cases hn
      exact KUY _
    ·cases hn
   ·exact KPb f a' hlt.2 (by omega) x hx
theorem KSZ (s:Eb):∀t∈(allT s 0).1,I64 t.n:=KPb _ 0 (El _) (EH _)
end Gx
namespace Gx
open Go Go.Lib
theorem KXC {β:Type} {h:Heap} {Q:β->Heap->Prop} {x:Sl} {l:List Tkn} {i:Nat} {f:Addr->M β} (R:TkR h x l) (hi:i<l.length)
  (H:∀h',Ext h h'->h'[h.size]?=some (.cells l[i].cells KL (0,0))->(f ⟨h.size,0,none⟩).wp h' Q):
  (ixL x (i:Int) 4>>=λa=>ldG 4 a>>=λc=>mkB KL (#[.int .i64 0,.string ByteArray.empty,.int .i64 0,.int .i64 0]:Ea)>>=λb=>M.need (c.size=4)>>=λ_=>stG b c>>=λ_=>f b).wp h Q:=by
 obtain⟨b,hb,hcb⟩:=R.at hi
 generalize l[i]=t at hcb H
 refine NM (by omega) (by rw [R.1];omega) hb (YF (cs:=t.cells) rfl hcb (Kw (λh3 e3 s3 g3=>ZH rfl (stR g3 (Ee 4) (Yc t) (λh4 u4 g4=>?_)))))
 refine H h4 (e3.upd u4 (Ee _)) ?_
 have e:lay tkn0.cells 0 t.cells.toList=t.cells:=by rw [KW (cs:=tkn0.cells) (vs:=t.cells.toList) rfl,EG]
 rw [<-e];exact g4
end Gx
namespace Gx
end Gx
namespace Gx
open Go Go.Lib
theorem KPc {t:Tkn} (h:tokB t=true):t.s.length<=128:=by
 rcases KIm h with⟨_,h1,_⟩|⟨_,h1⟩|⟨_,h1,_⟩|⟨_,c,h1,_⟩
 ·match hs:t.s,h1 with
  | [],_=>simp
  |c::r,h1=>
   rw [Gg,Eg,Eg]at h1
   have:=Ec h1.1.1
   omega
 ·rw [h1];simp
 ·exact h1
 ·rw [h1];simp
end Gx
