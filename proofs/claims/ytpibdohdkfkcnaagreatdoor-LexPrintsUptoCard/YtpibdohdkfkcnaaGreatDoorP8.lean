/- Own proofs: what those Lean programs compute. No condition. -/
import Derived.Test.YtpibdohdkfkcnaaGreatDoorP0
import Derived.Test.YtpibdohdkfkcnaaGreatDoorP1
import Derived.Test.YtpibdohdkfkcnaaGreatDoorP2
import Derived.Test.YtpibdohdkfkcnaaGreatDoorP3
import Derived.Test.YtpibdohdkfkcnaaGreatDoorP4
import Derived.Test.YtpibdohdkfkcnaaGreatDoorP5
import Derived.Test.YtpibdohdkfkcnaaGreatDoorP6
import Derived.Test.YtpibdohdkfkcnaaGreatDoorP7
import Derived.Test.YtpibdohdkfkcnaaGreatDoorTie
import Derived.KernelRfl
import Derived.ChangeArms
import Derived.DataReads
import Derived.WalkKit
import Derived.ProofKit
import Derived.OpenShut
import Derived.ShutString
import Derived.ChangeOld
import Derived.Below
import Derived.SizedLaws
import Derived.Lib.SmallJoins
import Derived.Deep.DeepHandedRow
import Derived.Lib.LaidTab
import Derived.JoinedCond
import Derived.SevenTiedAt
set_option linter.unusedVariables false
set_option linter.unusedSimpArgs false
namespace Gx
open Go Go.Proofs Go.Shelf Go.RowKit Go.Lib
set_option linter.unusedVariables false
set_option linter.unusedSimpArgs false
set_option maxRecDepth 100000
theorem KH7:∀ k:Fin 16,hexN (hexc k.val)=(k.val:Int):=by decide +kernel
theorem KJ6 {k:Nat} (h:k < 16):hexN (hexc k)=(k:Int):=KH7 ⟨k,h⟩
theorem KJO:∀ k:Fin 16,hexD[k.val]?=some (hexc k.val):=by decide +kernel
theorem KFs {c:UInt8} (h:0≤hexN c):c=hexc (hexN c).toNat:=by
 have hle:=KBB c
 have h1:Lib.indexByte hexD c=(((hexN c).toNat:Nat):Int):=by rw [Int.toNat_of_nonneg h]; rfl
 have h2:=(Lib.indexByte_some h1).1
 rw [KJO ⟨(hexN c).toNat,by omega⟩] at h2
 exact (Option.some.inj h2).symm
theorem KGe {a b:UInt8}:a < b↔a.toNat < b.toNat:=UInt8.lt_iff_toNat_lt
theorem KH8 {c:UInt8} (h:c.toNat < 32∨126 < c.toNat):qc c=[92,120,hexc (c.toNat / 16),hexc (c.toNat % 16)]:=by
 unfold qc
 rw [if_pos (by rw [KGe,KGe]; exact h)]
theorem KH9 {c:UInt8} (h:c=39∨c=92):qc c=[92,c]:=by
 unfold qc
 rw [if_neg (by rw [KGe,KGe]; rcases h with rfl | rfl <;> decide),if_pos h]
theorem KMX {c:UInt8} (h:¬ (c.toNat < 32∨126 < c.toNat)) (h2:¬ (c=39∨c=92)):qc c=[c]:=by
 unfold qc
 rw [if_neg (by rw [KGe,KGe]; exact h),if_neg h2]
theorem KJP {s:List UInt8} {i:Nat} {c:UInt8} {w:List UInt8} (hq:qc c=92::w) (ha:At s i w) (hw:w≠[]) (hne:c.toNat < 32∨126 < c.toNat∨c=39∨c=92):escP s i=.ok (c,i+w.length):=by
 by_cases h:c.toNat < 32∨126 < c.toNat
 ·rw [KH8 h] at hq
  cases hq
  have hlt:c.toNat < 256:=c.toNat_lt
  have a0:=ha.get (k:=0) (by simp)
  have a1:=ha.get (k:=1) (by simp)
  have a2:=ha.get (k:=2) (by simp)
  simp only [Nat.add_zero,List.getElem_cons_zero,List.getElem_cons_succ] at a0 a1 a2
  have hm:XE s [120] i=.ok (i+1):=Ve (lit:=[120]) ((ZY (a:=[120]) (b:=[hexc (c.toNat / 16),hexc (c.toNat % 16)])).1 ha).1
  have e1:hexN (KR s (i+1))=((c.toNat / 16:Nat):Int):=by rw [a1,KJ6 (by omega)]
  have e2:hexN (KR s (i+1+1))=((c.toNat % 16:Nat):Int):=by rw [show i+1+1=i+2 by omega,a2,KJ6 (by omega)]
  unfold escP
  rw [a0,if_neg (by decide),hm]
  dsimp only
  rw [e1,e2,if_neg (by omega),if_neg (by omega)]
  have:UInt8.ofNat ((((c.toNat / 16:Nat):Int) * 16+((c.toNat % 16:Nat):Int)).toNat)=c:=by
   rw [show (((c.toNat / 16:Nat):Int) * 16+((c.toNat % 16:Nat):Int)).toNat=c.toNat by omega,UInt8.ofNat_toNat]
  rw [this]
  rfl
 ·have h2:c=39∨c=92:=by
   rcases hne with h3 | h3 | h3 | h3
   ·exact absurd (.inl h3) h
   ·exact absurd (.inr h3) h
   ·exact .inl h3
   ·exact .inr h3
  rw [KH9 h2] at hq
  cases hq
  unfold escP
  rw [ha.here,if_pos h2]
  rfl
theorem KEJ {s:List UInt8}:∀ (t:List UInt8) (f i:Nat) (acc:List UInt8),At s i (t.flatMap qc++[39])→t.length < f→strL s f i acc=.ok (acc++t,i+(t.flatMap qc).length+1)
 | [],f,i,acc,ha,hf=>by
  obtain ⟨f,rfl⟩:∃ g,f=g+1:=⟨f - 1,by omega⟩
  rw [List.flatMap_nil,List.nil_append] at ha
  rw [strL,if_pos ha.here]
  simp
 | c::t,f,i,acc,ha,hf=>by
  obtain ⟨f,rfl⟩:∃ g,f=g+1:=⟨f - 1,by omega⟩
  rw [List.length_cons] at hf
  rw [List.flatMap_cons,List.append_assoc] at ha
  have ha2:=ZY.1 ha
  have ih:=KEJ t f (i+(qc c).length) (acc++[c]) ha2.2 (by omega)
  have hres:(Except.ok (acc++[c]++t,i+(qc c).length+(t.flatMap qc).length+1):Except Nat (List UInt8 × Nat))=.ok (acc++c::t,i+((c::t).flatMap qc).length+1):=by
   rw [List.flatMap_cons,List.length_append,List.append_assoc,Nat.add_assoc i]
   rfl
  rw [hres] at ih
  rw [strL]
  by_cases h:(c.toNat < 32∨126 < c.toNat)∨(c=39∨c=92)
  ·have hw:∃ w,qc c=92::w∧w≠[]:=by
    rcases h with h | h
    ·exact ⟨_,KH8 h,by simp⟩
    ·exact ⟨_,KH9 h,by simp⟩
   obtain ⟨w,hq,hwn⟩:=hw
   rw [hq] at ha2
   have h92:=ha2.1.here
   have hesc:=KJP hq (zq.1 ha2.1).2 hwn (by rcases h with (h | h) | (h | h) <;> simp [h])
   rw [h92,if_neg (by decide),if_neg (by decide),if_pos rfl,hesc]
   dsimp only
   rw [hq,List.length_cons] at ih
   rw [show i+1+w.length=i+(w.length+1) by omega]
   exact ih
  ·have h1:¬ (c.toNat < 32∨126 < c.toNat):=fun hh=>h (.inl hh)
   have h2:¬ (c=39∨c=92):=fun hh=>h (.inr hh)
   rw [KMX h1 h2] at ha2 ih
   have hh:=ha2.1.here
   rw [hh,if_neg (fun e=>h2 (.inl e)),if_neg h1,if_neg (fun e=>h2 (.inr e))]
   exact ih
theorem KMY (t:List UInt8):t.length≤(t.flatMap qc).length:=by
 induction t with
 | nil=>simp
 | cons c t ih =>
  rw [List.flatMap_cons,List.length_append,List.length_cons]
  have:1≤(qc c).length:=by unfold qc; split <;> (try split) <;> simp
  omega
theorem KJQ {s t:List UInt8} {i:Nat} (ha:At s i (Ur t)):strP s i=.ok (t,i+(Ur t).length):=by
 unfold Ur at ha ⊢
 have hl:=ha.len (by simp)
 have h1:At s i [39]∧At s (i+1) (t.flatMap qc++[39]):=by
  have:=(ZY (a:=[39]) (b:=t.flatMap qc++[39]) (i:=i) (s:=s)).1 (by simpa using ha)
  exact this
 have hq:=KMY t
 simp only [List.length_cons,List.length_append,List.length_nil,List.cons_append] at hl
 unfold strP
 rw [Ve h1.1]
 dsimp only
 rw [List.length_singleton,KEJ t _ (i+1) [] h1.2 (by omega)]
 simp only [List.nil_append,List.cons_append,List.length_cons,List.length_append,List.length_nil]
 congr 2
 omega
theorem KJR {s:List UInt8} {i j:Nat} {c:UInt8} (h:escP s i=.ok (c,j)):∃ w,qc c=92::w∧At s i w∧j=i+w.length:=by
 unfold escP at h
 split at h
 ·rename_i hc
  cases h
  refine ⟨[KR s i],KH9 hc,Vf rfl (by rcases hc with h | h <;> (rw [h]; decide)),rfl⟩
 ·split at h
  ·cases h
  ·rename_i j' hj
   obtain ⟨a1,a2⟩:=UV hj
   have a2:j'=i+1:=a2
   subst a2
   split at h
   ·cases h
   ·rename_i hb1
    split at h
    ·cases h
    ·rename_i hb2
     cases h
     have l1:=KBB (KR s (i+1))
     have l2:=KBB (KR s (i+1+1))
     have c1:0≤hexN (KR s (i+1)):=by omega
     have c2:0≤hexN (KR s (i+1+1)):=by omega
     generalize hx:hexN (KR s (i+1))=x at *
     generalize hy:hexN (KR s (i+1+1))=y at *
     have hv:(UInt8.ofNat ((x * 16+y).toNat)).toNat=(x * 16+y).toNat:=by
      rw [UInt8.toNat_ofNat']
      exact Nat.mod_eq_of_lt (by omega)
     refine ⟨[120,KR s (i+1),KR s (i+1+1)],?_,?_,rfl⟩
     ·rw [KH8 (by rw [hv]; omega),hv]
      have e1:=KFs (c:=KR s (i+1)) (by rw [hx]; exact c1)
      have e2:=KFs (c:=KR s (i+1+1)) (by rw [hy]; exact c2)
      rw [hx] at e1
      rw [hy] at e2
      rw [e1,e2,show (x * 16+y).toNat / 16=x.toNat by omega,show (x * 16+y).toNat % 16=y.toNat by omega]
     ·have hz1:KR s (i+1)≠0:=fun e=>by rw [e,KD4] at hx; omega
      have hz2:KR s (i+1+1)≠0:=fun e=>by rw [e,KD4] at hy; omega
      have b1:=Vf (s:=s) (i:=i+1) rfl hz1
      have b2:=Vf (s:=s) (i:=i+1+1) rfl hz2
      exact (ZY (a:=[120]) (b:=[_,_])).2 ⟨a1,(ZY (a:=[_]) (b:=[_])).2 ⟨b1,b2⟩⟩
theorem KBP {s:List UInt8}:∀ {f i:Nat} {acc t:List UInt8} {j:Nat},strL s f i acc=.ok (t,j)→∃ t',t=acc++t'∧At s i (t'.flatMap qc++[39])∧j=i+(t'.flatMap qc).length+1
 | 0,i,acc,t,j,h=>by cases h
 | f+1,i,acc,t,j,h=>by
  rw [strL] at h
  split at h
  ·rename_i h39
   cases h
   exact ⟨[],by simp,Vf h39 (by decide),rfl⟩
  ·rename_i h39
   split at h
   ·cases h
   ·rename_i hr
    split at h
    ·rename_i h92
     split at h
     ·cases h
     ·rename_i c j2 he
      obtain ⟨w,hq,hw,hj⟩:=KJR he
      obtain ⟨t',h1,h2,h3⟩:=KBP h
      refine ⟨c::t',by rw [h1]; simp,?_,?_⟩
      ·rw [List.flatMap_cons,List.append_assoc,ZY,hq,List.length_cons]
       refine ⟨(ZY (a:=[92]) (b:=w)).2 ⟨Vf h92 (by decide),hw⟩,?_⟩
       rw [hj] at h2
       rw [show i+(w.length+1)=i+1+w.length by omega]
       exact h2
      ·rw [h3,hj,List.flatMap_cons,List.length_append,hq,List.length_cons]
       omega
    ·rename_i h92
     obtain ⟨t',h1,h2,h3⟩:=KBP h
     have hq:=KMX (c:=KR s i) hr (fun hh=>hh.elim h39 h92)
     refine ⟨KR s i::t',by rw [h1]; simp,?_,?_⟩
     ·rw [List.flatMap_cons,List.append_assoc,ZY,hq]
      exact ⟨Vf rfl (fun e=>hr (.inl (by rw [e]; decide))),h2⟩
     ·rw [h3,List.flatMap_cons,List.length_append,hq]
      simp only [List.length_singleton]
      omega
theorem KJS {s t:List UInt8} {i j:Nat} (h:strP s i=.ok (t,j)):At s i (Ur t)∧j=i+(Ur t).length:=by
 unfold strP at h
 split at h
 ·cases h
 ·rename_i j1 hj
  obtain ⟨a1,a2⟩:=UV hj
  have a2:j1=i+1:=a2
  subst a2
  obtain ⟨t',h1,h2,h3⟩:=KBP h
  rw [List.nil_append] at h1
  subst h1
  unfold Ur
  refine ⟨?_,by rw [h3]; simp; omega⟩
  have:=(ZY (a:=[39]) (b:=t.flatMap qc++[39]) (i:=i) (s:=s)).2 ⟨a1,h2⟩
  simpa using this
end Gx
namespace Gx
open Go Go.Proofs Go.Shelf Go.RowKit Go.Lib
set_option linter.unusedVariables false
set_option linter.unusedSimpArgs false
set_option maxRecDepth 100000
def WfV:Nat→Vl→Prop
 | 0,_=>True
 | d+1,.mk _ n _ l=>I64 n∧∀ x ∈ l,WfV d x
def sepT (d:Nat) (l:List Vl):List UInt8:=l.flatMap (fun x=>[44,32]++txt d x)
def mapT (d:Nat):List Vl→List UInt8
 | a::b::r=>[44,32]++(txt d a++([58,32]++(txt d b++mapT d r)))
 | _=>[]
theorem KC8 (d:Nat):∀ (l:List Vl) (a:Vl),shw [44,32] [44,32] ((a::l).map (txt d))=txt d a++sepT d l
 | [],a=>by simp [shw,sepT]
 | b::l,a=>by
  have:=KC8 d l b
  simp only [List.map_cons] at this ⊢
  rw [shw,this]
  simp [sepT]
theorem KC9 (d:Nat):∀ (n:Nat) (l:List Vl) (a b:Vl),l.length=2 * n→shw [58,32] [44,32] ((a::b::l).map (txt d))=txt d a++([58,32]++(txt d b++mapT d l))
 | 0,l,a,b,h=>by
  obtain rfl:l=[]:=List.length_eq_zero_iff.1 h
  simp [shw,mapT]
 | n+1,l,a,b,h=>by
  match l,h with
  | x::y::r,h =>
   have:=KC9 d n r x y (by simp only [List.length_cons] at h; omega)
   simp only [List.map_cons] at this ⊢
   rw [shw,shw,this,mapT]
theorem KFt (d:Nat) (n:Int) (s:List UInt8) (l:List Vl):txt (d+1) (.mk 4 n s l)=[91]++(shw [44,32] [44,32] (l.map (txt d))++[93]):=by
 rw [txt]
 simp
theorem KIA (d:Nat) (n:Int) (s:List UInt8) (l:List Vl):txt (d+1) (.mk 5 n s l)=[123]++(shw [58,32] [44,32] (l.map (txt d))++[125]):=by
 rw [txt]
 simp
theorem KEK {s:List UInt8} {d i j:Nat} {v:Vl} (h:pval s d i=.ok (v,j)):KR s i≠93∧KR s i≠125∧i < s.length:=by
 cases d with
 | zero=>cases h
 | succ d =>
  refine ⟨fun e=>?_,fun e=>?_,Ua (fun e=>?_)⟩ <;>
  ·rw [pval,e,if_neg (by decide),if_neg (by decide),if_neg (by decide),if_neg (by decide),if_neg (by decide),if_neg (by decide),if_neg (by decide),if_neg (by decide)] at h
   cases h
def Rds (s:List UInt8) (d:Nat) (v:Vl):Prop:=∀ i,At s i (txt d v)→digB (KR s (i+(txt d v).length))=false→pval s d i=.ok (v,i+(txt d v).length)
theorem KEL {s:List UInt8} {d:Nat}:∀ (l2 l1:List Vl) (f i:Nat),l1≠[]→(∀ x ∈ l2,Rds s d x)→At s i (sepT d l2++[93])→l2.length < f→Uu (pval s d) 93 false s f l1 i=.ok (l1++l2,i+(sepT d l2).length+1)
 | [],l1,f,i,h1,hr,ha,hf=>by
  obtain ⟨f,rfl⟩:∃ g,f=g+1:=⟨f - 1,by omega⟩
  rw [Uu,if_pos (At.here ha)]
  simp [sepT]
 | x::l2,l1,f,i,h1,hr,ha,hf=>by
  obtain ⟨f,rfl⟩:∃ g,f=g+1:=⟨f - 1,by omega⟩
  rw [List.length_cons] at hf
  have hst:sepT d (x::l2)++[93]=[44,32]++(txt d x++(sepT d l2++[93])):=by simp [sepT]
  rw [hst] at ha
  obtain ⟨a1,a2⟩:=ZY.1 ha
  obtain ⟨a3,a4⟩:=ZY.1 a2
  have hnext:KR s (i+2+(txt d x).length)=44∨KR s (i+2+(txt d x).length)=93:=by
   cases l2 with
   | nil=>exact .inr (At.here a4)
   | cons y l2 =>
    rw [show sepT d (y::l2)++[93]=44::(32::(txt d y++(sepT d l2++[93]))) by simp [sepT]] at a4
    exact .inl (At.here a4)
  have hp:=hr x (by simp) (i+2) a3 (by rcases hnext with h | h <;> (rw [h]; decide))
  have ih:=KEL l2 (l1++[x]) f (i+2+(txt d x).length) (by simp) (fun y hy=>hr y (by simp [hy])) a4 (by omega)
  have hl1:¬ l1.length=0:=fun e=>h1 (List.length_eq_zero_iff.1 e)
  rw [Uu,if_neg (by rw [At.here a1]; decide)]
  unfold sepP
  rw [if_neg hl1,Ve a1]
  dsimp only
  unfold Yt
  rw [show i+([44,32]:List UInt8).length=i+2 from rfl,hp]
  dsimp only
  rw [if_neg (by decide)]
  dsimp only
  rw [if_neg (by rcases hnext with h | h <;> (rw [h]; decide)),ih]
  have:(sepT d (x::l2)).length=2+(txt d x).length+(sepT d l2).length:=by simp [sepT]; omega
  rw [this,List.append_assoc]
  congr 2
  omega
theorem KFu {s:List UInt8} {d:Nat}:∀ (n:Nat) (l2 l1:List Vl) (f i:Nat),l2.length=2 * n→l1≠[]→(∀ x ∈ l2,Rds s d x)→At s i (mapT d l2++[125])→l2.length < f→Uu (pval s d) 125 true s f l1 i=.ok (l1++l2,i+(mapT d l2).length+1)
 | 0,l2,l1,f,i,hn,h1,hr,ha,hf=>by
  obtain rfl:l2=[]:=List.length_eq_zero_iff.1 hn
  obtain ⟨f,rfl⟩:∃ g,f=g+1:=⟨f - 1,by omega⟩
  rw [Uu,if_pos (At.here ha)]
  simp [mapT]
 | n+1,l2,l1,f,i,hn,h1,hr,ha,hf=>by
  match l2,hn with
  | x::y::l2,hn =>
   obtain ⟨f,rfl⟩:∃ g,f=g+1:=⟨f - 1,by omega⟩
   simp only [List.length_cons] at hf hn
   have hst:mapT d (x::y::l2)++[125]=[44,32]++(txt d x++([58,32]++(txt d y++(mapT d l2++[125])))):=by rw [mapT]; simp
   rw [hst] at ha
   obtain ⟨a1,a2⟩:=ZY.1 ha
   obtain ⟨a3,a4⟩:=ZY.1 a2
   obtain ⟨a5,a6⟩:=ZY.1 a4
   obtain ⟨a7,a8⟩:=ZY.1 a6
   have hnext:KR s (i+2+(txt d x).length+2+(txt d y).length)=44∨KR s (i+2+(txt d x).length+2+(txt d y).length)=125:=by
    match l2,hn with
    | [],_=>exact .inr (At.here a8)
    | u::w::l2,_ =>
     rw [show mapT d (u::w::l2)++[125]=44::(32::(txt d u++([58,32]++(txt d w++(mapT d l2++[125]))))) by rw [mapT]; simp] at a8
     exact .inl (At.here a8)
    | [u],hn=>exact absurd hn (by simp; omega)
   have hp:=hr x (by simp) (i+2) a3 (by rw [show i+2+(txt d x).length=i+([44,32]:List UInt8).length+(txt d x).length from rfl,At.here a5]; decide)
   have hp2:=hr y (by simp) (i+2+(txt d x).length+2) a7 (by rcases hnext with h | h <;> (rw [h]; decide))
   have ih:=KFu n l2 (l1++[x,y]) f (i+2+(txt d x).length+2+(txt d y).length) (by omega) (by simp) (fun z hz=>hr z (by simp [hz])) a8 (by omega)
   have hl1:¬ l1.length=0:=fun e=>h1 (List.length_eq_zero_iff.1 e)
   rw [Uu,if_neg (by rw [At.here a1]; decide)]
   unfold sepP
   rw [if_neg hl1,Ve a1]
   dsimp only
   unfold Yt
   rw [show i+([44,32]:List UInt8).length=i+2 from rfl,hp]
   dsimp only
   have hm:=Ve a5
   rw [if_pos rfl,show i+2+(txt d x).length=i+([44,32]:List UInt8).length+(txt d x).length from rfl,hm]
   dsimp only
   rw [show i+([44,32]:List UInt8).length+(txt d x).length+([58,32]:List UInt8).length=i+2+(txt d x).length+2 from rfl,hp2]
   dsimp only
   rw [if_neg (by rcases hnext with h | h <;> (rw [h]; decide)),ih]
   have:(mapT d (x::y::l2)).length=2+(txt d x).length+2+(txt d y).length+(mapT d l2).length:=by rw [mapT]; simp; omega
   rw [this,List.append_assoc]
   congr 2
   omega
theorem KIB {s:List UInt8} {d:Nat} {l:List Vl} {i:Nat} (hr:∀ x ∈ l,Rds s d x) (ha:At s i (shw [44,32] [44,32] (l.map (txt d))++[93])) (f:Nat) (hf:l.length < f) :
  Uu (pval s d) 93 false s f [] i=.ok (l,i+(shw [44,32] [44,32] (l.map (txt d))).length+1):=by
 obtain ⟨f,rfl⟩:∃ g,f=g+1:=⟨f - 1,by omega⟩
 cases l with
 | nil =>
  rw [Uu,if_pos (At.here ha)]
  rfl
 | cons x l =>
  rw [KC8] at ha ⊢
  rw [List.append_assoc] at ha
  obtain ⟨a3,a4⟩:=ZY.1 ha
  have hnext:KR s (i+(txt d x).length)=44∨KR s (i+(txt d x).length)=93:=by
   cases l with
   | nil=>exact .inr (At.here a4)
   | cons y l =>
    rw [show sepT d (y::l)++[93]=44::(32::(txt d y++(sepT d l++[93]))) by simp [sepT]] at a4
    exact .inl (At.here a4)
  have hp:=hr x (by simp) i a3 (by rcases hnext with h | h <;> (rw [h]; decide))
  have ih:=KEL l [x] f (i+(txt d x).length) (by simp) (fun y hy=>hr y (by simp [hy])) a4 (by simp only [List.length_cons] at hf; omega)
  rw [Uu,if_neg (KEK hp).1]
  unfold sepP
  rw [if_pos (show ([]:List Vl).length=0 from rfl)]
  dsimp only
  unfold Yt
  rw [hp]
  dsimp only
  rw [if_neg (by decide)]
  dsimp only
  rw [if_neg (by rcases hnext with h | h <;> (rw [h]; decide)),List.nil_append,ih,List.length_append]
  congr 2
  omega
theorem KJT {s:List UInt8} {d:Nat} {l:List Vl} {i:Nat} (he:l.length % 2=0) (hr:∀ x ∈ l,Rds s d x) (ha:At s i (shw [58,32] [44,32] (l.map (txt d))++[125])) (f:Nat) (hf:l.length < f) :
  Uu (pval s d) 125 true s f [] i=.ok (l,i+(shw [58,32] [44,32] (l.map (txt d))).length+1):=by
 obtain ⟨f,rfl⟩:∃ g,f=g+1:=⟨f - 1,by omega⟩
 match l,he with
 | [],_ =>
  rw [Uu,if_pos (At.here ha)]
  rfl
 | [u],he=>exact absurd he (by simp)
 | x::y::l,he =>
  simp only [List.length_cons] at he hf
  rw [KC9 d (l.length / 2) l x y (by omega)] at ha ⊢
  rw [show txt d x++([58,32]++(txt d y++mapT d l))++[125]=txt d x++([58,32]++(txt d y++(mapT d l++[125]))) by simp] at ha
  obtain ⟨a3,a4⟩:=ZY.1 ha
  obtain ⟨a5,a6⟩:=ZY.1 a4
  obtain ⟨a7,a8⟩:=ZY.1 a6
  have hnext:KR s (i+(txt d x).length+2+(txt d y).length)=44∨KR s (i+(txt d x).length+2+(txt d y).length)=125:=by
   match l,he with
   | [],_=>exact .inr (At.here a8)
   | u::w::l2,_ =>
    rw [show mapT d (u::w::l2)++[125]=44::(32::(txt d u++([58,32]++(txt d w++(mapT d l2++[125]))))) by rw [mapT]; simp] at a8
    exact .inl (At.here a8)
   | [u],he=>exact absurd he (by simp)
  have hp:=hr x (by simp) i a3 (by rw [At.here a5]; decide)
  have hp2:=hr y (by simp) (i+(txt d x).length+2) a7 (by rcases hnext with h | h <;> (rw [h]; decide))
  have ih:=KFu (l.length / 2) l [x,y] f (i+(txt d x).length+2+(txt d y).length) (by omega) (by simp) (fun z hz=>hr z (by simp [hz])) a8 (by omega)
  rw [Uu,if_neg (KEK hp).2.1]
  unfold sepP
  rw [if_pos (show ([]:List Vl).length=0 from rfl)]
  dsimp only
  unfold Yt
  rw [hp]
  dsimp only
  rw [if_pos rfl,Ve a5]
  dsimp only
  rw [show i+(txt d x).length+([58,32]:List UInt8).length=i+(txt d x).length+2 from rfl,hp2]
  dsimp only
  rw [if_neg (by rcases hnext with h | h <;> (rw [h]; decide)),List.nil_append,ih]
  simp only [List.length_append,List.length_cons,List.length_nil]
  congr 2
  omega
theorem KDA {s:List UInt8} {l:List Vl} (h:KD2 s l=true):s=[]∧l=[]:=by
 unfold KD2 at h
 rw [Bool.and_eq_true,decide_eq_true_iff,List.isEmpty_iff] at h
 exact h
theorem KEM {s:List UInt8} {i:Nat} {k n:Int} {c:UInt8} (hn:I64 n) (ha:At s i ([c,91]++itoa n++[93])):zA k s i=.ok (.mk k n [] [],i+([c,91]++itoa n++[93]).length):=by
 rw [List.append_assoc] at ha
 obtain ⟨a1,a2⟩:=ZY.1 ha
 obtain ⟨a3,a4⟩:=ZY.1 a2
 have a1':At s (i+1) [91]:=((ZY (a:=[c]) (b:=[91])).1 a1).2
 have hnum:=KFq (i:=i+2) hn a3 (by rw [show i+2+(itoa n).length=i+([c,91]:List UInt8).length+(itoa n).length from rfl,At.here a4]; decide)
 unfold zA
 rw [Ve a1']
 dsimp only
 rw [show i+1+([91]:List UInt8).length=i+2 from rfl,hnum]
 dsimp only
 have:=Ve a4
 rw [show i+2+(itoa n).length=i+([c,91]:List UInt8).length+(itoa n).length from rfl,this]
 simp only [List.length_append,List.length_cons,List.length_nil]
 congr 2
 omega
theorem KFv (s:List UInt8):∀ (d:Nat) (v:Vl),mayV d v=true→WfV d v→Rds s d v
 | 0,v,hm,_=>by cases v; cases hm
 | d+1,.mk k n t l,hm,hw=>by
  have ih:=KFv s d
  intro i ha hf
  rw [WfV] at hw
  rw [mayV] at hm
  by_cases h1:k=1
  ·subst h1
   rw [if_pos rfl] at hm
   obtain ⟨rfl,rfl⟩:=KDA hm
   have ht:txt (d+1) (.mk 1 n [] [])=itoa n:=by rw [txt,if_pos rfl]
   rw [ht] at ha hf ⊢
   have hnum:=KFq hw.1 ha hf
   have hc:KR s i=45∨digB (KR s i)=true:=by
    have h0:=ha.get (k:=0) (List.length_pos_iff.2 (KFA n))
    rw [Nat.add_zero] at h0
    by_cases hneg:n < 0
    ·left
     have hT:itoa n=45::decDigits n.natAbs:=by unfold itoa; rw [if_pos hneg]
     rw [h0]
     simp only [hT]
     rfl
    ·right
     rw [h0]
     exact (KAU hw.1 (k:=0) (by unfold sgn; rw [if_neg hneg]; exact Nat.le_refl _) _).1
   rw [pval,if_pos hc,hnum]
  rw [if_neg h1] at hm
  by_cases h3:k=3
  ·subst h3
   rw [if_pos rfl,Bool.and_eq_true,Bool.or_eq_true,decide_eq_true_iff,decide_eq_true_iff] at hm
   obtain ⟨hb,hn⟩:=hm
   obtain ⟨rfl,rfl⟩:=KDA hb
   rcases hn with rfl | rfl
   ·have ht:txt (d+1) (.mk 3 0 [] [])=[102,97,108,115,101]:=by rw [txt]; rfl
    rw [ht] at ha ⊢
    rw [pval,At.here ha,if_neg (by decide),if_neg (by decide),if_neg (by decide),if_pos rfl,Ve ha]
   ·have ht:txt (d+1) (.mk 3 1 [] [])=[116,114,117,101]:=by rw [txt]; rfl
    rw [ht] at ha ⊢
    rw [pval,At.here ha,if_neg (by decide),if_neg (by decide),if_pos rfl,Ve ha]
  rw [if_neg h3] at hm
  by_cases h67:k=6∨k=7
  ·rw [if_pos h67,Bool.and_eq_true,Bool.and_eq_true,decide_eq_true_iff,decide_eq_true_iff] at hm
   obtain ⟨⟨hb,hn1⟩,hn2⟩:=hm
   obtain ⟨rfl,rfl⟩:=KDA hb
   rcases h67 with rfl | rfl
   ·have ht:txt (d+1) (.mk 6 n [] [])=[118,91]++itoa n++[93]:=by rw [txt]; rfl
    rw [ht] at ha ⊢
    have hh:KR s i=118:=by
     rw [List.append_assoc] at ha
     exact At.here (ZY.1 ha).1
    rw [pval,hh,if_neg (by decide),if_neg (by decide),if_neg (by decide),if_neg (by decide),if_pos rfl]
    exact KEM hw.1 ha
   ·have ht:txt (d+1) (.mk 7 n [] [])=[101,91]++itoa n++[93]:=by rw [txt]; rfl
    rw [ht] at ha ⊢
    have hh:KR s i=101:=by
     rw [List.append_assoc] at ha
     exact At.here (ZY.1 ha).1
    rw [pval,hh,if_neg (by decide),if_neg (by decide),if_neg (by decide),if_neg (by decide),if_neg (by decide),if_pos rfl]
    exact KEM hw.1 ha
  rw [if_neg h67] at hm
  by_cases h2:k=2
  ·subst h2
   rw [if_pos rfl,Bool.and_eq_true,Bool.and_eq_true,decide_eq_true_iff,List.isEmpty_iff,decide_eq_true_iff] at hm
   obtain ⟨⟨rfl,rfl⟩,_⟩:=hm
   have ht:txt (d+1) (.mk 2 0 t [])=Ur t:=by rw [txt]; rfl
   rw [ht] at ha ⊢
   have hh:KR s i=39:=by
    have:Ur t=39::(t.flatMap qc++[39]):=rfl
    rw [this] at ha
    exact At.here ha
   rw [pval,hh,if_neg (by decide),if_pos rfl,KJQ ha]
  rw [if_neg h2] at hm
  by_cases h4:k=4
  ·subst h4
   rw [if_pos rfl,Bool.and_eq_true,Bool.and_eq_true,Bool.and_eq_true,decide_eq_true_iff,decide_eq_true_iff,decide_eq_true_iff,List.all_eq_true] at hm
   obtain ⟨hl,⟨rfl,rfl⟩,hall⟩:=hm
   rw [KFt] at ha ⊢
   obtain ⟨a1,a2⟩:=ZY.1 ha
   have hlen:=a2.len (by simp)
   have hcount:l.length≤(shw [44,32] [44,32] (l.map (txt d))).length:=by
    cases l with
    | nil=>simp
    | cons x l =>
     rw [KC8,List.length_append,List.length_cons]
     have:=KBN d x
     have h5:l.length≤(sepT d l).length:=by
      clear hall hl ha a1 a2 hlen hf hw
      induction l with
      | nil=>simp
      | cons y l ih2=>simp only [sepT,List.flatMap_cons,List.length_append,List.length_cons,List.length_nil] at ih2 ⊢; omega
     omega
   rw [List.length_append,List.length_singleton] at hlen
   have hlist:=KIB (fun x hx=>ih x (hall x hx) (hw.2 x hx)) a2 (s.length - i) (by have:([91]:List UInt8).length=1:=rfl; omega)
   rw [pval,At.here a1,if_neg (by decide),if_neg (by decide),if_neg (by decide),if_neg (by decide),if_neg (by decide),if_neg (by decide),if_pos rfl]
   rw [show i+([91]:List UInt8).length=i+1 from rfl] at hlist
   rw [hlist]
   simp only [List.length_append,List.length_cons,List.length_nil]
   congr 2
   omega
  rw [if_neg h4] at hm
  by_cases h5:k=5
  ·subst h5
   rw [if_pos rfl,Bool.and_eq_true,Bool.and_eq_true,Bool.and_eq_true,Bool.and_eq_true,Bool.and_eq_true,decide_eq_true_iff,decide_eq_true_iff,decide_eq_true_iff,decide_eq_true_iff,List.all_eq_true] at hm
   obtain ⟨⟨⟨hl,he⟩,_⟩,⟨rfl,rfl⟩,hall⟩:=hm
   rw [KIA] at ha ⊢
   obtain ⟨a1,a2⟩:=ZY.1 ha
   have hlen:=a2.len (by simp)
   have hcount:l.length≤(shw [58,32] [44,32] (l.map (txt d))).length:=by
    match l,he with
    | [],_=>simp
    | [u],he=>exact absurd he (by simp)
    | x::y::l,he =>
     simp only [List.length_cons] at he
     rw [KC9 d (l.length / 2) l x y (by omega)]
     have h6:∀ (n:Nat) (l:List Vl),l.length=2 * n→l.length≤(mapT d l).length:=by
      intro n
      induction n with
      | zero=>intro l hl; omega
      | succ n ih2 =>
       intro l hl
       match l,hl with
       | a::b::r,hl =>
        simp only [List.length_cons] at hl
        have:=ih2 r (by omega)
        rw [mapT]
        simp only [List.length_append,List.length_cons,List.length_nil]
        omega
     have:=h6 (l.length / 2) l (by omega)
     have:=KBN d x
     have:=KBN d y
     simp only [List.length_append,List.length_cons,List.length_nil]
     omega
   rw [List.length_append,List.length_singleton] at hlen
   have hlist:=KJT he (fun x hx=>ih x (hall x hx) (hw.2 x hx)) a2 (s.length - i) (by have:([123]:List UInt8).length=1:=rfl; omega)
   rw [pval,At.here a1,if_neg (by decide),if_neg (by decide),if_neg (by decide),if_neg (by decide),if_neg (by decide),if_neg (by decide),if_neg (by decide),if_pos rfl]
   rw [show i+([123]:List UInt8).length=i+1 from rfl] at hlist
   rw [hlist]
   simp only [List.length_append,List.length_cons,List.length_nil]
   congr 2
   omega
  rw [if_neg h5] at hm
  cases hm
end Gx
namespace Gx
open Go Go.Proofs Go.Shelf Go.RowKit Go.Lib
set_option linter.unusedVariables false
set_option linter.unusedSimpArgs false
set_option maxRecDepth 100000
def Tx (s:List UInt8) (d:Nat) (pv:Nat→Except Nat (Vl × Nat)):Prop:=∀ i v j,pv i=.ok (v,j)→At s i (txt d v)∧j=i+(txt d v).length
theorem KEN {s:List UInt8} {d:Nat} {pv:Nat→Except Nat (Vl × Nat)} (hp:Tx s d pv):∀ {f i:Nat} {l1 t:List Vl} {j:Nat},l1≠[]→Uu pv 93 false s f l1 i=.ok (t,j)→∃ l2,t=l1++l2∧At s i (sepT d l2++[93])∧j=i+(sepT d l2).length+1
 | 0,i,l1,t,j,h1,h=>by cases h
 | f+1,i,l1,t,j,h1,h=>by
  rw [Uu] at h
  split at h
  ·rename_i hh
   cases h
   exact ⟨[],by simp,Vf hh (by decide),rfl⟩
  ·have hl1:¬ l1.length=0:=fun e=>h1 (List.length_eq_zero_iff.1 e)
   unfold sepP at h
   rw [if_neg hl1] at h
   split at h
   ·cases h
   ·rename_i i1 hi1
    obtain ⟨a1,a2⟩:=UV hi1
    split at h
    ·cases h
    ·rename_i vs i2 hv
     split at h
     ·cases h
     ·unfold Yt at hv
      split at hv
      ·cases hv
      ·rename_i v j1 hpv
       rw [if_neg (by decide)] at hv
       cases hv
       obtain ⟨b1,b2⟩:=hp _ _ _ hpv
       obtain ⟨l2,c1,c2,c3⟩:=KEN hp (by simp) h
       refine ⟨v::l2,by rw [c1]; simp,?_,?_⟩
       ·rw [show sepT d (v::l2)++[93]=[44,32]++(txt d v++(sepT d l2++[93])) by simp [sepT],ZY,ZY]
        subst a2
        rw [← b2]
        exact ⟨a1,b1,c2⟩
       ·have:(sepT d (v::l2)).length=2+(txt d v).length+(sepT d l2).length:=by simp [sepT]; omega
        have e2:([44,32]:List UInt8).length=2:=rfl
        omega
theorem KFw {s:List UInt8} {d:Nat} {pv:Nat→Except Nat (Vl × Nat)} (hp:Tx s d pv):∀ {f i:Nat} {l1 t:List Vl} {j:Nat},l1≠[]→Uu pv 125 true s f l1 i=.ok (t,j)→∃ l2,l2.length % 2=0∧t=l1++l2∧At s i (mapT d l2++[125])∧j=i+(mapT d l2).length+1
 | 0,i,l1,t,j,h1,h=>by cases h
 | f+1,i,l1,t,j,h1,h=>by
  rw [Uu] at h
  split at h
  ·rename_i hh
   cases h
   exact ⟨[],rfl,by simp,Vf hh (by decide),rfl⟩
  ·have hl1:¬ l1.length=0:=fun e=>h1 (List.length_eq_zero_iff.1 e)
   unfold sepP at h
   rw [if_neg hl1] at h
   split at h
   ·cases h
   ·rename_i i1 hi1
    obtain ⟨a1,a2⟩:=UV hi1
    split at h
    ·cases h
    ·rename_i vs i2 hv
     split at h
     ·cases h
     ·unfold Yt at hv
      split at hv
      ·cases hv
      ·rename_i v j1 hpv
       rw [if_pos rfl] at hv
       split at hv
       ·cases hv
       ·rename_i j2 hj2
        obtain ⟨a3,a4⟩:=UV hj2
        split at hv
        ·cases hv
        ·rename_i w j3 hpw
         cases hv
         obtain ⟨b1,b2⟩:=hp _ _ _ hpv
         obtain ⟨b3,b4⟩:=hp _ _ _ hpw
         obtain ⟨l2,c0,c1,c2,c3⟩:=KFw hp (by simp) h
         refine ⟨v::w::l2,by simp only [List.length_cons]; omega,by rw [c1]; simp,?_,?_⟩
         ·rw [show mapT d (v::w::l2)++[125]=[44,32]++(txt d v++([58,32]++(txt d w++(mapT d l2++[125])))) by rw [mapT]; simp,ZY,ZY,ZY,ZY]
          subst a2
          rw [← b2,← a4,← b4]
          exact ⟨a1,b1,a3,b3,c2⟩
         ·have:(mapT d (v::w::l2)).length=2+(txt d v).length+2+(txt d w).length+(mapT d l2).length:=by rw [mapT]; simp; omega
          have e2:([44,32]:List UInt8).length=2:=rfl
          have e3:([58,32]:List UInt8).length=2:=rfl
          omega
theorem KIC {s:List UInt8} {d:Nat} {pv:Nat→Except Nat (Vl × Nat)} (hp:Tx s d pv) {f i:Nat} {t:List Vl} {j:Nat} (h:Uu pv 93 false s f [] i=.ok (t,j)) :
  At s i (shw [44,32] [44,32] (t.map (txt d))++[93])∧j=i+(shw [44,32] [44,32] (t.map (txt d))).length+1:=by
 cases f with
 | zero=>cases h
 | succ f =>
  rw [Uu] at h
  split at h
  ·rename_i hh
   cases h
   exact ⟨Vf hh (by decide),rfl⟩
  ·unfold sepP at h
   rw [if_pos (show ([]:List Vl).length=0 from rfl)] at h
   dsimp only at h
   split at h
   ·cases h
   ·rename_i vs i2 hv
    split at h
    ·cases h
    ·unfold Yt at hv
     split at hv
     ·cases hv
     ·rename_i v j1 hpv
      rw [if_neg (by decide)] at hv
      cases hv
      obtain ⟨b1,b2⟩:=hp _ _ _ hpv
      obtain ⟨l2,c1,c2,c3⟩:=KEN hp (by simp) h
      rw [List.nil_append,List.singleton_append] at c1
      rw [c1,KC8,List.append_assoc,ZY,List.length_append]
      subst b2
      exact ⟨⟨b1,c2⟩,by omega⟩
theorem KJU {s:List UInt8} {d:Nat} {pv:Nat→Except Nat (Vl × Nat)} (hp:Tx s d pv) {f i:Nat} {t:List Vl} {j:Nat} (h:Uu pv 125 true s f [] i=.ok (t,j)) :
  At s i (shw [58,32] [44,32] (t.map (txt d))++[125])∧j=i+(shw [58,32] [44,32] (t.map (txt d))).length+1:=by
 cases f with
 | zero=>cases h
 | succ f =>
  rw [Uu] at h
  split at h
  ·rename_i hh
   cases h
   exact ⟨Vf hh (by decide),rfl⟩
  ·unfold sepP at h
   rw [if_pos (show ([]:List Vl).length=0 from rfl)] at h
   dsimp only at h
   split at h
   ·cases h
   ·rename_i vs i2 hv
    split at h
    ·cases h
    ·unfold Yt at hv
     split at hv
     ·cases hv
     ·rename_i v j1 hpv
      rw [if_pos rfl] at hv
      split at hv
      ·cases hv
      ·rename_i j2 hj2
       obtain ⟨a3,a4⟩:=UV hj2
       split at hv
       ·cases hv
       ·rename_i w j3 hpw
        cases hv
        obtain ⟨b1,b2⟩:=hp _ _ _ hpv
        obtain ⟨b3,b4⟩:=hp _ _ _ hpw
        obtain ⟨l2,c0,c1,c2,c3⟩:=KFw hp (by simp) h
        rw [List.nil_append] at c1
        rw [c1,show [v,w]++l2=v::w::l2 from rfl,KC9 d (l2.length / 2) l2 v w (by omega)]
        rw [show txt d v++([58,32]++(txt d w++mapT d l2))++[125]=txt d v++([58,32]++(txt d w++(mapT d l2++[125]))) by simp,ZY,ZY,ZY]
        subst b2
        subst a4
        subst b4
        refine ⟨⟨b1,a3,b3,c2⟩,?_⟩
        simp only [List.length_append,List.length_cons,List.length_nil] at c3 ⊢
        omega
theorem KEO {s:List UInt8} {i j:Nat} {k:Int} {c:UInt8} {v:Vl} (hc:At s i [c]) (h:zA k s i=.ok (v,j)):∃ n,v=.mk k n [] []∧At s i ([c,91]++itoa n++[93])∧j=i+([c,91]++itoa n++[93]).length:=by
 unfold zA at h
 split at h
 ·cases h
 ·rename_i j1 h1
  obtain ⟨a1,a2⟩:=UV h1
  split at h
  ·cases h
  ·rename_i n j2 h2
   have hle:=(Ub h1).2.1 (by simp)
   obtain ⟨b1,b2⟩:=KFr h2 hle
   split at h
   ·cases h
   ·rename_i j3 h3
    obtain ⟨c1,c2⟩:=UV h3
    cases h
    have a2:j1=i+2:=a2
    subst a2
    subst b2
    refine ⟨n,rfl,?_,?_⟩
    ·rw [show [c,91]++itoa n++[93]=[c]++([91]++(itoa n++[93])) by simp,ZY,ZY,ZY]
     exact ⟨hc,a1,b1,c1⟩
    ·rw [c2]
     simp only [List.length_append,List.length_cons,List.length_nil]
     omega
theorem KFx (s:List UInt8):∀ d,Tx s d (pval s d)
 | 0=>fun i v j h=>by cases h
 | d+1=>fun i v j h=>by
  have ih:=KFx s d
  rw [pval] at h
  split at h
  ·rename_i hc
   have hi:i < s.length:=Ua (fun e=>by rw [e] at hc; exact absurd hc (by decide))
   split at h
   ·cases h
   ·rename_i n j1 h1
    cases h
    have ht:txt (d+1) (.mk 1 n [] [])=itoa n:=by rw [txt,if_pos rfl]
    rw [ht]
    exact KFr h1 (by omega)
  split at h
  ·split at h
   ·cases h
   ·rename_i t j1 h1
    cases h
    have ht:txt (d+1) (.mk 2 0 t [])=Ur t:=by rw [txt]; rfl
    rw [ht]
    exact KJS h1
  split at h
  ·split at h
   ·cases h
   ·rename_i j1 h1
    cases h
    have ht:txt (d+1) (.mk 3 1 [] [])=[116,114,117,101]:=by rw [txt]; rfl
    rw [ht]
    exact UV h1
  split at h
  ·split at h
   ·cases h
   ·rename_i j1 h1
    cases h
    have ht:txt (d+1) (.mk 3 0 [] [])=[102,97,108,115,101]:=by rw [txt]; rfl
    rw [ht]
    exact UV h1
  split at h
  ·rename_i hc
   obtain ⟨n,rfl,h2,h3⟩:=KEO (Vf hc (by decide)) h
   have ht:txt (d+1) (.mk 6 n [] [])=[118,91]++itoa n++[93]:=by rw [txt]; rfl
   rw [ht]
   exact ⟨h2,h3⟩
  split at h
  ·rename_i hc
   obtain ⟨n,rfl,h2,h3⟩:=KEO (Vf hc (by decide)) h
   have ht:txt (d+1) (.mk 7 n [] [])=[101,91]++itoa n++[93]:=by rw [txt]; rfl
   rw [ht]
   exact ⟨h2,h3⟩
  split at h
  ·rename_i hc
   split at h
   ·cases h
   ·rename_i l j1 h1
    cases h
    obtain ⟨a1,a2⟩:=KIC ih h1
    rw [KFt,ZY]
    exact ⟨⟨Vf hc (by decide),a1⟩,by rw [a2]; simp only [List.length_append,List.length_cons,List.length_nil]; omega⟩
  split at h
  ·rename_i hc
   split at h
   ·cases h
   ·rename_i l j1 h1
    cases h
    obtain ⟨a1,a2⟩:=KJU ih h1
    rw [KIA,ZY]
    exact ⟨⟨Vf hc (by decide),a1⟩,by rw [a2]; simp only [List.length_append,List.length_cons,List.length_nil]; omega⟩
  ·cases h
theorem KDB {v:Vl} (hm:mayV 8 v=true) (hw:WfV 8 v):Jc (txV v)=(v,0,0):=by
 have hAt:At (txV v) 0 (txt 8 v):=by
  unfold At
  rw [List.drop_zero]
  exact List.take_length
 have h:=KFv (txV v) 8 v hm hw 0 hAt (by
  have:KR (txV v) (0+(txt 8 v).length)=0:=by
   unfold KR
   rw [List.getElem?_eq_none (by show (txt 8 v).length≤_; omega)]
   rfl
  rw [this]
  decide)
 have hr:KAL (txV v)=.ok v:=by
  unfold KAL
  rw [h]
  dsimp only
  rw [if_neg (by show ¬ (0+(txt 8 v).length < (txt 8 v).length); omega)]
 unfold Jc
 rw [hr]
 dsimp only
 rw [if_pos hm]
theorem KDC {s:List UInt8} {v:Vl} (h:KAL s=.ok v):txV v=s:=by
 unfold KAL at h
 split at h
 ·cases h
 ·rename_i w j hp
  split at h
  ·cases h
  ·rename_i hj
   cases h
   obtain ⟨a1,a2⟩:=KFx s 8 0 _ _ hp
   have hle:=(KEx s 8 0 _ _ hp).2
   unfold At at a1
   rw [List.drop_zero,List.take_of_length_le (by omega)] at a1
   exact a1.symm
end Gx
namespace Gx
open Go Go.Proofs Go.Shelf Go.RowKit Go.Lib
set_option linter.unusedVariables false
set_option linter.unusedSimpArgs false
set_option maxRecDepth 100000
theorem KID {s:List UInt8} (h:(Jc s).2.2=0):KAL s=.ok (Jc s).1∧mayV 8 (Jc s).1=true:=by
 unfold Jc at h ⊢
 cases hr:KAL s with
 | error e =>
  rw [hr] at h
  have h:(22:Int)=0:=h
  exact absurd h (by decide)
 | ok v =>
  rw [hr] at h
  dsimp only at h ⊢
  by_cases hm:mayV 8 v=true
  ·rw [if_pos hm]
   exact ⟨rfl,hm⟩
  ·rw [if_neg hm] at h
   have h:(20:Int)=0:=h
   exact absurd h (by decide)
end Gx
namespace Gx
open Go Go.Proofs Go.Shelf Go.RowKit Go.Lib
set_option linter.unusedVariables false
set_option linter.unusedSimpArgs false
set_option maxRecDepth 100000
theorem zr (n:Int) (s:List UInt8) (l:List Vl):txV (.mk 1 n s l)=itoa n:=by
 show txt 8 _=_
 rw [txt,if_pos rfl]
theorem KBQ (n:Int) (s:List UInt8) (l:List Vl):txV (.mk 2 n s l)=Ur s:=by
 show txt 8 _=_
 rw [txt,if_neg (by decide),if_pos rfl]
def tkT (t:Tkn):List UInt8:=if tokB t=false then [] else if t.k=2 then itoa t.n else if t.k=3 then Ur t.s else t.s
theorem KIE {k:Int} {s:List UInt8} {n:Nat} {t:Vl→Tkn} (h:(oneV k s n t).2≠0):(Jc (s.take n)).2.2=0∧(Jc (s.take n)).1.k=k∧txV (Jc (s.take n)).1=s.take n∧oneV k s n t=(t (Jc (s.take n)).1,n):=by
 unfold oneV oneW at h ⊢
 split at h
 ·exact absurd rfl h
 ·rename_i hh
  have h1:(Jc (s.take n)).2.2=0:=Decidable.byContradiction (fun e=>hh (.inl e))
  have h2:(Jc (s.take n)).1.k=k:=Decidable.byContradiction (fun e=>hh (.inr e))
  exact ⟨h1,h2,KDC (KID h1).1,by rw [if_neg hh]⟩
def NumT (t:Tkn):Prop:=t.k=2→∃ v p,Jc (itoa t.n)=(v,p,0)∧v.k=1∧v.n=t.n
theorem NumT.of {t:Tkn} (h:I64 t.n):NumT t:=fun _=>⟨.mk 1 t.n [] [],0,by
 rw [← zr t.n [] []]
 exact KDB (by simp [mayV,KD2]) ⟨h,fun x hx=>by cases hx⟩,rfl,rfl⟩
theorem KBR {t:Tkn} (h:tokB t=true):(t.k=1∧KD8 t.s=true∧t.n=0)∨(t.k=2∧t.s=[])∨(t.k=3∧t.s.length≤128∧t.n=0)∨(t.k=4∧∃ c,t.s=[c]∧KBs c=true∧t.n=0):=by
 unfold tokB at h
 rw [Bool.and_eq_true,Bool.not_eq_true',Bool.or_eq_false_iff] at h
 obtain ⟨⟨_,h2⟩,h3⟩:=h
 have hn:t.k≠2→t.n=0:=fun hk=>by
  rw [decide_eq_true hk,Bool.and_true] at h2
  exact Decidable.byContradiction (fun e=>by rw [decide_eq_true e] at h2; cases h2)
 split at h3
 ·rename_i hk; exact .inl ⟨hk,h3,hn (by omega)⟩
 split at h3
 ·rename_i hk; exact .inr (.inl ⟨hk,of_decide_eq_true h3⟩)
 split at h3
 ·rename_i hk; exact .inr (.inr (.inl ⟨hk,of_decide_eq_true h3,hn (by omega)⟩))
 split at h3
 ·rename_i hk
  refine .inr (.inr (.inr ⟨hk,?_⟩))
  unfold KC1 at h3
  split at h3
  ·rename_i c hc; exact ⟨c,hc,h3,hn (by omega)⟩
  ·cases h3
 ·cases h3
theorem KDD {t:Tkn} (h:tokB t=true):tkT t=if t.k=2 then itoa t.n else if t.k=3 then Ur t.s else t.s:=by
 unfold tkT
 rw [h]
 exact if_neg (by decide)
theorem KIF {s:List UInt8} {p:Nat} (h0:(oneP s).2≠0) (hb:tokB { (oneP s).1 with a:=(p:Int) }=true):tkT { (oneP s).1 with a:=(p:Int) }=s.take (oneP s).2∧NumT { (oneP s).1 with a:=(p:Int) }:=by
 cases s with
 | nil=>exact absurd rfl h0
 | cons c r =>
  rw [KDD hb]
  clear hb
  rw [KBG] at h0 ⊢
  split at h0
  ·rename_i hm
   rw [if_pos hm]
   exact ⟨rfl,fun h=>by have h:(4:Int)=2:=h; omega⟩
  split at h0
  ·rename_i hm hl
   rw [if_neg hm,if_pos hl]
   exact ⟨rfl,fun h=>by have h:(1:Int)=2:=h; omega⟩
  split at h0
  ·rename_i hm hl h39
   rw [if_neg hm,if_neg hl,if_pos h39]
   obtain ⟨h1,h2,h3,h4⟩:=KIE h0
   rw [h4]
   refine ⟨?_,fun h=>by have h:(3:Int)=2:=h; omega⟩
   dsimp only
   rw [if_neg (by decide),if_pos rfl]
   refine Eq.trans ?_ h3
   generalize (Jc _).1=v at h2 ⊢
   obtain ⟨k,n,s,l⟩:=v
   have h2:k=2:=h2
   subst h2
   exact (KBQ _ _ _).symm
  ·rename_i hm hl h39
   rw [if_neg hm,if_neg hl,if_neg h39]
   obtain ⟨h1,h2,h3,h4⟩:=KIE h0
   rw [h4]
   dsimp only
   generalize hq:Jc _=q at h1 h2 h3 ⊢
   obtain ⟨⟨k,n,ss,l⟩,p,e⟩:=q
   have h2:k=1:=h2
   have h1:e=0:=h1
   subst h2
   subst h1
   dsimp only at h3 ⊢
   rw [zr] at h3
   rw [if_pos rfl,show (Vl.mk 1 n ss l).n=n from rfl,h3]
   exact ⟨rfl,fun _=>⟨_,_,by dsimp only; rw [h3]; exact hq,rfl,rfl⟩⟩
def prT:Int→List Tkn→List UInt8
 | _,[]=>[]
 | last,t::r=>if tokB t=false then prT last r else (if last≠4∧t.k≠4 then [32] else [])++(tkT t++prT t.k r)
theorem KFB {s:List UInt8} {a a':Nat} {t:Tkn} (ha:a≤s.length) (h:zE s a=some (t,a')) :
  ∃ p:Nat,t.a=(p:Int)∧a≤p∧tokB t=true∧NumT t∧tkT t≠[]∧(s.drop p).take (tkT t).length=tkT t∧a'=p+(tkT t).length∧p+(tkT t).length≤s.length∧((s.drop a).take (p - a)).all Y3=true:=by
 have hsk:=KAT ha
 have hol:=KE3 (s.drop (JV s a))
 rw [List.length_drop] at hol
 have hbl:((s.drop a).take (JV s a - a)).all Y3=true:=by
  unfold JV
  rw [Nat.add_sub_cancel_left,show ((s.drop a).take ((s.drop a).takeWhile Y3).length)=(s.drop a).takeWhile Y3 from (List.prefix_iff_eq_take.1 (List.takeWhile_prefix _)).symm]
  exact List.all_takeWhile
 unfold zE at h
 split at h
 ·split at h
  ·cases h
  ·rename_i h0 h1
   cases h
   have ho:(oneP (s.drop (JV s a))).2≠0:=fun e=>h1 (.inl e)
   have hb:tokB { (oneP (s.drop (JV s a))).1 with a:=(JV s a:Int) }=true:=by
    cases hh:tokB { (oneP (s.drop (JV s a))).1 with a:=(JV s a:Int) } with
    | true=>rfl
    | false=>exact absurd (.inr hh) h1
   obtain ⟨hx,hn⟩:=KIF ho hb
   have hl:(tkT { (oneP (s.drop (JV s a))).1 with a:=(JV s a:Int) }).length=(oneP (s.drop (JV s a))).2:=by
    rw [hx,List.length_take,List.length_drop]; omega
   refine ⟨JV s a,rfl,hsk.1,hb,hn,fun e=>by rw [e] at hl; exact ho hl.symm,?_,by rw [hl],by rw [hl]; omega,hbl⟩
   rw [hl,hx]
 ·cases h
theorem KEP {s:List UInt8}:∀ (f a:Nat),a≤s.length→s.length - a < f→∀ t ∈ (allT s a).1,tokB t=true∧NumT t
 | 0,a,ha,hf=>by omega
 | f+1,a,ha,hf=>by
  cases hn:zE s a with
  | none=>rw [zG hn]; intro t ht; cases ht
  | some p =>
   obtain ⟨t,a'⟩:=p
   have hlt:=zF ha hn
   rw [zH ha hn]
   intro x hx
   rcases List.mem_cons.1 hx with rfl | hx
   ·obtain ⟨_,_,_,h1,h2,_⟩:=KFB ha hn
    exact ⟨h1,h2⟩
   ·exact KEP f a' hlt.2 (by omega) x hx
end Gx
namespace Gx
open Go Go.Proofs Go.Shelf Go.RowKit Go.Lib
set_option linter.unusedVariables false
set_option linter.unusedSimpArgs false
set_option maxRecDepth 100000
def lexP (s:List UInt8):List Tkn × Nat × Int :=
 if 16384 < s.length then ([],0,3) else
  match (allT s 0).1[4096]? with
  | some t=>([],t.a.toNat,3)
  | none=>if (allT s 0).2 < s.length then ([],(allT s 0).2,150) else ((allT s 0).1,s.length,0)
theorem KIG {s:List UInt8}:∀ (f a:Nat),a≤s.length→s.length - a < f→(allT s a).2≤s.length
 | 0,a,ha,hf=>by omega
 | f+1,a,ha,hf=>by
  cases hn:zE s a with
  | none=>rw [zG hn]; exact (KAT ha).2
  | some p =>
   obtain ⟨t,a'⟩:=p
   have hlt:=zF ha hn
   rw [zH ha hn]
   exact KIG f a' hlt.2 (by omega)
theorem KJV (s:List UInt8):(allT s 0).2≤s.length:=KIG _ 0 (Nat.zero_le _) (Nat.lt_succ_self _)
theorem KGf (s:List UInt8):∀ t ∈ (allT s 0).1,tokB t=true∧NumT t:=KEP _ 0 (Nat.zero_le _) (Nat.lt_succ_self _)
end Gx
namespace Gx
open Go
set_option linter.unusedVariables false
set_option linter.unusedSimpArgs false
set_option maxRecDepth 100000
theorem KLB {s:List UInt8} {b c a:Nat} (ha:a≤s.length) (hs:s.length≤1099511627776) (hb:b≠gER) :
  SeqT Go.Proofs.Tryz.prog (allT s a).1 (.func (.func Uy) #[] #[.pointer (some ⟨c,0,none⟩)]) b (fun h1=>ErrV h1∧h1[c]?=some (.cells #[.pointer (some ⟨b,0,none⟩)] We (0,0))) (WX s a) (fun h1=>h1[b]?=some (WX s (allT s a).2)) :=
 fun l Inv Stop h hU hC g h0 hround=>KNL ha hs hb hU hC g h0 hround
theorem KLC {β:Type} {lo n:Nat} {h:Heap} {Q:β→Heap→Prop} {r:Sl} {ts:List Tkn} {t:Tkn} {f:Sl→M β} (G:Gw lo h r 4 (WC (tks ts))) (hlo:lo≤h.size) (hm:ts.length≤1099511627776) (hn:h[n]?=some (.cells t.cells KP (0,0)))
  (H:∀ h' r',Gw lo h' r' 4 (WC (tks (ts++[t])))→h.size≤h'.size→(∀ i,i < h.size→¬ Sl.on r i→h'[i]?=h[i]?)→(f r').wp h' Q):(ldG 4 ⟨n,0,none⟩>>=fun x=>KCM 4 1 (#[.int .i64 0,.string ByteArray.empty,.int .i64 0,.int .i64 0]:Array Value) [(0,.agg x)]>>=fun y=>bdL KP 1 y>>=fun z=>apL KP 4 40 (#[.int .i64 0,.string ByteArray.empty,.int .i64 0,.int .i64 0]:Array Value) r z>>=f).wp h Q:=by
 refine ldR hn rfl (KFQ rfl (zQ ?_))
 have e6:=Ext.push h (.cells t.cells KP)
 have g6:(h.push (.cells t.cells KP))[h.size]?=some (.cells t.cells KP (0,0)):=Kp
 generalize h.push (.cells t.cells KP)=h6 at e6 g6 ⊢
 have G6:=G.ext e6
 have hrl:=G6.len
 rw [WV (KGZ ts),N3] at hrl
 have hs6:=e6.size
 have hnew:WC (tks [t])=t.cells.toList:=by simp [WC,tks]
 refine zR (vs:=WC (tks ts)) (news:=WC (tks [t])) rfl G6 (by rw [hnew]; rfl) (.inr ⟨_,rfl,fun j v hj=>?_⟩) (fun v hv=>Y2 t v (by rw [hnew] at hv; exact hv)) (by dsimp only; omega) (by dsimp only; omega) (by omega) (fun h7 r7 G7 hlen7 hs7 same7 on7=>?_)
 ·rw [Ke,Nat.zero_add,KJ g6]
  rw [hnew] at hj
  simpa using hj
 ·refine H h7 r7 ?_ (by omega) (fun i hi ho=>(same7 i (by omega) ho).trans (e6.same i hi))
  rw [KK8]
  unfold WC at G7 ⊢
  rw [List.flatMap_append]
  exact G7
structure LxJ (hA:Heap) (c b n6:Nat) (t6:TypeId) (ts:List Tkn) (h:Heap):Prop where
 size:hA.size+2≤h.size
 same:∀ i,i < hA.size→i≠b→i≠n6→h[i]?=hA[i]?
 df:h[hA.size]?=some (.deferred (some []))
 c6:∃ r,h[n6]?=some (.cells #[r.v] t6 (0,0))∧Gw (hA.size+2) h r 4 (WC (tks ts))
theorem LxJ.km {hA:Heap} {c b n6 k:Nat} {t6:TypeId} {ts:List Tkn} {h h':Heap} (J:LxJ hA c b n6 t6 ts h) (u:Kb k h h') (hk:k=b∨k=hA.size+1) (h6:n6 < hA.size) (hb6:b≠n6) (hb:b < hA.size):LxJ hA c b n6 t6 ts h':=by
 obtain ⟨r,c6,G⟩:=J.c6
 have hz:=J.size
 exact ⟨by have:=u.size; omega,fun i hi hib hi6=>(u.same i (by omega) (by omega)).trans (J.same i hi hib hi6),u.blk J.df (by omega),⟨r,u.blk c6 (by omega),G.same (fun i hi=>u.same i (G.lt hi).1 (by have:=(G.lt hi).2; omega))⟩⟩
theorem Upd.kb {k:Nat} {h h':Heap} (u:Upd k h h'):Kb k h h':=Km.upd u rfl
theorem KMZ {p:UInt8→Bool}:∀ l:List UInt8,(l.dropWhile p).takeWhile p=[]
 | []=>rfl
 | c::l=>by
  cases h:p c with
  | true=>rw [List.dropWhile_cons_of_pos h]; exact KMZ l
  | false=>rw [List.dropWhile_cons_of_neg (by rw [h]; decide),List.takeWhile_cons_of_neg (by rw [h]; decide)]
theorem KIH {p:UInt8→Bool}:∀ l:List UInt8,l.drop (l.takeWhile p).length=l.dropWhile p
 | []=>rfl
 | c::l=>by
  cases h:p c with
  | true=>rw [List.dropWhile_cons_of_pos h,List.takeWhile_cons_of_pos h,List.length_cons,List.drop_succ_cons]; exact KIH l
  | false=>rw [List.dropWhile_cons_of_neg (by rw [h]; decide),List.takeWhile_cons_of_neg (by rw [h]; decide)]; rfl
theorem KGg (s:List UInt8) (a:Nat):JV s (JV s a)=JV s a:=by
 have hd:s.drop (JV s a)=(s.drop a).dropWhile Y3:=by
  unfold JV
  rw [← List.drop_drop,KIH]
 have:((s.drop (JV s a)).takeWhile Y3).length=0:=by rw [hd,KMZ]; rfl
 show JV s a+((s.drop (JV s a)).takeWhile Y3).length=JV s a
 omega
theorem KEQ {s:List UInt8}:∀ (f a:Nat),a≤s.length→s.length - a < f→JV s (allT s a).2=(allT s a).2
 | 0,a,ha,hf=>by omega
 | f+1,a,ha,hf=>by
  cases hn:zE s a with
  | none=>rw [zG hn]; exact KGg s a
  | some p =>
   obtain ⟨t,a'⟩:=p
   have hlt:=zF ha hn
   rw [zH ha hn]
   exact KEQ f a' hlt.2 (by omega)
theorem KFy {n2 n3 n4:Nat} {t2 t3 t4:TypeId} {ds:List Nat} {v2:Sl} {v3 v4:Int} {h:Heap} {Q:Sl × Int × Int→Heap→Prop}
  (g2:h[n2]?=some (.cells #[v2.v] t2 (0,0))) (g3:h[n3]?=some (.cells #[.int .i64 v3] t3 (0,0))) (g4:h[n4]?=some (.cells #[.int .i64 v4] t4 (0,0)))
  (hd:ds=[]∨∃ d,ds=[d]∧h[d]?=some (.deferred (some []))∧n2≠d∧n3≠d∧n4≠d)
  (H:∀ h',h'.size=h.size→(∀ i,(∀ d ∈ ds,i≠d)→h'[i]?=h[i]?)→Q (v2,v3,v4) h') :
  (shut ds>>=fun _=>ldL ⟨n2,0,none⟩>>=fun a=>ldI .i64 ⟨n3,0,none⟩>>=fun b=>ldI .i64 ⟨n4,0,none⟩>>=fun c=>(M.pure (a,b,c):M (Sl × Int × Int))).wp h Q:=by
 rcases hd with rfl | ⟨d,rfl,gd,e2,e3,e4⟩
 ·exact Vg (oneC g2) (ZM (oneC g3) (ZM (oneC g4) (KD (H h rfl (fun _ _=>rfl)))))
 ·refine ⟨gd,?_⟩
  have u:=Upd.set_ h d (.deferred none)
  exact Vg (oneC ((u.ne _ e2).trans g2)) (ZM (oneC ((u.ne _ e3).trans g3)) (ZM (oneC ((u.ne _ e4).trans g4)) (KD (H _ u.size (fun i hi=>u.ne i (hi d (by simp)))))))
def KMa (c2 c3 c4 c6:Addr):Addr→M Nat:=fun Xx26=>do
  let Xx30←ldL c6
  M.ite ((Xx30.len:Int) == 4096) (do
   let Xx32←ldI .i64 ((Xx26).add 3)
   stV c2 ((Sl.nil:Sl).v)
   chk (fun h:Heap=>(KO h ((Xx26).add 3)=some (.int .i64 Xx32)))
   stV c3 (.int .i64 Xx32)
   stV c4 (.int .i64 3)
   M.pure 1
   ) (do
   let Xx36←ldL c6
   let Xx37←ldG 4 Xx26
   let y_39←KCM 4 1 (#[.int .i64 0,.string ByteArray.empty,.int .i64 0,.int .i64 0]:Array Value) [(0,.agg Xx37)]
   let Xx38←bdL KP 1 y_39
   let Xx40←apL KP 4 40 (#[.int .i64 0,.string ByteArray.empty,.int .i64 0,.int .i64 0]:Array Value) Xx36 Xx38
   stV c6 ((Xx40:Sl).v)
   M.pure 0
   )
structure LxE (h0 hA:Heap) (n2 n3 n4:Nat) (v3:Int) (h:Heap):Prop where
 size:hA.size+2≤h.size
 same:∀ i,i < h0.size→h[i]?=h0[i]?
 df:h[hA.size]?=some (.deferred (some []))
 g2:h[n2]?=some (.cells #[(Sl.nil:Sl).v] J5 (0,0))
 g3:h[n3]?=some (.cells #[.int .i64 v3] Vo (0,0))
 g4:h[n4]?=some (.cells #[.int .i64 3] zy (0,0))
theorem KJW {s:List UInt8} {h:Heap} {Q:Sl × Int × Int→Heap→Prop} (he:ErrV h)
  (H:∀ h' r,Ext h h'→TkR h' r (lexP s).1→r.len≤r.cap→Q (r,((lexP s).2.1:Int),(lexP s).2.2) h'):(zU (bs s)).wp h Q:=by
 unfold zU
 refine Z5 (fun h1 e1 s1 g1=>Z5 (fun h2 e2 s2 g2=>Z5 (fun h3 e3 s3 g3=>?_)))
 rw [ZC]
 have hER:gER < h.size:=by obtain ⟨t,p,hc⟩:=he; exact Ge hc
 have E3:=(e1.trans e2).trans e3
 have n1:h3[h.size]?=some (.cells #[.slice none 0 0] J5 (0,0)):=e3.blk (e2.blk g1)
 have n2:=e3.blk g2
 refine KW (fun hlong=>?_) (fun hshort=>?_)
 ·unfold lexP at H
  rw [if_pos (by have:=of_decide_eq_true hlong; omega)] at H
  refine stO n1 (KBX _) (fun h4 u4 k1=>stO ((u4.ne _ (by omega)).trans n2) rfl (fun h5 u5 k2=>stO ((u5.ne _ (by omega)).trans ((u4.ne _ (by omega)).trans g3)) rfl (fun h6 u6 k3=>?_)))
  have k1':=(u6.ne _ (by omega)).trans ((u5.ne _ (by omega)).trans k1)
  have k2':=(u6.ne _ (by omega)).trans k2
  exact KFy (v2:=Sl.nil) k1' k2' k3 (.inl rfl) (fun h' hz hsame=>H h' Sl.nil ⟨by rw [hz,u6.size,u5.size,u4.size]; exact E3.size,fun i hi=>(hsame i (fun d hd=>by cases hd)).trans ((u6.ne _ (by omega)).trans ((u5.ne _ (by omega)).trans ((u4.ne _ (by omega)).trans (E3.same i hi))))⟩ (TkR.nil _) (Nat.le_refl _))
 ·have hshort:=of_decide_eq_false hshort
  have hsl:s.length≤16384:=by omega
  have hs:s.length≤1099511627776:=by omega
  refine Z5 (fun h4 e4 s4 g4=>Z5 (fun h5 e5 s5 g5=>?_))
  unfold YZ
  refine Kz (Z5 (fun hA eA sA gA=>ZD ?_))
  have E5:=(E3.trans e4).trans e5
  have EA:=E5.trans eA
  obtain ⟨al,hal⟩:∃ al,al=allT s 0:=⟨_,rfl⟩
  have gb:hA[h3.size]?=some (WX s 0):=eA.blk (e5.blk g4)
  have hle:=KJV s
  have hskp:=KEQ _ 0 (Nat.zero_le s.length) (Nat.lt_succ_self _)
  have heA:=he.ext EA
  have m1:hA[h.size]?=some (.cells #[.slice none 0 0] J5 (0,0)):=((e4.trans e5).trans eA).blk n1
  have m2:=((e4.trans e5).trans eA).blk n2
  have m3:=((e4.trans e5).trans eA).blk g3
  have m6:=eA.blk g5
  refine KM (KNM (Yb:=KMa ⟨h.size,0,none⟩ ⟨h1.size,0,none⟩ ⟨h2.size,0,none⟩ ⟨h4.size,0,none⟩) (fun l x=>rfl) (c:=.ret) rfl (fun l hh=>by cases hh) (ts:=(allT s 0).1) (b:=h3.size)
   (fun i h'=>i≤4096∧LxJ hA h5.size h3.size h4.size J5 ((allT s 0).1.take i) h')
   (fun h'=>∃ t,(allT s 0).1[4096]?=some t∧LxE h hA h.size h1.size h2.size t.a h') ?_ ?_ ?_ ?_ ?_ gb (KLB (c:=h5.size) (Nat.zero_le _) hs (by omega)) ?_ ?_ ?_ ?_)
  ·exact fun i h' h'' hj u=>⟨hj.1,hj.2.km u.kb (.inr rfl) (by omega) (by omega) (by omega)⟩
  ·rintro h' h'' ⟨t,ht,hj⟩ u
   exact ⟨t,ht,by rw [u.size]; exact hj.size,fun i hi=>(u.ne _ (by omega)).trans (hj.same i hi),(u.ne _ (by omega)).trans hj.df,(u.ne _ (by omega)).trans hj.g2,(u.ne _ (by omega)).trans hj.g3,(u.ne _ (by omega)).trans hj.g4⟩
  ·exact fun h' h'' hj u=>(u.ne _ (by omega)).trans hj
  ·exact fun i h' h'' hj hz u=>⟨hj.1,hj.2.km u (.inl rfl) (by omega) (by omega) (by omega)⟩
  ·rintro i h' ⟨_,hj⟩
   refine ⟨?_,(hj.same _ (by omega) (by omega) (by omega)).trans gA⟩
   obtain ⟨t,p,hc⟩:=heA
   refine ⟨t,p,?_⟩
   unfold KO at hc ⊢
   rw [show (⟨gER,0,none⟩:Addr).block=gER from rfl] at hc ⊢
   rw [hj.same gER (by omega) (by omega) (by omega)]
   exact hc
  ·intro r
   have e7:Ext hA ((hA.push (.deferred (some []))).push (XX r .ready none)):=(Ext.push _ _).pushed _
   exact ⟨Nat.zero_le _,by simp,fun i hi _ _=>e7.same i hi,by rw [Vu (by simp)]; exact Kp,⟨Sl.nil,e7.blk m6,Gw.nil _ _ _⟩⟩
  ·rintro i hi h' o n ⟨him,J⟩ hn hnl ho
   obtain ⟨r,c6,G⟩:=J.c6
   have hrl:=G.tkR.1
   rw [List.length_take,Nat.min_eq_left (by omega)] at hrl
   have hz:=J.size
   unfold KMa
   refine Vg (oneC c6) (KW (fun hc=>?_) (fun hc=>?_))
   ·rw [eqI] at hc
    have hc:=of_decide_eq_true hc
    obtain rfl:i=4096:=by omega
    have q1:=(J.same h.size (by omega) (by omega) (by omega)).trans m1
    have q2:=(J.same h1.size (by omega) (by omega) (by omega)).trans m2
    have q3:=(J.same h2.size (by omega) (by omega) (by omega)).trans m3
    refine ZM (n:=((allT s 0).1[4096]).a) (by rw [Ke,KJ hn]; rfl) (stO q1 (KBX _) (fun h6 u6 k1=>zP (by rw [Ke,KJ ((u6.ne n (by omega)).trans hn)]; rfl) (stO ((u6.ne _ (by omega)).trans q2) rfl (fun h7 u7 k2=>stO ((u7.ne _ (by omega)).trans ((u6.ne _ (by omega)).trans q3)) rfl (fun h8 u8 k3=>KD ?_)))))
    have keep:∀ k,k≠h.size→k≠h1.size→k≠h2.size→h8[k]?=h'[k]?:=fun k a1 a2 a3=>(u8.ne k a3).trans ((u7.ne k a2).trans (u6.ne k a1))
    refine ⟨(keep _ (by omega) (by omega) (by omega)).trans ho,keep _ (by omega) (by omega) (by omega),.inr ⟨rfl,(allT s 0).1[4096],List.getElem?_eq_getElem hi,by rw [u8.size,u7.size,u6.size]; exact hz,fun k hk=>(keep k (by omega) (by omega) (by omega)).trans ((J.same k (by have:=EA.size; omega) (by have:=E3.size; omega) (by have:=(E3.trans e4).size; omega)).trans (EA.same k hk)),(keep _ (by omega) (by omega) (by omega)).trans J.df,(u8.ne _ (by omega)).trans ((u7.ne _ (by omega)).trans k1),(u8.ne _ (by omega)).trans k2,k3⟩⟩
   ·rw [eqI] at hc
    have hc:=of_decide_eq_false hc
    refine Vg (oneC c6) (KLC G (by omega) (by rw [List.length_take]; omega) hn (fun h6 r6 G6 hs6 same6=>?_))
    have hG:∀ {k:Nat},Sl.on r k→k < h'.size∧hA.size+2≤k:=fun ho=>G.lt ho
    have nn:∀ k,k < hA.size+2→¬ Sl.on r k:=fun k hk ho=>by have:=(hG ho).2; omega
    have c6':=(same6 _ (by omega) (nn h4.size (by omega))).trans c6
    refine stO c6' (KBX _) (fun h7 u7 k6=>KD ?_)
    have keep:∀ k,k < hA.size+2→k≠h4.size→h7[k]?=h'[k]?:=fun k hk hk6=>(u7.ne k hk6).trans (same6 k (by omega) (nn k hk))
    refine ⟨(keep _ (by omega) (by omega)).trans ho,keep _ (by omega) (by omega),.inl ⟨rfl,by omega,by rw [u7.size]; omega,fun k hk hkb hk6=>(keep k (by omega) hk6).trans (J.same k hk hkb hk6),(keep _ (by omega) (by omega)).trans J.df,⟨r6,k6,?_⟩⟩⟩
    rw [List.take_succ_eq_append_getElem hi]
    exact G6.same (fun k hk=>u7.ne k (by have:=(G6.lt hk).2; omega))
  ·rintro h' ⟨him,J⟩ hend
   refine iteF rfl (KM (KBI hend hle hs (fun h6 u6 k6=>?_)))
   rw [hskp] at k6 ⊢
   obtain ⟨r,c6,G⟩:=J.c6
   rw [List.take_length] at G
   have hz:=J.size
   have nn:∀ k,k < hA.size+2→¬ Sl.on r k:=fun k hk ho=>by have:=(G.lt ho).2; omega
   have q1:=(u6.ne h.size (by omega)).trans ((J.same h.size (by omega) (by omega) (by omega)).trans m1)
   have q2:=(u6.ne h1.size (by omega)).trans ((J.same h1.size (by omega) (by omega) (by omega)).trans m2)
   have q3:=(u6.ne h2.size (by omega)).trans ((J.same h2.size (by omega) (by omega) (by omega)).trans m3)
   have qd:=(u6.ne hA.size (by omega)).trans J.df
   have hnone:(allT s 0).1[4096]?=none:=List.getElem?_eq_none him
   unfold lexP at H
   rw [if_neg (by omega),hnone] at H
   dsimp only at H
   refine KW (fun hlt=>?_) (fun hge=>?_)
   ·rw [if_pos (of_decide_eq_true hlt)] at H
    refine ZN (ZM (KAM k6) (stO q1 (KBX _) (fun h7 u7 k1=>zP (KAM ((u7.ne _ (by omega)).trans k6)) (stO ((u7.ne _ (by omega)).trans q2) rfl (fun h8 u8 k2=>stO ((u8.ne _ (by omega)).trans ((u7.ne _ (by omega)).trans q3)) rfl (fun h9 u9 k3=>?_))))))
    have keep:∀ k,k≠h3.size→k≠h.size→k≠h1.size→k≠h2.size→h9[k]?=h'[k]?:=fun k a0 a1 a2 a3=>(u9.ne k a3).trans ((u8.ne k a2).trans ((u7.ne k a1).trans (u6.ne k a0)))
    exact KFy (v2:=Sl.nil) ((u9.ne _ (by omega)).trans ((u8.ne _ (by omega)).trans k1)) ((u9.ne _ (by omega)).trans k2) k3 (.inr ⟨hA.size,rfl,(keep _ (by omega) (by omega) (by omega) (by omega)).trans J.df,by omega,by omega,by omega⟩)
     (fun h' hz' hsame=>H h' Sl.nil ⟨by rw [hz',u9.size,u8.size,u7.size,u6.size]; have:=EA.size; omega,fun i hi=>(hsame i (fun d hd=>by have:=EA.size; simp at hd; omega)).trans ((keep i (by have:=E3.size; omega) (by omega) (by omega) (by omega)).trans ((J.same i (by have:=EA.size; omega) (by have:=E3.size; omega) (by have:=(E3.trans e4).size; omega)).trans (EA.same i hi)))⟩ (TkR.nil _) (Nat.le_refl _))
   ·rw [if_neg (of_decide_eq_false hge)] at H
    have q6:=(u6.ne h4.size (by omega)).trans c6
    refine Vg (oneC q6) (stO q1 (KBX _) (fun h7 u7 k1=>stO ((u7.ne _ (by omega)).trans q2) rfl (fun h8 u8 k2=>stO ((u8.ne _ (by omega)).trans ((u7.ne _ (by omega)).trans q3)) rfl (fun h9 u9 k3=>?_))))
    have keep:∀ k,k≠h3.size→k≠h.size→k≠h1.size→k≠h2.size→h9[k]?=h'[k]?:=fun k a0 a1 a2 a3=>(u9.ne k a3).trans ((u8.ne k a2).trans ((u7.ne k a1).trans (u6.ne k a0)))
    exact KFy (v2:=r) ((u9.ne _ (by omega)).trans ((u8.ne _ (by omega)).trans k1)) ((u9.ne _ (by omega)).trans k2) k3 (.inr ⟨hA.size,rfl,(keep _ (by omega) (by omega) (by omega) (by omega)).trans J.df,by omega,by omega,by omega⟩)
     (fun h'' hz' hsame=>H h'' r ⟨by rw [hz',u9.size,u8.size,u7.size,u6.size]; have:=EA.size; omega,fun i hi=>(hsame i (fun d hd=>by have:=EA.size; simp at hd; omega)).trans ((keep i (by have:=E3.size; omega) (by omega) (by omega) (by omega)).trans ((J.same i (by have:=EA.size; omega) (by have:=E3.size; omega) (by have:=(E3.trans e4).size; omega)).trans (EA.same i hi)))⟩
      (G.same (fun k hk=>by have:=(G.lt hk).2; exact (hsame k (fun d hd=>by simp at hd; omega)).trans (keep k (by omega) (by omega) (by omega) (by omega)))).tkR G.cap)
  ·rintro h' ⟨t,ht,J⟩
   unfold lexP at H
   rw [if_neg (by omega),ht] at H
   dsimp only at H
   have hta:((t.a.toNat:Nat):Int)=t.a:=by
    obtain ⟨hi,hte⟩:=List.getElem?_eq_some_iff.1 ht
    have:=(KGf s t (hte ▸ List.getElem_mem hi)).1
    have:¬ t.a < 0:=fun hneg=>by
     unfold tokB at this
     rw [decide_eq_true hneg] at this
     simp at this
    omega
   rw [hta] at H
   exact iteT rfl (KFy (v2:=Sl.nil) J.g2 J.g3 J.g4 (.inr ⟨hA.size,rfl,J.df,by omega,by omega,by omega⟩)
    (fun h'' hz' hsame=>H h'' Sl.nil ⟨by rw [hz']; have:=J.size; have:=EA.size; omega,fun i hi=>(hsame i (fun d hd=>by have:=EA.size; simp at hd; omega)).trans (J.same i hi)⟩ (TkR.nil _) (Nat.le_refl _)))
end Gx
namespace Gx
open Go Go.Proofs Go.Shelf Go.RowKit Go.Lib
set_option linter.unusedVariables false
set_option linter.unusedSimpArgs false
set_option maxRecDepth 100000
end Gx
namespace Gx
open Go Go.Proofs Go.Shelf Go.RowKit Go.Lib
set_option linter.unusedVariables false
set_option linter.unusedSimpArgs false
set_option maxRecDepth 100000
structure Rgd (h:Heap) (b:Nat) (s:List UInt8) (i:Nat):Prop where
 blk:h[b]?=some (.cells #[.string (bs s),.int .i64 (i:Int),.int .i64 (-1)] WI (0,0))
 le:i≤s.length
 small:s.length≤1099511627776
def Rx (h:Heap) (b:Nat) (s:List UInt8) (e:Nat):Prop:=∃ i:Nat,i≤s.length∧s.length≤1099511627776∧h[b]?=some (.cells #[.string (bs s),.int .i64 (i:Int),.int .i64 (e:Int)] WI (0,0))
theorem Rgd.ext {h h':Heap} {b:Nat} {s:List UInt8} {i:Nat} (R:Rgd h b s i) (e:Ext h h'):Rgd h' b s i:=⟨e.blk R.blk,R.le,R.small⟩
theorem Rgd.lt {h:Heap} {b:Nat} {s:List UInt8} {i:Nat} (R:Rgd h b s i):b < h.size:=U6 R.blk
theorem Rgd.upd {h h':Heap} {b g:Nat} {s:List UInt8} {i:Nat} (R:Rgd h b s i) (u:Upd g h h') (hg:b≠g):Rgd h' b s i:=⟨(u.ne b hg).trans R.blk,R.le,R.small⟩
theorem Rx.ext {h h':Heap} {b:Nat} {s:List UInt8} {i:Nat} (R:Rx h b s i) (e:Ext h h'):Rx h' b s i:=let ⟨k,h1,h2,h3⟩:=R; ⟨k,h1,h2,e.blk h3⟩
theorem Rx.upd {h h':Heap} {b g:Nat} {s:List UInt8} {i:Nat} (R:Rx h b s i) (u:Upd g h h') (hg:b≠g):Rx h' b s i:=let ⟨k,h1,h2,h3⟩:=R; ⟨k,h1,h2,(u.ne b hg).trans h3⟩
theorem Rx.lt {h:Heap} {b:Nat} {s:List UInt8} {i:Nat} (R:Rx h b s i):b < h.size:=let ⟨k,h1,h2,h3⟩:=R; U6 h3
section
variable {β:Type} {h:Heap} {Q:β→Heap→Prop} {b i e:Nat} {s:List UInt8}
end
section
variable {h:Heap} {b i e:Nat} {s:List UInt8}
end
end Gx
namespace Gx
open Go
set_option linter.unusedVariables false
set_option linter.unusedSimpArgs false
end Gx
namespace Gx
open Go Go.Proofs Go.Shelf Go.RowKit Go.Lib
set_option linter.unusedVariables false
set_option linter.unusedSimpArgs false
set_option maxRecDepth 100000
theorem KMb {β:Type} {h:Heap} {Q:β→Heap→Prop} {n:Int} {f:Array Value→M β} (H:∀ h',Ext h h'→(f (Jt 1 n [] Sl.nil)).wp h' Q):(VQ n>>=f).wp h Q:=KJE (cs:=Jt 1 n [] Sl.nil) rfl (UC _ _ _ _) H
theorem KLD {β:Type} {h:Heap} {Q:β→Heap→Prop} {s:List UInt8} {f:Array Value→M β} (H:∀ h',Ext h h'→(f (Jt 2 0 s Sl.nil)).wp h' Q):(VR (bs s)>>=f).wp h Q:=KJE (cs:=Jt 2 0 s Sl.nil) rfl (UC _ _ _ _) H
end Gx
namespace Gx
open Go Go.Proofs Go.Shelf Go.RowKit Go.Lib
set_option linter.unusedVariables false
set_option linter.unusedSimpArgs false
set_option maxRecDepth 100000
end Gx
namespace Gx
open Go
set_option linter.unusedVariables false
set_option linter.unusedSimpArgs false
set_option maxRecDepth 100000
theorem KGh {c:UInt8} {h:Heap} {Q:Bool→Heap→Prop} (H:Q (KBs c) h):(UQ (c.toNat:Int)).wp h Q:=by
 unfold UQ
 refine M.loop_inv (fun (t:Int) hh=>hh=h∧∃ i:Nat,t=(i:Int)∧i≤11∧(KD9.drop i).contains c=KBs c) (fun t _=>((11:Int) - t).toNat) ?_ ⟨rfl,0,rfl,Nat.zero_le _,rfl⟩
 rintro t hh ⟨rfl,i,rfl,hi,hm⟩ self hself
 unfold VB
 refine KW (fun hc=>?_) (fun hc=>KD ?_)
 ·have hic:i < KD9.length:=by have:=of_decide_eq_true hc; show i < 11; omega
  refine XC (l:=KD9) rfl hic ?_
  rw [List.drop_eq_getElem_cons hic,List.contains_cons] at hm
  generalize KD9[i]=d at hm ⊢
  rw [eqI]
  refine KW (fun h1=>KD ?_) (fun h1=>?_)
  ·have:d=c:=UInt8.toNat_inj.1 (by have:=of_decide_eq_true h1; omega)
   subst this
   rw [beq_self_eq_true,Bool.true_or] at hm
   rw [hm]; exact H
  ·have hne:(c == d)=false:=by
    cases h2:(c == d) with
    | false=>rfl
    | true =>
     have:=eq_of_beq h2
     subst this
     exact absurd rfl (of_decide_eq_false h1)
   rw [hne,Bool.false_or] at hm
   have hi11:i < 11:=hic
   rw [w64 (by omega) (by omega)]
   exact hself _ _ ⟨rfl,i+1,by push_cast; rfl,hic,hm⟩ (by omega)
 ·have:i=11:=by have:=of_decide_eq_false hc; omega
  subst this
  have hm:false=KBs c:=hm
  rw [hm]; exact H
end Gx
namespace Gx
open Go
set_option linter.unusedVariables false
set_option linter.unusedSimpArgs false
set_option maxRecDepth 100000
theorem Xs {t:Tkn} {h:Heap} {Q:Int→Heap→Prop} (H:∀ h',Ext h h'→Q (tokE t) h'):(Z1 t.cells).wp h Q:=by
 unfold Z1
 refine Z5 (fun h1 e1 s1 g1=>?_)
 obtain ⟨k,s,n,a⟩:=t
 have cA:KO h1 ((⟨h.size,0,none⟩:Addr).add 3)=some (.int .i64 a):=by rw [Ke,KJ g1]; rfl
 have cN:KO h1 ((⟨h.size,0,none⟩:Addr).add 2)=some (.int .i64 n):=by rw [Ke,KJ g1]; rfl
 have cS:KO h1 ((⟨h.size,0,none⟩:Addr).add 1)=some (.string (bs s)):=by rw [Ke,KJ g1]; rfl
 have cK:KO h1 ((⟨h.size,0,none⟩:Addr).add 0)=some (.int .i64 k):=by rw [add_zero,KJ g1]; rfl
 have fin:∀ {b:Bool},tokB ⟨k,s,n,a⟩=(b && !decide (a < 0))→(ZG ⟨h.size,0,none⟩ b).wp h1 Q:=fun {b} hb=>by
  unfold ZG
  have:=H _ e1
  unfold tokE at this
  rw [hb] at this
  refine or_b (c:=decide (a < 0)) (fun _ Q' hq=>ZM cA (KD hq)) ?_
  refine KW (fun hc=>KD ?_) (fun hc=>KD ?_)
  ·rw [if_neg (by revert hc; cases b <;> cases decide (a < 0) <;> decide)] at this
   exact this
  ·rw [if_pos (by revert hc; cases b <;> cases decide (a < 0) <;> decide)] at this
   exact this
 have hT:tokB ⟨k,s,n,a⟩=(!(decide (a < 0) || (decide (n≠0) && decide (k≠2))) && (if k=1 then KD8 s else if k=2 then decide (s=[]) else if k=3 then decide (s.length≤128) else if k=4 then KC1 s else false)):=rfl
 have hn:decide (n≠0)=!decide (n=0):=decide_not
 refine ZM cK ?_
 rw [eqI,eqI,eqI,eqI]
 refine KW (fun k1=>?_) (fun k1=>?_)
 ·have k1:=of_decide_eq_true k1
  subst k1
  rw [if_pos rfl,hn] at hT
  refine U5 cS (KM (KGW ?_))
  refine Wo (c:=decide (n=0)) (fun _ Q' hq=>ZM cN (KD (by rw [eqI]; exact hq))) (fin ?_)
  rw [hT]
  cases decide (a < 0) <;> cases decide (n=0) <;> cases KD8 s <;> rfl
 rw [if_neg (of_decide_eq_false k1)] at hT
 refine KW (fun k2=>?_) (fun k2=>?_)
 ·have k2:=of_decide_eq_true k2
  subst k2
  rw [if_pos rfl] at hT
  refine U5 cS ?_
  rw [sEq0]
  refine fin ?_
  rw [hT]
  cases decide (a < 0) <;> cases decide (n≠0) <;> cases decide (s=[]) <;> rfl
 have hk2:decide (k≠2)=true:=by rw [decide_not,k2]; rfl
 rw [if_neg (of_decide_eq_false k2),hk2,Bool.and_true,hn] at hT
 refine KW (fun k3=>?_) (fun k3=>?_)
 ·rw [if_pos (of_decide_eq_true k3)] at hT
  refine U5 cS ?_
  refine Wo (c:=decide (n=0)) (fun _ Q' hq=>ZM cN (KD (by rw [eqI]; exact hq))) (fin ?_)
  rw [hT,ZC,show decide ((s.length:Int)≤128)=decide (s.length≤128) from decide_eq_decide.2 (by omega)]
  cases decide (a < 0) <;> cases decide (n=0) <;> cases decide (s.length≤128) <;> rfl
 rw [if_neg (of_decide_eq_false k3)] at hT
 refine KW (fun k4=>?_) (fun k4=>?_)
 ·rw [if_pos (of_decide_eq_true k4)] at hT
  refine U5 cS ?_
  rw [ZC]
  have fin2:tokB ⟨k,s,n,a⟩=(KC1 s && decide (n=0) && !decide (a < 0)):=by
   rw [hT]
   cases decide (a < 0) <;> cases decide (n=0) <;> cases KC1 s <;> rfl
  refine Wo (c:=KC1 s) (fun hl Q' hq=>?_) ?_
  ·rw [eqI] at hl
   have hl:=of_decide_eq_true hl
   match s,hl,cS,hq with
   | [c],_,cS,hq=>exact U5 cS (XC (i:=0) rfl (by simp) (KM (KGh (KD hq))))
   | [],hl,_,_=>cases hl
   | _::_::_,hl,_,_=>simp only [List.length_cons] at hl; omega
  ·have hm:((s.length:Int) == 1 && KC1 s)=KC1 s:=by
    rw [eqI]
    match s with
    | []=>rfl
    | [c]=>exact Bool.true_and _
    | _::_::_=>exact Bool.and_false _
   rw [hm]
   exact Wo (c:=decide (n=0)) (fun _ Q' hq=>ZM cN (KD (by rw [eqI]; exact hq))) (fin fin2)
 ·rw [if_neg (of_decide_eq_false k4)] at hT
  refine fin ?_
  rw [hT,Bool.and_false]; rfl
end Gx
namespace Gx
open Go
set_option linter.unusedVariables false
set_option linter.unusedSimpArgs false
set_option maxRecDepth 100000
theorem KMc:lexP [103,46,86,40,49,41]=([⟨1,[103],0,0⟩,⟨4,[46],0,1⟩,⟨1,[86],0,2⟩,⟨4,[40],0,3⟩,⟨2,[],1,4⟩,⟨4,[41],0,5⟩],6,0):=by kernel_rfl
theorem KER {h:Heap} {Q:Bool→Heap→Prop} (he:ErrV h) (H:∀ h',Ext h h'→Q true h'):(J6).wp h Q:=by
 unfold J6
 refine KM (KJW (s:=[103,46,86,40,49,41]) he (fun h1 r e1 R hc=>?_))
 rw [KMc] at R ⊢
 obtain ⟨a,ha,hca⟩:=R.at (i:=4) (by decide)
 have hrl:r.len=6:=R.1
 refine Wq (by rw [hrl]; rfl) (Kz (XY (b:=a) (by decide) (by rw [hrl]; decide) ha (Kz (NP (cs:=Tkn.cells ⟨2,[],1,4⟩) rfl hca ?_))))
 refine Kz ⟨true,⟨⟨⟨_,rfl,rfl⟩,⟨_,rfl,rfl⟩,⟨_,rfl,rfl⟩,⟨_,rfl,rfl⟩,trivial⟩,⟨⟨_,rfl,rfl⟩,⟨_,rfl,rfl⟩,⟨_,rfl,rfl⟩,⟨_,rfl,rfl⟩,trivial⟩,by decide +kernel⟩,?_⟩
 exact ZD (Wq rfl (ZD (Wq rfl (ZD (KD (H _ e1))))))
end Gx
namespace Gx
open Go Go.Lib
set_option linter.unusedVariables false
set_option linter.unusedSimpArgs false
set_option maxRecDepth 100000
theorem KMd {t:Tkn} (h:tokB t=true) (hI:I64 t.n) (hh:Heap):(t.k=2→VRep hh (.mk 1 t.n [] []) (Jt 1 t.n [] Sl.nil))∧(t.k=3→VRep hh (.mk 2 0 t.s []) (Jt 2 0 t.s Sl.nil)):=by
 refine ⟨fun _=>(Xp (fun _=>True) hh ⟨by decide,by decide⟩ hI (by decide)).to,fun hk=>(Xp (fun _=>True) hh ⟨by decide,by decide⟩ ⟨by decide,by decide⟩ ?_).to⟩
 rcases KBR h with ⟨h1,_⟩ | ⟨h1,_⟩ | ⟨_,h1,_⟩ | ⟨h1,_⟩ <;> omega
theorem KCD {t:Tkn} {h:Heap} {Q:ByteArray→Heap→Prop} (hI:I64 t.n) (hm:(tkT t).length≤1099511627776) (hp:GL h) (hd:KAI h) (H:∀ h',Ext h h'→Q (bs (tkT t)) h'):(Gc t.cells).wp h Q:=by
 unfold Gc
 refine Z5 (fun h1 e1 s1 g1=>ldR g1 rfl (KM (Xq (fun h2 e2=>?_))))
 have E2:=e1.trans e2
 have g2:=e2.blk g1
 have cK:KO h2 ((⟨h.size,0,none⟩:Addr).add 0)=some (.int .i64 t.k):=by rw [add_zero,KJ g2]; rfl
 have cS:KO h2 ((⟨h.size,0,none⟩:Addr).add 1)=some (.string (bs t.s)):=by rw [Ke,KJ g2]; rfl
 have cN:KO h2 ((⟨h.size,0,none⟩:Addr).add 2)=some (.int .i64 t.n):=by rw [Ke,KJ g2]; rfl
 rw [KBJ]
 cases hb:tokB t with
 | false =>
  have:tkT t=[]:=by unfold tkT; rw [hb,if_pos rfl]
  rw [this] at H
  exact iteT rfl (KD (H h2 E2))
 | true =>
  refine iteF rfl (ZM cK ?_)
  rw [KDD hb] at H hm
  obtain ⟨v1,v2⟩:=KMd hb hI h2
  rw [eqI]
  refine KW (fun k2=>?_) (fun k2=>ZM cK ?_)
  ·have k2:=of_decide_eq_true k2
   rw [if_pos k2] at H hm
   refine ZM cN (KJz (fun h3 e3=>KM (KCA (v:=.mk 1 t.n [] []) (Xp (fun _=>True) h3 ⟨by decide,by decide⟩ hI (by decide)).to (hp.ext (E2.trans e3)) (hd.ext (E2.trans e3)) (by rw [zr]; exact hm) (fun h4 e4=>KD ?_))))
   rw [zr]
   exact H _ ((E2.trans e3).trans e4)
  ·have k2:=of_decide_eq_false k2
   rw [if_neg k2] at H hm
   rw [eqI]
   refine KW (fun k3=>?_) (fun k3=>?_)
   ·have k3:=of_decide_eq_true k3
    rw [if_pos k3] at H hm
    have hsl:t.s.length≤9223372036854775807:=by rcases KBR hb with ⟨h1,_⟩ | ⟨h1,_⟩ | ⟨_,h1,_⟩ | ⟨h1,_⟩ <;> omega
    refine U5 cS (KJ0 (fun h3 e3=>KM (KCA (v:=.mk 2 0 t.s []) (Xp (fun _=>True) h3 ⟨by decide,by decide⟩ ⟨by decide,by decide⟩ hsl).to (hp.ext (E2.trans e3)) (hd.ext (E2.trans e3)) (by rw [KBQ]; exact hm) (fun h4 e4=>KD ?_))))
    rw [KBQ]
    exact H _ ((E2.trans e3).trans e4)
   ·rw [if_neg (of_decide_eq_false k3)] at H
    exact U5 cS (KD (H _ E2))
theorem KAE {t:Tkn} {h:Heap} {Q:ByteArray→Heap→Prop} (hI:I64 t.n) (hm:(tkT t).length≤1099511627776) (H:∀ h',Ext h h'→Q (bs (tkT t)) h'):(Jl t.cells).wp h Q:=by
 unfold Jl
 refine Z5 (fun h1 e1 s1 g1=>ldR g1 rfl (KM (Xs (fun h2 e2=>?_))))
 have E2:=e1.trans e2
 have g2:=e2.blk g1
 have cK:KO h2 ((⟨h.size,0,none⟩:Addr).add 0)=some (.int .i64 t.k):=by rw [add_zero,KJ g2]; rfl
 have cS:KO h2 ((⟨h.size,0,none⟩:Addr).add 1)=some (.string (bs t.s)):=by rw [Ke,KJ g2]; rfl
 have cN:KO h2 ((⟨h.size,0,none⟩:Addr).add 2)=some (.int .i64 t.n):=by rw [Ke,KJ g2]; rfl
 rw [KBJ]
 cases hb:tokB t with
 | false =>
  have:tkT t=[]:=by unfold tkT; rw [hb,if_pos rfl]
  rw [this] at H
  exact iteT rfl (KD (H h2 E2))
 | true =>
  refine iteF rfl (ZM cK ?_)
  rw [KDD hb] at H hm
  rw [eqI,eqI]
  refine KW (fun k2=>?_) (fun k2=>?_)
  ·have k2:=of_decide_eq_true k2
   rw [if_pos k2] at H hm
   refine ZM cN (KMb (fun h3 e3=>KM (KCB (v:=.mk 1 t.n [] []) (Xp (fun _=>True) h3 ⟨by decide,by decide⟩ hI (by decide)).to (by rw [zr]; exact hm) (fun h4 e4=>KD ?_))))
   rw [zr]
   exact H _ ((E2.trans e3).trans e4)
  ·have k2:=of_decide_eq_false k2
   rw [if_neg k2] at H hm
   refine KW (fun k3=>?_) (fun k3=>?_)
   ·have k3:=of_decide_eq_true k3
    rw [if_pos k3] at H hm
    have hsl:t.s.length≤9223372036854775807:=by rcases KBR hb with ⟨h1,_⟩ | ⟨h1,_⟩ | ⟨_,h1,_⟩ | ⟨h1,_⟩ <;> omega
    refine U5 cS (KLD (fun h3 e3=>KM (KCB (v:=.mk 2 0 t.s []) (Xp (fun _=>True) h3 ⟨by decide,by decide⟩ ⟨by decide,by decide⟩ hsl).to (by rw [KBQ]; exact hm) (fun h4 e4=>KD ?_))))
    rw [KBQ]
    exact H _ ((E2.trans e3).trans e4)
   ·rw [if_neg (of_decide_eq_false k3)] at H
    exact U5 cS (KD (H _ E2))
end Gx
namespace Gx
open Go Go.Lib
set_option linter.unusedVariables false
set_option linter.unusedSimpArgs false
set_option maxRecDepth 100000
theorem KDE {last:Int} {t:Tkn} {r:List Tkn} (h:tokB t=true):prT last (t::r)=(if last≠4∧t.k≠4 then [32] else [])++(tkT t++prT t.k r):=by
 rw [prT,h,if_neg (show ¬ (true=false) by decide)]
theorem KDF {last:Int} {t:Tkn} {r:List Tkn} (h:tokB t=false):prT last (t::r)=prT last r:=by rw [prT,if_pos h]
theorem KII {β:Type} {h:Heap} {Q:β→Heap→Prop} {x:Sl} {l:List Tkn} {i:Nat} {f:Addr→M β} (R:TkR h x l) (hi:i < l.length)
  (H:∀ h',Ext h h'→h'[h.size]?=some (.cells l[i].cells KP (0,0))→(f ⟨h.size,0,none⟩).wp h' Q) :
  (ixL x (i:Int) 4>>=fun a=>ldG 4 a>>=fun c=>mkB KP (#[.int .i64 0,.string ByteArray.empty,.int .i64 0,.int .i64 0]:Array Value)>>=fun b=>M.need (c.size=4)>>=fun _=>stG b c>>=fun _=>f b).wp h Q:=by
 obtain ⟨b,hb,hcb⟩:=R.at hi
 generalize l[i]=t at hcb H
 refine XY (by omega) (by rw [R.1]; omega) hb (NP (cs:=t.cells) rfl hcb (Z5 (fun h3 e3 s3 g3=>UO rfl (stR g3 (Nat.le_refl 4) (Y2 t) (fun h4 u4 g4=>?_)))))
 refine H h4 (e3.upd u4 (Nat.le_refl _)) ?_
 have e:lay tkn0.cells 0 t.cells.toList=t.cells:=by rw [ZZ (cs:=tkn0.cells) (vs:=t.cells.toList) rfl,Array.toArray_toList]
 rw [← e]; exact g4
theorem KFC {x:Sl} {l:List Tkn} {h:Heap} {Q:ByteArray→Heap→Prop} (R:TkR h x l) (hI:∀ t ∈ l,I64 t.n) (hl:l.length≤1099511627776) (hm:(prT 4 l).length≤1099511627776) (hp:GL h) (hd:KAI h)
  (H:∀ h',Ext h h'→Q (bs (prT 4 l)) h'):(GP x).wp h Q:=by
 unfold GP
 have hrl:=R.1
 rw [hrl]
 refine Z5 (fun h1 e1 z1 g1=>?_)
 have B1:=Bld.new (Nat.le_refl _) g1
 refine M.loop_inv (fun (y:Int × Int) hh=>∃ (i:Nat) (r:Sl) (acc:List UInt8),y.2=(i:Int)∧i≤l.length∧Bld h.size hh h.size r acc∧acc++prT y.1 (l.drop i)=prT 4 l∧Ext h hh) (fun y _=>((l.length:Int) - y.2).toNat) ?_ ⟨0,Sl.nil,[],rfl,Nat.zero_le _,B1,rfl,e1⟩
 rintro ⟨last,t⟩ hh ⟨i,r,acc,ht,hi,B,hacc,E⟩ self hself
 have ht:t=(i:Int):=ht
 subst ht
 dsimp only at hacc
 unfold GO
 dsimp only
 have hal:=congrArg List.length hacc
 rw [List.length_append] at hal
 have hlo:=E.size
 refine KW (fun hlt=>?_) (fun hge=>?_)
 ·have hlt:i < l.length:=by have:=of_decide_eq_true hlt; omega
  refine KII (R.ext E) hlt (fun h4 E4 g4=>?_)
  have hIi:=hI _ (List.getElem_mem hlt)
  rw [List.drop_eq_getElem_cons hlt] at hacc hal
  generalize l[i]=t at g4 hIi hacc hal
  refine ldR g4 rfl (KM (Xq (fun h5 e5=>?_)))
  have E5:=E4.trans e5
  have g5:=e5.blk g4
  have B5:=B.ext E5
  have EE:=E.trans E5
  rw [KBJ]
  have nx:∀ {h':Heap} {r':Sl} {acc':List UInt8} {k:Int},Bld h.size h' h.size r' acc'→acc'++prT k (l.drop (i+1))=prT 4 l→Ext h h'→(WN self (i:Int) k).wp h' Q:=fun {h' r' acc' k} B' ha' E'=>by
   unfold WN
   rw [w64 (by omega) (by omega)]
   exact hself (_,_) _ ⟨i+1,r',acc',by dsimp only; push_cast; rfl,hlt,B',ha',E'⟩ (by dsimp only; omega)
  cases hb:tokB t with
  | false =>
   rw [KDF hb] at hacc
   exact iteT rfl (nx B5 hacc EE)
  | true =>
   rw [KDE hb] at hacc hal
   rw [List.length_append,List.length_append] at hal
   have hblt:=B.lt
   have hboff:=(B5.row)
   have cK:KO h5 ((⟨hh.size,0,none⟩:Addr).add 0)=some (.int .i64 t.k):=by rw [add_zero,KJ g5]; rfl
   have j2:∀ {h6:Heap} {r6:Sl} {acc6:List UInt8},Bld h.size h6 h.size r6 acc6→h6[hh.size]?=some (.cells t.cells KP (0,0))→¬ Sl.on r6 hh.size→acc6++(tkT t++prT t.k (l.drop (i+1)))=prT 4 l→Ext h h6→hh.size < h6.size→(WO self ⟨h.size,0,none⟩ ⟨hh.size,0,none⟩ (i:Int)).wp h6 Q:=fun {h6 r6 acc6} B6 g6 hno ha6 E6 hz6=>by
    unfold WO
    have hl6:=congrArg List.length ha6
    rw [List.length_append,List.length_append] at hl6
    refine ldR g6 rfl (KM (KCD hIi (by omega) (hp.ext E6) (hd.ext E6) (fun h7 e7=>?_)))
    have B7:=B6.ext e7
    have E7:=E6.trans e7
    refine KM (Yo B7 E7.size (by omega) (fun h8 r8 n B8 K8=>?_))
    have g8:h8[hh.size]?=some (.cells t.cells KP (0,0)):=(K8.same hh.size (by have:=e7.size; omega) (by omega) hno).trans (e7.blk g6)
    refine ZM (n:=t.k) (by rw [add_zero,KJ g8]; rfl) (nx B8 (by rw [List.append_assoc]; exact ha6) (K8.ext E7 B7 (Nat.le_refl _)))
   have hno:¬ Sl.on r hh.size:=fun ho=>by have:=(B.row.lt ho).1; omega
   have hz5:hh.size < h5.size:=U6 g5
   refine iteF rfl ?_
   refine Wo (c:=decide (t.k≠4)) (fun _ Q' hq=>ZM cK (KD (by rw [bne,eqI,← decide_not]; exact hq))) ?_
   rw [bne,eqI,← decide_not,← Bool.decide_and]
   refine KW (fun hc=>?_) (fun hc=>?_)
   ·rw [if_pos (of_decide_eq_true hc)] at hacc hal
    refine KM (YS (c:=32) B5 EE.size (by simp only [List.length_cons,List.length_nil] at hal; omega) rfl (fun h6 r6 B6 K6=>?_))
    refine j2 B6 ((K6.same hh.size hz5 (by omega) hno).trans g5) (fun ho=>(K6.on_ _ ho).elim hno (fun h=>by omega)) (by rw [List.append_assoc]; exact hacc) (K6.ext EE B5 (Nat.le_refl _)) (by have:=K6.size; omega)
   ·rw [if_neg (of_decide_eq_false hc)] at hacc hal
    exact j2 B5 g5 hno hacc EE hz5
 ·have hi':i=l.length:=by have:=of_decide_eq_false hge; omega
  rw [List.drop_eq_nil_iff.2 (by omega)] at hacc
  have hacc:acc++[]=prT 4 l:=hacc
  rw [List.append_nil] at hacc
  refine KM (KBE B (by rw [hacc]; omega) (fun h' K' _=>KD ?_))
  rw [hacc]
  exact H _ (K'.ext E B (Nat.le_refl _))
theorem KFD {x:Sl} {l:List Tkn} {h:Heap} {Q:ByteArray→Heap→Prop} (R:TkR h x l) (hI:∀ t ∈ l,I64 t.n) (hl:l.length≤1099511627776) (hm:(prT 4 l).length≤1099511627776)
  (H:∀ h',Ext h h'→Q (bs (prT 4 l)) h'):(J9 x).wp h Q:=by
 unfold J9
 have hrl:=R.1
 refine M.loop_inv (fun (y:ByteArray × Int × Int) hh=>∃ (i:Nat) (acc:List UInt8),y.2.2=(i:Int)∧y.1=bs acc∧i≤l.length∧acc++prT y.2.1 (l.drop i)=prT 4 l∧Ext h hh) (fun y _=>((l.length:Int) - y.2.2).toNat) ?_ ⟨0,[],rfl,rfl,Nat.zero_le _,rfl,Ext.refl _⟩
 rintro ⟨y1,last,t⟩ hh ⟨i,acc,ht,hy,hi,hacc,E⟩ self hself
 have ht:t=(i:Int):=ht
 have hy:y1=bs acc:=hy
 subst ht
 subst hy
 dsimp only at hacc
 unfold U2
 dsimp only
 rw [hrl]
 have hal:=congrArg List.length hacc
 rw [List.length_append] at hal
 refine KW (fun hlt=>?_) (fun hge=>?_)
 ·have hlt:i < l.length:=by have:=of_decide_eq_true hlt; omega
  have hIi:=hI _ (List.getElem_mem hlt)
  rw [List.drop_eq_getElem_cons hlt] at hacc hal
  have at_:∀ {h':Heap},Ext h h'→∃ a,x.base=some a∧∀ j,j < 4→KO h' ((a.add (i * 4)).add j)=(l[i]).cells[j]?:=fun {h'} e=>(R.ext e).at hlt
  generalize l[i]=t at hIi hacc hal at_
  obtain ⟨a,ha,hca⟩:=at_ E
  have at2:∀ {h':Heap},Ext h h'→∀ j,j < 4→KO h' ((a.add (i * 4)).add j)=t.cells[j]?:=fun {h'} e=>by
   obtain ⟨a2,ha2,hc2⟩:=at_ e
   rw [ha] at ha2
   cases ha2
   exact hc2
  refine XY (by omega) (by rw [hrl]; omega) ha (NP (cs:=t.cells) rfl hca (KM (Xs (fun h5 e5=>?_))))
  have E5:=E.trans e5
  rw [KBJ]
  have nx:∀ {h':Heap} {acc':List UInt8} {k:Int},acc'++prT k (l.drop (i+1))=prT 4 l→Ext h h'→(JQ self (i:Int) (bs acc') k).wp h' Q:=fun {h' acc' k} ha' E'=>by
   unfold JQ
   rw [w64 (by omega) (by omega)]
   exact hself (_,_,_) _ ⟨i+1,acc',by dsimp only; push_cast; rfl,rfl,hlt,ha',E'⟩ (by dsimp only; omega)
  cases hb:tokB t with
  | false =>
   rw [KDF hb] at hacc
   exact iteT rfl (nx hacc E5)
  | true =>
   rw [KDE hb] at hacc hal
   rw [List.length_append,List.length_append] at hal
   have j2:∀ {h6:Heap} {acc6:List UInt8},acc6++(tkT t++prT t.k (l.drop (i+1)))=prT 4 l→Ext h h6→(JR self x (i:Int) (bs acc6)).wp h6 Q:=fun {h6 acc6} ha6 E6=>by
    unfold JR
    have hl6:=congrArg List.length ha6
    rw [List.length_append,List.length_append] at hl6
    refine XY (by omega) (by rw [hrl]; omega) ha (NP (cs:=t.cells) rfl (at2 E6) (KM (KAE hIi (by omega) (fun h7 e7=>NN (by omega) (XY (by omega) (by rw [hrl]; omega) ha (ZM (n:=t.k) (at2 (E6.trans e7) 0 (by decide)) (nx (by rw [List.append_assoc]; exact ha6) (E6.trans e7))))))))
   refine iteF rfl ?_
   refine Wo (c:=decide (t.k≠4)) (fun _ Q' hq=>XY (by omega) (by rw [hrl]; omega) ha (ZM (n:=t.k) (at2 E5 0 (by decide)) (KD (by rw [bne,eqI,← decide_not]; exact hq)))) ?_
   rw [bne,eqI,← decide_not,← Bool.decide_and]
   refine KW (fun hc=>?_) (fun hc=>?_)
   ·rw [if_pos (of_decide_eq_true hc)] at hacc hal
    refine NN (y:=[32]) (by simp only [List.length_cons,List.length_nil] at hal ⊢; omega) (j2 (by rw [List.append_assoc]; exact hacc) E5)
   ·rw [if_neg (of_decide_eq_false hc)] at hacc
    exact j2 hacc E5
 ·have hi':i=l.length:=by have:=of_decide_eq_false hge; omega
  rw [List.drop_eq_nil_iff.2 (by omega)] at hacc
  have hacc:acc++[]=prT 4 l:=hacc
  rw [List.append_nil] at hacc
  rw [hacc]
  exact KD (H _ E)
end Gx
namespace Gx
def tksW (ts:List Tkn):Nat:=(ts.map fun t=>t.s.length+1).sum
end Gx
namespace Gx
open Go Go.Lib
set_option linter.unusedVariables false
set_option linter.unusedSimpArgs false
set_option maxRecDepth 100000
theorem KIJ {t:Tkn} (hI:I64 t.n):(tkT t).length≤4 * t.s.length+21:=by
 have hi:=KC4 hI
 have hq:(Ur t.s).length≤4 * t.s.length+2:=by
  rw [KEE]
  have:∀ s:List UInt8,(s.flatMap qc).length≤4 * s.length:=fun s=>by
   induction s with
   | nil=>simp
   | cons a s ih=>rw [List.flatMap_cons,List.length_append,List.length_cons]; have:=KNO a; omega
  have:=this t.s
  omega
 unfold tkT
 split
 ·simp
 split
 ·omega
 split
 ·omega
 ·omega
theorem KIK:∀ (l:List Tkn) (last:Int),(∀ t ∈ l,I64 t.n)→(prT last l).length≤30 * tksW l
 | [],_,_=>Nat.zero_le _
 | t::r,last,hI=>by
  have ih:=fun k=>KIK r k (fun x hx=>hI x (List.mem_cons_of_mem _ hx))
  have ht:=KIJ (hI t (by simp))
  unfold tksW at ih ⊢
  rw [List.map_cons,List.sum_cons]
  cases hb:tokB t with
  | false=>rw [KDF hb]; have:=ih last; omega
  | true =>
   rw [KDE hb,List.length_append,List.length_append]
   have:=ih t.k
   have h1:(if last≠4∧t.k≠4 then [32] else []:List UInt8).length≤1:=by split <;> simp
   omega
theorem KFz:∀ l:List Tkn,l.length≤tksW l
 | []=>Nat.zero_le _
 | t::r=>by
  have:=KFz r
  unfold tksW at this ⊢
  rw [List.map_cons,List.sum_cons,List.length_cons]
  omega
theorem KF0:∀ (l:List Tkn) (t:Tkn),t ∈ l→t.s.length≤tksW l
 | u::r,t,h=>by
  unfold tksW
  rw [List.map_cons,List.sum_cons]
  rcases List.mem_cons.1 h with rfl | h
  ·omega
  ·have:=KF0 r t h
   unfold tksW at this
   omega
theorem KGi {x:Sl} {l:List Tkn} {h:Heap} {Q:Bool→Heap→Prop} (R:TkR h x l∧x.len≤x.cap∧∀ t ∈ l,I64 t.n) (hw:tksW l≤1048576) (hp:GL h) (hd:KAI h) (he:ErrV h) (H:∀ h',Ext h h'→Q true h'):(Un x).wp h Q:=by
 obtain ⟨R,_,hI⟩:=R
 unfold Un
 have hl:=KFz l
 have hm:=KIK l 4 hI
 have hrl:=R.1
 rw [hrl]
 refine M.loop_inv (fun (y:Int) hh=>∃ i:Nat,y=(i:Int)∧i≤l.length∧Ext h hh) (fun y _=>((l.length:Int) - y).toNat) ?_ ⟨0,rfl,Nat.zero_le _,Ext.refl _⟩
 rintro t hh ⟨i,rfl,hi,E⟩ self hself
 unfold UA
 refine KW (fun hlt=>?_) (fun hge=>?_)
 ·have hlt:i < l.length:=by have:=of_decide_eq_true hlt; omega
  refine KII (R.ext E) hlt (fun h4 E4 g4=>?_)
  have hIi:=hI _ (List.getElem_mem hlt)
  have hsi:=KF0 l _ (List.getElem_mem hlt)
  generalize l[i]=t at g4 hIi hsi
  have htl:=KIJ hIi
  have nx:∀ {h':Heap},Ext h h'→(Ze self (i:Int) false).wp h' Q:=fun {h'} E'=>by
   unfold Ze
   rw [w64 (by omega) (by omega)]
   exact iteF rfl (hself _ _ ⟨i+1,by push_cast; rfl,hlt,E'⟩ (by omega))
  have cc:∀ {h':Heap},h'[hh.size]?=some (.cells t.cells KP (0,0))→(t.cells.size=4∧∀ i,i < 4→KO h' (Addr.add ⟨hh.size,0,none⟩ i)=t.cells[i]?):=fun {h'} g'=>⟨rfl,fun j hj=>by rw [Ke,Nat.zero_add,KJ g']⟩
  have E4':=E.trans E4
  refine ldR g4 rfl (ldR g4 rfl (KM (Xq (fun h5 e5=>zP ⟨cc (e5.blk g4),cc (e5.blk g4)⟩ (KM (Xs (fun h6 e6=>?_)))))))
  rw [bne_self_eq_false]
  have E6:=(E4'.trans e5).trans e6
  have g6:=e6.blk (e5.blk g4)
  refine iteF rfl (ldR g6 rfl (ldR g6 rfl (KM (KCD hIi (by omega) (hp.ext E6) (hd.ext E6) (fun h7 e7=>zP ⟨cc (e7.blk g6),cc (e7.blk g6)⟩ (KM (KAE hIi (by omega) (fun h8 e8=>?_))))))))
  rw [KFc,decide_eq_true rfl]
  exact nx ((E6.trans e7).trans e8)
 ·refine KM (KER (he.ext E) (fun h5 e5=>Wq rfl (Kz (KM (KFC (R.ext (E.trans e5)) hI (by omega) (by omega) (hp.ext (E.trans e5)) (hd.ext (E.trans e5)) (fun h6 e6=>Kz (KM (KFD (R.ext ((E.trans e5).trans e6)) hI (by omega) (by omega) (fun h7 e7=>ZD (KD ?_))))))))))
  rw [KFc,decide_eq_true rfl]
  exact H _ (((E.trans e5).trans e6).trans e7)
end Gx
namespace Go.Proofs.YtpibdohdkfkcnaaGreatDoor
open Go Go.RowKit Gx
set_option linter.unusedVariables false
set_option maxRecDepth 100000
theorem c29:Tryz.prog.cellsOf 29=4:=by kernel_rfl
theorem c3:Tryz.prog.cellsOf 3=1:=by kernel_rfl
theorem c2:Tryz.prog.cellsOf 2=1:=by kernel_rfl
theorem c9:Tryz.prog.cellsOf 9=1:=by kernel_rfl
theorem KES {H:Type}:∀ (l:List Tkn) (es:List (DataW H)),l.length=es.length→(∀ i (h1:i < l.length) (h2:i < es.length),l[i].s.length+1≤Rows.uptoBulk es[i])→tksW l≤Rows.uptoBulkAll es
 | [],[],_,_=>by simp [tksW]
 | [],_::_,h,_=>by simp at h
 | _::_,[],h,_=>by simp at h
 | v::l,d::es,h,hk=>by
  have h0:=hk 0 (by simp) (by simp)
  have:=KES l es (by simpa using h) (fun i h1 h2=>by
   have:=hk (i+1) (by simpa using h1) (by simpa using h2)
   simpa using this)
  simp only [List.getElem_cons_zero] at h0
  unfold tksW at this ⊢
  rw [List.map_cons,List.sum_cons]
  simp only [Rows.uptoBulkAll]
  omega
section
variable {H:Type} {enc:TypeId × Value→H}
theorem KDG {W:World} {t:TypeId} {n:Nat} {c:Value} {x:DataW H × List MemPlace} {sp:Nat→Bool} {held:Bool} {base:Nat} (ht:Tryz.prog.underlying t=some (.int .i64)) (h:DataW.trod enc Tryz.prog W base sp held n t [c]=some x):∃ z,c=.int .i64 z∧I64 z∧Rows.uptoBulk x.1=1:=by
 cases n with
 | zero=>simp [DataW.trod] at h
 | succ n =>
  unfold DataW.trod at h
  rw [ht] at h
  cases c with
  | int k z =>
   simp only at h
   split at h
   ·rename_i hk
    obtain ⟨rfl,hw⟩:=hk
    cases h
    refine ⟨z,rfl,?_,by simp [Rows.uptoBulk]⟩
    have:-9223372036854775808≤z∧z≤9223372036854775807:=by simpa [Lit.wf,IntKind.min,IntKind.max,IntKind.signed,IntKind.bits] using hw
    exact this
   ·cases h
  | _=>simp at h
theorem KJX {W:World} {t:TypeId} {n:Nat} {c:Value} {x:DataW H × List MemPlace} {sp:Nat→Bool} {held:Bool} {base:Nat} (ht:Tryz.prog.underlying t=some .string) (h:DataW.trod enc Tryz.prog W base sp held n t [c]=some x):∃ s:ByteArray,c=.string s∧s.size≤maxLen∧Rows.uptoBulk x.1=s.data.toList.length+1:=by
 cases n with
 | zero=>simp [DataW.trod] at h
 | succ n =>
  unfold DataW.trod at h
  rw [ht] at h
  cases c with
  | string s =>
   simp only at h
   split at h
   ·rename_i hk
    cases h
    exact ⟨s,rfl,hk,by simp [Rows.uptoBulk]⟩
   ·cases h
  | _=>simp at h
theorem KAW {W:World} {a:Addr}:W.cell? a=KO W.heap a:=rfl
theorem KJY {W:World} {sp:Nat→Bool} {held:Bool} {base:Nat} (m:Nat) (cs:List Value) (x:DataW H × List MemPlace) (h:DataW.trod enc Tryz.prog W base sp held m 29 cs=some x):∃ t:Tkn,cs.toArray=t.cells∧I64 t.n∧t.s.length+1≤Rows.uptoBulk x.1:=by
 obtain ⟨xs,n,hn,hx,hcl,hxl,hf⟩:=DataW.trod_struct Tryz.underlying29 h
 rw [c29] at hcl
 have hxl:xs.length=4:=hxl
 match cs,hcl with
 | [a0,a1,a2,a3],_ =>
 match xs,hxl with
 | [y0,y1,y2,y3],_ =>
 have f0:DataW.trod enc Tryz.prog W base sp held n 3 (([a0,a1,a2,a3].drop 0).take (Tryz.prog.cellsOf 3))=some y0:=hf 0 _ rfl
 have f1:DataW.trod enc Tryz.prog W base sp held n 9 (([a0,a1,a2,a3].drop 1).take (Tryz.prog.cellsOf 9))=some y1:=hf 1 _ rfl
 have f2:DataW.trod enc Tryz.prog W base sp held n 2 (([a0,a1,a2,a3].drop 2).take (Tryz.prog.cellsOf 2))=some y2:=hf 2 _ rfl
 have f3:DataW.trod enc Tryz.prog W base sp held n 3 (([a0,a1,a2,a3].drop 3).take (Tryz.prog.cellsOf 3))=some y3:=hf 3 _ rfl
 rw [c3] at f0
 rw [c9] at f1
 rw [c2] at f2
 rw [c3] at f3
 obtain ⟨k,hk,_,b0⟩:=KDG Tryz.underlying3 f0
 obtain ⟨s,hs,_,b1⟩:=KJX Tryz.underlying9 f1
 obtain ⟨nn,hnn,hI,b2⟩:=KDG Tryz.underlying2 f2
 obtain ⟨aa,haa,_,b3⟩:=KDG Tryz.underlying3 f3
 have hk:a0=.int .i64 k:=hk
 have hs:a1=.string s:=hs
 have hnn:a2=.int .i64 nn:=hnn
 have haa:a3=.int .i64 aa:=haa
 have hsb:bs s.data.toList=s:=by simp [bs]
 refine ⟨⟨k,s.data.toList,nn,aa⟩,by rw [hk,hs,hnn,haa]; unfold Tkn.cells; rw [hsb],hI,?_⟩
 rw [hx]
 simp only [List.map_cons,List.map_nil,Rows.uptoBulk,Rows.uptoBulkAll]
 omega
theorem KIL {W:World} {sp:Nat→Bool} {held:Bool} {base:Nat} {m:Nat} {v:Value} {x:DataW H × List MemPlace} (h:DataW.trod enc Tryz.prog W base sp held m 22 [v]=some x):∃ (s:Sl) (l:List Tkn),v=s.v∧(TkR W.heap s l∧s.len≤s.cap∧∀ t ∈ l,I64 t.n)∧tksW l+1≤Rows.uptoBulk x.1:=by
 rcases DataW.trod_slice Tryz.underlying22 h with ⟨h0,hx⟩ | ⟨a,len,cap,elems,rest,n,hn,h1,hx,_,hle,hm,hlen,hel,_,_⟩
 ·cases h0
  refine ⟨Sl.nil,[],rfl,⟨TkR.nil _,Nat.le_refl _,fun t ht=>by cases ht⟩,?_⟩
  rw [hx]; simp [tksW,Rows.uptoBulk]
 ·cases h1
  rw [c29] at hel
  have key:∀ i,i < len→∃ t:Tkn,(∀ j,j < 4→KO W.heap (a.add (i * 4+j))=t.cells[j]?)∧I64 t.n∧∀ (h:i < elems.length),t.s.length+1≤Rows.uptoBulk (elems[i]).1:=fun i hi=>by
   have h2:=hel i hi
   rw [List.getElem?_eq_getElem (by omega),Option.bind_eq_some_iff] at h2
   obtain ⟨cs,hcs,ht⟩:=h2
   obtain ⟨_,hl1,hc⟩:=World.cells?_some hcs
   obtain ⟨t,e,hI,hw⟩:=KJY _ _ _ ht
   refine ⟨t,fun j hj=>?_,hI,fun _=>hw⟩
   have:=hc j hj
   rw [Addr.add_add] at this
   rw [KAW] at this
   rw [this,← e]; simp
  let l:=List.ofFn (fun i:Fin len=>Classical.choose (key i i.2))
  have hL:l.length=len:=by simp [l]
  have hget:∀ i (h:i < l.length),(∀ j,j < 4→KO W.heap (a.add (i * 4+j))=(l[i]).cells[j]?)∧I64 l[i].n∧∀ (h:i < elems.length),l[i].s.length+1≤Rows.uptoBulk (elems[i]).1:=fun i h=>by
   have:=Classical.choose_spec (key i (by omega))
   simpa [l] using this
  refine ⟨⟨some a,len,cap⟩,l,rfl,⟨⟨hL.symm,.inr ⟨a,rfl,fun j v hj=>?_⟩⟩,hle,fun t ht=>?_⟩,?_⟩
  ·have hjl:j < (WC (tks l)).length:=(List.getElem?_eq_some_iff.1 hj).1
   rw [WV (KGZ l),N3] at hjl
   have h1:=q9 (KGZ l) (j / 4) (j % 4) (by omega)
   rw [show j / 4 * 4+j % 4=j by omega,hj,List.getElem?_eq_getElem (l:=tks l) (i:=j / 4) (by rw [N3]; omega),Option.bind_some] at h1
   have h2:=(hget (j / 4) (by omega)).1 (j % 4) (by omega)
   rw [show j / 4 * 4+j % 4=j by omega] at h2
   rw [h2,h1]
   simp [tks]
  ·obtain ⟨i,hi,rfl⟩:=List.getElem_of_mem ht
   exact (hget i hi).2.1
  ·rw [hx]
   have:=KES l (elems.map (·.1)) (by rw [hL,List.length_map,hlen]) (fun i h1 h2=>by
    obtain ⟨_,_,h4⟩:=hget i h1
    rw [List.getElem_map]
    exact h4 (by simpa using h2))
   simp only [Rows.uptoBulk]
   omega
end
end Go.Proofs.YtpibdohdkfkcnaaGreatDoor
namespace Gx
open Go Go.RowKit Go.ChangeShapes Go.WideShapes Go.ChangeAt Go.Joins
set_option linter.unusedVariables false
section
variable {H:Type} {enc:TypeId × Value→H} {P:Program}
theorem KJZ {W W':World} (he:Ext W.heap W'.heap) {p:MemPlace} (hp:p.block < W.heap.size):W.sameAt W' p:=by
 cases p with
 | cell b o=>exact World.cell?_of_block (w:=W) (he.same b hp)
 | map b=>exact he.same b hp
theorem KJa {t:TypeId} (hl:laidOutB P=true) (hr:P.readableRec t=true) (hrow:t < P.types.size) {W W':World} {v:Value} {d:DataW H} {ps:List MemPlace}
  (h:DataW.Trod enc P W 0 (fun _=>true) true t v d ps) (he:Ext W.heap W'.heap) :
  DataW.Trod enc P W' 0 (fun b=>decide (b < W.heap.size)) true t v d ps:=by
 have hlt:∀ x ∈ ps,x.block < W.heap.size:=by
  obtain ⟨m,hm⟩:=h
  exact DataW.trod_lt m _ _ _ hm
 exact WideElems.Trod_stays hl hr hrow h (fun x hx=>KJZ he (hlt x hx)) (fun x hx=>by simpa using hlt x hx)
theorem KIM {W W':World} (he:Ext W.heap W'.heap) (hr:Rest W W') (may:MemPlace→Prop):W.keptBut W' may:=by
 refine ⟨hr.os,hr.output,fun i hi=>?_⟩
 rw [he.same i hi]
 split <;> simp_all
end
end Gx
namespace Go.Proofs.YtpibdohdkfkcnaaGreatDoor
open Go Go.RowKit Go.ChangeShapes Go.WideShapes Go.ChangeAt Go.Joins Gx
set_option linter.unusedVariables false
set_option maxRecDepth 100000
theorem Own:ownKnob Tryz.prog.godebug=none:=by kernel_rfl
theorem Laid:laidOutB Tryz.prog=true:=by kernel_rfl
def KJb:List (String × DataW Unit):=[("math/bits.deBruijn32tab",Rows.laid_math_bits_deBruijn32tab),("math/bits.deBruijn64tab",Rows.laid_math_bits_deBruijn64tab),("internal/strconv.uint64pow10",Rows.laid_internal_strconv_uint64pow10),("unicode/utf8.acceptRanges",Rows.laid_unicode_utf8_acceptRanges),("strconv.ErrRange",Rows.laid_strconv_ErrRange),("strconv.ErrSyntax",Rows.laid_strconv_ErrSyntax),("unicode/utf8.first",Rows.laid_unicode_utf8_first)]
theorem gPow:Tryz.prog.globalNamed "internal/strconv.uint64pow10"=some 3:=by kernel_rfl
theorem gDb:Tryz.prog.globalNamed "math/bits.deBruijn64tab"=some 5:=by kernel_rfl
theorem Yp {P:Program} {x:String × DataW Unit} {r:List (String × DataW Unit)} {W:World} (h:laidMet P (x::r) W):laidMet P r W:=by
 obtain ⟨ps,h1,h2,h3⟩:=h
 obtain ⟨n,d⟩:=x
 obtain ⟨g,t,cs,fuel,p,q,a1,a2,a3,a4,a5,rfl⟩:=h1
 exact ⟨q,a5,(List.nodup_append.1 h2).2.1,fun b off hb=>h3 b off (List.mem_append.2 (.inr hb))⟩
theorem KLE {W:World} (h:laidMet Tryz.prog KJb W):GL W.heap:=by
 have h1:Lib.TabIs Tryz.prog W "internal/strconv.uint64pow10" .u64 [1,10,100,1000,10000,100000,1000000,10000000,100000000,1000000000,10000000000,100000000000,1000000000000,10000000000000,100000000000000,1000000000000000,10000000000000000,100000000000000000,1000000000000000000,10000000000000000000] :=
  Lib.tabIs_of_head (rest:=[("unicode/utf8.acceptRanges",Rows.laid_unicode_utf8_acceptRanges),("strconv.ErrRange",Rows.laid_strconv_ErrRange),("strconv.ErrSyntax",Rows.laid_strconv_ErrSyntax),("unicode/utf8.first",Rows.laid_unicode_utf8_first)]) gPow (by kernel_rfl:(Tryz.prog.globals[3]?).map (·.type)=some 250) Tryz.underlying250 Tryz.underlying216 (by kernel_rfl) (by kernel_rfl) (Yp (Yp h))
 unfold Lib.TabIs at h1
 simp only [World.var?,gPow,Option.bind_some] at h1
 split at h1
 ·rename_i cs t fz hh
  cases h1
  exact ⟨fz,t,hh⟩
 ·cases h1
theorem KMe {W:World} (h:laidMet Tryz.prog KJb W):KAI W.heap:=by
 have h1:Lib.TabIs Tryz.prog W "math/bits.deBruijn64tab" .u8 [0,1,56,2,57,49,28,3,61,58,42,50,38,29,17,4,62,47,59,36,45,43,51,22,53,39,33,30,24,18,12,5,63,55,48,27,60,41,37,16,46,35,44,21,52,32,23,11,54,26,40,15,34,20,31,10,25,14,19,9,13,8,7,6] :=
  Lib.tabIs_of_head (rest:=[("internal/strconv.uint64pow10",Rows.laid_internal_strconv_uint64pow10),("unicode/utf8.acceptRanges",Rows.laid_unicode_utf8_acceptRanges),("strconv.ErrRange",Rows.laid_strconv_ErrRange),("strconv.ErrSyntax",Rows.laid_strconv_ErrSyntax),("unicode/utf8.first",Rows.laid_unicode_utf8_first)]) gDb (by kernel_rfl:(Tryz.prog.globals[5]?).map (·.type)=some 262) Tryz.underlying262 Tryz.underlying5 (by kernel_rfl) (by kernel_rfl) (Yp h)
 unfold Lib.TabIs at h1
 simp only [World.var?,gDb,Option.bind_some] at h1
 split at h1
 ·rename_i cs t fz hh
  cases h1
  exact ⟨_,t,fz,hh,rfl⟩
 ·cases h1
def KDH (cs:Array Value):Obj→Obj
 | .cells _ t frozen=>.cells cs t frozen
 | o=>o
def KLF (h:Array Obj):Array Obj:=(((h.modify 7 (KDH #[.iface 275 (.pointer (some ⟨h.size,0,none⟩))])).modify 6 (KDH #[.iface 275 (.pointer (some ⟨h.size+1,0,none⟩))])).push (.cells #[.string ⟨#[118,97,108,117,101,32,111,117,116,32,111,102,32,114,97,110,103,101]⟩] 277)).push (.cells #[.string ⟨#[105,110,118,97,108,105,100,32,115,121,110,116,97,120]⟩] 277)
noncomputable def litV:Lit→Value
 | .int k n=>.int k n
 | .bool b=>.bool b
 | _=>undef
noncomputable def KNP (ps:List (DataW Unit)):List Value:=ps.flatMap fun p=>match p with
 | .lit l=>[litV l]
 | .agg qs=>qs.map fun q=>match q with
  | .lit l=>litV l
  | _=>undef
 | _=>[]
noncomputable def KMf (l:List (String × DataW Unit)) (h:Array Obj):Array Obj:=l.foldl (fun h x=>match Tryz.prog.globalNamed x.1,x.2 with
 | some g,.agg ps=>h.modify g (KDH (KNP ps).toArray)
 | _,_=>h) h
noncomputable def KBS (os:Os) (args:Array Value):World :=
 { World.holding Tryz.prog os ⟨#[],args,[]⟩ with heap:=KLF (KMf KJb (World.holding Tryz.prog os ⟨#[],args,[]⟩).heap) }
theorem gErr:Tryz.prog.globalNamed "strconv.ErrRange"=some 7:=by kernel_rfl
theorem KNQ {W:World} (h:laidMet Tryz.prog KJb W):ErrV W.heap:=by
 obtain ⟨ps,h1,h2,h3⟩:=(Yp (Yp (Yp (Yp h))))
 obtain ⟨g,t,cs,fuel,p,q,a1,a2,a3,a4,a5,rfl⟩:=h1
 rw [gErr] at a1
 cases a1
 have ht:t=84:=Option.some.inj (a2.symm.trans (by kernel_rfl))
 subst ht
 have hcs:∃ u v,cs.toList=[.iface u v]:=by
  cases fuel with
  | zero=>simp [DataW.trod] at a4
  | succ fuel =>
   unfold DataW.trod at a4
   rw [Tryz.underlying84] at a4
   cases hc:cs.toList with
   | nil=>rw [hc] at a4; simp at a4
   | cons c r =>
    rw [hc] at a4
    cases r with
    | cons c2 r2=>exfalso; cases c <;> simp at a4
    | nil=>cases c <;> first | exact ⟨_,_,rfl⟩ | (exfalso; simp [Rows.laid_strconv_ErrRange] at a4)
 obtain ⟨u,v,hcs⟩:=hcs
 have hcs':cs=#[.iface u v]:=by
  apply Array.ext'
  exact hcs
 subst hcs'
 simp only [World.var?,gErr,Option.bind_some] at a3
 split at a3
 ·rename_i cs' t' fz hh
  cases a3
  exact ⟨u,v,by rw [KJ hh]; rfl⟩
 ·cases a3
end Go.Proofs.YtpibdohdkfkcnaaGreatDoor
