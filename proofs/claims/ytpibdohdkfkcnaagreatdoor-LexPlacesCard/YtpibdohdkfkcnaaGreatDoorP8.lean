/- Own proofs: what those Lean programs compute. No condition. -/
import Derived.Test.YtpibdohdkfkcnaaGreatDoorP0
import Derived.Test.YtpibdohdkfkcnaaGreatDoorP1
import Derived.Test.YtpibdohdkfkcnaaGreatDoorP2
import Derived.Test.YtpibdohdkfkcnaaGreatDoorP3
import Derived.Test.YtpibdohdkfkcnaaGreatDoorP4
import Derived.Test.YtpibdohdkfkcnaaGreatDoorP5
import Derived.Test.YtpibdohdkfkcnaaGreatDoorP6
import Derived.Test.YtpibdohdkfkcnaaGreatDoorP7
import Derived.Test.YtpibdohdkfkcnaaGreatDoorTie
import Derived.KernelRfl
import Derived.ChangeArms
import Derived.DataReads
import Derived.WalkKit
import Derived.ProofKit
import Derived.OpenShut
import Derived.ShutString
import Derived.ChangeOld
import Derived.Below
import Derived.SizedLaws
import Derived.Lib.SmallJoins
import Derived.Deep.DeepHandedRow
import Derived.Lib.LaidTab
import Derived.JoinedCond
import Derived.SevenTiedAt
set_option linter.unusedVariables false
set_option linter.unusedSimpArgs false
namespace Gx
open Go Go.Proofs Go.Shelf Go.RowKit Go.Lib
set_option linter.unusedVariables false
set_option linter.unusedSimpArgs false
set_option maxRecDepth 100000
def Tx (s:List UInt8) (d:Nat) (pv:Nat→Except Nat (Vl × Nat)):Prop:=∀ i v j,pv i=.ok (v,j)→At s i (txt d v)∧j=i+(txt d v).length
theorem KCV {s:List UInt8} {d:Nat} {pv:Nat→Except Nat (Vl × Nat)} (hp:Tx s d pv):∀ {f i:Nat} {l1 t:List Vl} {j:Nat},l1≠[]→UW pv 93 false s f l1 i=.ok (t,j)→∃ l2,t=l1++l2∧At s i (sepT d l2++[93])∧j=i+(sepT d l2).length+1
 | 0,i,l1,t,j,h1,h=>by cases h
 | f+1,i,l1,t,j,h1,h=>by
  rw [UW] at h
  split at h
  ·rename_i hh
   cases h
   exact ⟨[],by simp,U9 hh (by decide),rfl⟩
  ·have hl1:¬ l1.length=0:=fun e=>h1 (List.length_eq_zero_iff.1 e)
   unfold sepP at h
   rw [if_neg hl1] at h
   split at h
   ·cases h
   ·rename_i i1 hi1
    obtain ⟨a1,a2⟩:=J9 hi1
    split at h
    ·cases h
    ·rename_i vs i2 hv
     split at h
     ·cases h
     ·unfold YE at hv
      split at hv
      ·cases hv
      ·rename_i v j1 hpv
       rw [if_neg (by decide)] at hv
       cases hv
       obtain ⟨b1,b2⟩:=hp _ _ _ hpv
       obtain ⟨l2,c1,c2,c3⟩:=KCV hp (by simp) h
       refine ⟨v::l2,by rw [c1]; simp,?_,?_⟩
       ·rw [show sepT d (v::l2)++[93]=[44,32]++(txt d v++(sepT d l2++[93])) by simp [sepT],ZT,ZT]
        subst a2
        rw [← b2]
        exact ⟨a1,b1,c2⟩
       ·have:(sepT d (v::l2)).length=2+(txt d v).length+(sepT d l2).length:=by simp [sepT]; omega
        have e2:([44,32]:List UInt8).length=2:=rfl
        omega
theorem KD0 {s:List UInt8} {d:Nat} {pv:Nat→Except Nat (Vl × Nat)} (hp:Tx s d pv):∀ {f i:Nat} {l1 t:List Vl} {j:Nat},l1≠[]→UW pv 125 true s f l1 i=.ok (t,j)→∃ l2,l2.length % 2=0∧t=l1++l2∧At s i (mapT d l2++[125])∧j=i+(mapT d l2).length+1
 | 0,i,l1,t,j,h1,h=>by cases h
 | f+1,i,l1,t,j,h1,h=>by
  rw [UW] at h
  split at h
  ·rename_i hh
   cases h
   exact ⟨[],rfl,by simp,U9 hh (by decide),rfl⟩
  ·have hl1:¬ l1.length=0:=fun e=>h1 (List.length_eq_zero_iff.1 e)
   unfold sepP at h
   rw [if_neg hl1] at h
   split at h
   ·cases h
   ·rename_i i1 hi1
    obtain ⟨a1,a2⟩:=J9 hi1
    split at h
    ·cases h
    ·rename_i vs i2 hv
     split at h
     ·cases h
     ·unfold YE at hv
      split at hv
      ·cases hv
      ·rename_i v j1 hpv
       rw [if_pos rfl] at hv
       split at hv
       ·cases hv
       ·rename_i j2 hj2
        obtain ⟨a3,a4⟩:=J9 hj2
        split at hv
        ·cases hv
        ·rename_i w j3 hpw
         cases hv
         obtain ⟨b1,b2⟩:=hp _ _ _ hpv
         obtain ⟨b3,b4⟩:=hp _ _ _ hpw
         obtain ⟨l2,c0,c1,c2,c3⟩:=KD0 hp (by simp) h
         refine ⟨v::w::l2,by simp only [List.length_cons]; omega,by rw [c1]; simp,?_,?_⟩
         ·rw [show mapT d (v::w::l2)++[125]=[44,32]++(txt d v++([58,32]++(txt d w++(mapT d l2++[125])))) by rw [mapT]; simp,ZT,ZT,ZT,ZT]
          subst a2
          rw [← b2,← a4,← b4]
          exact ⟨a1,b1,a3,b3,c2⟩
         ·have:(mapT d (v::w::l2)).length=2+(txt d v).length+2+(txt d w).length+(mapT d l2).length:=by rw [mapT]; simp; omega
          have e2:([44,32]:List UInt8).length=2:=rfl
          have e3:([58,32]:List UInt8).length=2:=rfl
          omega
theorem KGF {s:List UInt8} {d:Nat} {pv:Nat→Except Nat (Vl × Nat)} (hp:Tx s d pv) {f i:Nat} {t:List Vl} {j:Nat} (h:UW pv 93 false s f [] i=.ok (t,j)) :
  At s i (shw [44,32] [44,32] (t.map (txt d))++[93])∧j=i+(shw [44,32] [44,32] (t.map (txt d))).length+1:=by
 cases f with
 | zero=>cases h
 | succ f =>
  rw [UW] at h
  split at h
  ·rename_i hh
   cases h
   exact ⟨U9 hh (by decide),rfl⟩
  ·unfold sepP at h
   rw [if_pos (show ([]:List Vl).length=0 from rfl)] at h
   dsimp only at h
   split at h
   ·cases h
   ·rename_i vs i2 hv
    split at h
    ·cases h
    ·unfold YE at hv
     split at hv
     ·cases hv
     ·rename_i v j1 hpv
      rw [if_neg (by decide)] at hv
      cases hv
      obtain ⟨b1,b2⟩:=hp _ _ _ hpv
      obtain ⟨l2,c1,c2,c3⟩:=KCV hp (by simp) h
      rw [List.nil_append,List.singleton_append] at c1
      rw [c1,KBO,List.append_assoc,ZT,List.length_append]
      subst b2
      exact ⟨⟨b1,c2⟩,by omega⟩
theorem KHW {s:List UInt8} {d:Nat} {pv:Nat→Except Nat (Vl × Nat)} (hp:Tx s d pv) {f i:Nat} {t:List Vl} {j:Nat} (h:UW pv 125 true s f [] i=.ok (t,j)) :
  At s i (shw [58,32] [44,32] (t.map (txt d))++[125])∧j=i+(shw [58,32] [44,32] (t.map (txt d))).length+1:=by
 cases f with
 | zero=>cases h
 | succ f =>
  rw [UW] at h
  split at h
  ·rename_i hh
   cases h
   exact ⟨U9 hh (by decide),rfl⟩
  ·unfold sepP at h
   rw [if_pos (show ([]:List Vl).length=0 from rfl)] at h
   dsimp only at h
   split at h
   ·cases h
   ·rename_i vs i2 hv
    split at h
    ·cases h
    ·unfold YE at hv
     split at hv
     ·cases hv
     ·rename_i v j1 hpv
      rw [if_pos rfl] at hv
      split at hv
      ·cases hv
      ·rename_i j2 hj2
       obtain ⟨a3,a4⟩:=J9 hj2
       split at hv
       ·cases hv
       ·rename_i w j3 hpw
        cases hv
        obtain ⟨b1,b2⟩:=hp _ _ _ hpv
        obtain ⟨b3,b4⟩:=hp _ _ _ hpw
        obtain ⟨l2,c0,c1,c2,c3⟩:=KD0 hp (by simp) h
        rw [List.nil_append] at c1
        rw [c1,show [v,w]++l2=v::w::l2 from rfl,KBP d (l2.length / 2) l2 v w (by omega)]
        rw [show txt d v++([58,32]++(txt d w++mapT d l2))++[125]=txt d v++([58,32]++(txt d w++(mapT d l2++[125]))) by simp,ZT,ZT,ZT]
        subst b2
        subst a4
        subst b4
        refine ⟨⟨b1,a3,b3,c2⟩,?_⟩
        simp only [List.length_append,List.length_cons,List.length_nil] at c3 ⊢
        omega
theorem KCW {s:List UInt8} {i j:Nat} {k:Int} {c:UInt8} {v:Vl} (hc:At s i [c]) (h:NR k s i=.ok (v,j)):∃ n,v=.mk k n [] []∧At s i ([c,91]++itoa n++[93])∧j=i+([c,91]++itoa n++[93]).length:=by
 unfold NR at h
 split at h
 ·cases h
 ·rename_i j1 h1
  obtain ⟨a1,a2⟩:=J9 h1
  split at h
  ·cases h
  ·rename_i n j2 h2
   have hle:=(UF h1).2.1 (by simp)
   obtain ⟨b1,b2⟩:=KDv h2 hle
   split at h
   ·cases h
   ·rename_i j3 h3
    obtain ⟨c1,c2⟩:=J9 h3
    cases h
    have a2:j1=i+2:=a2
    subst a2
    subst b2
    refine ⟨n,rfl,?_,?_⟩
    ·rw [show [c,91]++itoa n++[93]=[c]++([91]++(itoa n++[93])) by simp,ZT,ZT,ZT]
     exact ⟨hc,a1,b1,c1⟩
    ·rw [c2]
     simp only [List.length_append,List.length_cons,List.length_nil]
     omega
theorem KD1 (s:List UInt8):∀ d,Tx s d (pval s d)
 | 0=>fun i v j h=>by cases h
 | d+1=>fun i v j h=>by
  have ih:=KD1 s d
  rw [pval] at h
  split at h
  ·rename_i hc
   have hi:i < s.length:=UE (fun e=>by rw [e] at hc; exact absurd hc (by decide))
   split at h
   ·cases h
   ·rename_i n j1 h1
    cases h
    have ht:txt (d+1) (.mk 1 n [] [])=itoa n:=by rw [txt,if_pos rfl]
    rw [ht]
    exact KDv h1 (by omega)
  split at h
  ·split at h
   ·cases h
   ·rename_i t j1 h1
    cases h
    have ht:txt (d+1) (.mk 2 0 t [])=VI t:=by rw [txt]; rfl
    rw [ht]
    exact KHU h1
  split at h
  ·split at h
   ·cases h
   ·rename_i j1 h1
    cases h
    have ht:txt (d+1) (.mk 3 1 [] [])=[116,114,117,101]:=by rw [txt]; rfl
    rw [ht]
    exact J9 h1
  split at h
  ·split at h
   ·cases h
   ·rename_i j1 h1
    cases h
    have ht:txt (d+1) (.mk 3 0 [] [])=[102,97,108,115,101]:=by rw [txt]; rfl
    rw [ht]
    exact J9 h1
  split at h
  ·rename_i hc
   obtain ⟨n,rfl,h2,h3⟩:=KCW (U9 hc (by decide)) h
   have ht:txt (d+1) (.mk 6 n [] [])=[118,91]++itoa n++[93]:=by rw [txt]; rfl
   rw [ht]
   exact ⟨h2,h3⟩
  split at h
  ·rename_i hc
   obtain ⟨n,rfl,h2,h3⟩:=KCW (U9 hc (by decide)) h
   have ht:txt (d+1) (.mk 7 n [] [])=[101,91]++itoa n++[93]:=by rw [txt]; rfl
   rw [ht]
   exact ⟨h2,h3⟩
  split at h
  ·rename_i hc
   split at h
   ·cases h
   ·rename_i l j1 h1
    cases h
    obtain ⟨a1,a2⟩:=KGF ih h1
    rw [KDx,ZT]
    exact ⟨⟨U9 hc (by decide),a1⟩,by rw [a2]; simp only [List.length_append,List.length_cons,List.length_nil]; omega⟩
  split at h
  ·rename_i hc
   split at h
   ·cases h
   ·rename_i l j1 h1
    cases h
    obtain ⟨a1,a2⟩:=KHW ih h1
    rw [KGD,ZT]
    exact ⟨⟨U9 hc (by decide),a1⟩,by rw [a2]; simp only [List.length_append,List.length_cons,List.length_nil]; omega⟩
  ·cases h
theorem KBR {v:Vl} (hm:mayV 8 v=true) (hw:WfV 8 v):JK (txV v)=(v,0,0):=by
 have hAt:At (txV v) 0 (txt 8 v):=by
  unfold At
  rw [List.drop_zero]
  exact List.take_length
 have h:=KDz (txV v) 8 v hm hw 0 hAt (by
  have:KO (txV v) (0+(txt 8 v).length)=0:=by
   unfold KO
   rw [List.getElem?_eq_none (by show (txt 8 v).length≤_; omega)]
   rfl
  rw [this]
  decide)
 have hr:Nu (txV v)=.ok v:=by
  unfold Nu
  rw [h]
  dsimp only
  rw [if_neg (by show ¬ (0+(txt 8 v).length < (txt 8 v).length); omega)]
 unfold JK
 rw [hr]
 dsimp only
 rw [if_pos hm]
theorem KBS {s:List UInt8} {v:Vl} (h:Nu s=.ok v):txV v=s:=by
 unfold Nu at h
 split at h
 ·cases h
 ·rename_i w j hp
  split at h
  ·cases h
  ·rename_i hj
   cases h
   obtain ⟨a1,a2⟩:=KD1 s 8 0 _ _ hp
   have hle:=(KC3 s 8 0 _ _ hp).2
   unfold At at a1
   rw [List.drop_zero,List.take_of_length_le (by omega)] at a1
   exact a1.symm
end Gx
namespace Gx
open Go Go.Proofs Go.Shelf Go.RowKit Go.Lib
set_option linter.unusedVariables false
set_option linter.unusedSimpArgs false
set_option maxRecDepth 100000
theorem KGG {s:List UInt8} (h:(JK s).2.2=0):Nu s=.ok (JK s).1∧mayV 8 (JK s).1=true:=by
 unfold JK at h ⊢
 cases hr:Nu s with
 | error e =>
  rw [hr] at h
  have h:(22:Int)=0:=h
  exact absurd h (by decide)
 | ok v =>
  rw [hr] at h
  dsimp only at h ⊢
  by_cases hm:mayV 8 v=true
  ·rw [if_pos hm]
   exact ⟨rfl,hm⟩
  ·rw [if_neg hm] at h
   have h:(20:Int)=0:=h
   exact absurd h (by decide)
end Gx
namespace Gx
open Go Go.Proofs Go.Shelf Go.RowKit Go.Lib
set_option linter.unusedVariables false
set_option linter.unusedSimpArgs false
set_option maxRecDepth 100000
theorem KBT (n:Int) (s:List UInt8) (l:List Vl):txV (.mk 1 n s l)=itoa n:=by
 show txt 8 _=_
 rw [txt,if_pos rfl]
theorem KDI (n:Int) (s:List UInt8) (l:List Vl):txV (.mk 2 n s l)=VI s:=by
 show txt 8 _=_
 rw [txt,if_neg (by decide),if_pos rfl]
def tkT (t:Tkn):List UInt8:=if tokB t=false then [] else if t.k=2 then itoa t.n else if t.k=3 then VI t.s else t.s
theorem KGH {k:Int} {s:List UInt8} {n:Nat} {t:Vl→Tkn} (h:(oneV k s n t).2≠0):(JK (s.take n)).2.2=0∧(JK (s.take n)).1.k=k∧txV (JK (s.take n)).1=s.take n∧oneV k s n t=(t (JK (s.take n)).1,n):=by
 unfold oneV oneW at h ⊢
 split at h
 ·exact absurd rfl h
 ·rename_i hh
  have h1:(JK (s.take n)).2.2=0:=Decidable.byContradiction (fun e=>hh (.inl e))
  have h2:(JK (s.take n)).1.k=k:=Decidable.byContradiction (fun e=>hh (.inr e))
  exact ⟨h1,h2,KBS (KGG h1).1,by rw [if_neg hh]⟩
def NumT (t:Tkn):Prop:=t.k=2→∃ v p,JK (itoa t.n)=(v,p,0)∧v.k=1∧v.n=t.n
theorem NumT.of {t:Tkn} (h:I64 t.n):NumT t:=fun _=>⟨.mk 1 t.n [] [],0,by
 rw [← KBT t.n [] []]
 exact KBR (by simp [mayV,KCF]) ⟨h,fun x hx=>by cases hx⟩,rfl,rfl⟩
theorem KCX {t:Tkn} (h:tokB t=true):(t.k=1∧KFt t.s=true∧t.n=0)∨(t.k=2∧t.s=[])∨(t.k=3∧t.s.length≤128∧t.n=0)∨(t.k=4∧∃ c,t.s=[c]∧KC6 c=true∧t.n=0):=by
 unfold tokB at h
 rw [Bool.and_eq_true,Bool.not_eq_true',Bool.or_eq_false_iff] at h
 obtain ⟨⟨_,h2⟩,h3⟩:=h
 have hn:t.k≠2→t.n=0:=fun hk=>by
  rw [decide_eq_true hk,Bool.and_true] at h2
  exact Decidable.byContradiction (fun e=>by rw [decide_eq_true e] at h2; cases h2)
 split at h3
 ·rename_i hk; exact .inl ⟨hk,h3,hn (by omega)⟩
 split at h3
 ·rename_i hk; exact .inr (.inl ⟨hk,of_decide_eq_true h3⟩)
 split at h3
 ·rename_i hk; exact .inr (.inr (.inl ⟨hk,of_decide_eq_true h3,hn (by omega)⟩))
 split at h3
 ·rename_i hk
  refine .inr (.inr (.inr ⟨hk,?_⟩))
  unfold KI9 at h3
  split at h3
  ·rename_i c hc; exact ⟨c,hc,h3,hn (by omega)⟩
  ·cases h3
 ·cases h3
theorem KD2 {t:Tkn} (h:tokB t=true):tkT t=if t.k=2 then itoa t.n else if t.k=3 then VI t.s else t.s:=by
 unfold tkT
 rw [h]
 exact if_neg (by decide)
theorem KGI {s:List UInt8} {p:Nat} (h0:(oneP s).2≠0) (hb:tokB { (oneP s).1 with a:=(p:Int) }=true):tkT { (oneP s).1 with a:=(p:Int) }=s.take (oneP s).2∧NumT { (oneP s).1 with a:=(p:Int) }:=by
 cases s with
 | nil=>exact absurd rfl h0
 | cons c r =>
  rw [KD2 hb]
  clear hb
  rw [NV] at h0 ⊢
  split at h0
  ·rename_i hm
   rw [if_pos hm]
   exact ⟨rfl,fun h=>by have h:(4:Int)=2:=h; omega⟩
  split at h0
  ·rename_i hm hl
   rw [if_neg hm,if_pos hl]
   exact ⟨rfl,fun h=>by have h:(1:Int)=2:=h; omega⟩
  split at h0
  ·rename_i hm hl h39
   rw [if_neg hm,if_neg hl,if_pos h39]
   obtain ⟨h1,h2,h3,h4⟩:=KGH h0
   rw [h4]
   refine ⟨?_,fun h=>by have h:(3:Int)=2:=h; omega⟩
   dsimp only
   rw [if_neg (by decide),if_pos rfl]
   refine Eq.trans ?_ h3
   generalize (JK _).1=v at h2 ⊢
   obtain ⟨k,n,s,l⟩:=v
   have h2:k=2:=h2
   subst h2
   exact (KDI _ _ _).symm
  ·rename_i hm hl h39
   rw [if_neg hm,if_neg hl,if_neg h39]
   obtain ⟨h1,h2,h3,h4⟩:=KGH h0
   rw [h4]
   dsimp only
   generalize hq:JK _=q at h1 h2 h3 ⊢
   obtain ⟨⟨k,n,ss,l⟩,p,e⟩:=q
   have h2:k=1:=h2
   have h1:e=0:=h1
   subst h2
   subst h1
   dsimp only at h3 ⊢
   rw [KBT] at h3
   rw [if_pos rfl,show (Vl.mk 1 n ss l).n=n from rfl,h3]
   exact ⟨rfl,fun _=>⟨_,_,by dsimp only; rw [h3]; exact hq,rfl,rfl⟩⟩
theorem zZ {s:List UInt8} {a a':Nat} {t:Tkn} (ha:a≤s.length) (h:Xh s a=some (t,a')) :
  ∃ p:Nat,t.a=(p:Int)∧a≤p∧tokB t=true∧NumT t∧tkT t≠[]∧(s.drop p).take (tkT t).length=tkT t∧a'=p+(tkT t).length∧p+(tkT t).length≤s.length∧((s.drop a).take (p - a)).all Uh=true:=by
 have hsk:=qO ha
 have hol:=KDA (s.drop (JA s a))
 rw [List.length_drop] at hol
 have hbl:((s.drop a).take (JA s a - a)).all Uh=true:=by
  unfold JA
  rw [Nat.add_sub_cancel_left,show ((s.drop a).take ((s.drop a).takeWhile Uh).length)=(s.drop a).takeWhile Uh from (List.prefix_iff_eq_take.1 (List.takeWhile_prefix _)).symm]
  exact List.all_takeWhile
 unfold Xh at h
 split at h
 ·split at h
  ·cases h
  ·rename_i h0 h1
   cases h
   have ho:(oneP (s.drop (JA s a))).2≠0:=fun e=>h1 (.inl e)
   have hb:tokB { (oneP (s.drop (JA s a))).1 with a:=(JA s a:Int) }=true:=by
    cases hh:tokB { (oneP (s.drop (JA s a))).1 with a:=(JA s a:Int) } with
    | true=>rfl
    | false=>exact absurd (.inr hh) h1
   obtain ⟨hx,hn⟩:=KGI ho hb
   have hl:(tkT { (oneP (s.drop (JA s a))).1 with a:=(JA s a:Int) }).length=(oneP (s.drop (JA s a))).2:=by
    rw [hx,List.length_take,List.length_drop]; omega
   refine ⟨JA s a,rfl,hsk.1,hb,hn,fun e=>by rw [e] at hl; exact ho hl.symm,?_,by rw [hl],by rw [hl]; omega,hbl⟩
   rw [hl,hx]
 ·cases h
theorem KCY {s:List UInt8}:∀ (f a:Nat),a≤s.length→s.length - a < f→∀ t ∈ (allT s a).1,tokB t=true∧NumT t
 | 0,a,ha,hf=>by omega
 | f+1,a,ha,hf=>by
  cases hn:Xh s a with
  | none=>rw [Yo hn]; intro t ht; cases ht
  | some p =>
   obtain ⟨t,a'⟩:=p
   have hlt:=XC ha hn
   rw [Yp ha hn]
   intro x hx
   rcases List.mem_cons.1 hx with rfl | hx
   ·obtain ⟨_,_,_,h1,h2,_⟩:=zZ ha hn
    exact ⟨h1,h2⟩
   ·exact KCY f a' hlt.2 (by omega) x hx
end Gx
namespace Gx
open Go Go.Proofs Go.Shelf Go.RowKit Go.Lib
set_option linter.unusedVariables false
set_option linter.unusedSimpArgs false
set_option maxRecDepth 100000
def lexP (s:List UInt8):List Tkn × Nat × Int :=
 if 16384 < s.length then ([],0,3) else
  match (allT s 0).1[4096]? with
  | some t=>([],t.a.toNat,3)
  | none=>if (allT s 0).2 < s.length then ([],(allT s 0).2,150) else ((allT s 0).1,s.length,0)
theorem KGJ {s:List UInt8}:∀ (f a:Nat),a≤s.length→s.length - a < f→(allT s a).2≤s.length
 | 0,a,ha,hf=>by omega
 | f+1,a,ha,hf=>by
  cases hn:Xh s a with
  | none=>rw [Yo hn]; exact (qO ha).2
  | some p =>
   obtain ⟨t,a'⟩:=p
   have hlt:=XC ha hn
   rw [Yp ha hn]
   exact KGJ f a' hlt.2 (by omega)
theorem KD3 (s:List UInt8):(allT s 0).2≤s.length:=KGJ _ 0 (Nat.zero_le _) (Nat.lt_succ_self _)
theorem KEk (s:List UInt8):∀ t ∈ (allT s 0).1,tokB t=true∧NumT t:=KCY _ 0 (Nat.zero_le _) (Nat.lt_succ_self _)
theorem KJE {s:List UInt8} (h:(lexP s).2.2=0):s.length≤16384∧lexP s=((allT s 0).1,s.length,0)∧(allT s 0).1.length≤4096∧(allT s 0).2=s.length:=by
 have hle:=KD3 s
 unfold lexP at h ⊢
 split at h
 ·have h:(3:Int)=0:=h
  omega
 ·rename_i h1
  rw [if_neg h1]
  split at h
  ·have h:(3:Int)=0:=h
   omega
  ·rename_i h2
   split at h
   ·have h:(150:Int)=0:=h
    omega
   ·rename_i h3
    rw [if_neg h3]
    refine ⟨by omega,rfl,?_,by omega⟩
    have:=List.getElem?_eq_none_iff.1 h2
    omega
def KDJ (s:List UInt8):Nat→List Tkn→Prop
 | a,[]=>((s.drop a).take (s.length - a)).all Uh=true
 | a,t::r=>∃ p:Nat,t.a=(p:Int)∧a≤p∧tokB t=true∧tkT t≠[]∧(s.drop p).take (tkT t).length=tkT t∧p+(tkT t).length≤s.length∧((s.drop a).take (p - a)).all Uh=true∧KDJ s (p+(tkT t).length) r
theorem KHX (s:List UInt8) (a:Nat):((s.drop a).take (JA s a - a)).all Uh=true:=by
 unfold JA
 rw [Nat.add_sub_cancel_left,show ((s.drop a).take ((s.drop a).takeWhile Uh).length)=(s.drop a).takeWhile Uh from (List.prefix_iff_eq_take.1 (List.takeWhile_prefix _)).symm]
 exact List.all_takeWhile
theorem za {s:List UInt8}:∀ (f a:Nat),a≤s.length→s.length - a < f→(allT s a).2=s.length→KDJ s a (allT s a).1
 | 0,a,ha,hf,_=>by omega
 | f+1,a,ha,hf,he=>by
  cases hn:Xh s a with
  | none =>
   rw [Yo hn] at he ⊢
   have he:JA s a=s.length:=he
   have:=KHX s a
   rw [he] at this
   exact this
  | some p =>
   obtain ⟨t,a'⟩:=p
   have hlt:=XC ha hn
   rw [Yp ha hn] at he ⊢
   obtain ⟨p,h1,h2,h3,_,h4,h5,h6,h7,h8⟩:=zZ ha hn
   subst h6
   exact ⟨p,h1,h2,h3,h4,h5,h7,h8,za f _ hlt.2 (by omega) he⟩
end Gx
namespace Gx
open Go
set_option linter.unusedVariables false
set_option linter.unusedSimpArgs false
set_option maxRecDepth 100000
theorem KJF {s:List UInt8} {b c a:Nat} (ha:a≤s.length) (hs:s.length≤1099511627776) (hb:b≠gER) :
  SeqT Go.Proofs.Tryz.prog (allT s a).1 (.func (.func Ua) #[] #[.pointer (some ⟨c,0,none⟩)]) b (fun h1=>ErrV h1∧h1[c]?=some (.cells #[.pointer (some ⟨b,0,none⟩)] Vy (0,0))) (Vr s a) (fun h1=>h1[b]?=some (Vr s (allT s a).2)) :=
 fun l Inv Stop h hU hC g h0 hround=>KLO ha hs hb hU hC g h0 hround
theorem KJG {β:Type} {lo n:Nat} {h:Heap} {Q:β→Heap→Prop} {r:Sl} {ts:List Tkn} {t:Tkn} {f:Sl→M β} (G:Gw lo h r 4 (Vp (tks ts))) (hlo:lo≤h.size) (hm:ts.length≤1099511627776) (hn:h[n]?=some (.cells t.cells KR (0,0)))
  (H:∀ h' r',Gw lo h' r' 4 (Vp (tks (ts++[t])))→h.size≤h'.size→(∀ i,i < h.size→¬ Sl.on r i→h'[i]?=h[i]?)→(f r').wp h' Q):(ldG 4 ⟨n,0,none⟩>>=fun x=>KAe 4 1 (#[.int .i64 0,.string ByteArray.empty,.int .i64 0,.int .i64 0]:Array Value) [(0,.agg x)]>>=fun y=>bdL KR 1 y>>=fun z=>apL KR 4 40 (#[.int .i64 0,.string ByteArray.empty,.int .i64 0,.int .i64 0]:Array Value) r z>>=f).wp h Q:=by
 refine ldR hn rfl (KDW rfl (KEF ?_))
 have e6:=Ext.push h (.cells t.cells KR)
 have g6:(h.push (.cells t.cells KR))[h.size]?=some (.cells t.cells KR (0,0)):=ZH
 generalize h.push (.cells t.cells KR)=h6 at e6 g6 ⊢
 have G6:=G.ext e6
 have hrl:=G6.len
 rw [W9 (KHJ ts),zV] at hrl
 have hs6:=e6.size
 have hnew:Vp (tks [t])=t.cells.toList:=by simp [Vp,tks]
 refine KAh (vs:=Vp (tks ts)) (news:=Vp (tks [t])) rfl G6 (by rw [hnew]; rfl) (.inr ⟨_,rfl,fun j v hj=>?_⟩) (fun v hv=>YK t v (by rw [hnew] at hv; exact hv)) (by dsimp only; omega) (by dsimp only; omega) (by omega) (fun h7 r7 G7 hlen7 hs7 same7 on7=>?_)
 ·rw [Ki,Nat.zero_add,KM g6]
  rw [hnew] at hj
  simpa using hj
 ·refine H h7 r7 ?_ (by omega) (fun i hi ho=>(same7 i (by omega) ho).trans (e6.same i hi))
  rw [KJA]
  unfold Vp at G7 ⊢
  rw [List.flatMap_append]
  exact G7
structure LxJ (hA:Heap) (c b n6:Nat) (t6:TypeId) (ts:List Tkn) (h:Heap):Prop where
 size:hA.size+2≤h.size
 same:∀ i,i < hA.size→i≠b→i≠n6→h[i]?=hA[i]?
 df:h[hA.size]?=some (.deferred (some []))
 c6:∃ r,h[n6]?=some (.cells #[r.v] t6 (0,0))∧Gw (hA.size+2) h r 4 (Vp (tks ts))
theorem LxJ.km {hA:Heap} {c b n6 k:Nat} {t6:TypeId} {ts:List Tkn} {h h':Heap} (J:LxJ hA c b n6 t6 ts h) (u:Kb k h h') (hk:k=b∨k=hA.size+1) (h6:n6 < hA.size) (hb6:b≠n6) (hb:b < hA.size):LxJ hA c b n6 t6 ts h':=by
 obtain ⟨r,c6,G⟩:=J.c6
 have hz:=J.size
 exact ⟨by have:=u.size; omega,fun i hi hib hi6=>(u.same i (by omega) (by omega)).trans (J.same i hi hib hi6),u.blk J.df (by omega),⟨r,u.blk c6 (by omega),G.same (fun i hi=>u.same i (G.lt hi).1 (by have:=(G.lt hi).2; omega))⟩⟩
theorem Upd.kb {k:Nat} {h h':Heap} (u:Upd k h h'):Kb k h h':=Km.upd u rfl
theorem KKc {p:UInt8→Bool}:∀ l:List UInt8,(l.dropWhile p).takeWhile p=[]
 | []=>rfl
 | c::l=>by
  cases h:p c with
  | true=>rw [List.dropWhile_cons_of_pos h]; exact KKc l
  | false=>rw [List.dropWhile_cons_of_neg (by rw [h]; decide),List.takeWhile_cons_of_neg (by rw [h]; decide)]
theorem KGK {p:UInt8→Bool}:∀ l:List UInt8,l.drop (l.takeWhile p).length=l.dropWhile p
 | []=>rfl
 | c::l=>by
  cases h:p c with
  | true=>rw [List.dropWhile_cons_of_pos h,List.takeWhile_cons_of_pos h,List.length_cons,List.drop_succ_cons]; exact KGK l
  | false=>rw [List.dropWhile_cons_of_neg (by rw [h]; decide),List.takeWhile_cons_of_neg (by rw [h]; decide)]; rfl
theorem KEl (s:List UInt8) (a:Nat):JA s (JA s a)=JA s a:=by
 have hd:s.drop (JA s a)=(s.drop a).dropWhile Uh:=by
  unfold JA
  rw [← List.drop_drop,KGK]
 have:((s.drop (JA s a)).takeWhile Uh).length=0:=by rw [hd,KKc]; rfl
 show JA s a+((s.drop (JA s a)).takeWhile Uh).length=JA s a
 omega
theorem KCZ {s:List UInt8}:∀ (f a:Nat),a≤s.length→s.length - a < f→JA s (allT s a).2=(allT s a).2
 | 0,a,ha,hf=>by omega
 | f+1,a,ha,hf=>by
  cases hn:Xh s a with
  | none=>rw [Yo hn]; exact KEl s a
  | some p =>
   obtain ⟨t,a'⟩:=p
   have hlt:=XC ha hn
   rw [Yp ha hn]
   exact KCZ f a' hlt.2 (by omega)
theorem KD4 {n2 n3 n4:Nat} {t2 t3 t4:TypeId} {ds:List Nat} {v2:Sl} {v3 v4:Int} {h:Heap} {Q:Sl × Int × Int→Heap→Prop}
  (g2:h[n2]?=some (.cells #[v2.v] t2 (0,0))) (g3:h[n3]?=some (.cells #[.int .i64 v3] t3 (0,0))) (g4:h[n4]?=some (.cells #[.int .i64 v4] t4 (0,0)))
  (hd:ds=[]∨∃ d,ds=[d]∧h[d]?=some (.deferred (some []))∧n2≠d∧n3≠d∧n4≠d)
  (H:∀ h',h'.size=h.size→(∀ i,(∀ d ∈ ds,i≠d)→h'[i]?=h[i]?)→Q (v2,v3,v4) h') :
  (shut ds>>=fun _=>ldL ⟨n2,0,none⟩>>=fun a=>ldI .i64 ⟨n3,0,none⟩>>=fun b=>ldI .i64 ⟨n4,0,none⟩>>=fun c=>(M.pure (a,b,c):M (Sl × Int × Int))).wp h Q:=by
 rcases hd with rfl | ⟨d,rfl,gd,e2,e3,e4⟩
 ·exact VZ (oneC g2) (Zo (oneC g3) (Zo (oneC g4) (KG (H h rfl (fun _ _=>rfl)))))
 ·refine ⟨gd,?_⟩
  have u:=Upd.set_ h d (.deferred none)
  exact VZ (oneC ((u.ne _ e2).trans g2)) (Zo (oneC ((u.ne _ e3).trans g3)) (Zo (oneC ((u.ne _ e4).trans g4)) (KG (H _ u.size (fun i hi=>u.ne i (hi d (by simp)))))))
def KKd (c2 c3 c4 c6:Addr):Addr→M Nat:=fun Xx26=>do
  let Xx30←ldL c6
  M.ite ((Xx30.len:Int) == 4096) (do
   let Xx32←ldI .i64 ((Xx26).add 3)
   stV c2 ((Sl.nil:Sl).v)
   chk (fun h:Heap=>(KL h ((Xx26).add 3)=some (.int .i64 Xx32)))
   stV c3 (.int .i64 Xx32)
   stV c4 (.int .i64 3)
   M.pure 1
   ) (do
   let Xx36←ldL c6
   let Xx37←ldG 4 Xx26
   let y_39←KAe 4 1 (#[.int .i64 0,.string ByteArray.empty,.int .i64 0,.int .i64 0]:Array Value) [(0,.agg Xx37)]
   let Xx38←bdL KR 1 y_39
   let Xx40←apL KR 4 40 (#[.int .i64 0,.string ByteArray.empty,.int .i64 0,.int .i64 0]:Array Value) Xx36 Xx38
   stV c6 ((Xx40:Sl).v)
   M.pure 0
   )
structure LxE (h0 hA:Heap) (n2 n3 n4:Nat) (v3:Int) (h:Heap):Prop where
 size:hA.size+2≤h.size
 same:∀ i,i < h0.size→h[i]?=h0[i]?
 df:h[hA.size]?=some (.deferred (some []))
 g2:h[n2]?=some (.cells #[(Sl.nil:Sl).v] Jp (0,0))
 g3:h[n3]?=some (.cells #[.int .i64 v3] XF (0,0))
 g4:h[n4]?=some (.cells #[.int .i64 3] N3 (0,0))
theorem KD5 {s:List UInt8} {h:Heap} {Q:Sl × Int × Int→Heap→Prop} (he:ErrV h)
  (H:∀ h' r,Ext h h'→TkR h' r (lexP s).1→r.len≤r.cap→Q (r,((lexP s).2.1:Int),(lexP s).2.2) h'):(GS (bs s)).wp h Q:=by
 unfold GS
 refine JO (fun h1 e1 s1 g1=>JO (fun h2 e2 s2 g2=>JO (fun h3 e3 s3 g3=>?_)))
 rw [ZB]
 have hER:gER < h.size:=by obtain ⟨t,p,hc⟩:=he; exact Xo hc
 have E3:=(e1.trans e2).trans e3
 have n1:h3[h.size]?=some (.cells #[.slice none 0 0] Jp (0,0)):=e3.blk (e2.blk g1)
 have n2:=e3.blk g2
 refine Kl (fun hlong=>?_) (fun hshort=>?_)
 ·unfold lexP at H
  rw [if_pos (by have:=of_decide_eq_true hlong; omega)] at H
  refine stO n1 (zg _) (fun h4 u4 k1=>stO ((u4.ne _ (by omega)).trans n2) rfl (fun h5 u5 k2=>stO ((u5.ne _ (by omega)).trans ((u4.ne _ (by omega)).trans g3)) rfl (fun h6 u6 k3=>?_)))
  have k1':=(u6.ne _ (by omega)).trans ((u5.ne _ (by omega)).trans k1)
  have k2':=(u6.ne _ (by omega)).trans k2
  exact KD4 (v2:=Sl.nil) k1' k2' k3 (.inl rfl) (fun h' hz hsame=>H h' Sl.nil ⟨by rw [hz,u6.size,u5.size,u4.size]; exact E3.size,fun i hi=>(hsame i (fun d hd=>by cases hd)).trans ((u6.ne _ (by omega)).trans ((u5.ne _ (by omega)).trans ((u4.ne _ (by omega)).trans (E3.same i hi))))⟩ (TkR.nil _) (Nat.le_refl _))
 ·have hshort:=of_decide_eq_false hshort
  have hsl:s.length≤16384:=by omega
  have hs:s.length≤1099511627776:=by omega
  refine JO (fun h4 e4 s4 g4=>JO (fun h5 e5 s5 g5=>?_))
  unfold Wm
  refine ZA (JO (fun hA eA sA gA=>Zc ?_))
  have E5:=(E3.trans e4).trans e5
  have EA:=E5.trans eA
  obtain ⟨al,hal⟩:∃ al,al=allT s 0:=⟨_,rfl⟩
  have gb:hA[h3.size]?=some (Vr s 0):=eA.blk (e5.blk g4)
  have hle:=KD3 s
  have hskp:=KCZ _ 0 (Nat.zero_le s.length) (Nat.lt_succ_self _)
  have heA:=he.ext EA
  have m1:hA[h.size]?=some (.cells #[.slice none 0 0] Jp (0,0)):=((e4.trans e5).trans eA).blk n1
  have m2:=((e4.trans e5).trans eA).blk n2
  have m3:=((e4.trans e5).trans eA).blk g3
  have m6:=eA.blk g5
  refine KP (KLP (Yb:=KKd ⟨h.size,0,none⟩ ⟨h1.size,0,none⟩ ⟨h2.size,0,none⟩ ⟨h4.size,0,none⟩) (fun l x=>rfl) (c:=.ret) rfl (fun l hh=>by cases hh) (ts:=(allT s 0).1) (b:=h3.size)
   (fun i h'=>i≤4096∧LxJ hA h5.size h3.size h4.size Jp ((allT s 0).1.take i) h')
   (fun h'=>∃ t,(allT s 0).1[4096]?=some t∧LxE h hA h.size h1.size h2.size t.a h') ?_ ?_ ?_ ?_ ?_ gb (KJF (c:=h5.size) (Nat.zero_le _) hs (by omega)) ?_ ?_ ?_ ?_)
  ·exact fun i h' h'' hj u=>⟨hj.1,hj.2.km u.kb (.inr rfl) (by omega) (by omega) (by omega)⟩
  ·rintro h' h'' ⟨t,ht,hj⟩ u
   exact ⟨t,ht,by rw [u.size]; exact hj.size,fun i hi=>(u.ne _ (by omega)).trans (hj.same i hi),(u.ne _ (by omega)).trans hj.df,(u.ne _ (by omega)).trans hj.g2,(u.ne _ (by omega)).trans hj.g3,(u.ne _ (by omega)).trans hj.g4⟩
  ·exact fun h' h'' hj u=>(u.ne _ (by omega)).trans hj
  ·exact fun i h' h'' hj hz u=>⟨hj.1,hj.2.km u (.inl rfl) (by omega) (by omega) (by omega)⟩
  ·rintro i h' ⟨_,hj⟩
   refine ⟨?_,(hj.same _ (by omega) (by omega) (by omega)).trans gA⟩
   obtain ⟨t,p,hc⟩:=heA
   refine ⟨t,p,?_⟩
   unfold KL at hc ⊢
   rw [show (⟨gER,0,none⟩:Addr).block=gER from rfl] at hc ⊢
   rw [hj.same gER (by omega) (by omega) (by omega)]
   exact hc
  ·intro r
   have e7:Ext hA ((hA.push (.deferred (some []))).push (Yu r .ready none)):=(Ext.push _ _).pushed _
   exact ⟨Nat.zero_le _,by simp,fun i hi _ _=>e7.same i hi,by rw [VL (by simp)]; exact ZH,⟨Sl.nil,e7.blk m6,Gw.nil _ _ _⟩⟩
  ·rintro i hi h' o n ⟨him,J⟩ hn hnl ho
   obtain ⟨r,c6,G⟩:=J.c6
   have hrl:=G.tkR.1
   rw [List.length_take,Nat.min_eq_left (by omega)] at hrl
   have hz:=J.size
   unfold KKd
   refine VZ (oneC c6) (Kl (fun hc=>?_) (fun hc=>?_))
   ·rw [eqI] at hc
    have hc:=of_decide_eq_true hc
    obtain rfl:i=4096:=by omega
    have q1:=(J.same h.size (by omega) (by omega) (by omega)).trans m1
    have q2:=(J.same h1.size (by omega) (by omega) (by omega)).trans m2
    have q3:=(J.same h2.size (by omega) (by omega) (by omega)).trans m3
    refine Zo (n:=((allT s 0).1[4096]).a) (by rw [Ki,KM hn]; rfl) (stO q1 (zg _) (fun h6 u6 k1=>qj (by rw [Ki,KM ((u6.ne n (by omega)).trans hn)]; rfl) (stO ((u6.ne _ (by omega)).trans q2) rfl (fun h7 u7 k2=>stO ((u7.ne _ (by omega)).trans ((u6.ne _ (by omega)).trans q3)) rfl (fun h8 u8 k3=>KG ?_)))))
    have keep:∀ k,k≠h.size→k≠h1.size→k≠h2.size→h8[k]?=h'[k]?:=fun k a1 a2 a3=>(u8.ne k a3).trans ((u7.ne k a2).trans (u6.ne k a1))
    refine ⟨(keep _ (by omega) (by omega) (by omega)).trans ho,keep _ (by omega) (by omega) (by omega),.inr ⟨rfl,(allT s 0).1[4096],List.getElem?_eq_getElem hi,by rw [u8.size,u7.size,u6.size]; exact hz,fun k hk=>(keep k (by omega) (by omega) (by omega)).trans ((J.same k (by have:=EA.size; omega) (by have:=E3.size; omega) (by have:=(E3.trans e4).size; omega)).trans (EA.same k hk)),(keep _ (by omega) (by omega) (by omega)).trans J.df,(u8.ne _ (by omega)).trans ((u7.ne _ (by omega)).trans k1),(u8.ne _ (by omega)).trans k2,k3⟩⟩
   ·rw [eqI] at hc
    have hc:=of_decide_eq_false hc
    refine VZ (oneC c6) (KJG G (by omega) (by rw [List.length_take]; omega) hn (fun h6 r6 G6 hs6 same6=>?_))
    have hG:∀ {k:Nat},Sl.on r k→k < h'.size∧hA.size+2≤k:=fun ho=>G.lt ho
    have nn:∀ k,k < hA.size+2→¬ Sl.on r k:=fun k hk ho=>by have:=(hG ho).2; omega
    have c6':=(same6 _ (by omega) (nn h4.size (by omega))).trans c6
    refine stO c6' (zg _) (fun h7 u7 k6=>KG ?_)
    have keep:∀ k,k < hA.size+2→k≠h4.size→h7[k]?=h'[k]?:=fun k hk hk6=>(u7.ne k hk6).trans (same6 k (by omega) (nn k hk))
    refine ⟨(keep _ (by omega) (by omega)).trans ho,keep _ (by omega) (by omega),.inl ⟨rfl,by omega,by rw [u7.size]; omega,fun k hk hkb hk6=>(keep k (by omega) hk6).trans (J.same k hk hkb hk6),(keep _ (by omega) (by omega)).trans J.df,⟨r6,k6,?_⟩⟩⟩
    rw [List.take_succ_eq_append_getElem hi]
    exact G6.same (fun k hk=>u7.ne k (by have:=(G6.lt hk).2; omega))
  ·rintro h' ⟨him,J⟩ hend
   refine iteF rfl (KP (zU hend hle hs (fun h6 u6 k6=>?_)))
   rw [hskp] at k6 ⊢
   obtain ⟨r,c6,G⟩:=J.c6
   rw [List.take_length] at G
   have hz:=J.size
   have nn:∀ k,k < hA.size+2→¬ Sl.on r k:=fun k hk ho=>by have:=(G.lt ho).2; omega
   have q1:=(u6.ne h.size (by omega)).trans ((J.same h.size (by omega) (by omega) (by omega)).trans m1)
   have q2:=(u6.ne h1.size (by omega)).trans ((J.same h1.size (by omega) (by omega) (by omega)).trans m2)
   have q3:=(u6.ne h2.size (by omega)).trans ((J.same h2.size (by omega) (by omega) (by omega)).trans m3)
   have qd:=(u6.ne hA.size (by omega)).trans J.df
   have hnone:(allT s 0).1[4096]?=none:=List.getElem?_eq_none him
   unfold lexP at H
   rw [if_neg (by omega),hnone] at H
   dsimp only at H
   refine Kl (fun hlt=>?_) (fun hge=>?_)
   ·rw [if_pos (of_decide_eq_true hlt)] at H
    refine ZJ (Zo (qJ k6) (stO q1 (zg _) (fun h7 u7 k1=>qj (qJ ((u7.ne _ (by omega)).trans k6)) (stO ((u7.ne _ (by omega)).trans q2) rfl (fun h8 u8 k2=>stO ((u8.ne _ (by omega)).trans ((u7.ne _ (by omega)).trans q3)) rfl (fun h9 u9 k3=>?_))))))
    have keep:∀ k,k≠h3.size→k≠h.size→k≠h1.size→k≠h2.size→h9[k]?=h'[k]?:=fun k a0 a1 a2 a3=>(u9.ne k a3).trans ((u8.ne k a2).trans ((u7.ne k a1).trans (u6.ne k a0)))
    exact KD4 (v2:=Sl.nil) ((u9.ne _ (by omega)).trans ((u8.ne _ (by omega)).trans k1)) ((u9.ne _ (by omega)).trans k2) k3 (.inr ⟨hA.size,rfl,(keep _ (by omega) (by omega) (by omega) (by omega)).trans J.df,by omega,by omega,by omega⟩)
     (fun h' hz' hsame=>H h' Sl.nil ⟨by rw [hz',u9.size,u8.size,u7.size,u6.size]; have:=EA.size; omega,fun i hi=>(hsame i (fun d hd=>by have:=EA.size; simp at hd; omega)).trans ((keep i (by have:=E3.size; omega) (by omega) (by omega) (by omega)).trans ((J.same i (by have:=EA.size; omega) (by have:=E3.size; omega) (by have:=(E3.trans e4).size; omega)).trans (EA.same i hi)))⟩ (TkR.nil _) (Nat.le_refl _))
   ·rw [if_neg (of_decide_eq_false hge)] at H
    have q6:=(u6.ne h4.size (by omega)).trans c6
    refine VZ (oneC q6) (stO q1 (zg _) (fun h7 u7 k1=>stO ((u7.ne _ (by omega)).trans q2) rfl (fun h8 u8 k2=>stO ((u8.ne _ (by omega)).trans ((u7.ne _ (by omega)).trans q3)) rfl (fun h9 u9 k3=>?_))))
    have keep:∀ k,k≠h3.size→k≠h.size→k≠h1.size→k≠h2.size→h9[k]?=h'[k]?:=fun k a0 a1 a2 a3=>(u9.ne k a3).trans ((u8.ne k a2).trans ((u7.ne k a1).trans (u6.ne k a0)))
    exact KD4 (v2:=r) ((u9.ne _ (by omega)).trans ((u8.ne _ (by omega)).trans k1)) ((u9.ne _ (by omega)).trans k2) k3 (.inr ⟨hA.size,rfl,(keep _ (by omega) (by omega) (by omega) (by omega)).trans J.df,by omega,by omega,by omega⟩)
     (fun h'' hz' hsame=>H h'' r ⟨by rw [hz',u9.size,u8.size,u7.size,u6.size]; have:=EA.size; omega,fun i hi=>(hsame i (fun d hd=>by have:=EA.size; simp at hd; omega)).trans ((keep i (by have:=E3.size; omega) (by omega) (by omega) (by omega)).trans ((J.same i (by have:=EA.size; omega) (by have:=E3.size; omega) (by have:=(E3.trans e4).size; omega)).trans (EA.same i hi)))⟩
      (G.same (fun k hk=>by have:=(G.lt hk).2; exact (hsame k (fun d hd=>by simp at hd; omega)).trans (keep k (by omega) (by omega) (by omega) (by omega)))).tkR G.cap)
  ·rintro h' ⟨t,ht,J⟩
   unfold lexP at H
   rw [if_neg (by omega),ht] at H
   dsimp only at H
   have hta:((t.a.toNat:Nat):Int)=t.a:=by
    obtain ⟨hi,hte⟩:=List.getElem?_eq_some_iff.1 ht
    have:=(KEk s t (hte ▸ List.getElem_mem hi)).1
    have:¬ t.a < 0:=fun hneg=>by
     unfold tokB at this
     rw [decide_eq_true hneg] at this
     simp at this
    omega
   rw [hta] at H
   exact iteT rfl (KD4 (v2:=Sl.nil) J.g2 J.g3 J.g4 (.inr ⟨hA.size,rfl,J.df,by omega,by omega,by omega⟩)
    (fun h'' hz' hsame=>H h'' Sl.nil ⟨by rw [hz']; have:=J.size; have:=EA.size; omega,fun i hi=>(hsame i (fun d hd=>by have:=EA.size; simp at hd; omega)).trans (J.same i hi)⟩ (TkR.nil _) (Nat.le_refl _)))
end Gx
namespace Gx
open Go Go.Proofs Go.Shelf Go.RowKit Go.Lib
set_option linter.unusedVariables false
set_option linter.unusedSimpArgs false
set_option maxRecDepth 100000
end Gx
namespace Gx
open Go Go.Proofs Go.Shelf Go.RowKit Go.Lib
set_option linter.unusedVariables false
set_option linter.unusedSimpArgs false
set_option maxRecDepth 100000
structure Rgd (h:Heap) (b:Nat) (s:List UInt8) (i:Nat):Prop where
 blk:h[b]?=some (.cells #[.string (bs s),.int .i64 (i:Int),.int .i64 (-1)] Vd (0,0))
 le:i≤s.length
 small:s.length≤1099511627776
def Rx (h:Heap) (b:Nat) (s:List UInt8) (e:Nat):Prop:=∃ i:Nat,i≤s.length∧s.length≤1099511627776∧h[b]?=some (.cells #[.string (bs s),.int .i64 (i:Int),.int .i64 (e:Int)] Vd (0,0))
theorem Rgd.ext {h h':Heap} {b:Nat} {s:List UInt8} {i:Nat} (R:Rgd h b s i) (e:Ext h h'):Rgd h' b s i:=⟨e.blk R.blk,R.le,R.small⟩
theorem Rgd.lt {h:Heap} {b:Nat} {s:List UInt8} {i:Nat} (R:Rgd h b s i):b < h.size:=Ul R.blk
theorem Rgd.upd {h h':Heap} {b g:Nat} {s:List UInt8} {i:Nat} (R:Rgd h b s i) (u:Upd g h h') (hg:b≠g):Rgd h' b s i:=⟨(u.ne b hg).trans R.blk,R.le,R.small⟩
theorem Rx.ext {h h':Heap} {b:Nat} {s:List UInt8} {i:Nat} (R:Rx h b s i) (e:Ext h h'):Rx h' b s i:=let ⟨k,h1,h2,h3⟩:=R; ⟨k,h1,h2,e.blk h3⟩
theorem Rx.upd {h h':Heap} {b g:Nat} {s:List UInt8} {i:Nat} (R:Rx h b s i) (u:Upd g h h') (hg:b≠g):Rx h' b s i:=let ⟨k,h1,h2,h3⟩:=R; ⟨k,h1,h2,(u.ne b hg).trans h3⟩
theorem Rx.lt {h:Heap} {b:Nat} {s:List UInt8} {i:Nat} (R:Rx h b s i):b < h.size:=let ⟨k,h1,h2,h3⟩:=R; Ul h3
section
variable {β:Type} {h:Heap} {Q:β→Heap→Prop} {b i e:Nat} {s:List UInt8}
end
section
variable {h:Heap} {b i e:Nat} {s:List UInt8}
end
end Gx
namespace Gx
open Go
set_option linter.unusedVariables false
set_option linter.unusedSimpArgs false
end Gx
namespace Gx
open Go Go.Proofs Go.Shelf Go.RowKit Go.Lib
set_option linter.unusedVariables false
set_option linter.unusedSimpArgs false
set_option maxRecDepth 100000
end Gx
namespace Gx
open Go Go.Proofs Go.Shelf Go.RowKit Go.Lib
set_option linter.unusedVariables false
set_option linter.unusedSimpArgs false
set_option maxRecDepth 100000
end Gx
namespace Gx
open Go
set_option linter.unusedVariables false
set_option linter.unusedSimpArgs false
set_option maxRecDepth 100000
end Gx
namespace Gx
open Go
set_option linter.unusedVariables false
set_option linter.unusedSimpArgs false
set_option maxRecDepth 100000
end Gx
namespace Gx
open Go
set_option linter.unusedVariables false
set_option linter.unusedSimpArgs false
set_option maxRecDepth 100000
theorem KKe:lexP [103,46,86,40,49,41]=([⟨1,[103],0,0⟩,⟨4,[46],0,1⟩,⟨1,[86],0,2⟩,⟨4,[40],0,3⟩,⟨2,[],1,4⟩,⟨4,[41],0,5⟩],6,0):=by kernel_rfl
theorem qC {h:Heap} {Q:Bool→Heap→Prop} (he:ErrV h) (H:∀ h',Ext h h'→Q true h'):(JP).wp h Q:=by
 unfold JP
 refine KP (KD5 (s:=[103,46,86,40,49,41]) he (fun h1 r e1 R hc=>?_))
 rw [KKe] at R ⊢
 obtain ⟨a,ha,hca⟩:=R.at (i:=4) (by decide)
 have hrl:r.len=6:=R.1
 refine Gq (by rw [hrl]; rfl) (ZA (Gr (b:=a) (by decide) (by rw [hrl]; decide) ha (ZA (qE (cs:=Tkn.cells ⟨2,[],1,4⟩) rfl hca ?_))))
 refine ZA ⟨true,⟨⟨⟨_,rfl,rfl⟩,⟨_,rfl,rfl⟩,⟨_,rfl,rfl⟩,⟨_,rfl,rfl⟩,trivial⟩,⟨⟨_,rfl,rfl⟩,⟨_,rfl,rfl⟩,⟨_,rfl,rfl⟩,⟨_,rfl,rfl⟩,trivial⟩,by decide +kernel⟩,?_⟩
 exact Zc (Gq rfl (Zc (Gq rfl (Zc (KG (H _ e1))))))
end Gx
namespace Gx
open Go Go.Lib
set_option linter.unusedVariables false
set_option linter.unusedSimpArgs false
set_option maxRecDepth 100000
theorem KHY {s:List UInt8} {d i j:Nat} {v:Vl} (hi:i≤s.length) (h:pval s d i=.ok (v,j)):I64 v.n:=by
 have z:I64 0:=⟨by decide,by decide⟩
 have o:I64 1:=⟨by decide,by decide⟩
 cases d with
 | zero=>cases h
 | succ d =>
  rw [pval] at h
  split at h
  ·split at h
   ·cases h
   ·rename_i n j1 h1
    cases h
    exact (zO h1 hi).1
  split at h
  ·split at h
   ·cases h
   ·cases h; exact z
  split at h
  ·split at h
   ·cases h
   ·cases h; exact o
  split at h
  ·split at h
   ·cases h
   ·cases h; exact z
  split at h
  ·obtain ⟨n,rfl,hn,_⟩:=Xq h; exact hn
  split at h
  ·obtain ⟨n,rfl,hn,_⟩:=Xq h; exact hn
  split at h
  ·split at h
   ·cases h
   ·cases h; exact z
  split at h
  ·split at h
   ·cases h
   ·cases h; exact z
  ·cases h
theorem KEm (s:List UInt8):I64 (JK s).1.n:=by
 have z:I64 (Vl.n vl0):=⟨by decide,by decide⟩
 unfold JK
 split
 ·exact z
 ·rename_i v hv
  split
  ·unfold Nu at hv
   split at hv
   ·cases hv
   ·rename_i w j hp
    split at hv
    ·cases hv
    ·cases hv
     exact KHY (Nat.zero_le _) hp
  ·exact z
theorem KHZ (s:List UInt8):I64 (oneP s).1.n:=by
 have z:I64 0:=⟨by decide,by decide⟩
 have key:∀ (k:Int) (s:List UInt8) (n:Nat) (t:Vl→Tkn),(∀ v,I64 v.n→I64 (t v).n)→I64 (oneV k s n t).1.n:=fun k s n t ht=>by
  unfold oneV oneW
  split
  ·exact z
  ·exact ht _ (KEm _)
 cases s with
 | nil=>exact z
 | cons c r =>
  rw [NV]
  split
  ·exact z
  split
  ·exact z
  split
  ·exact key _ _ _ _ (fun _ _=>z)
  ·exact key _ _ _ _ (fun _ h=>h)
theorem KD6 {s:List UInt8}:∀ (f a:Nat),a≤s.length→s.length - a < f→∀ t ∈ (allT s a).1,I64 t.n
 | 0,a,ha,hf=>by omega
 | f+1,a,ha,hf=>by
  cases hn:Xh s a with
  | none=>rw [Yo hn]; intro t ht; cases ht
  | some q =>
   obtain ⟨t,a'⟩:=q
   have hlt:=XC ha hn
   rw [Yp ha hn]
   intro x hx
   rcases List.mem_cons.1 hx with rfl | hx
   ·unfold Xh at hn
    split at hn
    ·split at hn
     ·cases hn
     ·cases hn
      exact KHZ _
    ·cases hn
   ·exact KD6 f a' hlt.2 (by omega) x hx
theorem KGL (s:List UInt8):∀ t ∈ (allT s 0).1,I64 t.n:=KD6 _ 0 (Nat.zero_le _) (Nat.lt_succ_self _)
theorem KKf {t:Tkn} (h:tokB t=true) (hI:I64 t.n) (hh:Heap):(t.k=2→VRep hh (.mk 1 t.n [] []) (J6 1 t.n [] Sl.nil))∧(t.k=3→VRep hh (.mk 2 0 t.s []) (J6 2 0 t.s Sl.nil)):=by
 refine ⟨fun _=>(NS (fun _=>True) hh ⟨by decide,by decide⟩ hI (by decide)).to,fun hk=>(NS (fun _=>True) hh ⟨by decide,by decide⟩ ⟨by decide,by decide⟩ ?_).to⟩
 rcases KCX h with ⟨h1,_⟩ | ⟨h1,_⟩ | ⟨_,h1,_⟩ | ⟨h1,_⟩ <;> omega
theorem KEn {t:Tkn} {h:Heap} {Q:ByteArray→Heap→Prop} (hI:I64 t.n) (hm:(tkT t).length≤1099511627776) (hp:GF h) (hd:qw h) (H:∀ h',Ext h h'→Q (bs (tkT t)) h'):(NK t.cells).wp h Q:=by
 unfold NK
 refine JO (fun h1 e1 s1 g1=>ldR g1 rfl (KP (zS (fun h2 e2=>?_))))
 have E2:=e1.trans e2
 have g2:=e2.blk g1
 have cK:KL h2 ((⟨h.size,0,none⟩:Addr).add 0)=some (.int .i64 t.k):=by rw [add_zero,KM g2]; rfl
 have cS:KL h2 ((⟨h.size,0,none⟩:Addr).add 1)=some (.string (bs t.s)):=by rw [Ki,KM g2]; rfl
 have cN:KL h2 ((⟨h.size,0,none⟩:Addr).add 2)=some (.int .i64 t.n):=by rw [Ki,KM g2]; rfl
 rw [KFx]
 cases hb:tokB t with
 | false =>
  have:tkT t=[]:=by unfold tkT; rw [hb,if_pos rfl]
  rw [this] at H
  exact iteT rfl (KG (H h2 E2))
 | true =>
  refine iteF rfl (Zo cK ?_)
  rw [KD2 hb] at H hm
  obtain ⟨v1,v2⟩:=KKf hb hI h2
  rw [eqI]
  refine Kl (fun k2=>?_) (fun k2=>Zo cK ?_)
  ·have k2:=of_decide_eq_true k2
   rw [if_pos k2] at H hm
   refine Zo cN (KH1 (fun h3 e3=>KP (KAS (v:=.mk 1 t.n [] []) (NS (fun _=>True) h3 ⟨by decide,by decide⟩ hI (by decide)).to (hp.ext (E2.trans e3)) (hd.ext (E2.trans e3)) (by rw [KBT]; exact hm) (fun h4 e4=>KG ?_))))
   rw [KBT]
   exact H _ ((E2.trans e3).trans e4)
  ·have k2:=of_decide_eq_false k2
   rw [if_neg k2] at H hm
   rw [eqI]
   refine Kl (fun k3=>?_) (fun k3=>?_)
   ·have k3:=of_decide_eq_true k3
    rw [if_pos k3] at H hm
    have hsl:t.s.length≤9223372036854775807:=by rcases KCX hb with ⟨h1,_⟩ | ⟨h1,_⟩ | ⟨_,h1,_⟩ | ⟨h1,_⟩ <;> omega
    refine WJ cS (KH2 (fun h3 e3=>KP (KAS (v:=.mk 2 0 t.s []) (NS (fun _=>True) h3 ⟨by decide,by decide⟩ ⟨by decide,by decide⟩ hsl).to (hp.ext (E2.trans e3)) (hd.ext (E2.trans e3)) (by rw [KDI]; exact hm) (fun h4 e4=>KG ?_))))
    rw [KDI]
    exact H _ ((E2.trans e3).trans e4)
   ·rw [if_neg (of_decide_eq_false k3)] at H
    exact WJ cS (KG (H _ E2))
theorem KAU {s:List UInt8} {h:Heap} {Q:Bool→Heap→Prop} (hs:s.length≤1099511627776) (hb:s.all Uh=true) (H:Q true h):(JQ (bs s)).wp h Q:=by
 unfold JQ
 rw [ZB]
 refine M.loop_inv (fun (z:Int) hh=>hh=h∧∃ i:Nat,z=(i:Int)∧i≤s.length) (fun z _=>((s.length:Int) - z).toNat) ?_ ⟨rfl,0,rfl,Nat.zero_le _⟩
 rintro z hh ⟨rfl,i,rfl,hi⟩ self hself
 unfold Ud
 refine Kl (fun hc=>?_) (fun hc=>KG H)
 have hlt:i < s.length:=by have:=of_decide_eq_true hc; omega
 have hbi:Uh s[i]=true:=List.all_eq_true.1 hb _ (List.getElem_mem hlt)
 refine X9 (i:=i) rfl hlt ?_
 rw [bne,u8_c (d:=32) (n:=32) rfl]
 refine XA (c:=!decide (s[i]=10)) (fun _ Q' hq=>X9 (i:=i) rfl hlt (KG (by rw [bne,u8_c (d:=10) (n:=10) rfl]; exact hq))) (iteF ?_ ?_)
 ·rcases of_decide_eq_true hbi with e | e
  ·rw [decide_eq_true e]; rfl
  ·rw [decide_eq_true e]; exact Bool.and_false _
 ·rw [w64 (by omega) (by omega)]
  exact hself _ _ ⟨rfl,i+1,by push_cast; rfl,hlt⟩ (by omega)
theorem KEo {s:List UInt8} {h:Heap} {Q:Bool→Heap→Prop} (hp:GF h) (hd:qw h) (he:ErrV h) (H:∀ h',Ext h h'→Q true h'):(UP (bs s)).wp h Q:=by
 unfold UP
 refine KP (KD5 he (fun h1 r e1 R hc=>KP (qC (he.ext e1) (fun h2 e2=>YX rfl (Zc ?_)))))
 have E2:=e1.trans e2
 dsimp only
 rw [bne,eqI]
 refine Kl (fun hn=>KP (qC (he.ext E2) (fun h3 e3=>KG (H _ (E2.trans e3))))) (fun hn=>?_)
 have h0:(lexP s).2.2=0:=Decidable.byContradiction (fun e=>by rw [decide_eq_false e] at hn; cases hn)
 obtain ⟨hsl,hl,hcnt,hend⟩:=KJE h0
 have hpl:=za _ 0 (Nat.zero_le s.length) (Nat.lt_succ_self _) hend
 have hI:=KGL s
 rw [hl] at R
 dsimp only at R
 generalize (allT s 0).1=l at R hpl hI hcnt
 have hrl:=R.1
 rw [hrl]
 refine M.loop_inv (fun (x:Int × Int) hh=>∃ a i:Nat,x=((a:Int),(i:Int))∧i≤l.length∧a≤s.length∧KDJ s a (l.drop i)∧Ext h2 hh) (fun x _=>((l.length:Int) - x.2).toNat) ?_ ⟨0,0,rfl,Nat.zero_le _,Nat.zero_le _,hpl,Ext.refl _⟩
 rintro x hh ⟨a,i,rfl,hi,ha,hP,E⟩ self hself
 unfold Jq
 dsimp only
 refine Kl (fun hlt=>?_) (fun hge=>?_)
 ·have hlt:i < l.length:=by have:=of_decide_eq_true hlt; omega
  obtain ⟨b,hb,hcb⟩:=(R.ext (e2.trans E)).at hlt
  have hIi:=hI _ (List.getElem_mem hlt)
  rw [List.drop_eq_getElem_cons hlt] at hP
  generalize l[i]=t at hcb hIi hP
  obtain ⟨p,hpa,hap,hok,hne,htx,hpl2,hbl,hP2⟩:=hP
  refine Gr (by omega) (by rw [hrl]; omega) hb (qE (cs:=t.cells) rfl hcb (JO (fun h3 e3 s3 g3=>J2 rfl (stR g3 (Nat.le_refl 4) (YK t) (fun h4 u4 g4=>?_)))))
  have g4:h4[hh.size]?=some (.cells t.cells KR (0,0)):=by
   have e:lay tkn0.cells 0 t.cells.toList=t.cells:=by rw [ZU (cs:=tkn0.cells) (vs:=t.cells.toList) rfl,Array.toArray_toList]
   rw [← e]; exact g4
  have E4:Ext hh h4:=e3.upd u4 (Nat.le_refl _)
  have EE:=(E2.trans E).trans E4
  refine ldR g4 rfl (KP (KEn hIi (by omega) (hp.ext EE) (hd.ext EE) (fun h5 e5=>?_)))
  have c3:KL h5 ((⟨hh.size,0,none⟩:Addr).add 3)=some (.int .i64 (p:Int)):=by rw [Ki,KM (e5.blk g4),← hpa]; rfl
  refine Zo c3 ?_
  rw [sEq0,ZB]
  refine or_b (c:=decide (tkT t=[])) (fun _ Q' hq=>KG hq) ?_
  rw [show (decide ((p:Int) < (a:Int)) || decide (tkT t=[]))=false by rw [decide_eq_false (by omega),decide_eq_false hne]; rfl]
  refine YX rfl (ZA (Zo c3 (Zc ?_)))
  rw [ZB,w64 (by omega) (by omega),decide_eq_false (by omega)]
  refine YX rfl (ZA (Zo c3 (ZA (Zo c3 ?_))))
  rw [w64 (by omega) (by omega)]
  refine ZA (KCM (a:=p) (b:=p+(tkT t).length) rfl (by push_cast; rfl) (by omega) hpl2 (Zc ?_))
  rw [Nat.add_sub_cancel_left,htx,KFd,decide_eq_true rfl]
  refine YX rfl (ZA (Zo c3 (ZA (KCM (a:=a) (b:=p) rfl rfl hap (by omega) (ZA (KP (KAU (by rw [List.length_take,List.length_drop]; omega) hbl (Zc (iteF rfl (Zo c3 ?_))))))))))
  rw [w64 (by omega) (by omega),w64 (by omega) (by omega)]
  exact hself _ _ ⟨p+(tkT t).length,i+1,by push_cast; rfl,hlt,hpl2,hP2,(E.trans E4).trans e5⟩ (by dsimp only; omega)
 ·have hi':i=l.length:=by have:=of_decide_eq_false hge; omega
  rw [List.drop_eq_nil_iff.2 (by omega)] at hP
  refine KCM (a:=a) (b:=s.length) rfl (by rw [ZB]) ha (Nat.le_refl _) (KP (KAU (by rw [List.length_take,List.length_drop]; omega) hP (KG (H _ (E2.trans E)))))
end Gx
namespace Gx
end Gx
namespace Go.Proofs.YtpibdohdkfkcnaaGreatDoor
open Go Go.RowKit Gx
set_option linter.unusedVariables false
set_option maxRecDepth 100000
theorem c3:Tryz.prog.cellsOf 3=1:=by kernel_rfl
theorem c2:Tryz.prog.cellsOf 2=1:=by kernel_rfl
theorem c9:Tryz.prog.cellsOf 9=1:=by kernel_rfl
section
variable {H:Type} {enc:TypeId × Value→H}
theorem KHa {W:World} {t:TypeId} {n:Nat} {c:Value} {x:DataW H × List MemPlace} {sp:Nat→Bool} {held:Bool} {base:Nat} (ht:Tryz.prog.underlying t=some .string) (h:DataW.trod enc Tryz.prog W base sp held n t [c]=some x):∃ s:ByteArray,c=.string s∧s.size≤maxLen∧Rows.uptoBulk x.1=s.data.toList.length+1:=by
 cases n with
 | zero=>simp [DataW.trod] at h
 | succ n =>
  unfold DataW.trod at h
  rw [ht] at h
  cases c with
  | string s =>
   simp only at h
   split at h
   ·rename_i hk
    cases h
    exact ⟨s,rfl,hk,by simp [Rows.uptoBulk]⟩
   ·cases h
  | _=>simp at h
theorem KAB {W:World} {a:Addr}:W.cell? a=KL W.heap a:=rfl
end
end Go.Proofs.YtpibdohdkfkcnaaGreatDoor
namespace Gx
open Go Go.RowKit Go.ChangeShapes Go.WideShapes Go.ChangeAt Go.Joins
set_option linter.unusedVariables false
section
variable {H:Type} {enc:TypeId × Value→H} {P:Program}
theorem KHb {W W':World} (he:Ext W.heap W'.heap) {p:MemPlace} (hp:p.block < W.heap.size):W.sameAt W' p:=by
 cases p with
 | cell b o=>exact World.cell?_of_block (w:=W) (he.same b hp)
 | map b=>exact he.same b hp
theorem KHc {t:TypeId} (hl:laidOutB P=true) (hr:P.readableRec t=true) (hrow:t < P.types.size) {W W':World} {v:Value} {d:DataW H} {ps:List MemPlace}
  (h:DataW.Trod enc P W 0 (fun _=>true) true t v d ps) (he:Ext W.heap W'.heap) :
  DataW.Trod enc P W' 0 (fun b=>decide (b < W.heap.size)) true t v d ps:=by
 have hlt:∀ x ∈ ps,x.block < W.heap.size:=by
  obtain ⟨m,hm⟩:=h
  exact DataW.trod_lt m _ _ _ hm
 exact WideElems.Trod_stays hl hr hrow h (fun x hx=>KHb he (hlt x hx)) (fun x hx=>by simpa using hlt x hx)
theorem KGM {W W':World} (he:Ext W.heap W'.heap) (hr:Rest W W') (may:MemPlace→Prop):W.keptBut W' may:=by
 refine ⟨hr.os,hr.output,fun i hi=>?_⟩
 rw [he.same i hi]
 split <;> simp_all
end
end Gx
namespace Go.Proofs.YtpibdohdkfkcnaaGreatDoor
open Go Go.RowKit Go.ChangeShapes Go.WideShapes Go.ChangeAt Go.Joins Gx
set_option linter.unusedVariables false
set_option maxRecDepth 100000
theorem Own:ownKnob Tryz.prog.godebug=none:=by kernel_rfl
theorem Laid:laidOutB Tryz.prog=true:=by kernel_rfl
def KHd:List (String × DataW Unit):=[("math/bits.deBruijn32tab",Rows.laid_math_bits_deBruijn32tab),("math/bits.deBruijn64tab",Rows.laid_math_bits_deBruijn64tab),("internal/strconv.uint64pow10",Rows.laid_internal_strconv_uint64pow10),("unicode/utf8.acceptRanges",Rows.laid_unicode_utf8_acceptRanges),("strconv.ErrRange",Rows.laid_strconv_ErrRange),("strconv.ErrSyntax",Rows.laid_strconv_ErrSyntax),("unicode/utf8.first",Rows.laid_unicode_utf8_first)]
theorem gPow:Tryz.prog.globalNamed "internal/strconv.uint64pow10"=some 3:=by kernel_rfl
theorem gDb:Tryz.prog.globalNamed "math/bits.deBruijn64tab"=some 5:=by kernel_rfl
theorem YA {P:Program} {x:String × DataW Unit} {r:List (String × DataW Unit)} {W:World} (h:laidMet P (x::r) W):laidMet P r W:=by
 obtain ⟨ps,h1,h2,h3⟩:=h
 obtain ⟨n,d⟩:=x
 obtain ⟨g,t,cs,fuel,p,q,a1,a2,a3,a4,a5,rfl⟩:=h1
 exact ⟨q,a5,(List.nodup_append.1 h2).2.1,fun b off hb=>h3 b off (List.mem_append.2 (.inr hb))⟩
theorem KJH {W:World} (h:laidMet Tryz.prog KHd W):GF W.heap:=by
 have h1:Lib.TabIs Tryz.prog W "internal/strconv.uint64pow10" .u64 [1,10,100,1000,10000,100000,1000000,10000000,100000000,1000000000,10000000000,100000000000,1000000000000,10000000000000,100000000000000,1000000000000000,10000000000000000,100000000000000000,1000000000000000000,10000000000000000000] :=
  Lib.tabIs_of_head (rest:=[("unicode/utf8.acceptRanges",Rows.laid_unicode_utf8_acceptRanges),("strconv.ErrRange",Rows.laid_strconv_ErrRange),("strconv.ErrSyntax",Rows.laid_strconv_ErrSyntax),("unicode/utf8.first",Rows.laid_unicode_utf8_first)]) gPow (by kernel_rfl:(Tryz.prog.globals[3]?).map (·.type)=some 250) Tryz.underlying250 Tryz.underlying216 (by kernel_rfl) (by kernel_rfl) (YA (YA h))
 unfold Lib.TabIs at h1
 simp only [World.var?,gPow,Option.bind_some] at h1
 split at h1
 ·rename_i cs t fz hh
  cases h1
  exact ⟨fz,t,hh⟩
 ·cases h1
theorem KKg {W:World} (h:laidMet Tryz.prog KHd W):qw W.heap:=by
 have h1:Lib.TabIs Tryz.prog W "math/bits.deBruijn64tab" .u8 [0,1,56,2,57,49,28,3,61,58,42,50,38,29,17,4,62,47,59,36,45,43,51,22,53,39,33,30,24,18,12,5,63,55,48,27,60,41,37,16,46,35,44,21,52,32,23,11,54,26,40,15,34,20,31,10,25,14,19,9,13,8,7,6] :=
  Lib.tabIs_of_head (rest:=[("internal/strconv.uint64pow10",Rows.laid_internal_strconv_uint64pow10),("unicode/utf8.acceptRanges",Rows.laid_unicode_utf8_acceptRanges),("strconv.ErrRange",Rows.laid_strconv_ErrRange),("strconv.ErrSyntax",Rows.laid_strconv_ErrSyntax),("unicode/utf8.first",Rows.laid_unicode_utf8_first)]) gDb (by kernel_rfl:(Tryz.prog.globals[5]?).map (·.type)=some 262) Tryz.underlying262 Tryz.underlying5 (by kernel_rfl) (by kernel_rfl) (YA h)
 unfold Lib.TabIs at h1
 simp only [World.var?,gDb,Option.bind_some] at h1
 split at h1
 ·rename_i cs t fz hh
  cases h1
  exact ⟨_,t,fz,hh,rfl⟩
 ·cases h1
def KBU (cs:Array Value):Obj→Obj
 | .cells _ t frozen=>.cells cs t frozen
 | o=>o
def KJI (h:Array Obj):Array Obj:=(((h.modify 7 (KBU #[.iface 275 (.pointer (some ⟨h.size,0,none⟩))])).modify 6 (KBU #[.iface 275 (.pointer (some ⟨h.size+1,0,none⟩))])).push (.cells #[.string ⟨#[118,97,108,117,101,32,111,117,116,32,111,102,32,114,97,110,103,101]⟩] 277)).push (.cells #[.string ⟨#[105,110,118,97,108,105,100,32,115,121,110,116,97,120]⟩] 277)
noncomputable def litV:Lit→Value
 | .int k n=>.int k n
 | .bool b=>.bool b
 | _=>undef
noncomputable def KLR (ps:List (DataW Unit)):List Value:=ps.flatMap fun p=>match p with
 | .lit l=>[litV l]
 | .agg qs=>qs.map fun q=>match q with
  | .lit l=>litV l
  | _=>undef
 | _=>[]
noncomputable def KKh (l:List (String × DataW Unit)) (h:Array Obj):Array Obj:=l.foldl (fun h x=>match Tryz.prog.globalNamed x.1,x.2 with
 | some g,.agg ps=>h.modify g (KBU (KLR ps).toArray)
 | _,_=>h) h
noncomputable def zb (os:Os) (args:Array Value):World :=
 { World.holding Tryz.prog os ⟨#[],args,[]⟩ with heap:=KJI (KKh KHd (World.holding Tryz.prog os ⟨#[],args,[]⟩).heap) }
theorem gErr:Tryz.prog.globalNamed "strconv.ErrRange"=some 7:=by kernel_rfl
theorem KLS {W:World} (h:laidMet Tryz.prog KHd W):ErrV W.heap:=by
 obtain ⟨ps,h1,h2,h3⟩:=(YA (YA (YA (YA h))))
 obtain ⟨g,t,cs,fuel,p,q,a1,a2,a3,a4,a5,rfl⟩:=h1
 rw [gErr] at a1
 cases a1
 have ht:t=84:=Option.some.inj (a2.symm.trans (by kernel_rfl))
 subst ht
 have hcs:∃ u v,cs.toList=[.iface u v]:=by
  cases fuel with
  | zero=>simp [DataW.trod] at a4
  | succ fuel =>
   unfold DataW.trod at a4
   rw [Tryz.underlying84] at a4
   cases hc:cs.toList with
   | nil=>rw [hc] at a4; simp at a4
   | cons c r =>
    rw [hc] at a4
    cases r with
    | cons c2 r2=>exfalso; cases c <;> simp at a4
    | nil=>cases c <;> first | exact ⟨_,_,rfl⟩ | (exfalso; simp [Rows.laid_strconv_ErrRange] at a4)
 obtain ⟨u,v,hcs⟩:=hcs
 have hcs':cs=#[.iface u v]:=by
  apply Array.ext'
  exact hcs
 subst hcs'
 simp only [World.var?,gErr,Option.bind_some] at a3
 split at a3
 ·rename_i cs' t' fz hh
  cases a3
  exact ⟨u,v,by rw [KM hh]; rfl⟩
 ·cases a3
end Go.Proofs.YtpibdohdkfkcnaaGreatDoor
