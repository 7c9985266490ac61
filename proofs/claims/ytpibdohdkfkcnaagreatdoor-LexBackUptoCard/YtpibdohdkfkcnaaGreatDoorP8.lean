/- Own proofs: what those Lean programs compute. No condition. -/
import Derived.Test.YtpibdohdkfkcnaaGreatDoorP0
import Derived.Test.YtpibdohdkfkcnaaGreatDoorP1
import Derived.Test.YtpibdohdkfkcnaaGreatDoorP2
import Derived.Test.YtpibdohdkfkcnaaGreatDoorP3
import Derived.Test.YtpibdohdkfkcnaaGreatDoorP4
import Derived.Test.YtpibdohdkfkcnaaGreatDoorP5
import Derived.Test.YtpibdohdkfkcnaaGreatDoorP6
import Derived.Test.YtpibdohdkfkcnaaGreatDoorP7
import Derived.Test.YtpibdohdkfkcnaaGreatDoorTie
import Derived.KernelRfl
import Derived.ChangeArms
import Derived.DataReads
import Derived.WalkKit
import Derived.ProofKit
import Derived.OpenShut
import Derived.ShutString
import Derived.ChangeOld
import Derived.Below
import Derived.SizedLaws
import Derived.Lib.SmallJoins
import Derived.Deep.DeepHandedRow
import Derived.Lib.LaidTab
import Derived.JoinedCond
import Derived.SevenTiedAt
set_option linter.unusedVariables false
set_option linter.unusedSimpArgs false
namespace Gx
open Go Go.Proofs Go.Shelf Go.RowKit Go.Lib
set_option linter.unusedVariables false
set_option linter.unusedSimpArgs false
set_option maxRecDepth 100000
def Tx (s:List UInt8) (d:Nat) (pv:Nat→Except Nat (Vl × Nat)):Prop:=∀ i v j,pv i=.ok (v,j)→At s i (txt d v)∧j=i+(txt d v).length
theorem KCt {s:List UInt8} {d:Nat} {pv:Nat→Except Nat (Vl × Nat)} (hp:Tx s d pv):∀ {f i:Nat} {l1 t:List Vl} {j:Nat},l1≠[]→Ub pv 93 false s f l1 i=.ok (t,j)→∃ l2,t=l1++l2∧At s i (sepT d l2++[93])∧j=i+(sepT d l2).length+1
 | 0,i,l1,t,j,h1,h=>by cases h
 | f+1,i,l1,t,j,h1,h=>by
  rw [Ub] at h
  split at h
  ·rename_i hh
   cases h
   exact ⟨[],by simp,VG hh (by decide),rfl⟩
  ·have hl1:¬ l1.length=0:=fun e=>h1 (List.length_eq_zero_iff.1 e)
   unfold sepP at h
   rw [if_neg hl1] at h
   split at h
   ·cases h
   ·rename_i i1 hi1
    obtain ⟨a1,a2⟩:=UC hi1
    split at h
    ·cases h
    ·rename_i vs i2 hv
     split at h
     ·cases h
     ·unfold YP at hv
      split at hv
      ·cases hv
      ·rename_i v j1 hpv
       rw [if_neg (by decide)] at hv
       cases hv
       obtain ⟨b1,b2⟩:=hp _ _ _ hpv
       obtain ⟨l2,c1,c2,c3⟩:=KCt hp (by simp) h
       refine ⟨v::l2,by rw [c1]; simp,?_,?_⟩
       ·rw [show sepT d (v::l2)++[93]=[44,32]++(txt d v++(sepT d l2++[93])) by simp [sepT],ZS,ZS]
        subst a2
        rw [← b2]
        exact ⟨a1,b1,c2⟩
       ·have:(sepT d (v::l2)).length=2+(txt d v).length+(sepT d l2).length:=by simp [sepT]; omega
        have e2:([44,32]:List UInt8).length=2:=rfl
        omega
theorem KEY {s:List UInt8} {d:Nat} {pv:Nat→Except Nat (Vl × Nat)} (hp:Tx s d pv):∀ {f i:Nat} {l1 t:List Vl} {j:Nat},l1≠[]→Ub pv 125 true s f l1 i=.ok (t,j)→∃ l2,l2.length % 2=0∧t=l1++l2∧At s i (mapT d l2++[125])∧j=i+(mapT d l2).length+1
 | 0,i,l1,t,j,h1,h=>by cases h
 | f+1,i,l1,t,j,h1,h=>by
  rw [Ub] at h
  split at h
  ·rename_i hh
   cases h
   exact ⟨[],rfl,by simp,VG hh (by decide),rfl⟩
  ·have hl1:¬ l1.length=0:=fun e=>h1 (List.length_eq_zero_iff.1 e)
   unfold sepP at h
   rw [if_neg hl1] at h
   split at h
   ·cases h
   ·rename_i i1 hi1
    obtain ⟨a1,a2⟩:=UC hi1
    split at h
    ·cases h
    ·rename_i vs i2 hv
     split at h
     ·cases h
     ·unfold YP at hv
      split at hv
      ·cases hv
      ·rename_i v j1 hpv
       rw [if_pos rfl] at hv
       split at hv
       ·cases hv
       ·rename_i j2 hj2
        obtain ⟨a3,a4⟩:=UC hj2
        split at hv
        ·cases hv
        ·rename_i w j3 hpw
         cases hv
         obtain ⟨b1,b2⟩:=hp _ _ _ hpv
         obtain ⟨b3,b4⟩:=hp _ _ _ hpw
         obtain ⟨l2,c0,c1,c2,c3⟩:=KEY hp (by simp) h
         refine ⟨v::w::l2,by simp only [List.length_cons]; omega,by rw [c1]; simp,?_,?_⟩
         ·rw [show mapT d (v::w::l2)++[125]=[44,32]++(txt d v++([58,32]++(txt d w++(mapT d l2++[125])))) by rw [mapT]; simp,ZS,ZS,ZS,ZS]
          subst a2
          rw [← b2,← a4,← b4]
          exact ⟨a1,b1,a3,b3,c2⟩
         ·have:(mapT d (v::w::l2)).length=2+(txt d v).length+2+(txt d w).length+(mapT d l2).length:=by rw [mapT]; simp; omega
          have e2:([44,32]:List UInt8).length=2:=rfl
          have e3:([58,32]:List UInt8).length=2:=rfl
          omega
theorem KGr {s:List UInt8} {d:Nat} {pv:Nat→Except Nat (Vl × Nat)} (hp:Tx s d pv) {f i:Nat} {t:List Vl} {j:Nat} (h:Ub pv 93 false s f [] i=.ok (t,j)) :
  At s i (shw [44,32] [44,32] (t.map (txt d))++[93])∧j=i+(shw [44,32] [44,32] (t.map (txt d))).length+1:=by
 cases f with
 | zero=>cases h
 | succ f =>
  rw [Ub] at h
  split at h
  ·rename_i hh
   cases h
   exact ⟨VG hh (by decide),rfl⟩
  ·unfold sepP at h
   rw [if_pos (show ([]:List Vl).length=0 from rfl)] at h
   dsimp only at h
   split at h
   ·cases h
   ·rename_i vs i2 hv
    split at h
    ·cases h
    ·unfold YP at hv
     split at hv
     ·cases hv
     ·rename_i v j1 hpv
      rw [if_neg (by decide)] at hv
      cases hv
      obtain ⟨b1,b2⟩:=hp _ _ _ hpv
      obtain ⟨l2,c1,c2,c3⟩:=KCt hp (by simp) h
      rw [List.nil_append,List.singleton_append] at c1
      rw [c1,KBk,List.append_assoc,ZS,List.length_append]
      subst b2
      exact ⟨⟨b1,c2⟩,by omega⟩
theorem KIA {s:List UInt8} {d:Nat} {pv:Nat→Except Nat (Vl × Nat)} (hp:Tx s d pv) {f i:Nat} {t:List Vl} {j:Nat} (h:Ub pv 125 true s f [] i=.ok (t,j)) :
  At s i (shw [58,32] [44,32] (t.map (txt d))++[125])∧j=i+(shw [58,32] [44,32] (t.map (txt d))).length+1:=by
 cases f with
 | zero=>cases h
 | succ f =>
  rw [Ub] at h
  split at h
  ·rename_i hh
   cases h
   exact ⟨VG hh (by decide),rfl⟩
  ·unfold sepP at h
   rw [if_pos (show ([]:List Vl).length=0 from rfl)] at h
   dsimp only at h
   split at h
   ·cases h
   ·rename_i vs i2 hv
    split at h
    ·cases h
    ·unfold YP at hv
     split at hv
     ·cases hv
     ·rename_i v j1 hpv
      rw [if_pos rfl] at hv
      split at hv
      ·cases hv
      ·rename_i j2 hj2
       obtain ⟨a3,a4⟩:=UC hj2
       split at hv
       ·cases hv
       ·rename_i w j3 hpw
        cases hv
        obtain ⟨b1,b2⟩:=hp _ _ _ hpv
        obtain ⟨b3,b4⟩:=hp _ _ _ hpw
        obtain ⟨l2,c0,c1,c2,c3⟩:=KEY hp (by simp) h
        rw [List.nil_append] at c1
        rw [c1,show [v,w]++l2=v::w::l2 from rfl,KBl d (l2.length / 2) l2 v w (by omega)]
        rw [show txt d v++([58,32]++(txt d w++mapT d l2))++[125]=txt d v++([58,32]++(txt d w++(mapT d l2++[125]))) by simp,ZS,ZS,ZS]
        subst b2
        subst a4
        subst b4
        refine ⟨⟨b1,a3,b3,c2⟩,?_⟩
        simp only [List.length_append,List.length_cons,List.length_nil] at c3 ⊢
        omega
theorem KCu {s:List UInt8} {i j:Nat} {k:Int} {c:UInt8} {v:Vl} (hc:At s i [c]) (h:Nl k s i=.ok (v,j)):∃ n,v=.mk k n [] []∧At s i ([c,91]++itoa n++[93])∧j=i+([c,91]++itoa n++[93]).length:=by
 unfold Nl at h
 split at h
 ·cases h
 ·rename_i j1 h1
  obtain ⟨a1,a2⟩:=UC h1
  split at h
  ·cases h
  ·rename_i n j2 h2
   have hle:=(UJ h1).2.1 (by simp)
   obtain ⟨b1,b2⟩:=KER h2 hle
   split at h
   ·cases h
   ·rename_i j3 h3
    obtain ⟨c1,c2⟩:=UC h3
    cases h
    have a2:j1=i+2:=a2
    subst a2
    subst b2
    refine ⟨n,rfl,?_,?_⟩
    ·rw [show [c,91]++itoa n++[93]=[c]++([91]++(itoa n++[93])) by simp,ZS,ZS,ZS]
     exact ⟨hc,a1,b1,c1⟩
    ·rw [c2]
     simp only [List.length_append,List.length_cons,List.length_nil]
     omega
theorem KEZ (s:List UInt8):∀ d,Tx s d (pval s d)
 | 0=>fun i v j h=>by cases h
 | d+1=>fun i v j h=>by
  have ih:=KEZ s d
  rw [pval] at h
  split at h
  ·rename_i hc
   have hi:i < s.length:=UI (fun e=>by rw [e] at hc; exact absurd hc (by decide))
   split at h
   ·cases h
   ·rename_i n j1 h1
    cases h
    have ht:txt (d+1) (.mk 1 n [] [])=itoa n:=by rw [txt,if_pos rfl]
    rw [ht]
    exact KER h1 (by omega)
  split at h
  ·split at h
   ·cases h
   ·rename_i t j1 h1
    cases h
    have ht:txt (d+1) (.mk 2 0 t [])=JV t:=by rw [txt]; rfl
    rw [ht]
    exact KH8 h1
  split at h
  ·split at h
   ·cases h
   ·rename_i j1 h1
    cases h
    have ht:txt (d+1) (.mk 3 1 [] [])=[116,114,117,101]:=by rw [txt]; rfl
    rw [ht]
    exact UC h1
  split at h
  ·split at h
   ·cases h
   ·rename_i j1 h1
    cases h
    have ht:txt (d+1) (.mk 3 0 [] [])=[102,97,108,115,101]:=by rw [txt]; rfl
    rw [ht]
    exact UC h1
  split at h
  ·rename_i hc
   obtain ⟨n,rfl,h2,h3⟩:=KCu (VG hc (by decide)) h
   have ht:txt (d+1) (.mk 6 n [] [])=[118,91]++itoa n++[93]:=by rw [txt]; rfl
   rw [ht]
   exact ⟨h2,h3⟩
  split at h
  ·rename_i hc
   obtain ⟨n,rfl,h2,h3⟩:=KCu (VG hc (by decide)) h
   have ht:txt (d+1) (.mk 7 n [] [])=[101,91]++itoa n++[93]:=by rw [txt]; rfl
   rw [ht]
   exact ⟨h2,h3⟩
  split at h
  ·rename_i hc
   split at h
   ·cases h
   ·rename_i l j1 h1
    cases h
    obtain ⟨a1,a2⟩:=KGr ih h1
    rw [KEV,ZS]
    exact ⟨⟨VG hc (by decide),a1⟩,by rw [a2]; simp only [List.length_append,List.length_cons,List.length_nil]; omega⟩
  split at h
  ·rename_i hc
   split at h
   ·cases h
   ·rename_i l j1 h1
    cases h
    obtain ⟨a1,a2⟩:=KIA ih h1
    rw [KGp,ZS]
    exact ⟨⟨VG hc (by decide),a1⟩,by rw [a2]; simp only [List.length_append,List.length_cons,List.length_nil]; omega⟩
  ·cases h
theorem Nq {v:Vl} (hm:mayV 8 v=true) (hw:WfV 8 v):JB (txV v)=(v,0,0):=by
 have hAt:At (txV v) 0 (txt 8 v):=by
  unfold At
  rw [List.drop_zero]
  exact List.take_length
 have h:=KEX (txV v) 8 v hm hw 0 hAt (by
  have:KO (txV v) (0+(txt 8 v).length)=0:=by
   unfold KO
   rw [List.getElem?_eq_none (by show (txt 8 v).length≤_; omega)]
   rfl
  rw [this]
  decide)
 have hr:qF (txV v)=.ok v:=by
  unfold qF
  rw [h]
  dsimp only
  rw [if_neg (by show ¬ (0+(txt 8 v).length < (txt 8 v).length); omega)]
 unfold JB
 rw [hr]
 dsimp only
 rw [if_pos hm]
theorem KBn {s:List UInt8} {v:Vl} (h:qF s=.ok v):txV v=s:=by
 unfold qF at h
 split at h
 ·cases h
 ·rename_i w j hp
  split at h
  ·cases h
  ·rename_i hj
   cases h
   obtain ⟨a1,a2⟩:=KEZ s 8 0 _ _ hp
   have hle:=(KDX s 8 0 _ _ hp).2
   unfold At at a1
   rw [List.drop_zero,List.take_of_length_le (by omega)] at a1
   exact a1.symm
end Gx
namespace Gx
open Go Go.Proofs Go.Shelf Go.RowKit Go.Lib
set_option linter.unusedVariables false
set_option linter.unusedSimpArgs false
set_option maxRecDepth 100000
theorem KGs {s:List UInt8} (h:(JB s).2.2=0):qF s=.ok (JB s).1∧mayV 8 (JB s).1=true:=by
 unfold JB at h ⊢
 cases hr:qF s with
 | error e =>
  rw [hr] at h
  have h:(22:Int)=0:=h
  exact absurd h (by decide)
 | ok v =>
  rw [hr] at h
  dsimp only at h ⊢
  by_cases hm:mayV 8 v=true
  ·rw [if_pos hm]
   exact ⟨rfl,hm⟩
  ·rw [if_neg hm] at h
   have h:(20:Int)=0:=h
   exact absurd h (by decide)
end Gx
namespace Gx
open Go Go.Proofs Go.Shelf Go.RowKit Go.Lib
set_option linter.unusedVariables false
set_option linter.unusedSimpArgs false
set_option maxRecDepth 100000
theorem KBo (n:Int) (s:List UInt8) (l:List Vl):txV (.mk 1 n s l)=itoa n:=by
 show txt 8 _=_
 rw [txt,if_pos rfl]
theorem KBp (n:Int) (s:List UInt8) (l:List Vl):txV (.mk 2 n s l)=JV s:=by
 show txt 8 _=_
 rw [txt,if_neg (by decide),if_pos rfl]
def tkT (t:Tkn):List UInt8:=if tokB t=false then [] else if t.k=2 then itoa t.n else if t.k=3 then JV t.s else t.s
theorem KGt {k:Int} {s:List UInt8} {n:Nat} {t:Vl→Tkn} (h:(oneV k s n t).2≠0):(JB (s.take n)).2.2=0∧(JB (s.take n)).1.k=k∧txV (JB (s.take n)).1=s.take n∧oneV k s n t=(t (JB (s.take n)).1,n):=by
 unfold oneV oneW at h ⊢
 split at h
 ·exact absurd rfl h
 ·rename_i hh
  have h1:(JB (s.take n)).2.2=0:=Decidable.byContradiction (fun e=>hh (.inl e))
  have h2:(JB (s.take n)).1.k=k:=Decidable.byContradiction (fun e=>hh (.inr e))
  exact ⟨h1,h2,KBn (KGs h1).1,by rw [if_neg hh]⟩
theorem KDl {k:Int} {s w:List UInt8} {n:Nat} {t:Vl→Tkn} {v:Vl} {p:Nat} (hs:s.take n=w) (hp:JB w=(v,p,0)) (hk:v.k=k):oneV k s n t=(t v,n):=by
 unfold oneV oneW
 rw [hs,hp]
 exact if_neg (fun h=>h.elim (fun h=>h rfl) (fun h=>h hk))
def NumT (t:Tkn):Prop:=t.k=2→∃ v p,JB (itoa t.n)=(v,p,0)∧v.k=1∧v.n=t.n
theorem NumT.of {t:Tkn} (h:I64 t.n):NumT t:=fun _=>⟨.mk 1 t.n [] [],0,by
 rw [← KBo t.n [] []]
 exact Nq (by simp [mayV,KCf]) ⟨h,fun x hx=>by cases hx⟩,rfl,rfl⟩
theorem Nr {p:UInt8→Prop} [∀ c,Decidable (p c)] (hk:∀ n,n < 256→p (UInt8.ofNat n)) (c:UInt8):p c:=by
 have:=hk c.toNat c.toNat_lt
 rwa [UInt8.ofNat_toNat] at this
theorem KEa:∀ c:UInt8,(digB c=true∨c=45)→zq c=false∧letB c=false∧c≠39:=Nr (by decide +kernel)
theorem KBq:∀ c:UInt8,digB c=true→Gv c=true∧c≠45:=Nr (by decide +kernel)
theorem KIB:∀ c:UInt8,letB c=true→zq c=false∧Gv c=true:=Nr (by decide +kernel)
theorem KGu:∀ c:UInt8,(zq c=true∨c=32)→Gv c=false:=Nr (by decide +kernel)
theorem qK:∀ c:UInt8,(zq c=true∨letB c=true∨digB c=true∨c=45∨c=39)→VE c=false:=Nr (by decide +kernel)
theorem qL {w r:List UInt8} (hw:∀ c ∈ w,Gv c=true) (hr:∀ c,r.head?=some c→Gv c=false):UX (w++r)=w.length:=by
 unfold UX
 rw [List.takeWhile_append_of_pos hw,List.length_append]
 cases r with
 | nil=>rfl
 | cons c r=>rw [List.takeWhile_cons_of_neg (by rw [hr c rfl]; decide)]; rfl
theorem KJw:∀ k:Fin 16,hexc k.val≠92∧hexc k.val≠39:=by decide +kernel
theorem KIo {k:Nat} (h:k < 16):hexc k≠92∧hexc k≠39:=KJw ⟨k,h⟩
theorem Us {s:List UInt8} {f i:Nat} (hi:i < s.length):WN s (f+1) i=if KO s i=92 then WN s f (i+2) else if KO s i=39 then i+1 else WN s f (i+1):=by rw [WN,if_pos hi]
theorem Ns {s:List UInt8}:∀ (t:List UInt8) (f i:Nat),At s i (t.flatMap qc++[39])→s.length < f+i→WN s f i=i+(t.flatMap qc).length+1
 | [],f,i,ha,hf=>by
  have hl:=ha.len (by simp)
  have:i+1≤s.length:=hl
  obtain ⟨f,rfl⟩:∃ g,f=g+1:=⟨f - 1,by omega⟩
  rw [Us (by omega),ha.here,if_neg (by decide),if_pos rfl]
  rfl
 | c::t,f,i,ha,hf=>by
  rw [List.flatMap_cons,List.append_assoc] at ha
  obtain ⟨a1,a2⟩:=ZS.1 ha
  have hl:=ha.len (by simp)
  have hrl:(List.flatMap qc t++[39]).length=(List.flatMap qc t).length+1:=by simp
  rw [List.length_append,hrl] at hl
  rw [List.flatMap_cons,List.length_append]
  by_cases h1:c.toNat < 32∨126 < c.toNat
  ·have hq:=KET h1
   rw [hq] at a1 a2 hl ⊢
   have hc:=c.toNat_lt
   have n1:=KIo (show c.toNat / 16 < 16 by omega)
   have n2:=KIo (show c.toNat % 16 < 16 by omega)
   simp only [List.length_cons,List.length_nil] at a2 hl ⊢
   obtain ⟨f,rfl⟩:∃ g,f=g+3:=⟨f - 3,by omega⟩
   have b0:KO s i=92:=a1.here
   have b2:KO s (i+2)=hexc (c.toNat / 16):=a1.get (k:=2) (by simp)
   have b3:KO s (i+2+1)=hexc (c.toNat % 16):=a1.get (k:=3) (by simp)
   rw [Us (by omega),if_pos b0,Us (by omega),b2,if_neg n1.1,if_neg n1.2,Us (by omega),b3,if_neg n2.1,if_neg n2.2,Ns t f _ a2 (by omega)]
   omega
  ·by_cases h2:c=39∨c=92
   ·rw [KEU h2] at a1 a2 hl ⊢
    simp only [List.length_cons,List.length_nil] at a2 hl ⊢
    obtain ⟨f,rfl⟩:∃ g,f=g+1:=⟨f - 1,by omega⟩
    rw [Us (by omega),if_pos a1.here,Ns t f _ a2 (by omega)]
    omega
   ·rw [KJv h1 h2] at a1 a2 hl ⊢
    simp only [List.length_cons,List.length_nil] at a2 hl ⊢
    obtain ⟨f,rfl⟩:∃ g,f=g+1:=⟨f - 1,by omega⟩
    rw [Us (by omega),a1.here,if_neg (fun e=>h2 (.inr e)),if_neg (fun e=>h2 (.inl e)),Ns t f _ a2 (by omega)]
    omega
theorem KCv (t r:List UInt8):Yh (JV t++r)=(JV t).length:=by
 have ha:At (JV t++r) 1 (t.flatMap qc++[39]):=by
  show (((t.flatMap qc++[39])++r)).take (t.flatMap qc++[39]).length=_
  exact List.take_left
 unfold Yh
 rw [Ns t _ 1 ha (by omega)]
 simp [JV]; omega
theorem KAp (n:Int):(∃ d,itoa n=d∧d≠[]∧d.all digB=true)∨(∃ d,itoa n=45::d∧d≠[]∧d.all digB=true):=by
 unfold itoa
 split
 ·obtain ⟨a1,_,a3,_⟩:=XQ _ n.natAbs (Nat.lt_succ_self _)
  exact .inr ⟨_,rfl,a3,a1⟩
 ·obtain ⟨a1,_,a3,_⟩:=XQ _ n.toNat (Nat.lt_succ_self _)
  exact .inl ⟨_,rfl,a3,a1⟩
theorem KJx {t:Tkn} (h:tokB t=true) {a:Nat}:tokB { t with a:=(a:Int) }=true:=by
 unfold tokB at h ⊢
 rw [Bool.and_eq_true,Bool.not_eq_true',Bool.or_eq_false_iff] at h ⊢
 exact ⟨⟨decide_eq_false (by dsimp only; omega),h.1.2⟩,h.2⟩
theorem X2 {t:Tkn} (h:tokB t=true):(t.k=1∧KGX t.s=true∧t.n=0)∨(t.k=2∧t.s=[])∨(t.k=3∧t.s.length≤128∧t.n=0)∨(t.k=4∧∃ c,t.s=[c]∧zq c=true∧t.n=0):=by
 unfold tokB at h
 rw [Bool.and_eq_true,Bool.not_eq_true',Bool.or_eq_false_iff] at h
 obtain ⟨⟨_,h2⟩,h3⟩:=h
 have hn:t.k≠2→t.n=0:=fun hk=>by
  rw [decide_eq_true hk,Bool.and_true] at h2
  exact Decidable.byContradiction (fun e=>by rw [decide_eq_true e] at h2; cases h2)
 split at h3
 ·rename_i hk; exact .inl ⟨hk,h3,hn (by omega)⟩
 split at h3
 ·rename_i hk; exact .inr (.inl ⟨hk,of_decide_eq_true h3⟩)
 split at h3
 ·rename_i hk; exact .inr (.inr (.inl ⟨hk,of_decide_eq_true h3,hn (by omega)⟩))
 split at h3
 ·rename_i hk
  refine .inr (.inr (.inr ⟨hk,?_⟩))
  unfold KJq at h3
  split at h3
  ·rename_i c hc; exact ⟨c,hc,h3,hn (by omega)⟩
  ·cases h3
 ·cases h3
theorem GD {t:Tkn} (h:tokB t=true):tkT t=if t.k=2 then itoa t.n else if t.k=3 then JV t.s else t.s:=by
 unfold tkT
 rw [h]
 exact if_neg (by decide)
theorem KEb {t:Tkn} (h:tokB t=true):∃ c w,tkT t=c::w∧VE c=false∧(t.k=4→Gv c=false):=by
 rw [GD h]
 rcases X2 h with ⟨hk,hs,_⟩ | ⟨hk,_⟩ | ⟨hk,_⟩ | ⟨hk,c,hs,hm,_⟩
 ·rw [if_neg (by omega),if_neg (by omega)]
  match t.s,hs with
  | [],hs=>cases hs
  | c::w,hs =>
   rw [Yy,Bool.and_eq_true,Bool.and_eq_true] at hs
   exact ⟨c,w,rfl,qK c (.inr (.inl hs.1.2)),fun e=>by omega⟩
 ·rw [if_pos hk]
  rcases KAp t.n with ⟨d,hd,h0,hd2⟩ | ⟨d,hd,h0,hd2⟩
  ·obtain ⟨c,r,rfl⟩:=List.exists_cons_of_ne_nil h0
   rw [List.all_cons,Bool.and_eq_true] at hd2
   exact ⟨c,r,hd,qK c (.inr (.inr (.inl hd2.1))),fun e=>by omega⟩
  ·exact ⟨45,d,hd,by decide,fun e=>by omega⟩
 ·rw [if_neg (by omega),if_pos hk]
  exact ⟨39,_,rfl,by decide,fun e=>by omega⟩
 ·rw [if_neg (by omega),if_neg (by omega),hs]
  exact ⟨c,[],rfl,qK c (.inl hm),fun _=>KGu c (.inl hm)⟩
theorem KJy {t:Tkn} {r:List UInt8} (h:tokB t=true) (hn:NumT t) (hr:t.k=1∨t.k=2→∀ c,r.head?=some c→Gv c=false):oneP (tkT t++r)=({ t with a:=0 },(tkT t).length):=by
 rw [GD h]
 obtain ⟨k,s,n,a⟩:=t
 rcases X2 h with ⟨hk,hs,h0⟩ | ⟨hk,hs⟩ | ⟨hk,hs,h0⟩ | ⟨hk,c,hs,hm,h0⟩ <;> dsimp only at hk hs hr ⊢
 ·subst hk
  have h0:n=0:=h0
  subst h0
  rw [if_neg (by decide),if_neg (by decide)]
  match s,hs with
  | [],hs=>cases hs
  | c::w,hs =>
   rw [Yy,Bool.and_eq_true,Bool.and_eq_true] at hs
   have hw:=qL (w:=c::w) (r:=r) (fun d hd=>List.all_eq_true.1 hs.2 d hd) (hr (.inl rfl))
   rw [List.cons_append] at hw ⊢
   rw [VD,if_neg (by rw [(KIB c hs.1.2).1]; decide),if_pos (show letB c=true from hs.1.2),hw,← List.cons_append,List.take_left]
 ·subst hk
  rw [if_pos rfl]
  obtain ⟨v,p,hp,hv,hvn⟩:=hn rfl
  dsimp only at hp hvn
  subst hs
  have hrr:=hr (.inr rfl)
  rcases KAp n with ⟨d,hd,hd0,hd2⟩ | ⟨d,hd,hd0,hd2⟩
  ·obtain ⟨c,w,rfl⟩:=List.exists_cons_of_ne_nil hd0
   rw [hd] at hp ⊢
   have hw:=qL (w:=c::w) (r:=r) (fun x hx=>(KBq x (List.all_eq_true.1 hd2 x hx)).1) hrr
   rw [List.all_cons,Bool.and_eq_true] at hd2
   obtain ⟨m1,m2,m3⟩:=KEa c (.inl hd2.1)
   rw [List.cons_append] at hw ⊢
   rw [VD,if_neg (by rw [m1]; decide),if_neg (by rw [m2]; decide),if_neg m3,if_neg (KBq c hd2.1).2,hw]
   rw [KDl (w:=c::w) (by rw [← List.cons_append,List.take_left]) hp hv,hvn]
  ·rw [hd] at hp ⊢
   have hw:=qL (w:=d) (r:=r) (fun x hx=>(KBq x (List.all_eq_true.1 hd2 x hx)).1) hrr
   obtain ⟨m1,m2,m3⟩:=KEa 45 (.inr rfl)
   rw [List.cons_append,VD,if_neg (by rw [m1]; decide),if_neg (by rw [m2]; decide),if_neg m3,if_pos rfl,hw]
   rw [KDl (w:=45::d) (by rw [← List.cons_append,show 1+d.length=(45::d).length by simp; omega,List.take_left]) hp hv,hvn]
   congr 1
   simp; omega
 ·subst hk
  have h0:n=0:=h0
  subst h0
  rw [if_neg (by decide),if_pos rfl]
  have hc:=KCv s r
  have hp:JB (JV s)=(.mk 2 0 s [],0,0):=by
   rw [← KBp 0 s []]
   refine Nq ?_ ⟨⟨by decide,by decide⟩,fun x hx=>by cases hx⟩
   have hl:s.length≤128:=hs
   simp [mayV,hl]
  have ht:JV s++r=39::((s.flatMap qc++[39])++r):=rfl
  have htk:(JV s++r).take (JV s).length=JV s:=List.take_left
  rw [ht] at hc htk ⊢
  rw [VD,if_neg (by decide),if_neg (by decide),if_pos rfl,hc,KDl (k:=2) htk hp rfl]
  rfl
 ·subst hk
  have h0:n=0:=h0
  subst h0
  subst hs
  rw [if_neg (by decide),if_neg (by decide),List.cons_append,VD,if_pos hm]
  rfl
theorem KGv {s:List UInt8} {p:Nat} (h0:(oneP s).2≠0) (hb:tokB { (oneP s).1 with a:=(p:Int) }=true):tkT { (oneP s).1 with a:=(p:Int) }=s.take (oneP s).2∧NumT { (oneP s).1 with a:=(p:Int) }:=by
 cases s with
 | nil=>exact absurd rfl h0
 | cons c r =>
  rw [GD hb]
  clear hb
  rw [VD] at h0 ⊢
  split at h0
  ·rename_i hm
   rw [if_pos hm]
   exact ⟨rfl,fun h=>by have h:(4:Int)=2:=h; omega⟩
  split at h0
  ·rename_i hm hl
   rw [if_neg hm,if_pos hl]
   exact ⟨rfl,fun h=>by have h:(1:Int)=2:=h; omega⟩
  split at h0
  ·rename_i hm hl h39
   rw [if_neg hm,if_neg hl,if_pos h39]
   obtain ⟨h1,h2,h3,h4⟩:=KGt h0
   rw [h4]
   refine ⟨?_,fun h=>by have h:(3:Int)=2:=h; omega⟩
   dsimp only
   rw [if_neg (by decide),if_pos rfl]
   refine Eq.trans ?_ h3
   generalize (JB _).1=v at h2 ⊢
   obtain ⟨k,n,s,l⟩:=v
   have h2:k=2:=h2
   subst h2
   exact (KBp _ _ _).symm
  ·rename_i hm hl h39
   rw [if_neg hm,if_neg hl,if_neg h39]
   obtain ⟨h1,h2,h3,h4⟩:=KGt h0
   rw [h4]
   dsimp only
   generalize hq:JB _=q at h1 h2 h3 ⊢
   obtain ⟨⟨k,n,ss,l⟩,p,e⟩:=q
   have h2:k=1:=h2
   have h1:e=0:=h1
   subst h2
   subst h1
   dsimp only at h3 ⊢
   rw [KBo] at h3
   rw [if_pos rfl,show (Vl.mk 1 n ss l).n=n from rfl,h3]
   exact ⟨rfl,fun _=>⟨_,_,by dsimp only; rw [h3]; exact hq,rfl,rfl⟩⟩
theorem KGw {s:List UInt8} {a:Nat} {sep w:List UInt8} (hd:s.drop a=sep++w) (hs:∀ c ∈ sep,VE c=true) (hw:∀ c,w.head?=some c→VE c=false):JC s a=a+sep.length:=by
 unfold JC
 rw [hd,List.takeWhile_append_of_pos hs,List.length_append]
 cases w with
 | nil=>rfl
 | cons c w=>rw [List.takeWhile_cons_of_neg (by rw [hw c rfl]; decide)]; rfl
theorem KIC {s:List UInt8} {a:Nat} {sep r:List UInt8} {t:Tkn} (hd:s.drop a=sep++(tkT t++r)) (hs:∀ c ∈ sep,VE c=true) (h:tokB t=true) (hn:NumT t) (hr:t.k=1∨t.k=2→∀ c,r.head?=some c→Gv c=false) :
  Yz s a=some ({ t with a:=((a+sep.length:Nat):Int) },a+sep.length+(tkT t).length):=by
 obtain ⟨c,w,hc,hb,_⟩:=KEb h
 have hsk:=KGw hd hs (by rw [hc]; rintro d hd; cases hd; exact hb)
 have hd2:s.drop (a+sep.length)=tkT t++r:=by rw [← List.drop_drop,hd,List.drop_left]
 have hlt:a+sep.length < s.length:=by
  have:=congrArg List.length hd2
  rw [List.length_drop,hc] at this
  simp only [List.cons_append,List.length_cons] at this
  omega
 unfold Yz
 rw [hsk,if_pos hlt,hd2,KJy h hn hr]
 dsimp only
 rw [if_neg (fun e=>e.elim (fun e=>by rw [hc] at e; cases e) (fun e=>by rw [KJx h] at e; cases e))]
def prT:Int→List Tkn→List UInt8
 | _,[]=>[]
 | last,t::r=>if tokB t=false then prT last r else (if last≠4∧t.k≠4 then [32] else [])++(tkT t++prT t.k r)
def keyT (t:Tkn):Int × List UInt8 × Int:=(t.k,t.s,t.n)
theorem KID {last:Int} {l:List Tkn} (hl:last≠4) (hg:∀ t ∈ l,tokB t=true):∀ c,(prT last l).head?=some c→Gv c=false:=by
 intro c hc
 cases l with
 | nil=>cases hc
 | cons t r =>
  have ht:=hg t (by simp)
  rw [prT,ht,if_neg (by decide)] at hc
  by_cases h4:t.k=4
  ·rw [if_neg (by omega)] at hc
   obtain ⟨d,w,hd,_,hw⟩:=KEb ht
   rw [hd] at hc
   cases hc
   exact hw h4
  ·rw [if_pos ⟨hl,h4⟩] at hc
   cases hc
   decide
theorem KCw {s:List UInt8}:∀ (l:List Tkn) (a:Nat) (last:Int),a≤s.length→s.drop a=prT last l→(∀ t ∈ l,tokB t=true∧NumT t)→(allT s a).1.map keyT=l.map keyT∧(allT s a).2=s.length
 | [],a,last,ha,hd,_=>by
  have:s.length≤a:=List.drop_eq_nil_iff.1 hd
  have hn:Yz s a=none:=by unfold Yz; rw [zt this,if_neg (by omega)]
  rw [Y0 hn,zt this]
  exact ⟨rfl,by dsimp only; omega⟩
 | t::l,a,last,ha,hd,hg=>by
  obtain ⟨ht,hn⟩:=hg t (by simp)
  have hg':∀ x ∈ l,tokB x=true∧NumT x:=fun x hx=>hg x (List.mem_cons_of_mem _ hx)
  rw [prT,ht,if_neg (by decide)] at hd
  have hnx:=KIC hd (fun c hc=>by split at hc <;> simp at hc; subst hc; rfl) ht hn (fun hk=>KID (by omega) (fun x hx=>(hg' x hx).1))
  have hlt:=XP ha hnx
  rw [Y1 ha hnx]
  generalize hsep:(if last≠4∧t.k≠4 then [32] else []:List UInt8)=sep at hd hlt
  obtain ⟨i1,i2⟩:=KCw l (a+sep.length+(tkT t).length) t.k hlt.2 (by rw [← List.drop_drop,← List.drop_drop,hd,List.drop_left,List.drop_left]) hg'
  exact ⟨by rw [List.map_cons,List.map_cons,i1]; rfl,i2⟩
theorem KDm {s:List UInt8} {a a':Nat} {t:Tkn} (ha:a≤s.length) (h:Yz s a=some (t,a')) :
  ∃ p:Nat,t.a=(p:Int)∧a≤p∧tokB t=true∧NumT t∧tkT t≠[]∧(s.drop p).take (tkT t).length=tkT t∧a'=p+(tkT t).length∧p+(tkT t).length≤s.length∧((s.drop a).take (p - a)).all VE=true:=by
 have hsk:=qq ha
 have hol:=KDd (s.drop (JC s a))
 rw [List.length_drop] at hol
 have hbl:((s.drop a).take (JC s a - a)).all VE=true:=by
  unfold JC
  rw [Nat.add_sub_cancel_left,show ((s.drop a).take ((s.drop a).takeWhile VE).length)=(s.drop a).takeWhile VE from (List.prefix_iff_eq_take.1 (List.takeWhile_prefix _)).symm]
  exact List.all_takeWhile
 unfold Yz at h
 split at h
 ·split at h
  ·cases h
  ·rename_i h0 h1
   cases h
   have ho:(oneP (s.drop (JC s a))).2≠0:=fun e=>h1 (.inl e)
   have hb:tokB { (oneP (s.drop (JC s a))).1 with a:=(JC s a:Int) }=true:=by
    cases hh:tokB { (oneP (s.drop (JC s a))).1 with a:=(JC s a:Int) } with
    | true=>rfl
    | false=>exact absurd (.inr hh) h1
   obtain ⟨hx,hn⟩:=KGv ho hb
   have hl:(tkT { (oneP (s.drop (JC s a))).1 with a:=(JC s a:Int) }).length=(oneP (s.drop (JC s a))).2:=by
    rw [hx,List.length_take,List.length_drop]; omega
   refine ⟨JC s a,rfl,hsk.1,hb,hn,fun e=>by rw [e] at hl; exact ho hl.symm,?_,by rw [hl],by rw [hl]; omega,hbl⟩
   rw [hl,hx]
 ·cases h
theorem KCx {s:List UInt8}:∀ (f a:Nat),a≤s.length→s.length - a < f→∀ t ∈ (allT s a).1,tokB t=true∧NumT t
 | 0,a,ha,hf=>by omega
 | f+1,a,ha,hf=>by
  cases hn:Yz s a with
  | none=>rw [Y0 hn]; intro t ht; cases ht
  | some p =>
   obtain ⟨t,a'⟩:=p
   have hlt:=XP ha hn
   rw [Y1 ha hn]
   intro x hx
   rcases List.mem_cons.1 hx with rfl | hx
   ·obtain ⟨_,_,_,h1,h2,_⟩:=KDm ha hn
    exact ⟨h1,h2⟩
   ·exact KCx f a' hlt.2 (by omega) x hx
end Gx
namespace Gx
open Go Go.Proofs Go.Shelf Go.RowKit Go.Lib
set_option linter.unusedVariables false
set_option linter.unusedSimpArgs false
set_option maxRecDepth 100000
def lexP (s:List UInt8):List Tkn × Nat × Int :=
 if 16384 < s.length then ([],0,3) else
  match (allT s 0).1[4096]? with
  | some t=>([],t.a.toNat,3)
  | none=>if (allT s 0).2 < s.length then ([],(allT s 0).2,150) else ((allT s 0).1,s.length,0)
theorem KGx {s:List UInt8}:∀ (f a:Nat),a≤s.length→s.length - a < f→(allT s a).2≤s.length
 | 0,a,ha,hf=>by omega
 | f+1,a,ha,hf=>by
  cases hn:Yz s a with
  | none=>rw [Y0 hn]; exact (qq ha).2
  | some p =>
   obtain ⟨t,a'⟩:=p
   have hlt:=XP ha hn
   rw [Y1 ha hn]
   exact KGx f a' hlt.2 (by omega)
theorem KEc (s:List UInt8):(allT s 0).2≤s.length:=KGx _ 0 (Nat.zero_le _) (Nat.lt_succ_self _)
theorem qM (s:List UInt8):∀ t ∈ (allT s 0).1,tokB t=true∧NumT t:=KCx _ 0 (Nat.zero_le _) (Nat.lt_succ_self _)
theorem KJz {s:List UInt8} (h:(lexP s).2.2=0):s.length≤16384∧lexP s=((allT s 0).1,s.length,0)∧(allT s 0).1.length≤4096∧(allT s 0).2=s.length:=by
 have hle:=KEc s
 unfold lexP at h ⊢
 split at h
 ·have h:(3:Int)=0:=h
  omega
 ·rename_i h1
  rw [if_neg h1]
  split at h
  ·have h:(3:Int)=0:=h
   omega
  ·rename_i h2
   split at h
   ·have h:(150:Int)=0:=h
    omega
   ·rename_i h3
    rw [if_neg h3]
    refine ⟨by omega,rfl,?_,by omega⟩
    have:=List.getElem?_eq_none_iff.1 h2
    omega
theorem KJ0 {s:List UInt8} (h1:s.length≤16384) (h2:(allT s 0).1.length≤4096) (h3:(allT s 0).2=s.length):lexP s=((allT s 0).1,s.length,0):=by
 unfold lexP
 rw [if_neg (by omega),List.getElem?_eq_none h2]
 dsimp only
 rw [if_neg (by omega)]
theorem KCy {l:List Tkn} (hg:∀ t ∈ l,tokB t=true∧NumT t) (hl:l.length≤4096) (hs:(prT 4 l).length≤16384):lexP (prT 4 l)=((allT (prT 4 l) 0).1,(prT 4 l).length,0)∧(allT (prT 4 l) 0).1.map keyT=l.map keyT:=by
 obtain ⟨h1,h2⟩:=KCw l 0 4 (Nat.zero_le _) (s:=prT 4 l) rfl hg
 refine ⟨KJ0 hs ?_ h2,h1⟩
 have:=congrArg List.length h1
 rw [List.length_map,List.length_map] at this
 omega
theorem KJ1 {t u:Tkn} (h:keyT t=keyT u) (ht:tokB t=true) (hu:tokB u=true):tkT t=tkT u:=by
 rw [GD ht,GD hu]
 unfold keyT at h
 have h1:t.k=u.k:=congrArg Prod.fst h
 have h2:t.s=u.s:=congrArg (fun x=>x.2.1) h
 have h3:t.n=u.n:=congrArg (fun x=>x.2.2) h
 rw [h1,h2,h3]
theorem KGy:∀ (l m:List Tkn) (last:Int),l.map keyT=m.map keyT→(∀ t ∈ l,tokB t=true)→(∀ t ∈ m,tokB t=true)→prT last l=prT last m
 | [],[],_,_,_,_=>rfl
 | [],_::_,_,h,_,_=>by cases h
 | _::_,[],_,h,_,_=>by cases h
 | t::l,u::m,last,h,hl,hm=>by
  rw [List.map_cons,List.map_cons] at h
  obtain ⟨h1,h2⟩:=List.cons.inj h
  have ht:=hl t (by simp)
  have hu:=hm u (by simp)
  have hk:t.k=u.k:=congrArg Prod.fst h1
  rw [prT,prT,ht,hu,if_neg (show ¬ (true=false) by decide),if_neg (show ¬ (true=false) by decide),KJ1 h1 ht hu,hk,KGy l m u.k h2 (fun x hx=>hl x (List.mem_cons_of_mem _ hx)) (fun x hx=>hm x (List.mem_cons_of_mem _ hx))]
end Gx
namespace Gx
open Go
set_option linter.unusedVariables false
set_option linter.unusedSimpArgs false
set_option maxRecDepth 100000
theorem KJ2 {s:List UInt8} {b c a:Nat} (ha:a≤s.length) (hs:s.length≤1099511627776) (hb:b≠gER) :
  SeqT Go.Proofs.Tryz.prog (allT s a).1 (.func (.func Uf) #[] #[.pointer (some ⟨c,0,none⟩)]) b (fun h1=>ErrV h1∧h1[c]?=some (.cells #[.pointer (some ⟨b,0,none⟩)] WD (0,0))) (V5 s a) (fun h1=>h1[b]?=some (V5 s (allT s a).2)) :=
 fun l Inv Stop h hU hC g h0 hround=>KMB ha hs hb hU hC g h0 hround
theorem KJ3 {β:Type} {lo n:Nat} {h:Heap} {Q:β→Heap→Prop} {r:Sl} {ts:List Tkn} {t:Tkn} {f:Sl→M β} (G:Gw lo h r 4 (Vd (tks ts))) (hlo:lo≤h.size) (hm:ts.length≤1099511627776) (hn:h[n]?=some (.cells t.cells KR (0,0)))
  (H:∀ h' r',Gw lo h' r' 4 (Vd (tks (ts++[t])))→h.size≤h'.size→(∀ i,i < h.size→¬ Sl.on r i→h'[i]?=h[i]?)→(f r').wp h' Q):(ldG 4 ⟨n,0,none⟩>>=fun x=>KAz 4 1 (#[.int .i64 0,.string ByteArray.empty,.int .i64 0,.int .i64 0]:Array Value) [(0,.agg x)]>>=fun y=>bdL KR 1 y>>=fun z=>apL KR 4 40 (#[.int .i64 0,.string ByteArray.empty,.int .i64 0,.int .i64 0]:Array Value) r z>>=f).wp h Q:=by
 refine ldR hn rfl (KD0 rfl (KEt ?_))
 have e6:=Ext.push h (.cells t.cells KR)
 have g6:(h.push (.cells t.cells KR))[h.size]?=some (.cells t.cells KR (0,0)):=ZI
 generalize h.push (.cells t.cells KR)=h6 at e6 g6 ⊢
 have G6:=G.ext e6
 have hrl:=G6.len
 rw [Vz (KFJ ts),Gy] at hrl
 have hs6:=e6.size
 have hnew:Vd (tks [t])=t.cells.toList:=by simp [Vd,tks]
 refine KA2 (vs:=Vd (tks ts)) (news:=Vd (tks [t])) rfl G6 (by rw [hnew]; rfl) (.inr ⟨_,rfl,fun j v hj=>?_⟩) (fun v hv=>YV t v (by rw [hnew] at hv; exact hv)) (by dsimp only; omega) (by dsimp only; omega) (by omega) (fun h7 r7 G7 hlen7 hs7 same7 on7=>?_)
 ·rw [Kj,Nat.zero_add,KL g6]
  rw [hnew] at hj
  simpa using hj
 ·refine H h7 r7 ?_ (by omega) (fun i hi ho=>(same7 i (by omega) ho).trans (e6.same i hi))
  rw [KJr]
  unfold Vd at G7 ⊢
  rw [List.flatMap_append]
  exact G7
structure LxJ (hA:Heap) (c b n6:Nat) (t6:TypeId) (ts:List Tkn) (h:Heap):Prop where
 size:hA.size+2≤h.size
 same:∀ i,i < hA.size→i≠b→i≠n6→h[i]?=hA[i]?
 df:h[hA.size]?=some (.deferred (some []))
 c6:∃ r,h[n6]?=some (.cells #[r.v] t6 (0,0))∧Gw (hA.size+2) h r 4 (Vd (tks ts))
theorem LxJ.km {hA:Heap} {c b n6 k:Nat} {t6:TypeId} {ts:List Tkn} {h h':Heap} (J:LxJ hA c b n6 t6 ts h) (u:Kb k h h') (hk:k=b∨k=hA.size+1) (h6:n6 < hA.size) (hb6:b≠n6) (hb:b < hA.size):LxJ hA c b n6 t6 ts h':=by
 obtain ⟨r,c6,G⟩:=J.c6
 have hz:=J.size
 exact ⟨by have:=u.size; omega,fun i hi hib hi6=>(u.same i (by omega) (by omega)).trans (J.same i hi hib hi6),u.blk J.df (by omega),⟨r,u.blk c6 (by omega),G.same (fun i hi=>u.same i (G.lt hi).1 (by have:=(G.lt hi).2; omega))⟩⟩
theorem Upd.kb {k:Nat} {h h':Heap} (u:Upd k h h'):Kb k h h':=Km.upd u rfl
theorem KLP {p:UInt8→Bool}:∀ l:List UInt8,(l.dropWhile p).takeWhile p=[]
 | []=>rfl
 | c::l=>by
  cases h:p c with
  | true=>rw [List.dropWhile_cons_of_pos h]; exact KLP l
  | false=>rw [List.dropWhile_cons_of_neg (by rw [h]; decide),List.takeWhile_cons_of_neg (by rw [h]; decide)]
theorem KGz {p:UInt8→Bool}:∀ l:List UInt8,l.drop (l.takeWhile p).length=l.dropWhile p
 | []=>rfl
 | c::l=>by
  cases h:p c with
  | true=>rw [List.dropWhile_cons_of_pos h,List.takeWhile_cons_of_pos h,List.length_cons,List.drop_succ_cons]; exact KGz l
  | false=>rw [List.dropWhile_cons_of_neg (by rw [h]; decide),List.takeWhile_cons_of_neg (by rw [h]; decide)]; rfl
theorem KFO (s:List UInt8) (a:Nat):JC s (JC s a)=JC s a:=by
 have hd:s.drop (JC s a)=(s.drop a).dropWhile VE:=by
  unfold JC
  rw [← List.drop_drop,KGz]
 have:((s.drop (JC s a)).takeWhile VE).length=0:=by rw [hd,KLP]; rfl
 show JC s a+((s.drop (JC s a)).takeWhile VE).length=JC s a
 omega
theorem KCz {s:List UInt8}:∀ (f a:Nat),a≤s.length→s.length - a < f→JC s (allT s a).2=(allT s a).2
 | 0,a,ha,hf=>by omega
 | f+1,a,ha,hf=>by
  cases hn:Yz s a with
  | none=>rw [Y0 hn]; exact KFO s a
  | some p =>
   obtain ⟨t,a'⟩:=p
   have hlt:=XP ha hn
   rw [Y1 ha hn]
   exact KCz f a' hlt.2 (by omega)
theorem KEd {n2 n3 n4:Nat} {t2 t3 t4:TypeId} {ds:List Nat} {v2:Sl} {v3 v4:Int} {h:Heap} {Q:Sl × Int × Int→Heap→Prop}
  (g2:h[n2]?=some (.cells #[v2.v] t2 (0,0))) (g3:h[n3]?=some (.cells #[.int .i64 v3] t3 (0,0))) (g4:h[n4]?=some (.cells #[.int .i64 v4] t4 (0,0)))
  (hd:ds=[]∨∃ d,ds=[d]∧h[d]?=some (.deferred (some []))∧n2≠d∧n3≠d∧n4≠d)
  (H:∀ h',h'.size=h.size→(∀ i,(∀ d ∈ ds,i≠d)→h'[i]?=h[i]?)→Q (v2,v3,v4) h') :
  (shut ds>>=fun _=>ldL ⟨n2,0,none⟩>>=fun a=>ldI .i64 ⟨n3,0,none⟩>>=fun b=>ldI .i64 ⟨n4,0,none⟩>>=fun c=>(M.pure (a,b,c):M (Sl × Int × Int))).wp h Q:=by
 rcases hd with rfl | ⟨d,rfl,gd,e2,e3,e4⟩
 ·exact Vh (oneC g2) (Zp (oneC g3) (Zp (oneC g4) (KG (H h rfl (fun _ _=>rfl)))))
 ·refine ⟨gd,?_⟩
  have u:=Upd.set_ h d (.deferred none)
  exact Vh (oneC ((u.ne _ e2).trans g2)) (Zp (oneC ((u.ne _ e3).trans g3)) (Zp (oneC ((u.ne _ e4).trans g4)) (KG (H _ u.size (fun i hi=>u.ne i (hi d (by simp)))))))
def KLQ (c2 c3 c4 c6:Addr):Addr→M Nat:=fun Xx26=>do
  let Xx30←ldL c6
  M.ite ((Xx30.len:Int) == 4096) (do
   let Xx32←ldI .i64 ((Xx26).add 3)
   stV c2 ((Sl.nil:Sl).v)
   chk (fun h:Heap=>(KM h ((Xx26).add 3)=some (.int .i64 Xx32)))
   stV c3 (.int .i64 Xx32)
   stV c4 (.int .i64 3)
   M.pure 1
   ) (do
   let Xx36←ldL c6
   let Xx37←ldG 4 Xx26
   let y_39←KAz 4 1 (#[.int .i64 0,.string ByteArray.empty,.int .i64 0,.int .i64 0]:Array Value) [(0,.agg Xx37)]
   let Xx38←bdL KR 1 y_39
   let Xx40←apL KR 4 40 (#[.int .i64 0,.string ByteArray.empty,.int .i64 0,.int .i64 0]:Array Value) Xx36 Xx38
   stV c6 ((Xx40:Sl).v)
   M.pure 0
   )
structure LxE (h0 hA:Heap) (n2 n3 n4:Nat) (v3:Int) (h:Heap):Prop where
 size:hA.size+2≤h.size
 same:∀ i,i < h0.size→h[i]?=h0[i]?
 df:h[hA.size]?=some (.deferred (some []))
 g2:h[n2]?=some (.cells #[(Sl.nil:Sl).v] Js (0,0))
 g3:h[n3]?=some (.cells #[.int .i64 v3] XT (0,0))
 g4:h[n4]?=some (.cells #[.int .i64 3] qR (0,0))
theorem qu {s:List UInt8} {h:Heap} {Q:Sl × Int × Int→Heap→Prop} (he:ErrV h)
  (H:∀ h' r,Ext h h'→TkR h' r (lexP s).1→r.len≤r.cap→Q (r,((lexP s).2.1:Int),(lexP s).2.2) h'):(XG (bs s)).wp h Q:=by
 unfold XG
 refine JM (fun h1 e1 s1 g1=>JM (fun h2 e2 s2 g2=>JM (fun h3 e3 s3 g3=>?_)))
 rw [ZH]
 have hER:gER < h.size:=by obtain ⟨t,p,hc⟩:=he; exact X9 hc
 have E3:=(e1.trans e2).trans e3
 have n1:h3[h.size]?=some (.cells #[.slice none 0 0] Js (0,0)):=e3.blk (e2.blk g1)
 have n2:=e3.blk g2
 refine Ki (fun hlong=>?_) (fun hshort=>?_)
 ·unfold lexP at H
  rw [if_pos (by have:=of_decide_eq_true hlong; omega)] at H
  refine stO n1 (KAC _) (fun h4 u4 k1=>stO ((u4.ne _ (by omega)).trans n2) rfl (fun h5 u5 k2=>stO ((u5.ne _ (by omega)).trans ((u4.ne _ (by omega)).trans g3)) rfl (fun h6 u6 k3=>?_)))
  have k1':=(u6.ne _ (by omega)).trans ((u5.ne _ (by omega)).trans k1)
  have k2':=(u6.ne _ (by omega)).trans k2
  exact KEd (v2:=Sl.nil) k1' k2' k3 (.inl rfl) (fun h' hz hsame=>H h' Sl.nil ⟨by rw [hz,u6.size,u5.size,u4.size]; exact E3.size,fun i hi=>(hsame i (fun d hd=>by cases hd)).trans ((u6.ne _ (by omega)).trans ((u5.ne _ (by omega)).trans ((u4.ne _ (by omega)).trans (E3.same i hi))))⟩ (TkR.nil _) (Nat.le_refl _))
 ·have hshort:=of_decide_eq_false hshort
  have hsl:s.length≤16384:=by omega
  have hs:s.length≤1099511627776:=by omega
  refine JM (fun h4 e4 s4 g4=>JM (fun h5 e5 s5 g5=>?_))
  unfold Wy
  refine ZG (JM (fun hA eA sA gA=>ZY ?_))
  have E5:=(E3.trans e4).trans e5
  have EA:=E5.trans eA
  obtain ⟨al,hal⟩:∃ al,al=allT s 0:=⟨_,rfl⟩
  have gb:hA[h3.size]?=some (V5 s 0):=eA.blk (e5.blk g4)
  have hle:=KEc s
  have hskp:=KCz _ 0 (Nat.zero_le s.length) (Nat.lt_succ_self _)
  have heA:=he.ext EA
  have m1:hA[h.size]?=some (.cells #[.slice none 0 0] Js (0,0)):=((e4.trans e5).trans eA).blk n1
  have m2:=((e4.trans e5).trans eA).blk n2
  have m3:=((e4.trans e5).trans eA).blk g3
  have m6:=eA.blk g5
  refine KN (KMC (Yb:=KLQ ⟨h.size,0,none⟩ ⟨h1.size,0,none⟩ ⟨h2.size,0,none⟩ ⟨h4.size,0,none⟩) (fun l x=>rfl) (c:=.ret) rfl (fun l hh=>by cases hh) (ts:=(allT s 0).1) (b:=h3.size)
   (fun i h'=>i≤4096∧LxJ hA h5.size h3.size h4.size Js ((allT s 0).1.take i) h')
   (fun h'=>∃ t,(allT s 0).1[4096]?=some t∧LxE h hA h.size h1.size h2.size t.a h') ?_ ?_ ?_ ?_ ?_ gb (KJ2 (c:=h5.size) (Nat.zero_le _) hs (by omega)) ?_ ?_ ?_ ?_)
  ·exact fun i h' h'' hj u=>⟨hj.1,hj.2.km u.kb (.inr rfl) (by omega) (by omega) (by omega)⟩
  ·rintro h' h'' ⟨t,ht,hj⟩ u
   exact ⟨t,ht,by rw [u.size]; exact hj.size,fun i hi=>(u.ne _ (by omega)).trans (hj.same i hi),(u.ne _ (by omega)).trans hj.df,(u.ne _ (by omega)).trans hj.g2,(u.ne _ (by omega)).trans hj.g3,(u.ne _ (by omega)).trans hj.g4⟩
  ·exact fun h' h'' hj u=>(u.ne _ (by omega)).trans hj
  ·exact fun i h' h'' hj hz u=>⟨hj.1,hj.2.km u (.inl rfl) (by omega) (by omega) (by omega)⟩
  ·rintro i h' ⟨_,hj⟩
   refine ⟨?_,(hj.same _ (by omega) (by omega) (by omega)).trans gA⟩
   obtain ⟨t,p,hc⟩:=heA
   refine ⟨t,p,?_⟩
   unfold KM at hc ⊢
   rw [show (⟨gER,0,none⟩:Addr).block=gER from rfl] at hc ⊢
   rw [hj.same gER (by omega) (by omega) (by omega)]
   exact hc
  ·intro r
   have e7:Ext hA ((hA.push (.deferred (some []))).push (Y6 r .ready none)):=(Ext.push _ _).pushed _
   exact ⟨Nat.zero_le _,by simp,fun i hi _ _=>e7.same i hi,by rw [VR (by simp)]; exact ZI,⟨Sl.nil,e7.blk m6,Gw.nil _ _ _⟩⟩
  ·rintro i hi h' o n ⟨him,J⟩ hn hnl ho
   obtain ⟨r,c6,G⟩:=J.c6
   have hrl:=G.tkR.1
   rw [List.length_take,Nat.min_eq_left (by omega)] at hrl
   have hz:=J.size
   unfold KLQ
   refine Vh (oneC c6) (Ki (fun hc=>?_) (fun hc=>?_))
   ·rw [eqI] at hc
    have hc:=of_decide_eq_true hc
    obtain rfl:i=4096:=by omega
    have q1:=(J.same h.size (by omega) (by omega) (by omega)).trans m1
    have q2:=(J.same h1.size (by omega) (by omega) (by omega)).trans m2
    have q3:=(J.same h2.size (by omega) (by omega) (by omega)).trans m3
    refine Zp (n:=((allT s 0).1[4096]).a) (by rw [Kj,KL hn]; rfl) (stO q1 (KAC _) (fun h6 u6 k1=>zJ (by rw [Kj,KL ((u6.ne n (by omega)).trans hn)]; rfl) (stO ((u6.ne _ (by omega)).trans q2) rfl (fun h7 u7 k2=>stO ((u7.ne _ (by omega)).trans ((u6.ne _ (by omega)).trans q3)) rfl (fun h8 u8 k3=>KG ?_)))))
    have keep:∀ k,k≠h.size→k≠h1.size→k≠h2.size→h8[k]?=h'[k]?:=fun k a1 a2 a3=>(u8.ne k a3).trans ((u7.ne k a2).trans (u6.ne k a1))
    refine ⟨(keep _ (by omega) (by omega) (by omega)).trans ho,keep _ (by omega) (by omega) (by omega),.inr ⟨rfl,(allT s 0).1[4096],List.getElem?_eq_getElem hi,by rw [u8.size,u7.size,u6.size]; exact hz,fun k hk=>(keep k (by omega) (by omega) (by omega)).trans ((J.same k (by have:=EA.size; omega) (by have:=E3.size; omega) (by have:=(E3.trans e4).size; omega)).trans (EA.same k hk)),(keep _ (by omega) (by omega) (by omega)).trans J.df,(u8.ne _ (by omega)).trans ((u7.ne _ (by omega)).trans k1),(u8.ne _ (by omega)).trans k2,k3⟩⟩
   ·rw [eqI] at hc
    have hc:=of_decide_eq_false hc
    refine Vh (oneC c6) (KJ3 G (by omega) (by rw [List.length_take]; omega) hn (fun h6 r6 G6 hs6 same6=>?_))
    have hG:∀ {k:Nat},Sl.on r k→k < h'.size∧hA.size+2≤k:=fun ho=>G.lt ho
    have nn:∀ k,k < hA.size+2→¬ Sl.on r k:=fun k hk ho=>by have:=(hG ho).2; omega
    have c6':=(same6 _ (by omega) (nn h4.size (by omega))).trans c6
    refine stO c6' (KAC _) (fun h7 u7 k6=>KG ?_)
    have keep:∀ k,k < hA.size+2→k≠h4.size→h7[k]?=h'[k]?:=fun k hk hk6=>(u7.ne k hk6).trans (same6 k (by omega) (nn k hk))
    refine ⟨(keep _ (by omega) (by omega)).trans ho,keep _ (by omega) (by omega),.inl ⟨rfl,by omega,by rw [u7.size]; omega,fun k hk hkb hk6=>(keep k (by omega) hk6).trans (J.same k hk hkb hk6),(keep _ (by omega) (by omega)).trans J.df,⟨r6,k6,?_⟩⟩⟩
    rw [List.take_succ_eq_append_getElem hi]
    exact G6.same (fun k hk=>u7.ne k (by have:=(G6.lt hk).2; omega))
  ·rintro h' ⟨him,J⟩ hend
   refine iteF rfl (KN (zw hend hle hs (fun h6 u6 k6=>?_)))
   rw [hskp] at k6 ⊢
   obtain ⟨r,c6,G⟩:=J.c6
   rw [List.take_length] at G
   have hz:=J.size
   have nn:∀ k,k < hA.size+2→¬ Sl.on r k:=fun k hk ho=>by have:=(G.lt ho).2; omega
   have q1:=(u6.ne h.size (by omega)).trans ((J.same h.size (by omega) (by omega) (by omega)).trans m1)
   have q2:=(u6.ne h1.size (by omega)).trans ((J.same h1.size (by omega) (by omega) (by omega)).trans m2)
   have q3:=(u6.ne h2.size (by omega)).trans ((J.same h2.size (by omega) (by omega) (by omega)).trans m3)
   have qd:=(u6.ne hA.size (by omega)).trans J.df
   have hnone:(allT s 0).1[4096]?=none:=List.getElem?_eq_none him
   unfold lexP at H
   rw [if_neg (by omega),hnone] at H
   dsimp only at H
   refine Ki (fun hlt=>?_) (fun hge=>?_)
   ·rw [if_pos (of_decide_eq_true hlt)] at H
    refine ZK (Zp (ql k6) (stO q1 (KAC _) (fun h7 u7 k1=>zJ (ql ((u7.ne _ (by omega)).trans k6)) (stO ((u7.ne _ (by omega)).trans q2) rfl (fun h8 u8 k2=>stO ((u8.ne _ (by omega)).trans ((u7.ne _ (by omega)).trans q3)) rfl (fun h9 u9 k3=>?_))))))
    have keep:∀ k,k≠h3.size→k≠h.size→k≠h1.size→k≠h2.size→h9[k]?=h'[k]?:=fun k a0 a1 a2 a3=>(u9.ne k a3).trans ((u8.ne k a2).trans ((u7.ne k a1).trans (u6.ne k a0)))
    exact KEd (v2:=Sl.nil) ((u9.ne _ (by omega)).trans ((u8.ne _ (by omega)).trans k1)) ((u9.ne _ (by omega)).trans k2) k3 (.inr ⟨hA.size,rfl,(keep _ (by omega) (by omega) (by omega) (by omega)).trans J.df,by omega,by omega,by omega⟩)
     (fun h' hz' hsame=>H h' Sl.nil ⟨by rw [hz',u9.size,u8.size,u7.size,u6.size]; have:=EA.size; omega,fun i hi=>(hsame i (fun d hd=>by have:=EA.size; simp at hd; omega)).trans ((keep i (by have:=E3.size; omega) (by omega) (by omega) (by omega)).trans ((J.same i (by have:=EA.size; omega) (by have:=E3.size; omega) (by have:=(E3.trans e4).size; omega)).trans (EA.same i hi)))⟩ (TkR.nil _) (Nat.le_refl _))
   ·rw [if_neg (of_decide_eq_false hge)] at H
    have q6:=(u6.ne h4.size (by omega)).trans c6
    refine Vh (oneC q6) (stO q1 (KAC _) (fun h7 u7 k1=>stO ((u7.ne _ (by omega)).trans q2) rfl (fun h8 u8 k2=>stO ((u8.ne _ (by omega)).trans ((u7.ne _ (by omega)).trans q3)) rfl (fun h9 u9 k3=>?_))))
    have keep:∀ k,k≠h3.size→k≠h.size→k≠h1.size→k≠h2.size→h9[k]?=h'[k]?:=fun k a0 a1 a2 a3=>(u9.ne k a3).trans ((u8.ne k a2).trans ((u7.ne k a1).trans (u6.ne k a0)))
    exact KEd (v2:=r) ((u9.ne _ (by omega)).trans ((u8.ne _ (by omega)).trans k1)) ((u9.ne _ (by omega)).trans k2) k3 (.inr ⟨hA.size,rfl,(keep _ (by omega) (by omega) (by omega) (by omega)).trans J.df,by omega,by omega,by omega⟩)
     (fun h'' hz' hsame=>H h'' r ⟨by rw [hz',u9.size,u8.size,u7.size,u6.size]; have:=EA.size; omega,fun i hi=>(hsame i (fun d hd=>by have:=EA.size; simp at hd; omega)).trans ((keep i (by have:=E3.size; omega) (by omega) (by omega) (by omega)).trans ((J.same i (by have:=EA.size; omega) (by have:=E3.size; omega) (by have:=(E3.trans e4).size; omega)).trans (EA.same i hi)))⟩
      (G.same (fun k hk=>by have:=(G.lt hk).2; exact (hsame k (fun d hd=>by simp at hd; omega)).trans (keep k (by omega) (by omega) (by omega) (by omega)))).tkR G.cap)
  ·rintro h' ⟨t,ht,J⟩
   unfold lexP at H
   rw [if_neg (by omega),ht] at H
   dsimp only at H
   have hta:((t.a.toNat:Nat):Int)=t.a:=by
    obtain ⟨hi,hte⟩:=List.getElem?_eq_some_iff.1 ht
    have:=(qM s t (hte ▸ List.getElem_mem hi)).1
    have:¬ t.a < 0:=fun hneg=>by
     unfold tokB at this
     rw [decide_eq_true hneg] at this
     simp at this
    omega
   rw [hta] at H
   exact iteT rfl (KEd (v2:=Sl.nil) J.g2 J.g3 J.g4 (.inr ⟨hA.size,rfl,J.df,by omega,by omega,by omega⟩)
    (fun h'' hz' hsame=>H h'' Sl.nil ⟨by rw [hz']; have:=J.size; have:=EA.size; omega,fun i hi=>(hsame i (fun d hd=>by have:=EA.size; simp at hd; omega)).trans (J.same i hi)⟩ (TkR.nil _) (Nat.le_refl _)))
end Gx
namespace Gx
open Go Go.Proofs Go.Shelf Go.RowKit Go.Lib
set_option linter.unusedVariables false
set_option linter.unusedSimpArgs false
set_option maxRecDepth 100000
end Gx
namespace Gx
open Go Go.Proofs Go.Shelf Go.RowKit Go.Lib
set_option linter.unusedVariables false
set_option linter.unusedSimpArgs false
set_option maxRecDepth 100000
structure Rgd (h:Heap) (b:Nat) (s:List UInt8) (i:Nat):Prop where
 blk:h[b]?=some (.cells #[.string (bs s),.int .i64 (i:Int),.int .i64 (-1)] Vm (0,0))
 le:i≤s.length
 small:s.length≤1099511627776
def Rx (h:Heap) (b:Nat) (s:List UInt8) (e:Nat):Prop:=∃ i:Nat,i≤s.length∧s.length≤1099511627776∧h[b]?=some (.cells #[.string (bs s),.int .i64 (i:Int),.int .i64 (e:Int)] Vm (0,0))
theorem Rgd.ext {h h':Heap} {b:Nat} {s:List UInt8} {i:Nat} (R:Rgd h b s i) (e:Ext h h'):Rgd h' b s i:=⟨e.blk R.blk,R.le,R.small⟩
theorem Rgd.lt {h:Heap} {b:Nat} {s:List UInt8} {i:Nat} (R:Rgd h b s i):b < h.size:=Uj R.blk
theorem Rgd.upd {h h':Heap} {b g:Nat} {s:List UInt8} {i:Nat} (R:Rgd h b s i) (u:Upd g h h') (hg:b≠g):Rgd h' b s i:=⟨(u.ne b hg).trans R.blk,R.le,R.small⟩
theorem Rx.ext {h h':Heap} {b:Nat} {s:List UInt8} {i:Nat} (R:Rx h b s i) (e:Ext h h'):Rx h' b s i:=let ⟨k,h1,h2,h3⟩:=R; ⟨k,h1,h2,e.blk h3⟩
theorem Rx.upd {h h':Heap} {b g:Nat} {s:List UInt8} {i:Nat} (R:Rx h b s i) (u:Upd g h h') (hg:b≠g):Rx h' b s i:=let ⟨k,h1,h2,h3⟩:=R; ⟨k,h1,h2,(u.ne b hg).trans h3⟩
theorem Rx.lt {h:Heap} {b:Nat} {s:List UInt8} {i:Nat} (R:Rx h b s i):b < h.size:=let ⟨k,h1,h2,h3⟩:=R; Uj h3
section
variable {β:Type} {h:Heap} {Q:β→Heap→Prop} {b i e:Nat} {s:List UInt8}
end
section
variable {h:Heap} {b i e:Nat} {s:List UInt8}
end
end Gx
namespace Gx
open Go
set_option linter.unusedVariables false
set_option linter.unusedSimpArgs false
end Gx
namespace Gx
open Go Go.Proofs Go.Shelf Go.RowKit Go.Lib
set_option linter.unusedVariables false
set_option linter.unusedSimpArgs false
set_option maxRecDepth 100000
end Gx
namespace Gx
open Go Go.Proofs Go.Shelf Go.RowKit Go.Lib
set_option linter.unusedVariables false
set_option linter.unusedSimpArgs false
set_option maxRecDepth 100000
end Gx
namespace Gx
open Go
set_option linter.unusedVariables false
set_option linter.unusedSimpArgs false
set_option maxRecDepth 100000
end Gx
namespace Gx
open Go
set_option linter.unusedVariables false
set_option linter.unusedSimpArgs false
set_option maxRecDepth 100000
end Gx
namespace Gx
open Go
set_option linter.unusedVariables false
set_option linter.unusedSimpArgs false
set_option maxRecDepth 100000
theorem KLR:lexP [103,46,86,40,49,41]=([⟨1,[103],0,0⟩,⟨4,[46],0,1⟩,⟨1,[86],0,2⟩,⟨4,[40],0,3⟩,⟨2,[],1,4⟩,⟨4,[41],0,5⟩],6,0):=by kernel_rfl
theorem KC0 {h:Heap} {Q:Bool→Heap→Prop} (he:ErrV h) (H:∀ h',Ext h h'→Q true h'):(Jt).wp h Q:=by
 unfold Jt
 refine KN (qu (s:=[103,46,86,40,49,41]) he (fun h1 r e1 R hc=>?_))
 rw [KLR] at R ⊢
 obtain ⟨a,ha,hca⟩:=R.at (i:=4) (by decide)
 have hrl:r.len=6:=R.1
 refine Xk (by rw [hrl]; rfl) (ZG (Yk (b:=a) (by decide) (by rw [hrl]; decide) ha (ZG (qf (cs:=Tkn.cells ⟨2,[],1,4⟩) rfl hca ?_))))
 refine ZG ⟨true,⟨⟨⟨_,rfl,rfl⟩,⟨_,rfl,rfl⟩,⟨_,rfl,rfl⟩,⟨_,rfl,rfl⟩,trivial⟩,⟨⟨_,rfl,rfl⟩,⟨_,rfl,rfl⟩,⟨_,rfl,rfl⟩,⟨_,rfl,rfl⟩,trivial⟩,by decide +kernel⟩,?_⟩
 exact ZY (Xk rfl (ZY (Xk rfl (ZY (KG (H _ e1))))))
end Gx
namespace Gx
open Go Go.Lib
set_option linter.unusedVariables false
set_option linter.unusedSimpArgs false
set_option maxRecDepth 100000
theorem KIE {s:List UInt8} {d i j:Nat} {v:Vl} (hi:i≤s.length) (h:pval s d i=.ok (v,j)):I64 v.n:=by
 have z:I64 0:=⟨by decide,by decide⟩
 have o:I64 1:=⟨by decide,by decide⟩
 cases d with
 | zero=>cases h
 | succ d =>
  rw [pval] at h
  split at h
  ·split at h
   ·cases h
   ·rename_i n j1 h1
    cases h
    exact (zm h1 hi).1
  split at h
  ·split at h
   ·cases h
   ·cases h; exact z
  split at h
  ·split at h
   ·cases h
   ·cases h; exact o
  split at h
  ·split at h
   ·cases h
   ·cases h; exact z
  split at h
  ·obtain ⟨n,rfl,hn,_⟩:=GB h; exact hn
  split at h
  ·obtain ⟨n,rfl,hn,_⟩:=GB h; exact hn
  split at h
  ·split at h
   ·cases h
   ·cases h; exact z
  split at h
  ·split at h
   ·cases h
   ·cases h; exact z
  ·cases h
theorem KFP (s:List UInt8):I64 (JB s).1.n:=by
 have z:I64 (Vl.n vl0):=⟨by decide,by decide⟩
 unfold JB
 split
 ·exact z
 ·rename_i v hv
  split
  ·unfold qF at hv
   split at hv
   ·cases hv
   ·rename_i w j hp
    split at hv
    ·cases hv
    ·cases hv
     exact KIE (Nat.zero_le _) hp
  ·exact z
theorem KIF (s:List UInt8):I64 (oneP s).1.n:=by
 have z:I64 0:=⟨by decide,by decide⟩
 have key:∀ (k:Int) (s:List UInt8) (n:Nat) (t:Vl→Tkn),(∀ v,I64 v.n→I64 (t v).n)→I64 (oneV k s n t).1.n:=fun k s n t ht=>by
  unfold oneV oneW
  split
  ·exact z
  ·exact ht _ (KFP _)
 cases s with
 | nil=>exact z
 | cons c r =>
  rw [VD]
  split
  ·exact z
  split
  ·exact z
  split
  ·exact key _ _ _ _ (fun _ _=>z)
  ·exact key _ _ _ _ (fun _ h=>h)
theorem KEe {s:List UInt8}:∀ (f a:Nat),a≤s.length→s.length - a < f→∀ t ∈ (allT s a).1,I64 t.n
 | 0,a,ha,hf=>by omega
 | f+1,a,ha,hf=>by
  cases hn:Yz s a with
  | none=>rw [Y0 hn]; intro t ht; cases ht
  | some q =>
   obtain ⟨t,a'⟩:=q
   have hlt:=XP ha hn
   rw [Y1 ha hn]
   intro x hx
   rcases List.mem_cons.1 hx with rfl | hx
   ·unfold Yz at hn
    split at hn
    ·split at hn
     ·cases hn
     ·cases hn
      exact KIF _
    ·cases hn
   ·exact KEe f a' hlt.2 (by omega) x hx
theorem KC1 (s:List UInt8):∀ t ∈ (allT s 0).1,I64 t.n:=KEe _ 0 (Nat.zero_le _) (Nat.lt_succ_self _)
theorem KLS {t:Tkn} (h:tokB t=true) (hI:I64 t.n) (hh:Heap):(t.k=2→VRep hh (.mk 1 t.n [] []) (J9 1 t.n [] Sl.nil))∧(t.k=3→VRep hh (.mk 2 0 t.s []) (J9 2 0 t.s Sl.nil)):=by
 refine ⟨fun _=>(Nm (fun _=>True) hh ⟨by decide,by decide⟩ hI (by decide)).to,fun hk=>(Nm (fun _=>True) hh ⟨by decide,by decide⟩ ⟨by decide,by decide⟩ ?_).to⟩
 rcases X2 h with ⟨h1,_⟩ | ⟨h1,_⟩ | ⟨_,h1,_⟩ | ⟨h1,_⟩ <;> omega
theorem KFQ {t:Tkn} {h:Heap} {Q:ByteArray→Heap→Prop} (hI:I64 t.n) (hm:(tkT t).length≤1099511627776) (hp:XV h) (hd:N1 h) (H:∀ h',Ext h h'→Q (bs (tkT t)) h'):(NY t.cells).wp h Q:=by
 unfold NY
 refine JM (fun h1 e1 s1 g1=>ldR g1 rfl (KN (XO (fun h2 e2=>?_))))
 have E2:=e1.trans e2
 have g2:=e2.blk g1
 have cK:KM h2 ((⟨h.size,0,none⟩:Addr).add 0)=some (.int .i64 t.k):=by rw [add_zero,KL g2]; rfl
 have cS:KM h2 ((⟨h.size,0,none⟩:Addr).add 1)=some (.string (bs t.s)):=by rw [Kj,KL g2]; rfl
 have cN:KM h2 ((⟨h.size,0,none⟩:Addr).add 2)=some (.int .i64 t.n):=by rw [Kj,KL g2]; rfl
 rw [KBf]
 cases hb:tokB t with
 | false =>
  have:tkT t=[]:=by unfold tkT; rw [hb,if_pos rfl]
  rw [this] at H
  exact iteT rfl (KG (H h2 E2))
 | true =>
  refine iteF rfl (Zp cK ?_)
  rw [GD hb] at H hm
  obtain ⟨v1,v2⟩:=KLS hb hI h2
  rw [eqI]
  refine Ki (fun k2=>?_) (fun k2=>Zp cK ?_)
  ·have k2:=of_decide_eq_true k2
   rw [if_pos k2] at H hm
   refine Zp cN (KIh (fun h3 e3=>KN (KAn (v:=.mk 1 t.n [] []) (Nm (fun _=>True) h3 ⟨by decide,by decide⟩ hI (by decide)).to (hp.ext (E2.trans e3)) (hd.ext (E2.trans e3)) (by rw [KBo]; exact hm) (fun h4 e4=>KG ?_))))
   rw [KBo]
   exact H _ ((E2.trans e3).trans e4)
  ·have k2:=of_decide_eq_false k2
   rw [if_neg k2] at H hm
   rw [eqI]
   refine Ki (fun k3=>?_) (fun k3=>?_)
   ·have k3:=of_decide_eq_true k3
    rw [if_pos k3] at H hm
    have hsl:t.s.length≤9223372036854775807:=by rcases X2 hb with ⟨h1,_⟩ | ⟨h1,_⟩ | ⟨_,h1,_⟩ | ⟨h1,_⟩ <;> omega
    refine Vg cS (KIi (fun h3 e3=>KN (KAn (v:=.mk 2 0 t.s []) (Nm (fun _=>True) h3 ⟨by decide,by decide⟩ ⟨by decide,by decide⟩ hsl).to (hp.ext (E2.trans e3)) (hd.ext (E2.trans e3)) (by rw [KBp]; exact hm) (fun h4 e4=>KG ?_))))
    rw [KBp]
    exact H _ ((E2.trans e3).trans e4)
   ·rw [if_neg (of_decide_eq_false k3)] at H
    exact Vg cS (KG (H _ E2))
end Gx
namespace Gx
open Go Go.Lib
set_option linter.unusedVariables false
set_option linter.unusedSimpArgs false
set_option maxRecDepth 100000
theorem KEf {last:Int} {t:Tkn} {r:List Tkn} (h:tokB t=true):prT last (t::r)=(if last≠4∧t.k≠4 then [32] else [])++(tkT t++prT t.k r):=by
 rw [prT,h,if_neg (show ¬ (true=false) by decide)]
theorem KEg {last:Int} {t:Tkn} {r:List Tkn} (h:tokB t=false):prT last (t::r)=prT last r:=by rw [prT,if_pos h]
theorem KG0 {β:Type} {h:Heap} {Q:β→Heap→Prop} {x:Sl} {l:List Tkn} {i:Nat} {f:Addr→M β} (R:TkR h x l) (hi:i < l.length)
  (H:∀ h',Ext h h'→h'[h.size]?=some (.cells l[i].cells KR (0,0))→(f ⟨h.size,0,none⟩).wp h' Q) :
  (ixL x (i:Int) 4>>=fun a=>ldG 4 a>>=fun c=>mkB KR (#[.int .i64 0,.string ByteArray.empty,.int .i64 0,.int .i64 0]:Array Value)>>=fun b=>M.need (c.size=4)>>=fun _=>stG b c>>=fun _=>f b).wp h Q:=by
 obtain ⟨b,hb,hcb⟩:=R.at hi
 generalize l[i]=t at hcb H
 refine Yk (by omega) (by rw [R.1]; omega) hb (qf (cs:=t.cells) rfl hcb (JM (fun h3 e3 s3 g3=>J6 rfl (stR g3 (Nat.le_refl 4) (YV t) (fun h4 u4 g4=>?_)))))
 refine H h4 (e3.upd u4 (Nat.le_refl _)) ?_
 have e:lay tkn0.cells 0 t.cells.toList=t.cells:=by rw [ZW (cs:=tkn0.cells) (vs:=t.cells.toList) rfl,Array.toArray_toList]
 rw [← e]; exact g4
theorem Gz {x:Sl} {l:List Tkn} {h:Heap} {Q:ByteArray→Heap→Prop} (R:TkR h x l) (hI:∀ t ∈ l,I64 t.n) (hl:l.length≤1099511627776) (hm:(prT 4 l).length≤1099511627776) (hp:XV h) (hd:N1 h)
  (H:∀ h',Ext h h'→Q (bs (prT 4 l)) h'):(YC x).wp h Q:=by
 unfold YC
 have hrl:=R.1
 rw [hrl]
 refine JM (fun h1 e1 z1 g1=>?_)
 have B1:=Bld.new (Nat.le_refl _) g1
 refine M.loop_inv (fun (y:Int × Int) hh=>∃ (i:Nat) (r:Sl) (acc:List UInt8),y.2=(i:Int)∧i≤l.length∧Bld h.size hh h.size r acc∧acc++prT y.1 (l.drop i)=prT 4 l∧Ext h hh) (fun y _=>((l.length:Int) - y.2).toNat) ?_ ⟨0,Sl.nil,[],rfl,Nat.zero_le _,B1,rfl,e1⟩
 rintro ⟨last,t⟩ hh ⟨i,r,acc,ht,hi,B,hacc,E⟩ self hself
 have ht:t=(i:Int):=ht
 subst ht
 dsimp only at hacc
 unfold Xt
 dsimp only
 have hal:=congrArg List.length hacc
 rw [List.length_append] at hal
 have hlo:=E.size
 refine Ki (fun hlt=>?_) (fun hge=>?_)
 ·have hlt:i < l.length:=by have:=of_decide_eq_true hlt; omega
  refine KG0 (R.ext E) hlt (fun h4 E4 g4=>?_)
  have hIi:=hI _ (List.getElem_mem hlt)
  rw [List.drop_eq_getElem_cons hlt] at hacc hal
  generalize l[i]=t at g4 hIi hacc hal
  refine ldR g4 rfl (KN (XO (fun h5 e5=>?_)))
  have E5:=E4.trans e5
  have g5:=e5.blk g4
  have B5:=B.ext E5
  have EE:=E.trans E5
  rw [KBf]
  have nx:∀ {h':Heap} {r':Sl} {acc':List UInt8} {k:Int},Bld h.size h' h.size r' acc'→acc'++prT k (l.drop (i+1))=prT 4 l→Ext h h'→(Vr self (i:Int) k).wp h' Q:=fun {h' r' acc' k} B' ha' E'=>by
   unfold Vr
   rw [w64 (by omega) (by omega)]
   exact hself (_,_) _ ⟨i+1,r',acc',by dsimp only; push_cast; rfl,hlt,B',ha',E'⟩ (by dsimp only; omega)
  cases hb:tokB t with
  | false =>
   rw [KEg hb] at hacc
   exact iteT rfl (nx B5 hacc EE)
  | true =>
   rw [KEf hb] at hacc hal
   rw [List.length_append,List.length_append] at hal
   have hblt:=B.lt
   have hboff:=(B5.row)
   have cK:KM h5 ((⟨hh.size,0,none⟩:Addr).add 0)=some (.int .i64 t.k):=by rw [add_zero,KL g5]; rfl
   have j2:∀ {h6:Heap} {r6:Sl} {acc6:List UInt8},Bld h.size h6 h.size r6 acc6→h6[hh.size]?=some (.cells t.cells KR (0,0))→¬ Sl.on r6 hh.size→acc6++(tkT t++prT t.k (l.drop (i+1)))=prT 4 l→Ext h h6→hh.size < h6.size→(Vs self ⟨h.size,0,none⟩ ⟨hh.size,0,none⟩ (i:Int)).wp h6 Q:=fun {h6 r6 acc6} B6 g6 hno ha6 E6 hz6=>by
    unfold Vs
    have hl6:=congrArg List.length ha6
    rw [List.length_append,List.length_append] at hl6
    refine ldR g6 rfl (KN (KFQ hIi (by omega) (hp.ext E6) (hd.ext E6) (fun h7 e7=>?_)))
    have B7:=B6.ext e7
    have E7:=E6.trans e7
    refine KN (YK B7 E7.size (by omega) (fun h8 r8 n B8 K8=>?_))
    have g8:h8[hh.size]?=some (.cells t.cells KR (0,0)):=(K8.same hh.size (by have:=e7.size; omega) (by omega) hno).trans (e7.blk g6)
    refine Zp (n:=t.k) (by rw [add_zero,KL g8]; rfl) (nx B8 (by rw [List.append_assoc]; exact ha6) (K8.ext E7 B7 (Nat.le_refl _)))
   have hno:¬ Sl.on r hh.size:=fun ho=>by have:=(B.row.lt ho).1; omega
   have hz5:hh.size < h5.size:=Uj g5
   refine iteF rfl ?_
   refine XM (c:=decide (t.k≠4)) (fun _ Q' hq=>Zp cK (KG (by rw [bne,eqI,← decide_not]; exact hq))) ?_
   rw [bne,eqI,← decide_not,← Bool.decide_and]
   refine Ki (fun hc=>?_) (fun hc=>?_)
   ·rw [if_pos (of_decide_eq_true hc)] at hacc hal
    refine KN (Ws (c:=32) B5 EE.size (by simp only [List.length_cons,List.length_nil] at hal; omega) rfl (fun h6 r6 B6 K6=>?_))
    refine j2 B6 ((K6.same hh.size hz5 (by omega) hno).trans g5) (fun ho=>(K6.on_ _ ho).elim hno (fun h=>by omega)) (by rw [List.append_assoc]; exact hacc) (K6.ext EE B5 (Nat.le_refl _)) (by have:=K6.size; omega)
   ·rw [if_neg (of_decide_eq_false hc)] at hacc hal
    exact j2 B5 g5 hno hacc EE hz5
 ·have hi':i=l.length:=by have:=of_decide_eq_false hge; omega
  rw [List.drop_eq_nil_iff.2 (by omega)] at hacc
  have hacc:acc++[]=prT 4 l:=hacc
  rw [List.append_nil] at hacc
  refine KN (zp B (by rw [hacc]; omega) (fun h' K' _=>KG ?_))
  rw [hacc]
  exact H _ (K'.ext E B (Nat.le_refl _))
theorem qa {x y:Sl} {l m:List Tkn} {h:Heap} {Q:Bool→Heap→Prop} (hx:TkR h x l) (hy:TkR h y m) (hk:l.map keyT=m.map keyT) (hm:l.length≤1099511627776) (H:Q true h):(Jb x y).wp h Q:=by
 unfold Jb
 have hlen:l.length=m.length:=by have:=congrArg List.length hk; rwa [List.length_map,List.length_map] at this
 refine iteF (by rw [hx.1,hy.1,hlen]; simp) ?_
 have hxl:=hx.1
 refine M.loop_inv (fun (t:Int) hh=>∃ i:Nat,t=(i:Int)∧i≤l.length∧hh=h) (fun t _=>l.length+1 - t.toNat) ?_ ⟨0,rfl,Nat.zero_le _,rfl⟩
 rintro t hh ⟨i,rfl,hi,rfl⟩ self hself
 unfold Un
 rw [hxl]
 refine Ki (fun hlt=>?_) (fun hge=>KG H)
 have hlt:i < l.length:=by have:=of_decide_eq_true hlt; omega
 obtain ⟨a,ha,hca⟩:=hx.at hlt
 obtain ⟨b,hb,hcb⟩:=hy.at (i:=i) (by omega)
 have hki:keyT l[i]=keyT (m[i]'(by omega)):=by
  have:=congrArg (fun z=>z[i]?) hk
  simp only [List.getElem?_map,List.getElem?_eq_getElem hlt,List.getElem?_eq_getElem (show i < m.length by omega),Option.map_some,Option.some.injEq] at this
  exact this
 generalize l[i]=u at hca hki
 generalize m[i]'(by omega)=v at hcb hki
 have k1:u.k=v.k:=congrArg Prod.fst hki
 have k2:u.s=v.s:=congrArg (fun z=>z.2.1) hki
 have k3:u.n=v.n:=congrArg (fun z=>z.2.2) hki
 have cy:=hy.1
 refine Yk (by omega) (by omega) ha (Yk (by omega) (by omega) hb (Zp (n:=u.k) (hca 0 (by decide)) (Zp (n:=v.k) (hcb 0 (by decide)) ?_)))
 rw [k1,bne_self_eq_false]
 refine iteF rfl (Yk (by omega) (by omega) ha (Yk (by omega) (by omega) hb (Vg (n:=bs u.s) (hca 1 (by decide)) (Vg (n:=bs v.s) (hcb 1 (by decide)) ?_))))
 rw [k2,KEC,decide_eq_true rfl]
 refine iteF rfl (Yk (by omega) (by omega) ha (Yk (by omega) (by omega) hb (Zp (n:=u.n) (hca 2 (by decide)) (Zp (n:=v.n) (hcb 2 (by decide)) ?_))))
 rw [k3,bne_self_eq_false]
 unfold JS
 refine iteF rfl ?_
 rw [w64 (by omega) (by omega)]
 exact hself _ _ ⟨i+1,by omega,by omega,rfl⟩ (by omega)
end Gx
namespace Gx
def tksW (ts:List Tkn):Nat:=(ts.map fun t=>t.s.length+1).sum
end Gx
namespace Gx
open Go Go.Lib
set_option linter.unusedVariables false
set_option linter.unusedSimpArgs false
set_option maxRecDepth 100000
theorem KJ4 {t:Tkn} (hI:I64 t.n):(tkT t).length≤4 * t.s.length+21:=by
 have hi:=KEP hI
 have hq:(JV t.s).length≤4 * t.s.length+2:=by
  rw [KGi]
  have:∀ s:List UInt8,(s.flatMap qc).length≤4 * s.length:=fun s=>by
   induction s with
   | nil=>simp
   | cons a s ih=>rw [List.flatMap_cons,List.length_append,List.length_cons]; have:=KME a; omega
  have:=this t.s
  omega
 unfold tkT
 split
 ·simp
 split
 ·omega
 split
 ·omega
 ·omega
theorem KDn:∀ (l:List Tkn) (last:Int),(∀ t ∈ l,I64 t.n)→(prT last l).length≤30 * tksW l
 | [],_,_=>Nat.zero_le _
 | t::r,last,hI=>by
  have ih:=fun k=>KDn r k (fun x hx=>hI x (List.mem_cons_of_mem _ hx))
  have ht:=KJ4 (hI t (by simp))
  unfold tksW at ih ⊢
  rw [List.map_cons,List.sum_cons]
  cases hb:tokB t with
  | false=>rw [KEg hb]; have:=ih last; omega
  | true =>
   rw [KEf hb,List.length_append,List.length_append]
   have:=ih t.k
   have h1:(if last≠4∧t.k≠4 then [32] else []:List UInt8).length≤1:=by split <;> simp
   omega
theorem KEh:∀ l:List Tkn,l.length≤tksW l
 | []=>Nat.zero_le _
 | t::r=>by
  have:=KEh r
  unfold tksW at this ⊢
  rw [List.map_cons,List.sum_cons,List.length_cons]
  omega
theorem KIG {t:Tkn} (h:tokB t=true):t.s.length≤128:=by
 rcases X2 h with ⟨_,h1,_⟩ | ⟨_,h1⟩ | ⟨_,h1,_⟩ | ⟨_,c,h1,_⟩
 ·match hs:t.s,h1 with
  | [],_=>simp
  | c::r,h1 =>
   rw [Yy,Bool.and_eq_true,Bool.and_eq_true] at h1
   have:=of_decide_eq_true h1.1.1
   omega
 ·rw [h1]; simp
 ·exact h1
 ·rw [h1]; simp
theorem KEi:∀ l:List Tkn,(∀ t ∈ l,tokB t=true)→tksW l≤129 * l.length
 | [],_=>Nat.zero_le _
 | t::r,h=>by
  have:=KEi r (fun x hx=>h x (List.mem_cons_of_mem _ hx))
  have ht:=KIG (h t (by simp))
  unfold tksW at this ⊢
  rw [List.map_cons,List.sum_cons,List.length_cons]
  omega
theorem KG1 {x:Sl} {l:List Tkn} {h:Heap} {Q:Bool→Heap→Prop} (R:TkR h x l) (hI:∀ t ∈ l,I64 t.n) (hw:tksW l≤1048576) (hp:XV h) (hd:N1 h) (he:ErrV h) (H:∀ h',Ext h h'→Q true h'):(ZT x).wp h Q:=by
 unfold ZT
 have hl:=KEh l
 have hm:=KDn l 4 hI
 have hrl:=R.1
 rw [hrl]
 refine Ki (fun _=>KG (H _ (Ext.refl _))) (fun hfew=>?_)
 have hfew:l.length≤4096:=by have:=of_decide_eq_false hfew; omega
 refine M.loop_inv (fun (y:Int) hh=>∃ i:Nat,y=(i:Int)∧i≤l.length∧Ext h hh∧∀ t ∈ l.take i,tokB t=true) (fun y _=>((l.length:Int) - y).toNat) ?_ ⟨0,rfl,Nat.zero_le _,Ext.refl _,fun t ht=>by rw [List.take_zero] at ht; cases ht⟩
 rintro t hh ⟨i,rfl,hi,E,hok⟩ self hself
 unfold UG
 refine Ki (fun hlt=>?_) (fun hge=>?_)
 ·have hlt:i < l.length:=by have:=of_decide_eq_true hlt; omega
  refine KG0 (R.ext E) hlt (fun h4 E4 g4=>ldR g4 rfl (KN (XO (fun h5 e5=>?_))))
  have E5:=(E.trans E4).trans e5
  rw [KBf]
  refine Ki (fun _=>KG (H _ E5)) (fun hb=>?_)
  have hb:tokB l[i]=true:=by simpa using hb
  rw [w64 (by omega) (by omega)]
  refine hself _ _ ⟨i+1,by push_cast; rfl,hlt,E5,fun t ht=>?_⟩ (by omega)
  rw [List.take_succ_eq_append_getElem hlt] at ht
  rcases List.mem_append.1 ht with ht | ht
  ·exact hok t ht
  ·simp only [List.mem_cons,List.not_mem_nil,or_false] at ht
   subst ht
   exact hb
 ·have hi':i=l.length:=by have:=of_decide_eq_false hge; omega
  subst hi'
  rw [List.take_length] at hok
  refine KN (Gz (R.ext E) hI (by omega) (by omega) (hp.ext E) (hd.ext E) (fun h5 e5=>?_))
  have E5:=E.trans e5
  rw [ZH]
  refine Ki (fun _=>KG (H _ E5)) (fun hsmall=>?_)
  have hsmall:=of_decide_eq_false hsmall
  obtain ⟨hlx,hkeys⟩:=KCy (fun t ht=>⟨hok t ht,NumT.of (hI t ht)⟩) hfew (by omega)
  refine KN (qu (he.ext E5) (fun h6 r e6 R6 _=>?_))
  rw [hlx] at R6 ⊢
  dsimp only at R6 ⊢
  refine Xk rfl (ZY (Xk (decide_eq_true rfl) (ZG (KN (qa (R.ext (E5.trans e6)) R6 hkeys.symm (by omega) (ZY (KG (H _ (E5.trans e6)))))))))
theorem KFR {x:Sl} {l:List Tkn} {s:List UInt8} {h:Heap} {Q:Bool→Heap→Prop} (R:TkR h x l∧x.len≤x.cap∧∀ t ∈ l,I64 t.n) (hw:tksW l≤1048576) (hp:XV h) (hd:N1 h) (he:ErrV h) (H:∀ h',Ext h h'→Q true h'):(Uo x (bs s)).wp h Q:=by
 obtain ⟨R,_,hI⟩:=R
 unfold Uo
 refine KN (KC0 he (fun h1 e1=>iteF rfl (KN (qu (he.ext e1) (fun h2 r e2 R2 _=>?_)))))
 have E2:=e1.trans e2
 have jn:∀ {h':Heap},Ext h h'→(ZT x).wp h' Q:=fun {h'} E'=>KG1 (R.ext E') hI hw (hp.ext E') (hd.ext E') (he.ext E') (fun h'' e''=>H _ (E'.trans e''))
 dsimp only
 rw [eqI]
 refine Ki (fun hz=>?_) (fun _=>jn E2)
 have h0:=of_decide_eq_true hz
 obtain ⟨hsl,hlx,hcnt,hend⟩:=KJz h0
 have hg:=qM s
 have hI2:=KC1 s
 rw [hlx] at R2
 dsimp only at R2
 generalize (allT s 0).1=a at R2 hg hI2 hcnt
 have hpl:(prT 4 a).length≤1099511627776:=by
  have h1:=KDn a 4 hI2
  have h2:=KEi a (fun t ht=>(hg t ht).1)
  omega
 refine KN (Gz R2 hI2 (by omega) hpl (hp.ext E2) (hd.ext E2) (fun h3 e3=>KN (qu (he.ext (E2.trans e3)) (fun h4 r4 e4 R4 _=>?_))))
 have E4:=(E2.trans e3).trans e4
 rw [ZH]
 refine KFv (fun hsm=>?_) (fun _=>ZY (iteF rfl (jn E4)))
 have hsm:=of_decide_eq_true hsm
 obtain ⟨hl2,hkeys⟩:=KCy hg hcnt (by omega)
 have hg4:=qM (prT 4 a)
 have hI4:=KC1 (prT 4 a)
 have hp4:prT 4 (allT (prT 4 a) 0).1=prT 4 a:=KGy _ _ 4 hkeys (fun t ht=>(hg4 t ht).1) (fun t ht=>(hg t ht).1)
 rw [hl2] at R4 ⊢
 dsimp only at R4 ⊢
 have hlen:(allT (prT 4 a) 0).1.length=a.length:=by have:=congrArg List.length hkeys; rwa [List.length_map,List.length_map] at this
 refine ZG (Xl rfl (ZG (KN (qa (R2.ext (e3.trans e4)) R4 hkeys.symm (by omega) (ZY (ZG (Xl rfl (ZG (KN (Gz R4 hI4 (by omega) (by rw [hp4]; exact hpl) (hp.ext E4) (hd.ext E4) (fun h5 e5=>ZY ?_)))))))))))
 rw [hp4,KEC,decide_eq_true rfl]
 exact ZY (iteF rfl (jn (E4.trans e5)))
end Gx
namespace Go.Proofs.YtpibdohdkfkcnaaGreatDoor
open Go Go.RowKit Gx
set_option linter.unusedVariables false
set_option maxRecDepth 100000
theorem c29:Tryz.prog.cellsOf 29=4:=by kernel_rfl
theorem c3:Tryz.prog.cellsOf 3=1:=by kernel_rfl
theorem c2:Tryz.prog.cellsOf 2=1:=by kernel_rfl
theorem c9:Tryz.prog.cellsOf 9=1:=by kernel_rfl
theorem KC2 {H:Type}:∀ (l:List Tkn) (es:List (DataW H)),l.length=es.length→(∀ i (h1:i < l.length) (h2:i < es.length),l[i].s.length+1≤Rows.uptoBulk es[i])→tksW l≤Rows.uptoBulkAll es
 | [],[],_,_=>by simp [tksW]
 | [],_::_,h,_=>by simp at h
 | _::_,[],h,_=>by simp at h
 | v::l,d::es,h,hk=>by
  have h0:=hk 0 (by simp) (by simp)
  have:=KC2 l es (by simpa using h) (fun i h1 h2=>by
   have:=hk (i+1) (by simpa using h1) (by simpa using h2)
   simpa using this)
  simp only [List.getElem_cons_zero] at h0
  unfold tksW at this ⊢
  rw [List.map_cons,List.sum_cons]
  simp only [Rows.uptoBulkAll]
  omega
section
variable {H:Type} {enc:TypeId × Value→H}
theorem KBr {W:World} {t:TypeId} {n:Nat} {c:Value} {x:DataW H × List MemPlace} {sp:Nat→Bool} {held:Bool} {base:Nat} (ht:Tryz.prog.underlying t=some (.int .i64)) (h:DataW.trod enc Tryz.prog W base sp held n t [c]=some x):∃ z,c=.int .i64 z∧I64 z∧Rows.uptoBulk x.1=1:=by
 cases n with
 | zero=>simp [DataW.trod] at h
 | succ n =>
  unfold DataW.trod at h
  rw [ht] at h
  cases c with
  | int k z =>
   simp only at h
   split at h
   ·rename_i hk
    obtain ⟨rfl,hw⟩:=hk
    cases h
    refine ⟨z,rfl,?_,by simp [Rows.uptoBulk]⟩
    have:-9223372036854775808≤z∧z≤9223372036854775807:=by simpa [Lit.wf,IntKind.min,IntKind.max,IntKind.signed,IntKind.bits] using hw
    exact this
   ·cases h
  | _=>simp at h
theorem KEj {W:World} {t:TypeId} {n:Nat} {c:Value} {x:DataW H × List MemPlace} {sp:Nat→Bool} {held:Bool} {base:Nat} (ht:Tryz.prog.underlying t=some .string) (h:DataW.trod enc Tryz.prog W base sp held n t [c]=some x):∃ s:ByteArray,c=.string s∧s.size≤maxLen∧Rows.uptoBulk x.1=s.data.toList.length+1:=by
 cases n with
 | zero=>simp [DataW.trod] at h
 | succ n =>
  unfold DataW.trod at h
  rw [ht] at h
  cases c with
  | string s =>
   simp only at h
   split at h
   ·rename_i hk
    cases h
    exact ⟨s,rfl,hk,by simp [Rows.uptoBulk]⟩
   ·cases h
  | _=>simp at h
theorem qy {W:World} {a:Addr}:W.cell? a=KM W.heap a:=rfl
theorem KIH {W:World} {sp:Nat→Bool} {held:Bool} {base:Nat} (m:Nat) (cs:List Value) (x:DataW H × List MemPlace) (h:DataW.trod enc Tryz.prog W base sp held m 29 cs=some x):∃ t:Tkn,cs.toArray=t.cells∧I64 t.n∧t.s.length+1≤Rows.uptoBulk x.1:=by
 obtain ⟨xs,n,hn,hx,hcl,hxl,hf⟩:=DataW.trod_struct Tryz.underlying29 h
 rw [c29] at hcl
 have hxl:xs.length=4:=hxl
 match cs,hcl with
 | [a0,a1,a2,a3],_ =>
 match xs,hxl with
 | [y0,y1,y2,y3],_ =>
 have f0:DataW.trod enc Tryz.prog W base sp held n 3 (([a0,a1,a2,a3].drop 0).take (Tryz.prog.cellsOf 3))=some y0:=hf 0 _ rfl
 have f1:DataW.trod enc Tryz.prog W base sp held n 9 (([a0,a1,a2,a3].drop 1).take (Tryz.prog.cellsOf 9))=some y1:=hf 1 _ rfl
 have f2:DataW.trod enc Tryz.prog W base sp held n 2 (([a0,a1,a2,a3].drop 2).take (Tryz.prog.cellsOf 2))=some y2:=hf 2 _ rfl
 have f3:DataW.trod enc Tryz.prog W base sp held n 3 (([a0,a1,a2,a3].drop 3).take (Tryz.prog.cellsOf 3))=some y3:=hf 3 _ rfl
 rw [c3] at f0
 rw [c9] at f1
 rw [c2] at f2
 rw [c3] at f3
 obtain ⟨k,hk,_,b0⟩:=KBr Tryz.underlying3 f0
 obtain ⟨s,hs,_,b1⟩:=KEj Tryz.underlying9 f1
 obtain ⟨nn,hnn,hI,b2⟩:=KBr Tryz.underlying2 f2
 obtain ⟨aa,haa,_,b3⟩:=KBr Tryz.underlying3 f3
 have hk:a0=.int .i64 k:=hk
 have hs:a1=.string s:=hs
 have hnn:a2=.int .i64 nn:=hnn
 have haa:a3=.int .i64 aa:=haa
 have hsb:bs s.data.toList=s:=by simp [bs]
 refine ⟨⟨k,s.data.toList,nn,aa⟩,by rw [hk,hs,hnn,haa]; unfold Tkn.cells; rw [hsb],hI,?_⟩
 rw [hx]
 simp only [List.map_cons,List.map_nil,Rows.uptoBulk,Rows.uptoBulkAll]
 omega
theorem KG2 {W:World} {sp:Nat→Bool} {held:Bool} {base:Nat} {m:Nat} {v:Value} {x:DataW H × List MemPlace} (h:DataW.trod enc Tryz.prog W base sp held m 22 [v]=some x):∃ (s:Sl) (l:List Tkn),v=s.v∧(TkR W.heap s l∧s.len≤s.cap∧∀ t ∈ l,I64 t.n)∧tksW l+1≤Rows.uptoBulk x.1:=by
 rcases DataW.trod_slice Tryz.underlying22 h with ⟨h0,hx⟩ | ⟨a,len,cap,elems,rest,n,hn,h1,hx,_,hle,hm,hlen,hel,_,_⟩
 ·cases h0
  refine ⟨Sl.nil,[],rfl,⟨TkR.nil _,Nat.le_refl _,fun t ht=>by cases ht⟩,?_⟩
  rw [hx]; simp [tksW,Rows.uptoBulk]
 ·cases h1
  rw [c29] at hel
  have key:∀ i,i < len→∃ t:Tkn,(∀ j,j < 4→KM W.heap (a.add (i * 4+j))=t.cells[j]?)∧I64 t.n∧∀ (h:i < elems.length),t.s.length+1≤Rows.uptoBulk (elems[i]).1:=fun i hi=>by
   have h2:=hel i hi
   rw [List.getElem?_eq_getElem (by omega),Option.bind_eq_some_iff] at h2
   obtain ⟨cs,hcs,ht⟩:=h2
   obtain ⟨_,hl1,hc⟩:=World.cells?_some hcs
   obtain ⟨t,e,hI,hw⟩:=KIH _ _ _ ht
   refine ⟨t,fun j hj=>?_,hI,fun _=>hw⟩
   have:=hc j hj
   rw [Addr.add_add] at this
   rw [qy] at this
   rw [this,← e]; simp
  let l:=List.ofFn (fun i:Fin len=>Classical.choose (key i i.2))
  have hL:l.length=len:=by simp [l]
  have hget:∀ i (h:i < l.length),(∀ j,j < 4→KM W.heap (a.add (i * 4+j))=(l[i]).cells[j]?)∧I64 l[i].n∧∀ (h:i < elems.length),l[i].s.length+1≤Rows.uptoBulk (elems[i]).1:=fun i h=>by
   have:=Classical.choose_spec (key i (by omega))
   simpa [l] using this
  refine ⟨⟨some a,len,cap⟩,l,rfl,⟨⟨hL.symm,.inr ⟨a,rfl,fun j v hj=>?_⟩⟩,hle,fun t ht=>?_⟩,?_⟩
  ·have hjl:j < (Vd (tks l)).length:=(List.getElem?_eq_some_iff.1 hj).1
   rw [Vz (KFJ l),Gy] at hjl
   have h1:=Nk (KFJ l) (j / 4) (j % 4) (by omega)
   rw [show j / 4 * 4+j % 4=j by omega,hj,List.getElem?_eq_getElem (l:=tks l) (i:=j / 4) (by rw [Gy]; omega),Option.bind_some] at h1
   have h2:=(hget (j / 4) (by omega)).1 (j % 4) (by omega)
   rw [show j / 4 * 4+j % 4=j by omega] at h2
   rw [h2,h1]
   simp [tks]
  ·obtain ⟨i,hi,rfl⟩:=List.getElem_of_mem ht
   exact (hget i hi).2.1
  ·rw [hx]
   have:=KC2 l (elems.map (·.1)) (by rw [hL,List.length_map,hlen]) (fun i h1 h2=>by
    obtain ⟨_,_,h4⟩:=hget i h1
    rw [List.getElem_map]
    exact h4 (by simpa using h2))
   simp only [Rows.uptoBulk]
   omega
end
end Go.Proofs.YtpibdohdkfkcnaaGreatDoor
namespace Gx
open Go Go.RowKit Go.ChangeShapes Go.WideShapes Go.ChangeAt Go.Joins
set_option linter.unusedVariables false
section
variable {H:Type} {enc:TypeId × Value→H} {P:Program}
theorem KII {W W':World} (he:Ext W.heap W'.heap) {p:MemPlace} (hp:p.block < W.heap.size):W.sameAt W' p:=by
 cases p with
 | cell b o=>exact World.cell?_of_block (w:=W) (he.same b hp)
 | map b=>exact he.same b hp
theorem KEk {t:TypeId} (hl:laidOutB P=true) (hr:P.readableRec t=true) (hrow:t < P.types.size) {W W':World} {v:Value} {d:DataW H} {ps:List MemPlace}
  (h:DataW.Trod enc P W 0 (fun _=>true) true t v d ps) (he:Ext W.heap W'.heap) :
  DataW.Trod enc P W' 0 (fun b=>decide (b < W.heap.size)) true t v d ps:=by
 have hlt:∀ x ∈ ps,x.block < W.heap.size:=by
  obtain ⟨m,hm⟩:=h
  exact DataW.trod_lt m _ _ _ hm
 exact WideElems.Trod_stays hl hr hrow h (fun x hx=>KII he (hlt x hx)) (fun x hx=>by simpa using hlt x hx)
theorem KG3 {W W':World} (he:Ext W.heap W'.heap) (hr:Rest W W') (may:MemPlace→Prop):W.keptBut W' may:=by
 refine ⟨hr.os,hr.output,fun i hi=>?_⟩
 rw [he.same i hi]
 split <;> simp_all
end
end Gx
namespace Go.Proofs.YtpibdohdkfkcnaaGreatDoor
open Go Go.RowKit Go.ChangeShapes Go.WideShapes Go.ChangeAt Go.Joins Gx
set_option linter.unusedVariables false
set_option maxRecDepth 100000
theorem Own:ownKnob Tryz.prog.godebug=none:=by kernel_rfl
theorem Laid:laidOutB Tryz.prog=true:=by kernel_rfl
def KIJ:List (String × DataW Unit):=[("math/bits.deBruijn32tab",Rows.laid_math_bits_deBruijn32tab),("math/bits.deBruijn64tab",Rows.laid_math_bits_deBruijn64tab),("internal/strconv.uint64pow10",Rows.laid_internal_strconv_uint64pow10),("unicode/utf8.acceptRanges",Rows.laid_unicode_utf8_acceptRanges),("strconv.ErrRange",Rows.laid_strconv_ErrRange),("strconv.ErrSyntax",Rows.laid_strconv_ErrSyntax),("unicode/utf8.first",Rows.laid_unicode_utf8_first)]
theorem gPow:Tryz.prog.globalNamed "internal/strconv.uint64pow10"=some 3:=by kernel_rfl
theorem gDb:Tryz.prog.globalNamed "math/bits.deBruijn64tab"=some 5:=by kernel_rfl
theorem YL {P:Program} {x:String × DataW Unit} {r:List (String × DataW Unit)} {W:World} (h:laidMet P (x::r) W):laidMet P r W:=by
 obtain ⟨ps,h1,h2,h3⟩:=h
 obtain ⟨n,d⟩:=x
 obtain ⟨g,t,cs,fuel,p,q,a1,a2,a3,a4,a5,rfl⟩:=h1
 exact ⟨q,a5,(List.nodup_append.1 h2).2.1,fun b off hb=>h3 b off (List.mem_append.2 (.inr hb))⟩
theorem KJ5 {W:World} (h:laidMet Tryz.prog KIJ W):XV W.heap:=by
 have h1:Lib.TabIs Tryz.prog W "internal/strconv.uint64pow10" .u64 [1,10,100,1000,10000,100000,1000000,10000000,100000000,1000000000,10000000000,100000000000,1000000000000,10000000000000,100000000000000,1000000000000000,10000000000000000,100000000000000000,1000000000000000000,10000000000000000000] :=
  Lib.tabIs_of_head (rest:=[("unicode/utf8.acceptRanges",Rows.laid_unicode_utf8_acceptRanges),("strconv.ErrRange",Rows.laid_strconv_ErrRange),("strconv.ErrSyntax",Rows.laid_strconv_ErrSyntax),("unicode/utf8.first",Rows.laid_unicode_utf8_first)]) gPow (by kernel_rfl:(Tryz.prog.globals[3]?).map (·.type)=some 250) Tryz.underlying250 Tryz.underlying216 (by kernel_rfl) (by kernel_rfl) (YL (YL h))
 unfold Lib.TabIs at h1
 simp only [World.var?,gPow,Option.bind_some] at h1
 split at h1
 ·rename_i cs t fz hh
  cases h1
  exact ⟨fz,t,hh⟩
 ·cases h1
theorem KLT {W:World} (h:laidMet Tryz.prog KIJ W):N1 W.heap:=by
 have h1:Lib.TabIs Tryz.prog W "math/bits.deBruijn64tab" .u8 [0,1,56,2,57,49,28,3,61,58,42,50,38,29,17,4,62,47,59,36,45,43,51,22,53,39,33,30,24,18,12,5,63,55,48,27,60,41,37,16,46,35,44,21,52,32,23,11,54,26,40,15,34,20,31,10,25,14,19,9,13,8,7,6] :=
  Lib.tabIs_of_head (rest:=[("internal/strconv.uint64pow10",Rows.laid_internal_strconv_uint64pow10),("unicode/utf8.acceptRanges",Rows.laid_unicode_utf8_acceptRanges),("strconv.ErrRange",Rows.laid_strconv_ErrRange),("strconv.ErrSyntax",Rows.laid_strconv_ErrSyntax),("unicode/utf8.first",Rows.laid_unicode_utf8_first)]) gDb (by kernel_rfl:(Tryz.prog.globals[5]?).map (·.type)=some 262) Tryz.underlying262 Tryz.underlying5 (by kernel_rfl) (by kernel_rfl) (YL h)
 unfold Lib.TabIs at h1
 simp only [World.var?,gDb,Option.bind_some] at h1
 split at h1
 ·rename_i cs t fz hh
  cases h1
  exact ⟨_,t,fz,hh,rfl⟩
 ·cases h1
def KBs (cs:Array Value):Obj→Obj
 | .cells _ t frozen=>.cells cs t frozen
 | o=>o
def KJ6 (h:Array Obj):Array Obj:=(((h.modify 7 (KBs #[.iface 275 (.pointer (some ⟨h.size,0,none⟩))])).modify 6 (KBs #[.iface 275 (.pointer (some ⟨h.size+1,0,none⟩))])).push (.cells #[.string ⟨#[118,97,108,117,101,32,111,117,116,32,111,102,32,114,97,110,103,101]⟩] 277)).push (.cells #[.string ⟨#[105,110,118,97,108,105,100,32,115,121,110,116,97,120]⟩] 277)
noncomputable def litV:Lit→Value
 | .int k n=>.int k n
 | .bool b=>.bool b
 | _=>undef
noncomputable def KMF (ps:List (DataW Unit)):List Value:=ps.flatMap fun p=>match p with
 | .lit l=>[litV l]
 | .agg qs=>qs.map fun q=>match q with
  | .lit l=>litV l
  | _=>undef
 | _=>[]
noncomputable def KLU (l:List (String × DataW Unit)) (h:Array Obj):Array Obj:=l.foldl (fun h x=>match Tryz.prog.globalNamed x.1,x.2 with
 | some g,.agg ps=>h.modify g (KBs (KMF ps).toArray)
 | _,_=>h) h
noncomputable def z6 (os:Os) (args:Array Value):World :=
 { World.holding Tryz.prog os ⟨#[],args,[]⟩ with heap:=KJ6 (KLU KIJ (World.holding Tryz.prog os ⟨#[],args,[]⟩).heap) }
theorem gErr:Tryz.prog.globalNamed "strconv.ErrRange"=some 7:=by kernel_rfl
theorem KMG {W:World} (h:laidMet Tryz.prog KIJ W):ErrV W.heap:=by
 obtain ⟨ps,h1,h2,h3⟩:=(YL (YL (YL (YL h))))
 obtain ⟨g,t,cs,fuel,p,q,a1,a2,a3,a4,a5,rfl⟩:=h1
 rw [gErr] at a1
 cases a1
 have ht:t=84:=Option.some.inj (a2.symm.trans (by kernel_rfl))
 subst ht
 have hcs:∃ u v,cs.toList=[.iface u v]:=by
  cases fuel with
  | zero=>simp [DataW.trod] at a4
  | succ fuel =>
   unfold DataW.trod at a4
   rw [Tryz.underlying84] at a4
   cases hc:cs.toList with
   | nil=>rw [hc] at a4; simp at a4
   | cons c r =>
    rw [hc] at a4
    cases r with
    | cons c2 r2=>exfalso; cases c <;> simp at a4
    | nil=>cases c <;> first | exact ⟨_,_,rfl⟩ | (exfalso; simp [Rows.laid_strconv_ErrRange] at a4)
 obtain ⟨u,v,hcs⟩:=hcs
 have hcs':cs=#[.iface u v]:=by
  apply Array.ext'
  exact hcs
 subst hcs'
 simp only [World.var?,gErr,Option.bind_some] at a3
 split at a3
 ·rename_i cs' t' fz hh
  cases a3
  exact ⟨u,v,by rw [KL hh]; rfl⟩
 ·cases a3
end Go.Proofs.YtpibdohdkfkcnaaGreatDoor
