/- Own proofs: what those Lean programs compute. No condition. -/
import Derived.Test.YthelieedlghccaaGreatDoorP0
import Derived.Test.YthelieedlghccaaGreatDoorP1
import Derived.Test.YthelieedlghccaaGreatDoorP2
import Derived.Test.YthelieedlghccaaGreatDoorP3
import Derived.Test.YthelieedlghccaaGreatDoorP4
import Derived.Test.YthelieedlghccaaGreatDoorP5
import Derived.Test.YthelieedlghccaaGreatDoorTie
import Derived.KernelRfl
import Derived.ChangeArms
import Derived.DataReads
set_option linter.unusedVariables false
set_option linter.unusedSimpArgs false
namespace Gx
open Go
set_option linter.unusedVariables false
set_option linter.unusedSimpArgs false
abbrev bs (l:List UInt8):ByteArray:=⟨l.toArray⟩
inductive Vl where
 | mk (k n:Int) (s:List UInt8) (l:List Vl)
def Vl.k:Vl→Int | .mk k _ _ _=>k
def Vl.n:Vl→Int | .mk _ n _ _=>n
def Vl.s:Vl→List UInt8 | .mk _ _ s _=>s
def Vl.l:Vl→List Vl | .mk _ _ _ l=>l
instance:Inhabited Vl:=⟨.mk 0 0 [] []⟩
def I64 (n:Int):Prop:=-9223372036854775808≤n∧n≤9223372036854775807
def ZO (k n:Int) (s:List UInt8) (x:Sl):Array Value:=#[.int .i64 k,.int .i64 n,.string (bs s),x.v]
mutual
def VRep (h:Heap):Vl→Array Value→Prop
 | .mk k n s l,cs=>∃ x:Sl,cs=ZO k n s x∧I64 k∧I64 n∧s.length≤9223372036854775807∧(x.len=l.length∧x.len≤x.cap∧x.len≤9223372036854775807∧VsAt h l x.base 0)
def VsAt (h:Heap):List Vl→Option Addr→Nat→Prop
 | [],_,_=>True
 | v::l,b,i=>(∃ a cs,b=some a∧cs.size=4∧(∀ j,j < 4→KO h (a.add (i * 4+j))=cs[j]?)∧VRep h v cs)∧VsAt h l b (i+1)
end
structure VsRep (h:Heap) (x:Sl) (l:List Vl):Prop where
 len:x.len=l.length
 cap:x.len≤x.cap
 big:x.len≤9223372036854775807
 at_:VsAt h l x.base 0
theorem VRep.eq {h:Heap} {k n:Int} {s:List UInt8} {l:List Vl} {cs:Array Value}:VRep h (.mk k n s l) cs↔∃ x:Sl,cs=ZO k n s x∧I64 k∧I64 n∧s.length≤9223372036854775807∧VsRep h x l:=by
 rw [VRep]
 constructor
 ·rintro ⟨x,h1,h2,h3,h4,h5,h6,h7,h8⟩; exact ⟨x,h1,h2,h3,h4,h5,h6,h7,h8⟩
 ·rintro ⟨x,h1,h2,h3,h4,h5,h6,h7,h8⟩; exact ⟨x,h1,h2,h3,h4,h5,h6,h7,h8⟩
theorem VRep.size {h:Heap}:∀ {v:Vl} {cs:Array Value},VRep h v cs→cs.size=4
 | .mk _ _ _ _,cs,H=>by obtain ⟨x,rfl,_⟩:=VRep.eq.1 H; rfl
theorem VRep.one {h:Heap}:∀ {v:Vl} {cs:Array Value},VRep h v cs→∀ u ∈ cs.toList,Gx.one u=true
 | .mk _ _ _ _,cs,H=>by
  obtain ⟨x,rfl,_⟩:=VRep.eq.1 H
  intro u hu
  simp only [ZO,List.mem_cons,List.not_mem_nil,or_false] at hu
  rcases hu with rfl | rfl | rfl | rfl <;> first | rfl | exact KB3 _
theorem VsAt.get {h:Heap}:∀ {l:List Vl} {b:Option Addr} {i:Nat},VsAt h l b i→∀ {j:Nat} (hj:j < l.length),∃ a cs,b=some a∧cs.size=4∧(∀ m,m < 4→KO h (a.add ((i+j) * 4+m))=cs[m]?)∧VRep h l[j] cs
 | [],_,_,_,j,hj=>by simp at hj
 | v::l,b,i,H,0,hj=>by rw [VsAt] at H; exact H.1
 | v::l,b,i,H,j+1,hj=>by
  rw [VsAt] at H
  have:=VsAt.get H.2 (j:=j) (by simpa using hj)
  rw [show i+(j+1)=i+1+j by omega]
  exact this
theorem VsAt.of {h:Heap}:∀ {l:List Vl} {b:Option Addr} {i:Nat},(∀ j (hj:j < l.length),∃ a cs,b=some a∧cs.size=4∧(∀ m,m < 4→KO h (a.add ((i+j) * 4+m))=cs[m]?)∧VRep h l[j] cs)→VsAt h l b i
 | [],_,_,_=>by rw [VsAt]; trivial
 | v::l,b,i,H=>by
  rw [VsAt]
  refine ⟨H 0 (by simp),VsAt.of (fun j hj=>?_)⟩
  have:=H (j+1) (by simpa using hj)
  rw [show i+1+j=i+(j+1) by omega]
  exact this
theorem VsRep.get {h:Heap} {x:Sl} {l:List Vl} (H:VsRep h x l) {j:Nat} (hj:j < l.length):∃ a cs,x.base=some a∧cs.size=4∧(∀ m,m < 4→KO h (a.add (j * 4+m))=cs[m]?)∧VRep h l[j] cs:=by
 have:=H.at_.get hj
 rw [Nat.zero_add] at this
 exact this
theorem Ext.row {h h':Heap} (e:Ext h h') {a:Addr} {cs:Array Value} {i n:Nat} (hs:cs.size=n) (H:∀ m,m < n→KO h (a.add (i+m))=cs[m]?):∀ m,m < n→KO h' (a.add (i+m))=cs[m]?:=fun m hm=>by
 have h1:cs[m]?=some (cs[m]'(by omega)):=Array.getElem?_eq_getElem (by omega)
 rw [h1]
 exact e.cell (by rw [H m hm,h1])
theorem KJF {h h':Heap} (e:Ext h h'):∀ (m:Nat) (v:Vl) (cs:Array Value),sizeOf v < m→VRep h v cs→VRep h' v cs:=by
 intro m
 induction m with
 | zero=>intro v cs hm; omega
 | succ m ih =>
  rintro ⟨k,n,s,l⟩ cs hm H
  obtain ⟨x,h1,h2,h3,h4,h5⟩:=VRep.eq.1 H
  refine VRep.eq.2 ⟨x,h1,h2,h3,h4,h5.len,h5.cap,h5.big,VsAt.of (fun j hj=>?_)⟩
  obtain ⟨a,cs',ha,hs,hc,hv⟩:=h5.at_.get hj
  refine ⟨a,cs',ha,hs,e.row hs hc,ih _ _ ?_ hv⟩
  have:=List.sizeOf_lt_of_mem (List.getElem_mem hj)
  simp only [Vl.mk.sizeOf_spec] at hm
  omega
theorem VRep.ext {h h':Heap} {v:Vl} {cs:Array Value} (H:VRep h v cs) (e:Ext h h'):VRep h' v cs:=KJF e _ v cs (Nat.lt_succ_self _) H
theorem VsRep.ext {h h':Heap} {x:Sl} {l:List Vl} (H:VsRep h x l) (e:Ext h h'):VsRep h' x l :=
 ⟨H.len,H.cap,H.big,VsAt.of (fun j hj=>by
  obtain ⟨a,cs',ha,hs,hc,hv⟩:=H.at_.get hj
  exact ⟨a,cs',ha,hs,e.row hs hc,hv.ext e⟩)⟩
theorem VsRep.nil (h:Heap):VsRep h Sl.nil []:=⟨rfl,Nat.le_refl _,by decide,by rw [VsAt]; trivial⟩
def cmpI (a b:Int):Int:=if a < b then -1 else if b < a then 1 else 0
def cOr (a b:Int):Int:=if a=0 then b else a
mutual
def cmpV:Vl→Vl→Int
 | .mk k n s l,.mk k' n' s' l'=>cOr (cmpI k k') (cOr (cmpI n n') (cOr (Lib.compareBytes s s') (Xt l l')))
def Xt:List Vl→List Vl→Int
 | [],[]=>0
 | [],_::_=>-1
 | _::_,[]=>1
 | a::l,b::l'=>cOr (cmpV a b) (Xt l l')
end
theorem Zu {β:Type} {t:TypeId} {h:Heap} {Q:β→Heap→Prop} {cs:Array Value} {f:Addr→M β} (H:∀ h',Ext h h'→h'.size=h.size+1→h'[h.size]?=some (.cells cs t (0,0))→(f ⟨h.size,0,none⟩).wp h' Q):(mkB t cs>>=f).wp h Q :=
 KKj (H _ (Ext.push _ _) (by simp) ZJ)
theorem Ky {h:Heap} {b i:Nat} {cs:Array Value} {t:TypeId} {z:Nat × Nat} (hb:h[b]?=some (.cells cs t z)):KO h ((⟨b,0,none⟩:Addr).add i)=cs[i]?:=by
 rw [ZE,Nat.zero_add,KP hb]
theorem KDL {a b:Int} {h:Heap} {Q:Int→Heap→Prop} (H:Q (cmpI a b) h):(VO a b).wp h Q:=by
 unfold VO Wg
 refine Zc (Zc (iteF (by simp) (iteF (by simp) ?_)))
 unfold cmpI at H
 refine KZ (fun hc=>?_) (fun hc=>?_)
 ·rw [if_pos (of_decide_eq_true hc)] at H; exact H
 ·rw [if_neg (of_decide_eq_false hc)] at H
  refine KZ (fun hc=>?_) (fun hc=>?_)
  ·rw [if_pos (of_decide_eq_true hc)] at H; exact H
  ·rw [if_neg (of_decide_eq_false hc)] at H; exact H
theorem KBl {a b:Int} {h:Heap} {Q:Int→Heap→Prop} (H:Q (cmpI a b) h):(Ug a b).wp h Q:=by
 unfold Ug VP
 refine Zc (Zc (iteF (by simp) (iteF (by simp) ?_)))
 unfold cmpI at H
 refine KZ (fun hc=>?_) (fun hc=>?_)
 ·rw [if_pos (of_decide_eq_true hc)] at H; exact H
 ·rw [if_neg (of_decide_eq_false hc)] at H
  refine KZ (fun hc=>?_) (fun hc=>?_)
  ·rw [if_pos (of_decide_eq_true hc)] at H; exact H
  ·rw [if_neg (of_decide_eq_false hc)] at H; exact H
def cOrs:List Int→Int
 | []=>0
 | a::l=>cOr a (cOrs l)
theorem KJG {t:TypeId} {b n:Nat} {zs:List Int} {h:Heap} {Q:Int→Heap→Prop} (hb:h[b]?=some (.cells (zs.map (Value.int .i64)).toArray t (0,0))) (hn:n=zs.length) (hz:zs.length≤1000) (H:Q (cOrs zs) h):(GN ⟨some ⟨b,0,none⟩,n,n⟩).wp h Q:=by
 subst hn
 unfold GN
 refine M.loop_inv (fun (t:Int) h'=>h'=h∧∃ i:Nat,t=(i:Int)∧i≤zs.length∧cOrs (zs.drop i)=cOrs zs) (fun t _=>((zs.length:Int) - t).toNat) ?_ ⟨rfl,0,rfl,Nat.zero_le _,by simp⟩
 rintro t h' ⟨rfl,i,rfl,hi,hd⟩ self hself
 unfold Gv
 refine KZ (fun hc=>?_) (fun hc=>?_)
 ·have hlt:i < zs.length:=by have:=of_decide_eq_true hc; dsimp only at this; omega
  refine Gi (by omega) (by dsimp only; omega) rfl ?_
  refine Jx (n:=zs[i]) (by rw [show (i:Int).toNat * 1=i by omega,Ky hb]; simp [hlt]) ?_
  rw [List.drop_eq_getElem_cons hlt,cOrs] at hd
  refine KZ (fun hne=>?_) (fun heq=>?_)
  ·have hne:zs[i]≠0:=by simpa using hne
   rw [cOr,if_neg hne] at hd
   rw [← hd] at H
   exact KF H
  ·have heq:zs[i]=0:=by simpa using heq
   rw [cOr,if_pos heq] at hd
   rw [w64 (by omega) (by omega)]
   exact hself _ _ ⟨rfl,i+1,by simp,by omega,hd⟩ (by omega)
 ·have hge:i=zs.length:=by have:=of_decide_eq_false hc; dsimp only at this; omega
  subst hge
  rw [List.drop_length] at hd
  have hd:(0:Int)=cOrs zs:=hd
  rw [← hd] at H
  exact KF H
theorem KA5 {l l':List Vl} {h:Heap} {Q:Int→Heap→Prop} {x y:Sl} {g:Value} (hx:VsRep h x l) (hy:VsRep h y l')
  (hg:∀ j (hj:j < l.length) (hj':j < l'.length) h1 c c' (Q1:Int→Heap→Prop),Ext h h1→VRep h1 l[j] c→VRep h1 l'[j] c'→(∀ h2,Ext h1 h2→Q1 (cmpV l[j] l'[j]) h2)→(Gh Go.Proofs.Tryz.prog (fun r:Int=>.int .i64 r) g [.agg c,.agg c']).wp h1 Q1)
  (H:∀ h',Ext h h'→Q (Xt l l') h'):(KN x y g).wp h Q:=by
 unfold KN
 have hxl:=hx.len
 have hyl:=hy.len
 have hxb:=hx.big
 have hyb:=hy.big
 have hxc:=hx.cap
 have hyc:=hy.cap
 refine M.loop_inv (fun (t:Int) h'=>Ext h h'∧∃ i:Nat,t=(i:Int)∧i≤l.length∧i≤l'.length∧Xt (l.drop i) (l'.drop i)=Xt l l') (fun t _=>((l.length:Int) - t).toNat) ?_ ⟨Ext.refl h,0,rfl,Nat.zero_le _,Nat.zero_le _,by simp⟩
 rintro t h' ⟨E,i,rfl,hi,hi',hd⟩ self hself
 unfold KX
 rw [hxl,hyl]
 refine KZ (fun hc=>?_) (fun hc=>?_)
 ·have hlt:i < l.length:=by have:=of_decide_eq_true hc; omega
  obtain ⟨a,c,ha,hs,hcs,hv⟩:=(hx.ext E).get hlt
  refine Gi (by omega) (by rw [hxl]; omega) ha (WF hs (fun j hj=>by rw [Addr.add_add,show (i:Int).toNat * 4=i * 4 by omega]; exact hcs j hj) (Zu (fun h1 e1 s1 g1=>?_)))
  refine ZQ hs (stR (vs:=c) g1 (by rw [hs]; decide) hv.one (fun h2 u2 g2=>?_))
  have E2:Ext h' h2:=e1.upd u2 (Nat.le_refl _)
  rw [KS (by rw [Array.length_toList,hs]; rfl),Array.toArray_toList] at g2
  refine KZ (fun hge=>?_) (fun hlt'=>?_)
  ·have hge:i=l'.length:=by have:=of_decide_eq_true hge; omega
   subst hge
   rw [List.drop_length,List.drop_eq_getElem_cons hlt,Xt] at hd
   have:=H _ (E.trans E2)
   rw [← hd] at this
   exact KF this
  ·have hlt':i < l'.length:=by have:=of_decide_eq_false hlt'; omega
   obtain ⟨a',c',ha',hs',hcs',hv'⟩:=(hy.ext (E.trans E2)).get hlt'
   refine Gi (by omega) (by rw [hyl]; omega) ha' (WF hs' (fun j hj=>by rw [Addr.add_add,show (i:Int).toNat * 4=i * 4 by omega]; exact hcs' j hj) (Zu (fun h3 e3 s3 g3=>?_)))
   refine ZQ hs' (stR (vs:=c') g3 (by rw [hs']; decide) hv'.one (fun h4 u4 g4=>?_))
   have E4:Ext h2 h4:=e3.upd u4 (Nat.le_refl _)
   rw [KS (by rw [Array.length_toList,hs']; rfl),Array.toArray_toList] at g4
   have g2':=E4.blk g2
   refine WF hs (fun j hj=>by rw [Ky g2']) (WF hs' (fun j hj=>by rw [Ky g4]) ?_)
   have E':=(E.trans E2).trans E4
   refine KJ (hg i hlt hlt' h4 c c' _ E' ((hv.ext E2).ext E4) (hv'.ext E4) (fun h5 e5=>?_))
   rw [List.drop_eq_getElem_cons hlt,List.drop_eq_getElem_cons hlt',Xt] at hd
   refine KZ (fun hne=>?_) (fun heq=>?_)
   ·have hne:cmpV l[i] l'[i]≠0:=by simpa using hne
    rw [cOr,if_neg hne] at hd
    rw [hd]
    exact KF (H _ (E'.trans e5))
   ·have heq:cmpV l[i] l'[i]=0:=by simpa using heq
    rw [cOr,if_pos heq] at hd
    rw [w64 (by omega) (by omega)]
    exact hself _ _ ⟨E'.trans e5,i+1,by simp,by omega,by omega,hd⟩ (by omega)
 ·have hge:i=l.length:=by have:=of_decide_eq_false hc; omega
  subst hge
  rw [List.drop_length] at hd
  refine KZ (fun hlt=>?_) (fun hge=>?_)
  ·have hlt:l.length < l'.length:=by have:=of_decide_eq_true hlt; omega
   rw [List.drop_eq_getElem_cons hlt,Xt] at hd
   have:=H _ E
   rw [← hd] at this
   exact KF this
  ·have hge:l'.length=l.length:=by have:=of_decide_eq_false hge; omega
   rw [← hge,List.drop_length,Xt] at hd
   have:=H _ E
   rw [← hd] at this
   exact KF this
theorem KEK:∀ (m:Nat) (a b:Vl) {h:Heap} {Q:Int→Heap→Prop} {x y:Array Value},sizeOf a < m→VRep h a x→VRep h b y→(∀ h',Ext h h'→Q (cmpV a b) h')→(UQ x y).wp h Q:=by
 intro m
 induction m with
 | zero=>intro a b h Q x y hm; omega
 | succ m ih =>
  rintro ⟨k,n,s,l⟩ ⟨k',n',s',l'⟩ h Q x y hm hx hy H
  obtain ⟨xs,rfl,k1,n1,s1,r1⟩:=VRep.eq.1 hx
  obtain ⟨ys,rfl,k2,n2,s2,r2⟩:=VRep.eq.1 hy
  unfold UQ
  refine Zu (fun h1 e1 z1 g1=>Zu (fun h2 e2 z2 g2=>?_))
  have g1':=e2.blk g1
  have E:=e1.trans e2
  have c0:KO h2 ((⟨h.size,0,none⟩:Addr).add 0)=some (.int .i64 k):=by rw [Ky g1']; rfl
  have c1:KO h2 ((⟨h.size,0,none⟩:Addr).add 1)=some (.int .i64 n):=by rw [Ky g1']; rfl
  have c2:KO h2 ((⟨h.size,0,none⟩:Addr).add 2)=some (.string (bs s)):=by rw [Ky g1']; rfl
  have c3:KO h2 ((⟨h.size,0,none⟩:Addr).add 3)=some xs.v:=by rw [Ky g1']; rfl
  have d0:KO h2 ((⟨h1.size,0,none⟩:Addr).add 0)=some (.int .i64 k'):=by rw [Ky g2]; rfl
  have d1:KO h2 ((⟨h1.size,0,none⟩:Addr).add 1)=some (.int .i64 n'):=by rw [Ky g2]; rfl
  have d2:KO h2 ((⟨h1.size,0,none⟩:Addr).add 2)=some (.string (bs s')):=by rw [Ky g2]; rfl
  have d3:KO h2 ((⟨h1.size,0,none⟩:Addr).add 3)=some ys.v:=by rw [Ky g2]; rfl
  refine Jx (n:=k) c0 (Jx (n:=k') d0 (Jx (n:=n) c1 (Jx (n:=n') d1 (zF (n:=bs s) c2 (zF (n:=bs s') d2 (UO (n:=xs) c3 (UO (n:=ys) d3 ?_)))))))
  refine KJ (KDL (KEo ⟨c0,d0,c1,d1,c2,d2,c3,d3⟩ ?_))
  refine KJ (KBl (KEo ⟨c0,d0,c1,d1,c2,d2,c3,d3⟩ ?_))
  unfold Wh Zv
  refine KJ (Zc (KF (KEo ⟨c0,d0,c1,d1,c2,d2,c3,d3⟩ ?_)))
  simp only [Vl.mk.sizeOf_spec] at hm
  refine KJ (KA5 (r1.ext E) (r2.ext E) (fun j hj hj' h3 c c' Q1 e3 hv hv' hq=>?_) (fun h3 e3=>?_))
  ·refine KCp Y0 (Xc _ _) (ih _ _ ?_ hv hv' hq)
   have:=List.sizeOf_lt_of_mem (List.getElem_mem hj)
   omega
  ·refine KCq ?_
   have e4:=Ext.push h3 (.cells #[Value.int .i64 (cmpI k k'),.int .i64 (cmpI n n'),.int .i64 (Lib.compareBytes (bs s).data.toList (bs s').data.toList),.int .i64 (Xt l l')] Nb)
   refine KJ (KJG (zs:=[cmpI k k',cmpI n n',Lib.compareBytes s s',Xt l l']) (t:=Nb) ?_ rfl (by simp) (KF ?_))
   ·exact ZJ
   ·have:=H _ ((E.trans e3).trans e4)
    rw [cmpV] at this
    have hz:∀ a:Int,cOr a 0=a:=fun a=>by unfold cOr; split <;> simp_all
    simpa [cOrs,hz] using this
theorem XW {a b:Vl} {h:Heap} {Q:Int→Heap→Prop} {x y:Array Value} (hx:VRep h a x) (hy:VRep h b y) (H:∀ h',Ext h h'→Q (cmpV a b) h'):(UQ x y).wp h Q:=KEK _ a b (Nat.lt_succ_self _) hx hy H
end Gx
namespace Gx
open Go
set_option linter.unusedVariables false
set_option linter.unusedSimpArgs false
theorem JL (l:List UInt8):(bs l).size=l.length:=by simp [bs,ByteArray.size]
theorem bs_get? (l:List UInt8) (i:Nat):(bs l)[i]?=l[i]?:=by
 rcases Nat.lt_or_ge i l.length with h | h
 ·rw [List.getElem?_eq_getElem h]
  have:i < (bs l).size:=by rw [JL]; exact h
  rw [getElem?_pos (bs l) i this]
  rfl
 ·rw [List.getElem?_eq_none h]
  have:¬ i < (bs l).size:=by rw [JL]; omega
  rw [getElem?_neg (bs l) i this]
theorem KEL (l:List UInt8):(bs l).toList=l:=by rw [ByteArray.toList_eq]
theorem KHp (a b:List UInt8):sEq (bs a) (bs b)=decide (a=b):=by
 unfold sEq
 rw [KEL,KEL,Bool.eq_iff_iff]
 simp
theorem KJH:ByteArray.empty=bs []:=rfl
theorem qE {β:Type} {h:Heap} {Q:β→Heap→Prop} {l:List UInt8} {i:Nat} {t:Int} {f:Int→M β} (ht:t=(i:Int)) (hi:i < l.length) (H:(f (l[i].toNat:Int)).wp h Q):(ixS (bs l) t>>=f).wp h Q :=
 ⟨_,⟨by omega,l[i],by subst ht; rw [Int.toNat_natCast,bs_get?,List.getElem?_eq_getElem hi],rfl⟩,H⟩
theorem KAi {β:Type} {h:Heap} {Q:β→Heap→Prop} {x:Sl} {l:List Vl} {i:Nat} {t:Int} {f:Addr→M β} (H:VsRep h x l) (hi:i < l.length) (ht:t=(i:Int))
  (hq:∀ a c,c.size=4→(∀ m,m < 4→KO h (a.add m)=c[m]?)→VRep h l[i] c→(f a).wp h Q):(ixL x t 4>>=f).wp h Q:=by
 obtain ⟨a,c,ha,hs,hcs,hv⟩:=H.get hi
 have:=H.len
 subst ht
 refine Gi (by omega) (by omega) ha (hq _ c hs (fun m hm=>?_) hv)
 rw [Addr.add_add,show (i:Int).toNat * 4=i * 4 by omega]
 exact hcs m hm
theorem Nq {a b:Int} {h:Heap} {Q:Int→Heap→Prop} (H:Q (cmpI a b) h):(Zf a b).wp h Q:=by
 unfold Zf
 unfold cmpI at H
 refine KZ (fun hc=>?_) (fun hc=>?_)
 ·rw [if_pos (of_decide_eq_true hc)] at H; exact H
 ·rw [if_neg (of_decide_eq_false hc)] at H
  refine KZ (fun hc=>?_) (fun hc=>?_)
  ·rw [if_pos (of_decide_eq_true hc)] at H; exact H
  ·rw [if_neg (of_decide_eq_false hc)] at H; exact H
theorem u8_lt_int {a b:UInt8}:(a < b)↔((a.toNat:Int) < (b.toNat:Int)):=by
 rw [UInt8.lt_iff_toNat_lt]; omega
theorem GZ (a b:UInt8) (s t:List UInt8):Lib.compareBytes (a::s) (b::t)=if a=b then Lib.compareBytes s t else cmpI (a.toNat:Int) (b.toNat:Int):=by
 rw [Lib.compareBytes]
 unfold cmpI
 have h1:=@u8_lt_int a b
 have h2:=@u8_lt_int b a
 by_cases he:a=b
 ·subst he
  rw [if_pos rfl,if_neg (by rw [h1]; omega),if_neg (by rw [h1]; omega)]
 ·have hne:a.toNat≠b.toNat:=fun h=>he (UInt8.toNat_inj.1 h)
  rw [if_neg he]
  by_cases hlt:a < b
  ·rw [if_pos hlt,if_pos (h1.1 hlt)]
  ·rw [if_neg hlt,if_neg (fun h=>hlt (h1.2 h))]
   have:b < a:=by rw [h2]; rw [h1] at hlt; omega
   rw [if_pos this,if_pos (h2.1 this)]
theorem KGV {s t:List UInt8} {h:Heap} {Q:Int→Heap→Prop} (hs:s.length≤9223372036854775807) (ht:t.length≤9223372036854775807) (H:Q (Lib.compareBytes s t) h):(Ux (bs s) (bs t)).wp h Q:=by
 unfold Ux
 refine M.loop_inv (fun (x:Int) h'=>h'=h∧∃ i:Nat,x=(i:Int)∧i≤s.length∧i≤t.length∧Lib.compareBytes (s.drop i) (t.drop i)=Lib.compareBytes s t) (fun x _=>((s.length:Int) - x).toNat) ?_ ⟨rfl,0,rfl,Nat.zero_le _,Nat.zero_le _,by simp⟩
 rintro x h' ⟨rfl,i,rfl,hi,hi',hd⟩ self hself
 unfold WL
 rw [JL,JL]
 have fin:¬ (i < s.length∧i < t.length)→(Zf (s.length:Int) (t.length:Int)).wp h' (fun r h1=>(M.pure r:M Int).wp h1 Q):=fun hno=>by
  refine Nq (KF ?_)
  have:cmpI (s.length:Int) (t.length:Int)=Lib.compareBytes s t:=by
   rw [← hd]
   unfold cmpI
   rcases Nat.lt_or_ge i s.length with h1 | h1
   ·have h2:i=t.length:=by omega
    subst h2
    rw [List.drop_eq_getElem_cons h1,List.drop_length,Lib.compareBytes,if_neg (by omega),if_pos (by omega)]
   ·have h2:i=s.length:=by omega
    subst h2
    rw [List.drop_length]
    rcases Nat.lt_or_ge s.length t.length with h3 | h3
    ·rw [List.drop_eq_getElem_cons h3,Lib.compareBytes,if_pos (by omega)]
    ·have:t.length=s.length:=by omega
     rw [← this,List.drop_length,Lib.compareBytes,if_neg (by omega),if_neg (by omega)]
  rw [this]
  exact H
 refine KJ (KZ (fun h1=>?_) (fun h1=>?_))
 ·have h1:i < s.length:=by have:=of_decide_eq_true h1; omega
  refine KF (KZ (fun h2=>?_) (fun h2=>?_))
  ·have h2:i < t.length:=by have:=of_decide_eq_true h2; omega
   rw [List.drop_eq_getElem_cons h1,List.drop_eq_getElem_cons h2,GZ] at hd
   refine qE rfl h1 (qE rfl h2 (KZ (fun hne=>?_) (fun heq=>?_)))
   ·have hne:s[i]≠t[i]:=fun h=>by rw [h] at hne; simp at hne
    rw [if_neg hne] at hd
    have b1:=s[i].toNat_lt
    have b2:=t[i].toNat_lt
    refine qE rfl h1 (qE rfl h2 ?_)
    rw [w64 (by omega) (by omega),w64 (by omega) (by omega)]
    refine KJ (Nq (KF ?_))
    rw [hd]; exact H
   ·have heq':((s[i].toNat:Int))=t[i].toNat:=by simpa using heq
    have heq:s[i]=t[i]:=UInt8.toNat_inj.1 (by omega)
    rw [if_pos heq] at hd
    rw [w64 (by omega) (by omega)]
    exact hself _ _ ⟨rfl,i+1,by simp,by omega,by omega,hd⟩ (by omega)
  ·have h2:¬ i < t.length:=by have:=of_decide_eq_false h2; omega
   exact KJ (fin (fun h=>h2 h.2))
 ·have h1:¬ i < s.length:=by have:=of_decide_eq_false h1; omega
  exact KF (iteF rfl (KJ (fin (fun h=>h1 h.1))))
theorem KEM:∀ (m:Nat) (a b:Vl) {h:Heap} {Q:Int→Heap→Prop} {x y:Array Value},sizeOf a < m→VRep h a x→VRep h b y→(∀ h',Ext h h'→Q (cmpV a b) h')→(Z6 x y).wp h Q:=by
 intro m
 induction m with
 | zero=>intro a b h Q x y hm; omega
 | succ m ih =>
  rintro ⟨k,n,s,l⟩ ⟨k',n',s',l'⟩ h Q x y hm hx hy H
  obtain ⟨xs,rfl,k1,n1,s1,r1⟩:=VRep.eq.1 hx
  obtain ⟨ys,rfl,k2,n2,s2,r2⟩:=VRep.eq.1 hy
  simp only [Vl.mk.sizeOf_spec] at hm
  have hxl:=r1.len
  have hyl:=r2.len
  have hxb:=r1.big
  have hyb:=r2.big
  have hxc:=r1.cap
  have hyc:=r2.cap
  unfold Z6
  refine Zu (fun h1 e1 z1 g1=>Zu (fun h2 e2 z2 g2=>?_))
  have g1':=e2.blk g1
  have E:=e1.trans e2
  rw [cmpV] at H
  refine Jx (n:=k) (by rw [Ky g1']; rfl) (Jx (n:=k') (by rw [Ky g2]; rfl) (KJ (Nq ?_)))
  refine KZ (fun hne=>?_) (fun heq=>?_)
  ·have hne:cmpI k k'≠0:=by simpa using hne
   have:=H _ E
   rw [cOr,if_neg hne] at this
   exact KF this
  have heq:cmpI k k'=0:=by simpa using heq
  rw [cOr,if_pos heq] at H
  refine Jx (n:=n) (by rw [Ky g1']; rfl) (Jx (n:=n') (by rw [Ky g2]; rfl) (KJ (Nq ?_)))
  refine KZ (fun hne=>?_) (fun heq=>?_)
  ·have hne:cmpI n n'≠0:=by simpa using hne
   have:=H _ E
   rw [cOr,if_neg hne] at this
   exact KF this
  have heq:cmpI n n'=0:=by simpa using heq
  rw [cOr,if_pos heq] at H
  refine zF (n:=bs s) (by rw [Ky g1']; rfl) (zF (n:=bs s') (by rw [Ky g2]; rfl) (KJ (KGV s1 s2 ?_)))
  refine KZ (fun hne=>?_) (fun heq=>?_)
  ·have hne:Lib.compareBytes s s'≠0:=by simpa using hne
   have:=H _ E
   rw [cOr,if_neg hne] at this
   exact KF this
  have heq:Lib.compareBytes s s'=0:=by simpa using heq
  rw [cOr,if_pos heq] at H
  refine M.loop_inv (fun (t:Int) h'=>Ext h2 h'∧∃ i:Nat,t=(i:Int)∧i≤l.length∧i≤l'.length∧Xt (l.drop i) (l'.drop i)=Xt l l') (fun t _=>((l.length:Int) - t).toNat) ?_ ⟨Ext.refl h2,0,rfl,Nat.zero_le _,Nat.zero_le _,by simp⟩
  rintro t h' ⟨E',i,rfl,hi,hi',hd⟩ self hself
  have f1:=E'.blk g1'
  have f2:=E'.blk g2
  have c3:KO h' ((⟨h.size,0,none⟩:Addr).add 3)=some xs.v:=by rw [Ky f1]; rfl
  have d3:KO h' ((⟨h1.size,0,none⟩:Addr).add 3)=some ys.v:=by rw [Ky f2]; rfl
  have EE:=E.trans E'
  have fin:¬ (i < l.length∧i < l'.length)→(ldL ((⟨h.size,0,none⟩:Addr).add 3)>>=fun Xx48=>ldL ((⟨h1.size,0,none⟩:Addr).add 3)>>=fun Xx49=>Zf (Xx48.len:Int) (Xx49.len:Int)>>=fun Xx50=>M.pure Xx50).wp h' Q:=fun hno=>by
   refine UO (n:=xs) c3 (UO (n:=ys) d3 (KJ (Nq (KF ?_))))
   have:cmpI (xs.len:Int) (ys.len:Int)=Xt l l':=by
    rw [← hd,hxl,hyl]
    unfold cmpI
    rcases Nat.lt_or_ge i l.length with h1 | h1
    ·have h2:i=l'.length:=by omega
     subst h2
     rw [List.drop_eq_getElem_cons h1,List.drop_length,Xt,if_neg (by omega),if_pos (by omega)]
    ·have h2:i=l.length:=by omega
     subst h2
     rw [List.drop_length]
     rcases Nat.lt_or_ge l.length l'.length with h3 | h3
     ·rw [List.drop_eq_getElem_cons h3,Xt,if_pos (by omega)]
     ·have:l'.length=l.length:=by omega
      rw [← this,List.drop_length,Xt,if_neg (by omega),if_neg (by omega)]
   rw [this]
   exact H _ EE
  unfold U5
  refine UO (n:=xs) c3 (KJ (KZ (fun h3=>?_) (fun h3=>?_)))
  ·have h3:i < l.length:=by have:=of_decide_eq_true h3; omega
   refine UO (n:=ys) d3 (KF (KZ (fun h4=>?_) (fun h4=>?_)))
   ·have h4:i < l'.length:=by have:=of_decide_eq_true h4; omega
    rw [List.drop_eq_getElem_cons h3,List.drop_eq_getElem_cons h4,Xt] at hd
    refine UO (n:=xs) c3 (KAi (r1.ext EE) h3 rfl (fun a c hs hcs hv=>WF hs hcs (UO (n:=ys) d3 (KAi (r2.ext EE) h4 rfl (fun a' c' hs' hcs' hv'=>WF hs' hcs' ?_)))))
    refine KJ (qS (Ye _ _) (ih _ _ ?_ hv hv' (fun h5 e5=>?_)))
    ·have:=List.sizeOf_lt_of_mem (List.getElem_mem h3)
     omega
    refine KZ (fun hne=>?_) (fun heq=>?_)
    ·have hne:cmpV l[i] l'[i]≠0:=by simpa using hne
     rw [cOr,if_neg hne] at hd
     rw [hd]
     exact KF (H _ (EE.trans e5))
    ·have heq:cmpV l[i] l'[i]=0:=by simpa using heq
     rw [cOr,if_pos heq] at hd
     rw [w64 (by omega) (by omega)]
     exact hself _ _ ⟨E'.trans e5,i+1,by simp,by omega,by omega,hd⟩ (by omega)
   ·have h4:¬ i < l'.length:=by have:=of_decide_eq_false h4; omega
    exact fin (fun h=>h4 h.2)
  ·have h3:¬ i < l.length:=by have:=of_decide_eq_false h3; omega
   exact KF (iteF rfl (fin (fun h=>h3 h.1)))
theorem zy {a b:Vl} {h:Heap} {Q:Int→Heap→Prop} {x y:Array Value} (hx:VRep h a x) (hy:VRep h b y) (H:∀ h',Ext h h'→Q (cmpV a b) h'):(Z6 x y).wp h Q:=KEM _ a b (Nat.lt_succ_self _) hx hy H
theorem KEN {β:Type} {h:Heap} {Q:β→Heap→Prop} {b:Nat} {t:TypeId} {z:Nat × Nat} {v:Vl} {cs:Array Value} {f:Array Value→M β} (hb:h[b]?=some (.cells cs t z)) (hv:cs.size=4) (H:(f cs).wp h Q):(ldG 4 ⟨b,0,none⟩>>=f).wp h Q :=
 WF hv (fun i _=>by rw [Ky hb]) H
theorem KGW {a b:Vl} {h:Heap} {Q:Bool→Heap→Prop} {x y:Array Value} (hx:VRep h a x) (hy:VRep h b y) (H:∀ h',Ext h h'→Q (decide (cmpV a b=0)) h'):(GR x y).wp h Q:=by
 unfold GR
 refine Zu (fun h1 e1 z1 g1=>Zu (fun h2 e2 z2 g2=>?_))
 have E:=e1.trans e2
 refine KEN (v:=a) (e2.blk g1) hx.size (KEN (v:=b) g2 hy.size (KJ (XW (hx.ext E) (hy.ext E) (fun h3 e3=>KF ?_))))
 have:=H _ (E.trans e3)
 rwa [show (cmpV a b == 0)=decide (cmpV a b=0) from rfl]
theorem KCY {a b:Vl} {h:Heap} {Q:Bool→Heap→Prop} {x y:Array Value} (hx:VRep h a x) (hy:VRep h b y) (H:∀ h',Ext h h'→Q (decide (cmpV a b=0)) h'):(Z4 x y).wp h Q:=by
 unfold Z4
 refine Zu (fun h1 e1 z1 g1=>Zu (fun h2 e2 z2 g2=>?_))
 have E:=e1.trans e2
 refine KEN (v:=a) (e2.blk g1) hx.size (KEN (v:=b) g2 hy.size (KJ (zy (hx.ext E) (hy.ext E) (fun h3 e3=>KF ?_))))
 have:=H _ (E.trans e3)
 rwa [show (cmpV a b == 0)=decide (cmpV a b=0) from rfl]
end Gx
namespace Gx
open Go
set_option linter.unusedVariables false
set_option linter.unusedSimpArgs false
def zz:List Vl→Bool
 | a::_::c::r=>decide (cmpV a c < 0) && zz (c::r)
 | _=>true
def KHq (s:List UInt8) (l:List Vl):Bool:=decide (s=[]) && l.isEmpty
def mayV:Nat→Vl→Bool
 | 0,_=>false
 | d+1,.mk k n s l =>
  if k=1 then KHq s l
  else if k=3 then KHq s l && (decide (n=0) || decide (n=1))
  else if k=6∨k=7 then KHq s l && decide (1≤n) && decide (n≤281474976710656)
  else if k=2 then decide (n=0) && l.isEmpty && decide (s.length≤128)
  else if k=4 then decide (l.length≤256) && (decide (n=0) && decide (s=[]) && l.all (mayV d))
  else if k=5 then decide (l.length≤512) && decide (l.length % 2=0) && zz l && (decide (n=0) && decide (s=[]) && l.all (mayV d))
  else false
theorem z6 {β:Type} {h:Heap} {Q:β→Heap→Prop} {b c:Bool} {m:M Bool} {f:Bool→M β} (hm:b=true→∀ Q':Bool→Heap→Prop,Q' c h→m.wp h Q') (H:(f (b && c)).wp h Q):(M.ite b m (M.pure false)>>=f).wp h Q:=by
 cases b with
 | true=>exact hm rfl _ H
 | false=>exact H
theorem or_b {β:Type} {h:Heap} {Q:β→Heap→Prop} {b c:Bool} {m:M Bool} {f:Bool→M β} (hm:b=false→∀ Q':Bool→Heap→Prop,Q' c h→m.wp h Q') (H:(f (b || c)).wp h Q):(M.ite b (M.pure true) m>>=f).wp h Q:=by
 cases b with
 | true=>exact H
 | false=>exact hm rfl _ H
theorem len0 {n:Nat} {l:List Vl} (h:n=l.length):((n:Int) == 0)=l.isEmpty:=by
 subst h
 cases l with
 | nil=>rfl
 | cons a l=>simp; omega
theorem sEq0 (s:List UInt8):sEq (bs s) ByteArray.empty=decide (s=[]):=by rw [KJH,KHp]
theorem eqI (a b:Int):(a == b)=decide (a=b):=rfl
theorem KCK {h:Heap} {Q:Bool→Heap→Prop} {x:Sl} {l:List Vl} {g:Value} {p:Vl→Bool} (hx:VsRep h x l)
  (hg:∀ j (hj:j < l.length) h1 c (Q1:Bool→Heap→Prop),Ext h h1→VRep h1 l[j] c→(∀ h2,Ext h1 h2→Q1 (p l[j]) h2)→(Gh Go.Proofs.Tryz.prog (fun r:Bool=>.bool r) g [.agg c]).wp h1 Q1)
  (H:∀ h',Ext h h'→Q (l.any p) h'):(Ke x g).wp h Q:=by
 unfold Ke ZL
 have hxl:=hx.len
 have hxb:=hx.big
 have hxc:=hx.cap
 refine KJ (M.loop_inv (fun (t:Int) h'=>Ext h h'∧∃ i:Nat,t=(i:Int)∧i≤l.length∧(l.drop i).any p=l.any p) (fun t _=>((l.length:Int) - t).toNat) ?_ ⟨Ext.refl h,0,rfl,Nat.zero_le _,by simp⟩)
 rintro t h' ⟨E,i,rfl,hi,hd⟩ self hself
 unfold Zb
 refine KZ (fun hc=>?_) (fun hc=>?_)
 ·have hlt:i < l.length:=by have:=of_decide_eq_true hc; omega
  rw [List.drop_eq_getElem_cons hlt,List.any_cons] at hd
  refine KAi (hx.ext E) hlt rfl (fun a c hs hcs hv=>WF hs hcs (KJ (hg i hlt h' c _ E hv (fun h2 e2=>?_))))
  refine KZ (fun ht=>KF (KF ?_)) (fun hf=>?_)
  ·rw [ht] at hd
   rw [show decide ((i:Int) ≥ 0)=l.any p by rw [← hd]; simp]
   exact H _ (E.trans e2)
  ·rw [hf,Bool.false_or] at hd
   rw [w64 (by omega) (by omega)]
   exact hself _ _ ⟨E.trans e2,i+1,by simp,by omega,hd⟩ (by omega)
 ·have hge:i=l.length:=by have:=of_decide_eq_false hc; omega
  subst hge
  rw [List.drop_length] at hd
  refine KF (KF ?_)
  rw [show decide ((-1:Int) ≥ 0)=l.any p by rw [← hd]; rfl]
  exact H _ E
theorem KGX {l:List Vl} {i:Nat} (h2:2≤i) (hi:i < l.length):zz (l.drop (i - 2))=(decide (cmpV (l[i - 2]'(by omega)) l[i] < 0) && zz (l.drop i)):=by
 rw [List.drop_eq_getElem_cons (show i - 2 < l.length by omega),List.drop_eq_getElem_cons (show i - 2+1 < l.length by omega)]
 have e:i - 2+1+1=i:=by omega
 simp only [e]
 rw [List.drop_eq_getElem_cons hi,zz]
theorem KHr {l:List Vl} {i:Nat} (h2:2≤i) (hi:l.length≤i):zz (l.drop (i - 2))=true:=by
 have hl:(l.drop (i - 2)).length≤2:=by rw [List.length_drop]; omega
 match h:l.drop (i - 2),hl with
 | [],_=>rfl
 | [_],_=>rfl
 | [_,_],_=>rfl
theorem KK0 (l:List Vl) (p:Vl→Bool):(!l.any fun x=>!p x)=l.all p:=by
 induction l with
 | nil=>rfl
 | cons a l ih=>simp [List.any_cons,List.all_cons,← ih]
theorem KHs:∀ (d:Nat) (v:Vl) {h:Heap} {Q:Bool→Heap→Prop} {x:Array Value},d≤8→VRep h v x→(∀ h',Ext h h'→Q (mayV d v) h')→(Xe x ((9 - d:Nat):Int)).wp h Q:=by
 intro d
 induction d with
 | zero =>
  rintro v h Q x _ hx H
  unfold Xe
  refine Zu (fun h1 e1 z1 g1=>Zu (fun h2 e2 z2 g2=>?_))
  refine Jx (n:=((9 - 0:Nat):Int)) (by rw [show (⟨h1.size,0,none⟩:Addr)=(⟨h1.size,0,none⟩:Addr).add 0 from rfl,Ky g2]; rfl) (iteT rfl (KF (H _ (e1.trans e2))))
 | succ d ih =>
  rintro ⟨k,n,s,l⟩ h Q x hd hx H
  obtain ⟨xs,rfl,k1,n1,s1,r1⟩:=VRep.eq.1 hx
  have hxl:=r1.len
  have hxb:=r1.big
  have hxc:=r1.cap
  unfold Xe
  refine Zu (fun h1 e1 z1 g1=>Zu (fun h2 e2 z2 g2=>?_))
  have g1':=e2.blk g1
  have E:=e1.trans e2
  have c0:KO h2 ((⟨h.size,0,none⟩:Addr).add 0)=some (.int .i64 k):=by rw [Ky g1']; rfl
  have c1:KO h2 ((⟨h.size,0,none⟩:Addr).add 1)=some (.int .i64 n):=by rw [Ky g1']; rfl
  have c2:KO h2 ((⟨h.size,0,none⟩:Addr).add 2)=some (.string (bs s)):=by rw [Ky g1']; rfl
  have c3:KO h2 ((⟨h.size,0,none⟩:Addr).add 3)=some xs.v:=by rw [Ky g1']; rfl
  have cd:KO h2 ⟨h1.size,0,none⟩=some (.int .i64 ((9 - (d+1):Nat):Int)):=by rw [show (⟨h1.size,0,none⟩:Addr)=(⟨h1.size,0,none⟩:Addr).add 0 from rfl,Ky g2]; rfl
  have H2:Q (mayV (d+1) (.mk k n s l)) h2:=H _ E
  unfold mayV at H H2
  refine Jx cd (iteF (by simp; omega) (zF c2 (z6 (c:=l.isEmpty) (fun _ Q' hq=>UO c3 (KF (by rw [len0 hxl]; exact hq))) ?_)))
  rw [sEq0]
  have hb:(decide (s=[]) && l.isEmpty)=KHq s l:=rfl
  rw [hb]
  have tail:(∀ h',Ext h h'→Q (decide (n=0) && decide (s=[]) && l.all (mayV d)) h')→∀ h3,Ext h2 h3→(Ya ⟨h.size,0,none⟩ ⟨h1.size,0,none⟩).wp h3 Q:=fun HT h3 e3=>by
   unfold Ya
   refine Jx (e3.cell c1) (z6 (c:=decide (s=[])) (fun _ Q' hq=>zF (e3.cell c2) (KF (by rw [sEq0]; exact hq))) ?_)
   rw [eqI]
   cases hns:(decide (n=0) && decide (s=[])) with
   | false =>
    have:=HT h3 (E.trans e3)
    rw [hns] at this
    exact Zc (KF this)
   | true =>
    rw [hns] at HT
    refine KJ (iteT rfl (UO (e3.cell c3) (KJ (KCK (p:=fun x=>!mayV d x) (r1.ext (E.trans e3)) (fun j hj h4 c Q1 e4 hv hq=>?_) (fun h4 e4=>KF (KF ?_))))))
    ·refine KCp KCD (KDH _ _) ?_
     unfold KBk
     refine Zu (fun h5 e5 z5 g5=>KEN (v:=l[j]) g5 hv.size (Jx (e5.cell (e4.cell (e3.cell cd))) ?_))
     rw [show IntKind.wrap .i64 (((9 - (d+1):Nat):Int)+1)=((9 - d:Nat):Int) by rw [w64 (by omega) (by omega)]; omega]
     exact KJ (ih _ (by omega) (hv.ext e5) (fun h6 e6=>KF (hq _ (e5.trans e6))))
    ·rw [KK0]
     exact HT _ ((E.trans e3).trans e4)
  refine Jx c0 (KZ (fun h1k=>?_) (fun h1k=>?_))
  ·have h1k:k=1:=by simpa using h1k
   rw [if_pos h1k] at H2
   exact KF H2
  have h1k:¬ k=1:=by simpa using h1k
  rw [if_neg h1k] at H2
  simp only [if_neg h1k] at H
  refine KZ (fun h3k=>?_) (fun h3k=>?_)
  ·have h3k:k=3:=by simpa using h3k
   rw [if_pos h3k] at H2
   refine z6 (c:=(decide (n=0) || decide (n=1))) (fun _ Q' hq=>Jx c1 (or_b (c:=decide (n=1)) (fun _ Q'' hq'=>Jx c1 (KF hq')) (KF hq))) (KF H2)
  have h3k:¬ k=3:=by simpa using h3k
  rw [if_neg h3k] at H2
  simp only [if_neg h3k] at H
  have j2:(Yc ⟨h.size,0,none⟩ ⟨h1.size,0,none⟩ (KHq s l) k (decide (k=6∨k=7))).wp h2 Q:=by
   unfold Yc
   refine KZ (fun h67=>?_) (fun h67=>?_)
   ·rw [if_pos (of_decide_eq_true h67)] at H2
    refine z6 (c:=decide (1≤n)) (fun _ Q' hq=>Jx c1 (KF hq)) (z6 (c:=decide (n≤281474976710656)) (fun _ Q' hq=>Jx c1 (KF hq)) (KF H2))
   rw [if_neg (of_decide_eq_false h67)] at H2
   simp only [if_neg (of_decide_eq_false h67)] at H
   refine KZ (fun h2k=>?_) (fun h2k=>?_)
   ·have h2k:k=2:=by simpa using h2k
    rw [if_pos h2k] at H2
    refine Jx c1 (z6 (c:=l.isEmpty) (fun _ Q' hq=>UO c3 (KF (by rw [len0 hxl]; exact hq))) (z6 (c:=decide (s.length≤128)) (fun _ Q' hq=>zF c2 (KF (by rw [show decide (((bs s).size:Int)≤128)=decide (s.length≤128) by rw [JL,Bool.eq_iff_iff]; simp only [decide_eq_true_eq]; omega]; exact hq))) (KF ?_)))
    exact H2
   have h2k:¬ k=2:=by simpa using h2k
   rw [if_neg h2k] at H2
   simp only [if_neg h2k] at H
   refine KZ (fun h4k=>?_) (fun h4k=>?_)
   ·have h4k:k=4:=by simpa using h4k
    rw [if_pos h4k] at H2
    simp only [if_pos h4k] at H
    refine UO c3 (KZ (fun hbig=>?_) (fun hsm=>?_))
    ·have:¬ l.length≤256:=by have:=of_decide_eq_true hbig; omega
     rw [decide_eq_false this,Bool.false_and] at H2
     exact KF H2
    ·have:l.length≤256:=by have:=of_decide_eq_false hsm; omega
     simp only [decide_eq_true this,Bool.true_and] at H
     exact tail H h2 (Ext.refl _)
   have h4k:¬ k=4:=by simpa using h4k
   rw [if_neg h4k] at H2
   simp only [if_neg h4k] at H
   refine KZ (fun h5k=>?_) (fun h5k=>?_)
   ·have h5k:k=5:=by simpa using h5k
    rw [if_pos h5k] at H2
    simp only [if_pos h5k] at H
    have hodd:((Int.tmod (xs.len:Int) 2) == 1)=!decide (l.length % 2=0):=by
     rw [hxl,Int.tmod_eq_emod_of_nonneg (by omega),Bool.eq_iff_iff]
     simp
     omega
    refine UO c3 (or_b (c:=!decide (l.length % 2=0)) (fun _ Q' hq=>UO c3 (KF (by rw [hodd]; exact hq))) ?_)
    have hbig:decide ((xs.len:Int) > 512)=!decide (l.length≤512):=by
     rw [hxl,Bool.eq_iff_iff]; simp; omega
    rw [hbig]
    cases h512:decide (l.length≤512) with
    | false=>rw [h512] at H2; exact iteT rfl (KF (by simpa using H2))
    | true =>
     cases heven:decide (l.length % 2=0) with
     | false=>rw [h512,heven] at H2; exact iteT rfl (KF (by simpa using H2))
     | true =>
      simp only [h512,heven,Bool.true_and] at H
      refine iteF rfl ?_
      refine M.loop_inv (fun (t:Int) h'=>Ext h2 h'∧∃ i:Nat,t=(i:Int)∧2≤i∧i≤l.length+2∧zz (l.drop (i - 2))=zz l) (fun t _=>((l.length:Int)+2 - t).toNat) ?_ ⟨Ext.refl h2,2,rfl,Nat.le_refl _,by omega,by simp⟩
      rintro t h' ⟨E',i,rfl,hi2,hi,hd'⟩ self hself
      unfold Nh
      have hl512:=of_decide_eq_true h512
      refine UO (E'.cell c3) (KZ (fun hc=>?_) (fun hc=>?_))
      ·have hlt:i < l.length:=by have:=of_decide_eq_true hc; omega
       rw [KGX hi2 hlt] at hd'
       have EE:=E.trans E'
       refine UO (E'.cell c3) (KAi (i:=i - 2) (r1.ext EE) (by omega) (by rw [w64 (by omega) (by omega)]; omega) (fun a c hs hcs hv=>WF hs hcs (UO (E'.cell c3) (KAi (r1.ext EE) hlt rfl (fun a' c' hs' hcs' hv'=>WF hs' hcs' ?_)))))
       refine KJ (XW hv hv' (fun h3 e3=>?_))
       refine KZ (fun hge=>?_) (fun hlt'=>?_)
       ·have hge:¬ cmpV (l[i - 2]'(by omega)) l[i] < 0:=by have:=of_decide_eq_true hge; omega
        rw [decide_eq_false hge,Bool.false_and] at hd'
        have:=H _ (EE.trans e3)
        rw [← hd',Bool.false_and] at this
        exact KF this
       ·have hlt':cmpV (l[i - 2]'(by omega)) l[i] < 0:=by have:=of_decide_eq_false hlt'; omega
        rw [decide_eq_true hlt',Bool.true_and] at hd'
        rw [w64 (by omega) (by omega)]
        exact hself _ _ ⟨E'.trans e3,i+2,by simp,by omega,by omega,by simpa using hd'⟩ (by omega)
      ·have hge:l.length≤i:=by have:=of_decide_eq_false hc; omega
       rw [KHr hi2 hge] at hd'
       refine tail (fun h3 e3=>?_) h' E'
       have:=H h3 e3
       rw [← hd',Bool.true_and] at this
       exact this
   ·have h5k:¬ k=5:=by simpa using h5k
    rw [if_neg h5k] at H2
    exact KF H2
  refine KZ (fun h6k=>?_) (fun h6k=>?_)
  ·have h6k:k=6:=by simpa using h6k
   have e:(k == 6)=decide (k=6∨k=7):=by subst h6k; rfl
   rw [e]
   exact j2
  ·have h6k:¬ k=6:=by simpa using h6k
   have e:(k == 7)=decide (k=6∨k=7):=by rw [eqI,Bool.eq_iff_iff]; simp [h6k]
   rw [e]
   exact j2
def qO (v:Vl):Int:=if mayV 8 v=true then 0 else 20
theorem KBm {v:Vl} {h:Heap} {Q:Int→Heap→Prop} {x:Array Value} (hx:VRep h v x) (H:∀ h',Ext h h'→Q (qO v) h'):(YJ x).wp h Q:=by
 unfold YJ
 refine Zu (fun h1 e1 z1 g1=>KEN (v:=v) g1 hx.size (KJ (KHs 8 v (Nat.le_refl _) (hx.ext e1) (fun h2 e2=>?_))))
 have:=H _ (e1.trans e2)
 unfold qO at this
 cases hm:mayV 8 v with
 | true=>rw [hm,if_pos rfl] at this; exact iteF rfl (KF this)
 | false=>rw [hm,if_neg (by simp)] at this; exact iteT rfl (KF this)
end Gx
namespace Gx
open Go
set_option linter.unusedVariables false
set_option linter.unusedSimpArgs false
end Gx
namespace Gx
open Go
set_option linter.unusedVariables false
set_option linter.unusedSimpArgs false
mutual
def Zp (S:Nat→Prop) (h:Heap):Vl→Array Value→Prop
 | .mk k n s l,cs=>∃ x:Sl,cs=ZO k n s x∧I64 k∧I64 n∧s.length≤9223372036854775807∧(x.len=l.length∧x.len≤x.cap∧x.len≤9223372036854775807∧YQ S h l x.base 0)
def YQ (S:Nat→Prop) (h:Heap):List Vl→Option Addr→Nat→Prop
 | [],_,_=>True
 | v::l,b,i=>(∃ a cs,b=some a∧S a.block∧cs.size=4∧(∀ j,j < 4→KO h (a.add (i * 4+j))=cs[j]?)∧Zp S h v cs)∧YQ S h l b (i+1)
end
structure VsRepS (S:Nat→Prop) (h:Heap) (x:Sl) (l:List Vl):Prop where
 len:x.len=l.length
 cap:x.len≤x.cap
 big:x.len≤9223372036854775807
 at_:YQ S h l x.base 0
theorem Zp.eq {S:Nat→Prop} {h:Heap} {k n:Int} {s:List UInt8} {l:List Vl} {cs:Array Value}:Zp S h (.mk k n s l) cs↔∃ x:Sl,cs=ZO k n s x∧I64 k∧I64 n∧s.length≤9223372036854775807∧VsRepS S h x l:=by
 rw [Zp]
 constructor
 ·rintro ⟨x,h1,h2,h3,h4,h5,h6,h7,h8⟩; exact ⟨x,h1,h2,h3,h4,h5,h6,h7,h8⟩
 ·rintro ⟨x,h1,h2,h3,h4,h5,h6,h7,h8⟩; exact ⟨x,h1,h2,h3,h4,h5,h6,h7,h8⟩
theorem YQ.get {S:Nat→Prop} {h:Heap}:∀ {l:List Vl} {b:Option Addr} {i:Nat},YQ S h l b i→∀ {j:Nat} (hj:j < l.length),∃ a cs,b=some a∧S a.block∧cs.size=4∧(∀ m,m < 4→KO h (a.add ((i+j) * 4+m))=cs[m]?)∧Zp S h l[j] cs
 | [],_,_,_,j,hj=>by simp at hj
 | v::l,b,i,H,0,hj=>by rw [YQ] at H; exact H.1
 | v::l,b,i,H,j+1,hj=>by
  rw [YQ] at H
  have:=YQ.get H.2 (j:=j) (by simpa using hj)
  rw [show i+(j+1)=i+1+j by omega]
  exact this
theorem YQ.of {S:Nat→Prop} {h:Heap}:∀ {l:List Vl} {b:Option Addr} {i:Nat},(∀ j (hj:j < l.length),∃ a cs,b=some a∧S a.block∧cs.size=4∧(∀ m,m < 4→KO h (a.add ((i+j) * 4+m))=cs[m]?)∧Zp S h l[j] cs)→YQ S h l b i
 | [],_,_,_=>by rw [YQ]; trivial
 | v::l,b,i,H=>by
  rw [YQ]
  refine ⟨H 0 (by simp),YQ.of (fun j hj=>?_)⟩
  have:=H (j+1) (by simpa using hj)
  rw [show i+1+j=i+(j+1) by omega]
  exact this
theorem VsRepS.get {S:Nat→Prop} {h:Heap} {x:Sl} {l:List Vl} (H:VsRepS S h x l) {j:Nat} (hj:j < l.length):∃ a cs,x.base=some a∧S a.block∧cs.size=4∧(∀ m,m < 4→KO h (a.add (j * 4+m))=cs[m]?)∧Zp S h l[j] cs:=by
 have:=H.at_.get hj
 rw [Nat.zero_add] at this
 exact this
theorem KHt {k n:Int} {s:List UInt8} {l:List Vl} {m j:Nat} (hm:sizeOf (Vl.mk k n s l) < m+1) (hj:j < l.length):sizeOf l[j] < m:=by
 have:=List.sizeOf_lt_of_mem (List.getElem_mem hj)
 simp only [Vl.mk.sizeOf_spec] at hm
 omega
theorem KAj {S T:Nat→Prop} {h h':Heap} (e:∀ b,S b→h'[b]?=h[b]?) (hT:∀ b,S b→T b):∀ (m:Nat) (v:Vl) (cs:Array Value),sizeOf v < m→Zp S h v cs→Zp T h' v cs:=by
 intro m
 induction m with
 | zero=>intro v cs hm; omega
 | succ m ih =>
  rintro ⟨k,n,s,l⟩ cs hm H
  obtain ⟨x,h1,h2,h3,h4,h5⟩:=Zp.eq.1 H
  refine Zp.eq.2 ⟨x,h1,h2,h3,h4,h5.len,h5.cap,h5.big,YQ.of (fun j hj=>?_)⟩
  obtain ⟨a,cs',ha,hS,hs,hc,hv⟩:=h5.at_.get hj
  refine ⟨a,cs',ha,hT _ hS,hs,fun i hi=>?_,ih _ _ (KHt hm hj) hv⟩
  rw [← hc i hi]
  unfold KO
  rw [XZ,e _ hS]
theorem Zp.same {S:Nat→Prop} {h h':Heap} {v:Vl} {cs:Array Value} (H:Zp S h v cs) (e:∀ b,S b→h'[b]?=h[b]?):Zp S h' v cs:=KAj e (fun _ h=>h) _ v cs (Nat.lt_succ_self _) H
theorem Zp.mono {S T:Nat→Prop} {h:Heap} {v:Vl} {cs:Array Value} (H:Zp S h v cs) (e:∀ b,S b→T b):Zp T h v cs:=KAj (fun _ _=>rfl) e _ v cs (Nat.lt_succ_self _) H
theorem KJI {S:Nat→Prop} {h:Heap}:∀ (m:Nat) (v:Vl) (cs:Array Value),sizeOf v < m→Zp S h v cs→VRep h v cs:=by
 intro m
 induction m with
 | zero=>intro v cs hm; omega
 | succ m ih =>
  rintro ⟨k,n,s,l⟩ cs hm H
  obtain ⟨x,h1,h2,h3,h4,h5⟩:=Zp.eq.1 H
  refine VRep.eq.2 ⟨x,h1,h2,h3,h4,h5.len,h5.cap,h5.big,VsAt.of (fun j hj=>?_)⟩
  obtain ⟨a,cs',ha,hS,hs,hc,hv⟩:=h5.at_.get hj
  exact ⟨a,cs',ha,hs,hc,ih _ _ (KHt hm hj) hv⟩
theorem Zp.to {S:Nat→Prop} {h:Heap} {v:Vl} {cs:Array Value} (H:Zp S h v cs):VRep h v cs:=KJI _ v cs (Nat.lt_succ_self _) H
theorem z7 {h:Heap} {a:Addr} {v:Value} (H:KO h a=some v):a.block < h.size:=by
 rcases Nat.lt_or_ge a.block h.size with h1 | h1
 ·exact h1
 ·unfold KO at H
  rw [Array.getElem?_eq_none h1] at H
  cases H
theorem KK1 {h:Heap}:∀ (m:Nat) (v:Vl) (cs:Array Value),sizeOf v < m→VRep h v cs→Zp (· < h.size) h v cs:=by
 intro m
 induction m with
 | zero=>intro v cs hm; omega
 | succ m ih =>
  rintro ⟨k,n,s,l⟩ cs hm H
  obtain ⟨x,h1,h2,h3,h4,h5⟩:=VRep.eq.1 H
  refine Zp.eq.2 ⟨x,h1,h2,h3,h4,h5.len,h5.cap,h5.big,YQ.of (fun j hj=>?_)⟩
  obtain ⟨a,cs',ha,hs,hc,hv⟩:=h5.at_.get hj
  refine ⟨a,cs',ha,?_,hs,hc,ih _ _ (KHt hm hj) hv⟩
  have h0:=hc 0 (by decide)
  rw [Array.getElem?_eq_getElem (by omega)] at h0
  have:=z7 h0
  rwa [XZ] at this
theorem VRep.lt {h:Heap} {v:Vl} {cs:Array Value} (H:VRep h v cs):Zp (· < h.size) h v cs:=KK1 _ v cs (Nat.lt_succ_self _) H
theorem VsRepS.to {S:Nat→Prop} {h:Heap} {x:Sl} {l:List Vl} (H:VsRepS S h x l):VsRep h x l :=
 ⟨H.len,H.cap,H.big,VsAt.of (fun j hj=>by obtain ⟨a,cs,h1,h2,h3,h4,h5⟩:=H.at_.get hj; exact ⟨a,cs,h1,h3,h4,h5.to⟩)⟩
theorem VsRepS.same {S T:Nat→Prop} {h h':Heap} {x:Sl} {l:List Vl} (H:VsRepS S h x l) (e:∀ b,S b→h'[b]?=h[b]?) (hT:∀ b,S b→T b):VsRepS T h' x l :=
 ⟨H.len,H.cap,H.big,YQ.of (fun j hj=>by
  obtain ⟨a,cs,h1,h2,h3,h4,h5⟩:=H.at_.get hj
  refine ⟨a,cs,h1,hT _ h2,h3,fun i hi=>?_,KAj e hT _ _ _ (Nat.lt_succ_self _) h5⟩
  rw [← h4 i hi]
  unfold KO
  rw [XZ,e _ h2])⟩
theorem VsRep.lt {h:Heap} {x:Sl} {l:List Vl} (H:VsRep h x l):VsRepS (· < h.size) h x l :=
 ⟨H.len,H.cap,H.big,YQ.of (fun j hj=>by
  obtain ⟨a,cs,h1,h3,h4,h5⟩:=H.at_.get hj
  refine ⟨a,cs,h1,?_,h3,h4,h5.lt⟩
  have h0:=h4 0 (by decide)
  rw [Array.getElem?_eq_getElem (by omega)] at h0
  have:=z7 h0
  rwa [XZ] at this)⟩
theorem Zp.size {S:Nat→Prop} {h:Heap} {v:Vl} {cs:Array Value} (H:Zp S h v cs):cs.size=4:=H.to.size
def wt:Vl→Nat
 | .mk _ _ s l=>1+s.length+wts l
where wts:List Vl→Nat
 | []=>0
 | v::l=>wt v+wts l
theorem KMI (v:Vl):1≤wt v:=by cases v; rw [wt]; omega
theorem KBn:∀ l:List Vl,l.length≤wt.wts l
 | []=>by simp
 | v::l=>by have:=KBn l; have:=KMI v; rw [wt.wts,List.length_cons]; omega
theorem KHu {l:List Vl} {v:Vl} (h:v ∈ l):wt v≤wt.wts l:=by
 induction l with
 | nil=>cases h
 | cons x l ih =>
  rw [wt.wts]
  rcases List.mem_cons.1 h with rfl | h
  ·omega
  ·have:=ih h; omega
end Gx
namespace Gx
open Go
set_option linter.unusedVariables false
set_option linter.unusedSimpArgs false
def WB (css:List (Array Value)):List Value:=css.flatMap Array.toList
def W4 (css:List (Array Value)):Prop:=∀ c ∈ css,c.size=4∧∀ u ∈ c.toList,one u=true
theorem Xv:∀ {css:List (Array Value)},W4 css→(WB css).length=css.length * 4
 | [],_=>rfl
 | c::r,h=>by
  have:=Xv (css:=r) (fun x hx=>h x (List.mem_cons_of_mem _ hx))
  have hc:=(h c (by simp)).1
  unfold WB at this ⊢
  rw [List.flatMap_cons,List.length_append,this,Array.length_toList,hc,List.length_cons]; omega
theorem KBo:∀ {css:List (Array Value)},W4 css→∀ (i j:Nat),j < 4→(WB css)[i * 4+j]?=(css[i]?).bind (fun c=>c[j]?)
 | [],_,i,j,_=>by simp [WB]
 | c::r,h,i,j,hj=>by
  have hc:=(h c (by simp)).1
  unfold WB
  rw [List.flatMap_cons]
  cases i with
  | zero=>rw [List.getElem?_append_left (by rw [Array.length_toList]; omega)]; simp
  | succ i =>
   rw [List.getElem?_append_right (by rw [Array.length_toList]; omega),Array.length_toList,hc,show (i+1) * 4+j - 4=i * 4+j by omega]
   have:=KBo (css:=r) (fun x hx=>h x (List.mem_cons_of_mem _ hx)) i j hj
   unfold WB at this
   rw [this]; simp
theorem KHv {css:List (Array Value)} (h:W4 css):∀ v ∈ WB css,one v=true:=fun v hv=>by
 obtain ⟨c,hc,hv⟩:=List.mem_flatMap.1 hv
 exact (h c hc).2 v hv
theorem W4.append {a b:List (Array Value)} (ha:W4 a) (hb:W4 b):W4 (a++b):=fun c hc=>(List.mem_append.1 hc).elim (ha c) (hb c)
theorem W4.set {a:List (Array Value)} (ha:W4 a) {i:Nat} {c:Array Value} (hc:c.size=4) (h1:∀ u ∈ c.toList,one u=true):W4 (a.set i c):=fun x hx=>by
 rcases List.mem_or_eq_of_mem_set hx with h | rfl
 ·exact ha x h
 ·exact ⟨hc,h1⟩
theorem KEO:∀ {css:List (Array Value)},W4 css→∀ (i:Nat) (c:Array Value),c.size=4→i < css.length→WB (css.set i c)=(WB css).take (i * 4)++c.toList++(WB css).drop (i * 4+4)
 | [],_,i,c,_,hi=>by simp at hi
 | x::r,h,0,c,hc,_=>by
  have hx:=(h x (by simp)).1
  simp only [WB,List.set_cons_zero,List.flatMap_cons]
  rw [show (0 * 4+4)=x.toList.length by rw [Array.length_toList,hx]]
  simp
 | x::r,h,i+1,c,hc,hi=>by
  have hx:=(h x (by simp)).1
  have ih:=KEO (css:=r) (fun y hy=>h y (List.mem_cons_of_mem _ hy)) i c hc (by simpa using hi)
  simp only [WB,List.set_cons_succ,List.flatMap_cons] at ih ⊢
  rw [ih]
  have e1:(i+1) * 4=x.toList.length+i * 4:=by rw [Array.length_toList,hx]; omega
  rw [e1,List.take_length_add_append,show x.toList.length+i * 4+4=x.toList.length+(i * 4+4) by omega,List.drop_length_add_append]
  simp
theorem Gw.row4 {lo:Nat} {h:Heap} {r:Sl} {css:List (Array Value)} (G:Gw lo h r 4 (WB css)) (hw:W4 css) {i:Nat} (hi:i < css.length):∃ b,r.base=some ⟨b,0,none⟩∧Sl.on r b∧∀ j,j < 4→KO h ((⟨b,0,none⟩:Addr).add (i * 4+j))=css[i][j]?:=by
 have hl:=Xv hw
 rcases G with ⟨rfl,he⟩ | ⟨b,ty,cells,R⟩
 ·rw [he] at hl; simp at hl; omega
 ·refine ⟨b,R.base,⟨_,R.base,rfl⟩,fun j hj=>?_⟩
  rw [ZE,Nat.zero_add,KP R.blk]
  have h1:=KBo hw i j hj
  rw [List.getElem?_eq_getElem hi] at h1
  have hc:=(hw _ (List.getElem_mem hi)).1
  have h2:css[i][j]?=some (css[i][j]'(by omega)):=Array.getElem?_eq_getElem (by omega)
  rw [h2]
  refine R.get _ _ ?_
  rw [h1]
  exact h2
theorem Gw.len4 {lo:Nat} {h:Heap} {r:Sl} {css:List (Array Value)} (G:Gw lo h r 4 (WB css)) (hw:W4 css):r.len=css.length:=by
 have:=G.len
 rw [Xv hw] at this
 omega
theorem KMJ {β:Type} {lo:Nat} {h:Heap} {Q:β→Heap→Prop} {r:Sl} {css:List (Array Value)} {i:Nat} {t:Int} {c:Array Value} {f:Unit→M β} (G:Gw lo h r 4 (WB css)) (hw:W4 css) (hi:i < css.length) (ht:t=(i:Int)) (hc:c.size=4) (h1:∀ u ∈ c.toList,one u=true)
  (H:∀ b h',r.base=some ⟨b,0,none⟩→Upd b h h'→Gw lo h' r 4 (WB (css.set i c))→(f ()).wp h' Q):(ixL r t 4>>=fun a=>M.need (c.size=4)>>=fun _=>stG a c>>=f).wp h Q:=by
 subst ht
 have hl:=G.len4 hw
 obtain ⟨b0,hb0,_,_⟩:=G.row4 hw hi
 rcases G with ⟨rfl,he⟩ | ⟨b,ty,cells,R⟩
 ·cases hb0
 ·have hsz:=R.size
  have hcap:=R.cap
  refine Gi (by omega) (by omega) R.base (ZQ hc ?_)
  rw [ZE,show 0+(i:Int).toNat * 4=i * 4 by omega]
  refine stR (vs:=c) R.blk (by omega) h1 (fun h' u g=>H b h' R.base u (.inr ⟨b,ty,_,R.base,R.lo,g,by rw [KA8]; exact R.size,R.cap,?_,fun j v hj=>?_⟩))
  ·rw [Xv (hw.set hc h1),List.length_set,hl]
  ·rw [KEO hw i c hc hi] at hj
   have hfl:=Xv hw
   rw [← Array.getElem?_toList,GL _ _ _ (by rw [Array.length_toList]; omega),Array.length_toList,hc]
   have hlen1:((WB css).take (i * 4)).length=i * 4:=by rw [List.length_take]; omega
   have hlen2:(cells.toList.take (i * 4)).length=i * 4:=by rw [List.length_take,Array.length_toList]; omega
   by_cases h1:j < i * 4
   ·rw [List.append_assoc,List.getElem?_append_left (by omega),List.getElem?_take,if_pos h1] at hj
    rw [List.append_assoc,List.getElem?_append_left (by omega),List.getElem?_take,if_pos h1,Array.getElem?_toList]
    exact R.get j v hj
   ·by_cases h2:j < i * 4+4
    ·rw [List.append_assoc,List.getElem?_append_right (by omega),hlen1,List.getElem?_append_left (by rw [Array.length_toList,hc]; omega)] at hj
     rw [List.append_assoc,List.getElem?_append_right (by omega),hlen2,List.getElem?_append_left (by rw [Array.length_toList,hc]; omega)]
     exact hj
    ·rw [List.getElem?_append_right (by rw [List.length_append,hlen1,Array.length_toList,hc]; omega),List.length_append,hlen1,Array.length_toList,hc,List.getElem?_drop] at hj
     rw [List.getElem?_append_right (by rw [List.length_append,hlen2,Array.length_toList,hc]; omega),List.length_append,hlen2,Array.length_toList,hc,List.getElem?_drop,Array.getElem?_toList]
     exact R.get _ v hj
structure VGw (lo:Nat) (S:Nat→Prop) (h:Heap) (r:Sl) (css:List (Array Value)) (l:List Vl):Prop where
 gw:Gw lo h r 4 (WB css)
 w4:W4 css
 len:css.length=l.length
 rep:∀ j (h1:j < l.length) (h2:j < css.length),Zp S h l[j] css[j]
theorem VGw.nil (lo:Nat) (S:Nat→Prop) (h:Heap):VGw lo S h Sl.nil [] []:=⟨Gw.nil _ _ _,fun c hc=>(by cases hc),rfl,fun j h1=>(by cases h1)⟩
theorem VGw.rep_ {lo:Nat} {S:Nat→Prop} {h:Heap} {r:Sl} {css:List (Array Value)} {l:List Vl} (G:VGw lo S h r css l) (hl:l.length≤9223372036854775807):VsRepS (fun b=>S b∨Sl.on r b) h r l :=
 ⟨by rw [G.gw.len4 G.w4,G.len],G.gw.cap,by rw [G.gw.len4 G.w4,G.len]; exact hl,YQ.of (fun j hj=>by
  obtain ⟨b,hb,hon,hc⟩:=G.gw.row4 G.w4 (i:=j) (by rw [G.len]; exact hj)
  exact ⟨_,css[j]'(by rw [G.len]; exact hj),hb,.inr hon,(G.w4 _ (List.getElem_mem _)).1,fun m hm=>by rw [Nat.zero_add]; exact hc m hm,(G.rep j hj (by rw [G.len]; exact hj)).mono (fun b hb=>.inl hb)⟩)⟩
theorem VGw.same {lo:Nat} {S:Nat→Prop} {h h':Heap} {r:Sl} {css:List (Array Value)} {l:List Vl} (G:VGw lo S h r css l) (e1:∀ b,Sl.on r b→h'[b]?=h[b]?) (e2:∀ b,S b→h'[b]?=h[b]?):VGw lo S h' r css l :=
 ⟨G.gw.same e1,G.w4,G.len,fun j h1 h2=>(G.rep j h1 h2).same e2⟩
theorem VGw.mono {lo:Nat} {S T:Nat→Prop} {h:Heap} {r:Sl} {css:List (Array Value)} {l:List Vl} (G:VGw lo S h r css l) (e:∀ b,S b→T b):VGw lo T h r css l :=
 ⟨G.gw,G.w4,G.len,fun j h1 h2=>(G.rep j h1 h2).mono e⟩
theorem KDM {lo:Nat} {S:Nat→Prop} {h:Heap} {Q:Sl→Heap→Prop} {r x:Sl} {css css':List (Array Value)} {l l':List Vl} (G:VGw lo S h r css l) (hlo:lo≤h.size) (hS:∀ b,S b→b < h.size∧¬ Sl.on r b) (hw:W4 css') (hl':css'.length=l'.length) (hx:x.len=l'.length) (hr:Gg h x.base (WB css')) (hv:∀ j (h1:j < l'.length) (h2:j < css'.length),Zp S h l'[j] css'[j])
  (hm:l.length+l'.length≤2199023255552)
  (hq:∀ h' r',VGw lo S h' r' (css++css') (l++l')→h.size≤h'.size→(∀ i,i < h.size→¬ Sl.on r i→h'[i]?=h[i]?)→(∀ i,Sl.on r' i→Sl.on r i∨h.size≤i)→Q r' h'):(apL KB 4 56 (#[.int .i64 0,.int .i64 0,.string ByteArray.empty,.slice none 0 0]:Array Value) r x).wp h Q:=by
 have hrl:=G.gw.len4 G.w4
 have hgl:=G.len
 refine KBT (vs:=WB css) (news:=WB css') rfl G.gw (by rw [Xv hw,hl',hx]) hr (KHv hw) (by omega) (by omega) hlo (fun h' r' G' hlen hs same on_=>?_)
 have he:∀ b,S b→h'[b]?=h[b]?:=fun b hb=>same b (hS b hb).1 (hS b hb).2
 refine hq h' r' ⟨?_,G.w4.append hw,by rw [List.length_append,List.length_append,G.len,hl'],fun j h1 h2=>?_⟩ hs same on_
 ·unfold WB at G' ⊢
  rw [List.flatMap_append]
  exact G'
 ·by_cases hj:j < l.length
  ·rw [List.getElem_append_left hj,List.getElem_append_left (by rw [G.len]; exact hj)]
   exact (G.rep j hj _).same he
  ·rw [List.getElem_append_right (by omega),List.getElem_append_right (by omega)]
   have h3:css.length=l.length:=G.len
   simp only [h3]
   exact (hv _ (by rw [List.length_append] at h1; omega) _).same he
end Gx
namespace Gx
open Go
set_option linter.unusedVariables false
set_option linter.unusedSimpArgs false
theorem YQ.css {S:Nat→Prop} {h:Heap}:∀ {l:List Vl} {b:Option Addr} {i:Nat},YQ S h l b i→∃ css:List (Array Value),W4 css∧css.length=l.length∧(∀ j (h1:j < l.length) (h2:j < css.length),Zp S h l[j] css[j])∧(∀ j (h2:j < css.length),∃ a,b=some a∧∀ m,m < 4→KO h (a.add ((i+j) * 4+m))=css[j][m]?)
 | [],_,_,_=>⟨[],fun c hc=>(by cases hc),rfl,fun j h1=>(by cases h1),fun j h1=>(by cases h1)⟩
 | v::l,b,i,H=>by
  rw [YQ] at H
  obtain ⟨⟨a,cs,ha,hS,hs,hc,hv⟩,H2⟩:=H
  obtain ⟨css,h1,h2,h3,h4⟩:=YQ.css H2
  refine ⟨cs::css,?_,by simp [h2],?_,?_⟩
  ·intro c hc
   rcases List.mem_cons.1 hc with rfl | hc
   ·exact ⟨hs,hv.to.one⟩
   ·exact h1 c hc
  ·intro j j1 j2
   cases j with
   | zero=>exact hv
   | succ j=>exact h3 j (by simpa using j1) (by simpa using j2)
  ·intro j j2
   cases j with
   | zero=>exact ⟨a,ha,hc⟩
   | succ j =>
    obtain ⟨a',ha',h5⟩:=h4 j (by simpa using j2)
    refine ⟨a',ha',fun m hm=>?_⟩
    rw [show i+(j+1)=i+1+j by omega]
    exact h5 m hm
theorem VsRepS.css {S:Nat→Prop} {h:Heap} {x:Sl} {l:List Vl} (H:VsRepS S h x l):∃ css:List (Array Value),W4 css∧css.length=l.length∧(∀ j (h1:j < l.length) (h2:j < css.length),Zp S h l[j] css[j])∧Gg h x.base (WB css):=by
 obtain ⟨css,h1,h2,h3,h4⟩:=H.at_.css
 refine ⟨css,h1,h2,h3,?_⟩
 cases hc:css with
 | nil=>exact .inl rfl
 | cons c r =>
  rw [← hc]
  obtain ⟨a,ha,_⟩:=h4 0 (by rw [hc]; simp)
  refine .inr ⟨a,ha,fun n v hn=>?_⟩
  have hlt:=(List.getElem?_eq_some_iff.1 hn).1
  rw [Xv h1] at hlt
  have hj:n / 4 < css.length:=by omega
  obtain ⟨a',ha',h5⟩:=h4 (n / 4) hj
  rw [ha] at ha'; cases ha'
  have h6:=KBo h1 (n / 4) (n % 4) (by omega)
  rw [show n / 4 * 4+n % 4=n by omega,hn,List.getElem?_eq_getElem hj] at h6
  have h7:=h5 (n % 4) (by omega)
  rw [show (0+n / 4) * 4+n % 4=n by omega] at h7
  rw [h7]
  exact h6.symm
theorem KJJ {S:Nat→Prop} {h:Heap}:∀ (m:Nat) (v:Vl) (cs:Array Value),sizeOf v < m→Zp S h v cs→Zp (fun b=>S b∧b < h.size) h v cs:=by
 intro m
 induction m with
 | zero=>intro v cs hm; omega
 | succ m ih =>
  rintro ⟨k,n,s,l⟩ cs hm H
  obtain ⟨x,h1,h2,h3,h4,h5⟩:=Zp.eq.1 H
  refine Zp.eq.2 ⟨x,h1,h2,h3,h4,h5.len,h5.cap,h5.big,YQ.of (fun j hj=>?_)⟩
  obtain ⟨a,cs',ha,hS,hs,hc,hv⟩:=h5.at_.get hj
  refine ⟨a,cs',ha,⟨hS,?_⟩,hs,hc,ih _ _ (KHt hm hj) hv⟩
  have h0:=hc 0 (by decide)
  rw [Array.getElem?_eq_getElem (by omega)] at h0
  have:=z7 h0
  rwa [XZ] at this
theorem Zp.lt2 {S:Nat→Prop} {h:Heap} {v:Vl} {cs:Array Value} (H:Zp S h v cs):Zp (fun b=>S b∧b < h.size) h v cs:=KJJ _ v cs (Nat.lt_succ_self _) H
theorem ZR (k n:Int) (s:List UInt8) (x:Sl):∀ v ∈ (ZO k n s x).toList,one v=true:=fun v hv=>by
 simp only [ZO,List.mem_cons,List.not_mem_nil,or_false] at hv
 rcases hv with rfl | rfl | rfl | rfl <;> first | rfl | exact KB3 _
theorem KE8 {S:Nat→Prop} {h:Heap} {Q:Sl→Heap→Prop} {x:Sl} {l:List Vl} (hx:VsRepS S h x l) (hS:∀ b,S b→b < h.size) (hm:l.length≤1099511627776)
  (H:∀ h' r css,Ext h h'→VGw h.size S h' r css l→Q r h'):(ZF x).wp h Q:=by
 unfold ZF
 refine KZ (fun hn=>?_) (fun hn=>?_)
 ·have hb:x.base=none:=by simpa using hn
  have hl:l=[]:=by
   cases hl:l with
   | nil=>rfl
   | cons v r =>
    obtain ⟨a,cs,ha,_⟩:=hx.get (j:=0) (by rw [hl]; simp)
    rw [hb] at ha; cases ha
  subst hl
  exact KF (H _ _ _ (Ext.refl _) (VGw.nil _ _ _))
 ·refine ⟨zRow (#[.int .i64 0,.int .i64 0,.string ByteArray.empty,.slice none 0 0]:Array Value) 0,rfl,KCq ?_⟩
  have e1:=Ext.push h (.cells (zRow (#[.int .i64 0,.int .i64 0,.string ByteArray.empty,.slice none 0 0]:Array Value) 0) KB)
  have g1:(h.push (.cells (zRow (#[.int .i64 0,.int .i64 0,.string ByteArray.empty,.slice none 0 0]:Array Value) 0) KB))[h.size]?=some (.cells (zRow (#[.int .i64 0,.int .i64 0,.string ByteArray.empty,.slice none 0 0]:Array Value) 0) KB (0,0)):=ZJ
  have hs1:(h.push (.cells (zRow (#[.int .i64 0,.int .i64 0,.string ByteArray.empty,.slice none 0 0]:Array Value) 0) KB)).size=h.size+1:=by simp
  generalize h.push (.cells (zRow (#[.int .i64 0,.int .i64 0,.string ByteArray.empty,.slice none 0 0]:Array Value) 0) KB)=h1 at e1 g1 hs1 ⊢
  obtain ⟨css,w4,hcl,hrep,hrd⟩:=hx.css
  have G1:VGw h.size S h1 ⟨some ⟨h.size,0,none⟩,0,0⟩ [] []:=⟨.inr ⟨h.size,_,_,rfl,Nat.le_refl _,g1,NY _ _,Nat.le_refl _,rfl,fun j v hj=>(by cases hj)⟩,fun c hc=>(by cases hc),rfl,fun j h1=>(by cases h1)⟩
  refine KJ (KDM (l':=l) (css':=css) G1 e1.size (fun b hb=>⟨by have:=hS b hb; omega,fun ⟨a,ha,hab⟩=>by cases ha; have:h.size=b:=hab; have:=hS b hb; omega⟩) w4 hcl hx.len (e1.reads hrd) (fun j h1' h2=>(hrep j h1' h2).same (fun b hb=>e1.same b (hS b hb))) (by simp; omega) (fun h2 r G2 hs same on_=>KF (H h2 r css ?_ (by simpa using G2))))
  exact ⟨Nat.le_trans e1.size hs,fun i hi=>(same i (Nat.lt_of_lt_of_le hi e1.size) (fun ⟨a,ha,hab⟩=>by cases ha; have:h.size=i:=hab; omega)).trans (e1.same i hi)⟩
theorem KGY {h:Heap} {b:Nat} {k n:Int} {s:List UInt8} {x y:Sl} {t:TypeId} (hb:h[b]?=some (.cells (ZO k n s x) t (0,0))):(hset h ⟨b,3,none⟩ y.v)[b]?=some (.cells (ZO k n s y) t (0,0)):=by
 rw [Vh hb]; rfl
theorem qw:∀ (m:Nat) (v:Vl) {h:Heap} {Q:Array Value→Heap→Prop} {x:Array Value},sizeOf v < m→VRep h v x→wt v≤1099511627776→(∀ h' c,Ext h h'→Zp (h.size≤·) h' v c→Q c h')→(WM x).wp h Q:=by
 intro m
 induction m with
 | zero=>intro v h Q x hm; omega
 | succ m ih =>
  rintro ⟨k,n,s,l⟩ h Q x hm hx hw H
  obtain ⟨xs,rfl,k1,n1,s1,r1⟩:=VRep.eq.1 hx
  rw [wt] at hw
  have hcnt:=KBn l
  unfold WM
  refine Zu (fun h1 e1 z1 g1=>Zu (fun h2 e2 z2 g2=>?_))
  have E2:=e1.trans e2
  have g1':=e2.blk g1
  have c3:KO h2 ((⟨h.size,0,none⟩:Addr).add 3)=some xs.v:=by rw [Ky g1']; rfl
  have rS:VsRepS (· < h.size) h2 xs l:=r1.lt.same (fun b hb=>E2.same b hb) (fun _ h=>h)
  refine UO c3 (KJ (KE8 rS (fun b hb=>Nat.lt_of_lt_of_le hb E2.size) (by omega) (fun h3 y css e3 G3=>?_)))
  have g1'':=e3.blk g1'
  have g2'':=e3.blk g2
  refine NF (x:=xs.v) (e3.cell c3) (by rw [ZE,ZS g1'']) (KB3 _) ?_
  rw [ZE,Nat.zero_add]
  have u4:=Upd.hset h3 h.size 3 y.v
  have g4:=KGY (y:=y) g1''
  generalize hset h3 ⟨h.size,3,none⟩ y.v=h4 at u4 g4 ⊢
  have yon:∀ b,Sl.on y b→h2.size≤b∧b < h3.size:=fun b hb=>⟨(G3.gw.lt hb).2,(G3.gw.lt hb).1⟩
  have hs1:h1.size=h.size+1:=z1
  have hs2:h2.size=h1.size+1:=z2
  have hs3:=e3.size
  have E4:Ext h h4:=(E2.trans e3).upd u4 (Nat.le_refl _)
  have g24:h4[h1.size]?=_:=(u4.ne _ (by omega)).trans g2''
  have cy:∀ {hh:Heap},hh[h.size]?=some (.cells (ZO k n s y) KB (0,0))→KO hh ((⟨h.size,0,none⟩:Addr).add 3)=some y.v:=fun hb=>by rw [Ky hb]; rfl
  refine UO (cy g4) ?_
  have hyl:y.len=l.length:=by rw [G3.gw.len4 G3.w4,G3.len]
  rw [hyl]
  refine M.loop_inv (fun (t:Int) hh=>∃ (i:Nat) (css:List (Array Value)),t=(i:Int)∧i≤l.length∧Gw h2.size hh y 4 (WB css)∧W4 css∧css.length=l.length∧(∀ j (j1:j < l.length) (j2:j < css.length),j < i→Zp (h3.size≤·) hh l[j] css[j])∧(∀ j (j1:j < l.length) (j2:j < css.length),i≤j→Zp (· < h.size) hh l[j] css[j])∧Ext h hh∧h3.size≤hh.size∧hh[h.size]?=some (.cells (ZO k n s y) KB (0,0))∧hh[h1.size]?=h4[h1.size]?) (fun t _=>((l.length:Int) - t).toNat) ?_
   ⟨0,css,rfl,Nat.zero_le _,G3.gw.same (fun b hb=>u4.ne b (by have:=(yon b hb).1; omega)),G3.w4,G3.len,fun j j1 j2 h0=>by omega,fun j j1 j2 _=>(G3.rep j j1 j2).same (fun b hb=>u4.ne b (by omega)),E4,by rw [u4.size]; exact Nat.le_refl _,g4,rfl⟩
  rintro t hh ⟨i,css,rfl,hi,G,w4,hcl,hnew,hold,E,hsz,gb,gz⟩ self hself
  unfold GF
  refine KZ (fun hc=>?_) (fun hc=>?_)
  ·have hlt:i < l.length:=by have:=of_decide_eq_true hc; omega
   have hlc:i < css.length:=by omega
   refine UO (cy gb) (UO (cy gb) ?_)
   obtain ⟨b,hb,hon,hrow⟩:=G.row4 w4 hlc
   have hv:=hold i hlt hlc (Nat.le_refl _)
   have hi4:(i:Int).toNat * 4=i * 4:=by omega
   refine Gi (by omega) (by omega) hb (WF hv.size (fun j hj=>by rw [Addr.add_add,hi4]; exact hrow j hj) ?_)
   have hwi:=KHu (List.getElem_mem hlt)
   refine KJ (qS (zo _) (ih l[i] (KHt hm hlt) hv.to (by omega) (fun h5 c e5 hc5=>?_)))
   have hcell5:∀ j,j < 4→KO h5 (((⟨b,0,none⟩:Addr).add ((i:Int).toNat * 4)).add j)=css[i][j]?:=fun j hj=>by
    rw [Addr.add_add,hi4]
    have h6:=hrow j hj
    have h7:css[i][j]?=some (css[i][j]'(by rw [hv.size]; exact hj)):=Array.getElem?_eq_getElem _
    rw [h7] at h6 ⊢
    exact e5.cell h6
   have G5:=G.ext e5
   refine KEo ⟨e5.cell (cy gb),e5.cell (cy gb),hv.size,hcell5⟩ ?_
   refine KMJ G5 w4 hlc rfl hc5.size hc5.to.one (fun b' h6 hb' u6 G6=>?_)
   rw [hb] at hb'; cases hb'
   have hbl:=yon b hon
   have hcs:∀ j (j1:j < (css.set i c).length) (j2:j < css.length),i≠j→(css.set i c)[j]=css[j]:=fun j j1 j2 hne=>List.getElem_set_ne hne _
   have hs5:=e5.size
   rw [w64 (by omega) (by omega)]
   refine hself _ _ ⟨i+1,css.set i c,by simp,by omega,G6,w4.set hc5.size hc5.to.one,by rw [List.length_set]; exact hcl,fun j j1 j2 hj=>?_,fun j j1 j2 hj=>?_,(E.trans e5).upd u6 (by omega),by rw [u6.size]; omega,?_,?_⟩ (by omega)
   ·by_cases hji:i=j
    ·subst hji
     rw [List.getElem_set_self]
     exact (hc5.same (fun b1 hb1=>u6.ne b1 (by omega))).mono (fun b1 hb1=>by omega)
    ·rw [hcs j j2 (by rw [hcl]; exact j1) hji]
     have:=hnew j j1 (by rw [hcl]; exact j1) (by omega)
     exact (this.lt2.same (fun b1 hb1=>(u6.ne b1 (by omega)).trans (e5.same b1 hb1.2))).mono (fun b1 hb1=>hb1.1)
   ·rw [hcs j j2 (by rw [hcl]; exact j1) (by omega)]
    exact (hold j j1 (by rw [hcl]; exact j1) (by omega)).same (fun b1 hb1=>(u6.ne b1 (by omega)).trans (e5.same b1 (by have:=E.size; omega)))
   ·rw [u6.ne _ (by omega)]; exact e5.blk gb
   ·rw [u6.ne _ (by omega),← gz]
    exact e5.same _ (by omega)
  ·have hge:i=l.length:=by have:=of_decide_eq_false hc; omega
   subst hge
   refine WF (cs:=ZO k n s y) rfl (fun j hj=>by rw [Ky gb]) (ZQ rfl ?_)
   rw [g24] at gz
   refine stR (vs:=ZO k n s y) (off:=0) gz (Nat.le_refl 4) (ZR k n s y) (fun h7 u7 g7=>?_)
   rw [KS (by rfl),Array.toArray_toList] at g7
   refine WF (cs:=ZO k n s y) rfl (fun j hj=>by rw [Ky g7]) (KF (H _ _ (E.upd u7 (by omega)) ?_))
   have hG:VGw h2.size (h3.size≤·) h7 y css l:=⟨G.same (fun b hb=>u7.ne b (by have:=(yon b hb).1; omega)),w4,hcl,fun j j1 j2=>(hnew j j1 j2 j1).same (fun b hb=>u7.ne b (by omega))⟩
   exact Zp.eq.2 ⟨y,rfl,k1,n1,s1,(hG.rep_ (by omega)).same (fun _ _=>rfl) (fun b hb=>hb.elim (fun hb=>by omega) (fun hb=>by have:=(yon b hb).1; omega))⟩
def vl0:Vl:=.mk 0 0 [] []
theorem Xw (S:Nat→Prop) (h:Heap):Zp S h vl0 (#[.int .i64 0,.int .i64 0,.string ByteArray.empty,.slice none 0 0]:Array Value) :=
 Zp.eq.2 ⟨Sl.nil,rfl,⟨by decide,by decide⟩,⟨by decide,by decide⟩,by decide,rfl,Nat.le_refl _,by decide,by rw [YQ]; trivial⟩
end Gx
namespace Go.Proofs.YthelieedlghccaaGreatDoor
open Go Go.RowKit Gx
set_option linter.unusedVariables false
set_option maxRecDepth 100000
theorem c24:Tryz.prog.cellsOf 24=4:=by kernel_rfl
theorem c3:Tryz.prog.cellsOf 3=1:=by kernel_rfl
theorem c2:Tryz.prog.cellsOf 2=1:=by kernel_rfl
theorem c9:Tryz.prog.cellsOf 9=1:=by kernel_rfl
theorem c22:Tryz.prog.cellsOf 22=1:=by kernel_rfl
theorem KFo {H:Type}:∀ (l:List Vl) (es:List (DataW H)),l.length=es.length→(∀ i (h1:i < l.length) (h2:i < es.length),wt l[i]≤Rows.uptoBulk es[i])→wt.wts l≤Rows.uptoBulkAll es
 | [],[],_,_=>by simp [wt.wts]
 | [],_::_,h,_=>by simp at h
 | _::_,[],h,_=>by simp at h
 | v::l,d::es,h,hk=>by
  have h0:=hk 0 (by simp) (by simp)
  have:=KFo l es (by simpa using h) (fun i h1 h2=>by
   have:=hk (i+1) (by simpa using h1) (by simpa using h2)
   simpa using this)
  simp only [List.getElem_cons_zero] at h0
  rw [wt.wts]
  simp only [Rows.uptoBulkAll]
  omega
section
variable {H:Type} {enc:TypeId × Value→H}
theorem KFp {W:World} {t:TypeId} {n:Nat} {c:Value} {x:DataW H × List MemPlace} {sp:Nat→Bool} {held:Bool} {base:Nat} (ht:Tryz.prog.underlying t=some (.int .i64)) (h:DataW.trod enc Tryz.prog W base sp held n t [c]=some x):∃ z,c=.int .i64 z∧I64 z∧Rows.uptoBulk x.1=1:=by
 cases n with
 | zero=>simp [DataW.trod] at h
 | succ n =>
  unfold DataW.trod at h
  rw [ht] at h
  cases c with
  | int k z =>
   simp only at h
   split at h
   ·rename_i hk
    obtain ⟨rfl,hw⟩:=hk
    cases h
    refine ⟨z,rfl,?_,by simp [Rows.uptoBulk]⟩
    have:-9223372036854775808≤z∧z≤9223372036854775807:=by simpa [Lit.wf,IntKind.min,IntKind.max,IntKind.signed,IntKind.bits] using hw
    exact this
   ·cases h
  | _=>simp at h
theorem KFq {W:World} {t:TypeId} {n:Nat} {c:Value} {x:DataW H × List MemPlace} {sp:Nat→Bool} {held:Bool} {base:Nat} (ht:Tryz.prog.underlying t=some .string) (h:DataW.trod enc Tryz.prog W base sp held n t [c]=some x):∃ s:ByteArray,c=.string s∧s.size≤maxLen∧Rows.uptoBulk x.1=s.data.toList.length+1:=by
 cases n with
 | zero=>simp [DataW.trod] at h
 | succ n =>
  unfold DataW.trod at h
  rw [ht] at h
  cases c with
  | string s =>
   simp only at h
   split at h
   ·rename_i hk
    cases h
    exact ⟨s,rfl,hk,by simp [Rows.uptoBulk]⟩
   ·cases h
  | _=>simp at h
theorem KHw {W:World} {sp:Nat→Bool} {held:Bool} {base:Nat}:∀ (m:Nat),
  (∀ (cs:List Value) (x:DataW H × List MemPlace),DataW.trod enc Tryz.prog W base sp held m 24 cs=some x→∃ v,VRep W.heap v cs.toArray∧wt v≤Rows.uptoBulk x.1) ∧
  (∀ (v:Value) (x:DataW H × List MemPlace),DataW.trod enc Tryz.prog W base sp held m 22 [v]=some x→∃ (s:Sl) (l:List Vl),v=s.v∧VsRep W.heap s l∧wt.wts l+1≤Rows.uptoBulk x.1):=by
 intro m
 induction m with
 | zero=>exact ⟨fun cs x h=>by simp [DataW.trod] at h,fun v x h=>by simp [DataW.trod] at h⟩
 | succ m ih =>
  refine ⟨fun cs x h=>?_,fun v x h=>?_⟩
  ·obtain ⟨xs,n,hn,hx,hcl,hxl,hf⟩:=DataW.trod_struct Tryz.underlying24 h
   obtain rfl:m=n:=by omega
   rw [c24] at hcl
   have hxl:xs.length=4:=hxl
   match cs,hcl with
   | [a0,a1,a2,a3],_ =>
   match xs,hxl with
   | [y0,y1,y2,y3],_ =>
   have f0:DataW.trod enc Tryz.prog W base sp held m 3 (([a0,a1,a2,a3].drop 0).take (Tryz.prog.cellsOf 3))=some y0:=hf 0 _ rfl
   have f1:DataW.trod enc Tryz.prog W base sp held m 2 (([a0,a1,a2,a3].drop 1).take (Tryz.prog.cellsOf 2))=some y1:=hf 1 _ rfl
   have f2:DataW.trod enc Tryz.prog W base sp held m 9 (([a0,a1,a2,a3].drop 2).take (Tryz.prog.cellsOf 9))=some y2:=hf 2 _ rfl
   have f3:DataW.trod enc Tryz.prog W base sp held m 22 (([a0,a1,a2,a3].drop 3).take (Tryz.prog.cellsOf 22))=some y3:=hf 3 _ rfl
   rw [c3] at f0
   rw [c2] at f1
   rw [c9] at f2
   rw [c22] at f3
   obtain ⟨k,rfl,hk,b0⟩:=KFp Tryz.underlying3 f0
   obtain ⟨nn,rfl,hnn,b1⟩:=KFp Tryz.underlying2 f1
   obtain ⟨s,rfl,hs,b2⟩:=KFq Tryz.underlying9 f2
   obtain ⟨sl,l,rfl,hl,b3⟩:=ih.2 _ _ f3
   have hsb:bs s.data.toList=s:=by simp [bs]
   refine ⟨.mk k nn s.data.toList l,VRep.eq.2 ⟨sl,by unfold ZO; rw [hsb],hk,hnn,?_,hl⟩,?_⟩
   ·have:s.data.toList.length=s.size:=Array.length_toList
    rw [this]; unfold maxLen at hs; omega
   ·rw [wt,hx]
    simp only [List.map_cons,List.map_nil,Rows.uptoBulk,Rows.uptoBulkAll]
    omega
  ·rcases DataW.trod_slice Tryz.underlying22 h with ⟨h0,hx⟩ | ⟨a,len,cap,elems,rest,n,hn,h1,hx,_,hle,hm,hlen,hel,_,_⟩
   ·cases h0
    refine ⟨Sl.nil,[],rfl,VsRep.nil _,?_⟩
    rw [hx]; simp [wt.wts,Rows.uptoBulk]
   ·cases h1
    obtain rfl:m=n:=by omega
    rw [c24] at hel
    have key:∀ i,i < len→∃ (v:Vl) (cs:Array Value),cs.size=4∧(∀ j,j < 4→KO W.heap (a.add (i * 4+j))=cs[j]?)∧VRep W.heap v cs∧∀ (h:i < elems.length),wt v≤Rows.uptoBulk (elems[i]).1:=fun i hi=>by
     have h2:=hel i hi
     rw [List.getElem?_eq_getElem (by omega),Option.bind_eq_some_iff] at h2
     obtain ⟨cs,hcs,ht⟩:=h2
     obtain ⟨_,hl1,hc⟩:=World.cells?_some hcs
     obtain ⟨v,hv,hw⟩:=ih.1 _ _ ht
     refine ⟨v,cs.toArray,by simpa using hl1,fun j hj=>?_,hv,fun _=>hw⟩
     have:=hc j hj
     rw [Addr.add_add] at this
     rw [KCP] at this
     rw [this]; simp
    let l:=List.ofFn (fun i:Fin len=>Classical.choose (key i i.2))
    have hL:l.length=len:=by simp [l]
    have hget:∀ i (h:i < l.length),∃ cs:Array Value,cs.size=4∧(∀ j,j < 4→KO W.heap (a.add (i * 4+j))=cs[j]?)∧VRep W.heap l[i] cs∧∀ (h:i < elems.length),wt l[i]≤Rows.uptoBulk (elems[i]).1:=fun i h=>by
     have:=Classical.choose_spec (key i (by omega))
     simpa [l] using this
    have hmx:len≤9223372036854775807:=by unfold maxLen at hm; omega
    refine ⟨⟨some a,len,cap⟩,l,rfl,⟨hL.symm,hle,hmx,VsAt.of (fun j hj=>?_)⟩,?_⟩
    ·obtain ⟨cs,h1,h2,h3,_⟩:=hget j hj
     exact ⟨a,cs,rfl,h1,fun i hi=>by rw [Nat.zero_add]; exact h2 i hi,h3⟩
    ·rw [hx]
     have:=KFo l (elems.map (·.1)) (by rw [hL,List.length_map,hlen]) (fun i h1 h2=>by
      obtain ⟨_,_,_,_,h4⟩:=hget i h1
      rw [List.getElem_map]
      exact h4 (by simpa using h2))
     simp only [Rows.uptoBulk]
     omega
end
end Go.Proofs.YthelieedlghccaaGreatDoor
namespace Gx
open Go
set_option linter.unusedVariables false
set_option linter.unusedSimpArgs false
structure Tri (ab bc ac:Int):Prop where
 tr:ab < 0→bc < 0→ac < 0
 z1:ab=0→ac=bc
 z2:bc=0→ac=ab
theorem Tri.cOr {x y z x' y' z':Int} (h:Tri x y z) (h':x=0→y=0→Tri x' y' z'):Tri (cOr x x') (cOr y y') (cOr z z'):=by
 unfold Gx.cOr
 obtain ⟨t,a,b⟩:=h
 by_cases hx:x=0
 ·have hz:=a hx
  by_cases hy:y=0
  ·have hz0:z=0:=by omega
   rw [if_pos hx,if_pos hy,if_pos hz0]
   exact h' hx hy
  ·have hz0:¬ z=0:=by omega
   rw [if_pos hx,if_neg hy,if_neg hz0]
   refine ⟨fun h1 h2=>by omega,fun h1=>hz,fun h1=>by omega⟩
 ·by_cases hy:y=0
  ·have hz:=b hy
   have hz0:¬ z=0:=by omega
   rw [if_neg hx,if_pos hy,if_neg hz0]
   exact ⟨fun h1 h2=>by omega,fun h1=>by omega,fun h1=>hz⟩
  ·rw [if_neg hx,if_neg hy]
   refine ⟨fun h1 h2=>?_,fun h1=>by omega,fun h1=>by omega⟩
   have:=t h1 h2
   rw [if_neg (by omega)]; exact this
theorem KDN (a b c:Int):Tri (cmpI a b) (cmpI b c) (cmpI a c):=by
 unfold cmpI
 constructor <;> (repeat' split) <;> intros <;> omega
theorem KBp (a b:Int):cmpI b a=- cmpI a b:=by
 unfold cmpI
 (repeat' split) <;> omega
theorem KDO (a b:Int):cmpI a b=0↔a=b:=by
 unfold cmpI
 (repeat' split) <;> omega
theorem KBC {x x' y y':Int} (h:x'=-x) (h':x=0→y'=-y):cOr x' y'=- cOr x y:=by
 unfold cOr
 by_cases hx:x=0
 ·rw [if_pos hx,if_pos (by omega)]; exact h' hx
 ·rw [if_neg hx,if_neg (by omega)]; exact h
theorem KBD {x y:Int}:cOr x y=0↔x=0∧y=0:=by
 unfold cOr
 by_cases hx:x=0
 ·rw [if_pos hx]; simp [hx]
 ·rw [if_neg hx]; simp [hx]
def cmpL {α:Type} (f:α→α→Int):List α→List α→Int
 | [],[]=>0
 | [],_::_=>-1
 | _::_,[]=>1
 | a::l,b::l'=>cOr (f a b) (cmpL f l l')
theorem KBq {α:Type} {f:α→α→Int}:∀ {l l':List α},(∀ a ∈ l,∀ b ∈ l',f b a=- f a b)→cmpL f l' l=- cmpL f l l'
 | [],[],_=>rfl
 | [],_::_,_=>rfl
 | _::_,[],_=>rfl
 | a::l,b::l',h=>KBC (h a (by simp) b (by simp)) (fun _=>KBq (fun x hx y hy=>h x (List.mem_cons_of_mem _ hx) y (List.mem_cons_of_mem _ hy)))
theorem KE9 {α:Type} {f:α→α→Int}:∀ {l l':List α},(∀ a ∈ l,∀ b ∈ l',f a b=0↔a=b)→(cmpL f l l'=0↔l=l')
 | [],[],_=>by simp [cmpL]
 | [],_::_,_=>by simp [cmpL]
 | _::_,[],_=>by simp [cmpL]
 | a::l,b::l',h=>by
  rw [cmpL,KBD,h a (by simp) b (by simp),KE9 (fun x hx y hy=>h x (List.mem_cons_of_mem _ hx) y (List.mem_cons_of_mem _ hy))]
  simp
theorem KDP {α:Type} {f:α→α→Int}:∀ {l l' l'':List α},(∀ a ∈ l,∀ b ∈ l',∀ c ∈ l'',Tri (f a b) (f b c) (f a c))→Tri (cmpL f l l') (cmpL f l' l'') (cmpL f l l'')
 | [],[],[],_=>by simp only [cmpL]; constructor <;> intros <;> omega
 | [],[],_::_,_=>by simp only [cmpL]; constructor <;> intros <;> omega
 | [],_::_,[],_=>by simp only [cmpL]; constructor <;> intros <;> omega
 | [],b::l',c::l'',_=>by
  show Tri (-1) (cmpL f (b::l') (c::l'')) (-1)
  constructor <;> intros <;> omega
 | _::_,[],[],_=>by simp only [cmpL]; constructor <;> intros <;> omega
 | _::_,[],_::_,_=>by simp only [cmpL]; constructor <;> intros <;> omega
 | a::l,b::l',[],_=>by
  show Tri (cmpL f (a::l) (b::l')) 1 1
  constructor <;> intros <;> omega
 | a::l,b::l',c::l'',h=>Tri.cOr (h a (by simp) b (by simp) c (by simp)) (fun _ _=>KDP (fun x hx y hy z hz=>h x (List.mem_cons_of_mem _ hx) y (List.mem_cons_of_mem _ hy) z (List.mem_cons_of_mem _ hz)))
def cmpU (a b:UInt8):Int:=cmpI (a.toNat:Int) (b.toNat:Int)
theorem KJz:∀ s t:List UInt8,Lib.compareBytes s t=cmpL cmpU s t
 | [],[]=>rfl
 | [],_::_=>rfl
 | _::_,[]=>rfl
 | a::s,b::t=>by
  rw [GZ,cmpL,cOr,KJz s t]
  have:cmpU a b=0↔a=b:=by
   unfold cmpU
   rw [KDO,← UInt8.toNat_inj]; omega
  by_cases h:a=b
  ·rw [if_pos h,if_pos (this.2 h)]
  ·rw [if_neg h,if_neg (fun h'=>h (this.1 h'))]; rfl
theorem KK2 (a b:UInt8):cmpU a b=0↔a=b:=by
 unfold cmpU
 rw [KDO,← UInt8.toNat_inj]; omega
theorem KHx:∀ l l':List Vl,Xt l l'=cmpL cmpV l l'
 | [],[]=>by simp [Xt,cmpL]
 | [],_::_=>by simp [Xt,cmpL]
 | _::_,[]=>by simp [Xt,cmpL]
 | a::l,b::l'=>by rw [Xt,cmpL,KHx l l']
theorem qy (k n k' n':Int) (s s':List UInt8) (l l':List Vl):cmpV (.mk k n s l) (.mk k' n' s' l')=cOr (cmpI k k') (cOr (cmpI n n') (cOr (cmpL cmpU s s') (cmpL cmpV l l'))):=by
 rw [cmpV,KJz,KHx]
theorem KFr {k n:Int} {s:List UInt8} {l:List Vl} {m:Nat} {v:Vl} (hm:sizeOf (Vl.mk k n s l) < m+1) (hv:v ∈ l):sizeOf v < m:=by
 have:=List.sizeOf_lt_of_mem hv
 simp only [Vl.mk.sizeOf_spec] at hm
 omega
theorem KGZ:∀ (m:Nat) (a b:Vl),sizeOf a < m→cmpV b a=- cmpV a b:=by
 intro m
 induction m with
 | zero=>intro a b h; omega
 | succ m ih =>
  rintro ⟨k,n,s,l⟩ ⟨k',n',s',l'⟩ hm
  rw [qy,qy]
  exact KBC (KBp _ _) (fun _=>KBC (KBp _ _) (fun _=>KBC (KBq (fun a _ b _=>KBp _ _)) (fun _=>KBq (fun a ha b hb=>ih a b (KFr hm ha)))))
theorem KEP (a b:Vl):cmpV b a=- cmpV a b:=KGZ _ a b (Nat.lt_succ_self _)
theorem KJK:∀ (m:Nat) (a b:Vl),sizeOf a < m→(cmpV a b=0↔a=b):=by
 intro m
 induction m with
 | zero=>intro a b h; omega
 | succ m ih =>
  rintro ⟨k,n,s,l⟩ ⟨k',n',s',l'⟩ hm
  rw [qy,KBD,KBD,KBD,KDO,KDO,KE9 (fun a _ b _=>KK2 a b),KE9 (fun a ha b hb=>ih a b (KFr hm ha))]
  simp
theorem KDQ (a b:Vl):cmpV a b=0↔a=b:=KJK _ a b (Nat.lt_succ_self _)
theorem KHy:∀ (m:Nat) (a b c:Vl),sizeOf a < m→Tri (cmpV a b) (cmpV b c) (cmpV a c):=by
 intro m
 induction m with
 | zero=>intro a b c h; omega
 | succ m ih =>
  rintro ⟨k,n,s,l⟩ ⟨k',n',s',l'⟩ ⟨k'',n'',s'',l''⟩ hm
  rw [qy,qy,qy]
  exact Tri.cOr (KDN _ _ _) (fun _ _=>Tri.cOr (KDN _ _ _) (fun _ _=>Tri.cOr (KDP (fun a _ b _ c _=>KDN _ _ _)) (fun _ _=>KDP (fun a ha b hb c hc=>ih a b c (KFr hm ha)))))
theorem KJL (a b c:Vl):Tri (cmpV a b) (cmpV b c) (cmpV a c):=KHy _ a b c (Nat.lt_succ_self _)
theorem z8 (a:Vl):cmpV a a=0:=(KDQ a a).2 rfl
theorem KGa {a b c:Vl} (h1:cmpV a b < 0) (h2:cmpV b c < 0):cmpV a c < 0:=(KJL a b c).tr h1 h2
theorem KGb (a b:Vl):cmpV a b < 0∨a=b∨cmpV b a < 0:=by
 have:=KEP a b
 have:=KDQ a b
 by_cases h:cmpV a b=0
 ·exact .inr (.inl (this.1 h))
 ·omega
end Gx
namespace Gx
open Go Go.Proofs Go.Shelf Go.RowKit Go.Lib
set_option linter.unusedVariables false
set_option linter.unusedSimpArgs false
set_option maxRecDepth 100000
theorem Gw.ix1 {β:Type} {lo:Nat} {h:Heap} {Q:β→Heap→Prop} {r:Sl} {vs:List Value} {i:Nat} {t:Int} {v:Value} {f:Addr→M β} (G:Gw lo h r 1 vs) (hi:vs[i]?=some v) (ht:t=(i:Int))
  (H:∀ b,r.base=some ⟨b,0,none⟩→KO h ⟨b,i,none⟩=some v→Ub h ⟨b,i,none⟩=false→(f ⟨b,i,none⟩).wp h Q):(ixL r t 1>>=f).wp h Q:=by
 subst ht
 have hl:=G.len
 have hil:=(List.getElem?_eq_some_iff.1 hi).1
 rcases G with ⟨rfl,rfl⟩ | ⟨b,ty,cells,R⟩
 ·cases hi
 ·refine Gi (by omega) (by omega) R.base ?_
  rw [ZE,show 0+(i:Int).toNat * 1=i by omega]
  exact H b R.base (by rw [KP R.blk]; exact R.get i v hi) (ZS R.blk)
theorem Gw.set1 {lo:Nat} {h:Heap} {r:Sl} {vs:List Value} {b i:Nat} {v:Value} (G:Gw lo h r 1 vs) (hb:r.base=some ⟨b,0,none⟩) (hi:i < vs.length):Gw lo (hset h ⟨b,i,none⟩ v) r 1 (vs.set i v):=by
 rcases G with ⟨rfl,rfl⟩ | ⟨b',ty,cells,R⟩
 ·cases hb
 ·have:b'=b:=by
   have:=R.base.symm.trans hb
   cases this
   rfl
  subst this
  have hsz:=R.size
  have hcap:=R.cap
  have hlen:=R.len
  refine .inr ⟨b',ty,_,R.base,R.lo,Vh R.blk,by rw [Array.size_setIfInBounds]; exact R.size,R.cap,by rw [List.length_set]; exact R.len,fun j u hj=>?_⟩
  rw [Array.getElem?_setIfInBounds]
  rw [List.getElem?_set] at hj
  by_cases hij:i=j
  ·subst hij
   rw [if_pos rfl,if_pos hi] at hj
   rw [if_pos rfl,if_pos (by omega)]
   exact hj
  ·rw [if_neg hij] at hj
   rw [if_neg hij]
   exact R.get j u hj
theorem KJM {α β:Type} (g:α→β) (L1 L2:List α) (x y:α):(((L1++y::x::L2).map g).set (L1.length+1) (g y)).set L1.length (g x)=(L1++x::y::L2).map g:=by
 simp only [List.map_append,List.map_cons]
 rw [show L1.map g++g y::g x::L2.map g=(L1.map g++[g y])++g x::L2.map g by simp]
 rw [KAt (by simp)]
 rw [show (L1.map g++[g y])++g y::L2.map g=L1.map g++g y::g y::L2.map g by simp]
 rw [KAt (by simp)]
def vv {α:Type} (sl:α→Sl) (a:α):Value:=(sl a).v
theorem KMK {α β:Type} {sl:α→Sl} {lo:Nat} {h:Heap} {Q:β→Heap→Prop} {r:Sl} {y x:α} {L1 L2:List α} {j:Int} {f:Unit→M β} (G:Gw lo h r 1 ((L1++y::x::L2).map (vv sl))) (hj:j=((L1.length+1:Nat):Int)) (hsm:L1.length≤1099511627776)
  (H:∀ h',Km (Sl.on r) h h'→Gw lo h' r 1 ((L1++x::y::L2).map (vv sl))→(f ()).wp h' Q) :
  (ixL r (IntKind.wrap .i64 (j - 1)) 1>>=fun a=>ixL r j 1>>=fun b=>ldL a>>=fun u=>ldL b>>=fun v=>ixL r j 1>>=fun c=>stV c u.v>>=fun _=>ixL r (IntKind.wrap .i64 (j - 1)) 1>>=fun d=>stV d v.v>>=f).wp h Q:=by
 subst hj
 rw [w64 (by omega) (by omega),show (((L1.length+1:Nat):Int) - 1)=(L1.length:Int) by omega]
 have hy:((L1++y::x::L2).map (vv sl))[L1.length]?=some (sl y).v:=by simp [vv]
 have hx:((L1++y::x::L2).map (vv sl))[L1.length+1]?=some (sl x).v:=by
  rw [List.map_append,List.getElem?_append_right (by simp)]
  simp [vv]
 have hlen:L1.length+1 < ((L1++y::x::L2).map (vv sl)).length:=by simp
 refine G.ix1 hy rfl (fun b hb hc hf=>G.ix1 hx rfl (fun b2 hb2 hc2 hf2=>UO hc (UO hc2 (G.ix1 hx rfl (fun b3 hb3 hc3 hf3=>NF hc3 hf3 (KB3 (sl y)) ?_)))))
 have e3:b3=b:=by rw [hb3] at hb; cases hb; rfl
 subst e3
 have G1:=G.set1 (v:=(sl y).v) hb3 hlen
 have u1:=Upd.hset h b3 (L1.length+1) (sl y).v
 generalize hset h ⟨b3,L1.length+1,none⟩ (sl y).v=h1 at G1 u1 ⊢
 have hy1:(((L1++y::x::L2).map (vv sl)).set (L1.length+1) (sl y).v)[L1.length]?=some (sl y).v:=by
  rw [List.getElem?_set_ne (by omega)]
  exact hy
 refine G1.ix1 hy1 rfl (fun b4 hb4 hc4 hf4=>NF hc4 hf4 (KB3 (sl x)) ?_)
 have e4:b4=b3:=by rw [hb4] at hb3; cases hb3; rfl
 subst e4
 have G2:=G1.set1 (v:=(sl x).v) (i:=L1.length) hb4 (by rw [List.length_set]; omega)
 have u2:=Upd.hset h1 b4 L1.length (sl x).v
 rw [show (sl y).v=vv sl y from rfl,show (sl x).v=vv sl x from rfl,KJM] at G2
 have hon:Sl.on r b4:=⟨_,hb4,rfl⟩
 exact H _ ((Km.upd u1 hon).trans (Km.upd u2 hon)) G2
structure Cmpr {α:Type} (sl:α→Sl) (r:Sl) (T:Heap→Prop) (cmp:Value) (key:α→Vl) (ss:List α):Prop where
 keep:∀ hh h',T hh→Km (Sl.on r) hh h'→T h'
 call:∀ hh,T hh→∀ p q,p ∈ ss→q ∈ ss→∀ Q:Int→Heap→Prop,(∀ h',Ext hh h'→Q (cmpV (key p) (key q)) h')→(KB2 Go.Proofs.Tryz.prog (fun r:Int=>.int .i64 r) cmp [(sl p).v,(sl q).v]).wp hh Q
def Srt {α:Type} (key:α→Vl) (l:List α):Prop:=l.Pairwise (fun p q=>¬ cmpV (key q) (key p) < 0)
theorem KGc {x y z:Vl} (h1:¬ cmpV z y < 0) (h2:¬ cmpV y x < 0):¬ cmpV z x < 0:=by
 intro h3
 rcases KGb y x with h | h | h
 ·exact h2 h
 ·subst h; exact h1 h3
 ·exact h1 (KGa h3 h)
theorem KAk {α:Type} {sl:α→Sl} {lo:Nat} {h:Heap} {Q:Unit→Heap→Prop} {r:Sl} {T:Heap→Prop} {cmp:Value} {key:α→Vl} {ss pre mid post:List α} (C:Cmpr sl r T cmp key ss) (hT:T h) (G:Gw lo h r 1 ((pre++mid++post).map (vv sl))) (hp:∀ p ∈ mid,p ∈ ss)
  (hsm:(pre++mid++post).length≤1099511627776) (H:∀ h' mid',Gw lo h' r 1 ((pre++mid'++post).map (vv sl))→mid'.Perm mid→Srt key mid'→Km (Sl.on r) h h'→Q () h') :
  (KW r (pre.length:Int) ((pre.length+mid.length:Nat):Int) cmp).wp h Q:=by
 simp only [List.length_append] at hsm
 unfold KW
 rw [w64 (by omega) (by omega)]
 refine M.loop_inv (fun (t:Int) hh=>∃ (k:Nat) (m1:List α),t=((pre.length+k:Nat):Int)∧1≤k∧m1.Perm (mid.take k)∧Srt key m1∧Km (Sl.on r) h hh∧Gw lo hh r 1 ((pre++m1++(mid.drop k++post)).map (vv sl))) (fun t _=>(((pre.length+mid.length+1:Nat):Int) - t).toNat) ?_
  ⟨1,mid.take 1,by omega,Nat.le_refl _,List.Perm.refl _,?_,Km.refl _ _,?_⟩
 ·rintro t hh ⟨k,m1,rfl,hk,hperm,hs,K,G1⟩ self hself
  have hm1:=hperm.length_eq
  rw [List.length_take] at hm1
  unfold ZU
  refine KZ (fun hc=>?_) (fun hc=>?_)
  ·have hkl:k < mid.length:=by have:=of_decide_eq_true hc; omega
   have hxm:mid[k] ∈ ss:=hp _ (List.getElem_mem hkl)
   have hm1s:∀ p ∈ m1,p ∈ ss:=fun p hp1=>hp p (List.mem_of_mem_take (hperm.mem_iff.1 hp1))
   rw [List.drop_eq_getElem_cons hkl] at G1
   generalize hxx:mid[k]=x at hxm G1
   refine M.loop_inv (fun (t:Int) h2=>∃ u w:List α,t=((pre.length+u.length:Nat):Int)∧u++w=m1∧(∀ y ∈ w,cmpV (key x) (key y) < 0)∧Km (Sl.on r) h h2∧Gw lo h2 r 1 ((pre++u++x::(w++(mid.drop (k+1)++post))).map (vv sl))) (fun t _=>t.toNat) ?_
    ⟨m1,[],by omega,by simp,fun y hy=>(by cases hy),K,by simpa using G1⟩
   rintro t h2 ⟨u,w,rfl,huw,hw,K2,G2⟩ self2 hself2
   have hul:u.length≤mid.length:=by have:=congrArg List.length huw; rw [List.length_append] at this; omega
   have done:(u≠[]→∀ y,u.getLast?=some y→¬ cmpV (key x) (key y) < 0)→∀ h3,Km (Sl.on r) h h3→Gw lo h3 r 1 ((pre++u++x::(w++(mid.drop (k+1)++post))).map (vv sl)) →
     (KR self self2 r ((pre.length+k:Nat):Int) ((pre.length+u.length:Nat):Int) false).wp h3 Q:=by
    intro hlast h3 K3 G3
    unfold KR
    refine iteF rfl ?_
    rw [w64 (by omega) (by omega)]
    refine hself _ _ ⟨k+1,u++x::w,by omega,by omega,?_,?_,K3,?_⟩ (by omega)
    ·rw [List.take_succ_eq_append_getElem hkl,hxx]
     refine List.Perm.trans (List.perm_middle) ?_
     refine List.Perm.trans ?_ (List.perm_append_singleton _ _).symm
     rw [huw]
     exact hperm.cons x
    ·unfold Srt at hs ⊢
     rw [← huw,List.pairwise_append] at hs
     rw [List.pairwise_append]
     refine ⟨hs.1,List.pairwise_cons.2 ⟨fun y hy=>?_,hs.2.1⟩,fun p hp1 q hq=>?_⟩
     ·have:=hw y hy
      have a:=KEP (key x) (key y)
      omega
     ·rcases List.mem_cons.1 hq with rfl | hq
      ·have hne:u≠[]:=List.ne_nil_of_mem hp1
       obtain ⟨u',y,rfl⟩:∃ u' y,u=u'++[y]:=⟨u.dropLast,u.getLast hne,(List.dropLast_concat_getLast hne).symm⟩
       have hy:=hlast hne y (by simp)
       rcases List.mem_append.1 hp1 with hp2 | hp2
       ·have h4:=hs.1
        rw [List.pairwise_append] at h4
        exact KGc hy (h4.2.2 p hp2 y (by simp))
       ·rw [List.mem_singleton] at hp2
        subst hp2
        exact hy
      ·exact hs.2.2 p hp1 q hq
    ·rw [show pre++(u++x::w)++(mid.drop (k+1)++post)=pre++u++x::(w++(mid.drop (k+1)++post)) by simp]
     exact G3
   unfold ZT
   refine KZ (fun hpos=>?_) (fun hz=>?_)
   ·have hne:u≠[]:=by
     intro e
     subst e
     have:=of_decide_eq_true hpos
     simp at this
    obtain ⟨u',y,rfl⟩:∃ u' y,u=u'++[y]:=⟨u.dropLast,u.getLast hne,(List.dropLast_concat_getLast hne).symm⟩
    have hys:y ∈ ss:=hm1s y (by rw [← huw]; simp)
    have eL:pre++(u'++[y])++x::(w++(mid.drop (k+1)++post))=(pre++u')++y::x::(w++(mid.drop (k+1)++post)):=by simp
    have G2':=G2
    rw [eL] at G2'
    have hjl:((pre.length+(u'++[y]).length:Nat):Int)=(((pre++u').length+1:Nat):Int):=by simp; omega
    rw [hjl]
    have hul':u'.length+1≤mid.length:=by simpa using hul
    have hpl:(pre++u').length=pre.length+u'.length:=List.length_append
    have hx:((((pre++u')++y::x::(w++(mid.drop (k+1)++post))).map (vv sl)))[(pre++u').length+1]?=some (sl x).v:=by
     rw [List.map_append,List.getElem?_append_right (by simp)]
     simp [vv]
    have hy:((((pre++u')++y::x::(w++(mid.drop (k+1)++post))).map (vv sl)))[(pre++u').length]?=some (sl y).v:=by
     rw [List.map_append,List.getElem?_append_right (by simp)]
     simp [vv]
    refine G2'.ix1 hx rfl (fun b1 hb1 hc1 hf1=>?_)
    rw [w64 (by omega) (by omega),show ((((pre++u').length+1:Nat):Int) - 1)=(((pre++u').length:Nat):Int) by omega]
    refine G2'.ix1 hy rfl (fun b2 hb2 hc2 hf2=>UO hc1 (UO hc2 (KJ (C.call h2 (C.keep _ _ hT K2) x y hxm hys _ (fun h3 e3=>?_)))))
    have K3:=K2.trans (Km.ext e3)
    by_cases hlt:cmpV (key x) (key y) < 0
    ·rw [decide_eq_true hlt]
     unfold KR
     refine iteT rfl (KMK (G2'.ext e3) rfl (by omega) (fun h4 K4 G4=>?_))
     rw [w64 (by omega) (by omega)]
     refine hself2 _ _ ⟨u',y::w,by omega,by rw [← huw]; simp,fun z hz=>?_,K3.trans K4,by simpa using G4⟩ (by omega)
     rcases List.mem_cons.1 hz with rfl | hz
     ·exact hlt
     ·exact hw z hz
    ·rw [decide_eq_false hlt]
     have h5:=done (fun _ z hz=>by simp at hz; subst hz; exact hlt) h3 K3 (by rw [eL]; exact G2'.ext e3)
     rw [hjl] at h5
     exact h5
   ·have hu0:u=[]:=by
     have:=of_decide_eq_false hz
     exact List.length_eq_zero_iff.1 (by omega)
    subst hu0
    exact done (fun h=>absurd rfl h) h2 K2 G2
  ·have hkl:mid.length≤k:=by have:=of_decide_eq_false hc; omega
   rw [List.take_of_length_le hkl] at hperm
   rw [List.drop_of_length_le hkl,List.nil_append] at G1
   exact KF (H _ _ G1 hperm hs K)
 ·unfold Srt
  cases mid with
  | nil=>exact List.Pairwise.nil
  | cons a m=>simp
 ·rw [show pre++mid.take 1++(mid.drop 1++post)=pre++(mid.take 1++mid.drop 1)++post by simp,List.take_append_drop]
  exact G
end Gx
namespace Gx
open Go
set_option linter.unusedVariables false
set_option linter.unusedSimpArgs false
def KGd (x:Sl) (i:Nat):Sl:=⟨x.base.map (fun a=>a.add (2 * i * 4)),min 2 (x.len - 2 * i),min 2 (x.len - 2 * i)⟩
def qP (x:Sl):List Sl:=(List.range ((x.len+1) / 2)).map (KGd x)
theorem Nx (x:Sl):(qP x).length=(x.len+1) / 2:=by simp [qP]
theorem KGe (x:Sl) {i:Nat} (hi:i < (qP x).length):(qP x)[i]=KGd x i:=by simp [qP]
def qQ (l:List Vl) (i:Nat):List Vl:=(l.drop (2 * i)).take 2
theorem KHz {S:Nat→Prop} {h:Heap} {x:Sl} {l:List Vl} (H:VsRepS S h x l) {i:Nat} (hi:2 * i < l.length):VsRepS S h (KGd x i) (qQ l i):=by
 have hl:=H.len
 have hlen:(qQ l i).length=min 2 (l.length - 2 * i):=by simp [qQ]
 refine ⟨by rw [hlen]; show min 2 (x.len - 2 * i)=_; rw [hl],Nat.le_refl _,by show min 2 (x.len - 2 * i)≤_; omega,YQ.of (fun j hj=>?_)⟩
 rw [hlen] at hj
 obtain ⟨a,cs,ha,hS,hs,hc,hv⟩:=H.get (j:=2 * i+j) (by omega)
 refine ⟨a.add (2 * i * 4),cs,by show x.base.map _=_; rw [ha]; rfl,by rw [XZ]; exact hS,hs,fun m hm=>?_,?_⟩
 ·rw [Addr.add_add,← hc m hm]
  congr 2; omega
 ·have:(qQ l i)[j]'(by rw [hlen]; omega)=l[2 * i+j]'(by omega):=by simp [qQ]
  rw [this]; exact hv
theorem KML {β:Type} {h:Heap} {Q:β→Heap→Prop} {s:Sl} {lo hi mx:Int} {sz:Nat} {f:Sl→M β} (h0:0≤lo) (h1:lo≤hi) (h2:hi≤mx) (h3:mx≤s.cap) (H:(f ⟨if mx.toNat=lo.toNat then s.base else s.base.map (·.add (lo.toNat * sz)),hi.toNat - lo.toNat,mx.toNat - lo.toNat⟩).wp h Q):(slL3 s lo hi mx sz>>=f).wp h Q:=⟨_,⟨h0,h1,h2,h3,rfl⟩,H⟩
theorem KH0 {x:Sl} {a b:Addr} (hlc:x.len≤x.cap) (hb:x.len≤1099511627776) {J:Nat→Heap→Prop} (hJ:∀ i h1,J i h1→KO h1 a=some x.v∧KO h1 b=some (.int .i64 2)) :
  SeqW Go.Proofs.Tryz.prog (fun x:Sl=>[x.v]) (qP x) (.func (.func Jb) #[] #[.pointer (some a),.pointer (some b)]) J:=by
 intro l Inv Stop h hInv h0 hround
 refine KCp VK (Ve (yV l) a b) ?_
 unfold J2
 rw [Nx]
 refine M.loop_inv (fun (t:Int) h'=>∃ i:Nat,t=((2 * i:Nat):Int)∧i≤(x.len+1) / 2∧Inv i h') (fun t _=>((x.len:Int)+2 - t).toNat) ?_ ⟨0,rfl,Nat.zero_le _,h0⟩
 rintro t h' ⟨i,rfl,hi,hI⟩ self hself
 unfold Zj
 obtain ⟨ca,cb⟩:=hJ i h' (hInv i h' hI)
 refine UO ca (KZ (fun hc=>?_) (fun hc=>?_))
 ·have hlt:2 * i < x.len:=by have:=of_decide_eq_true hc; omega
  refine Jx cb (UO ca (KGI (by omega) (by omega) (by omega) (UO ca ?_)))
  have hmin:iMin 2 (((x.len:Int).toNat - ((2 * i:Nat):Int).toNat:Nat):Int)=((min 2 (x.len - 2 * i):Nat):Int):=by
   unfold iMin
   (repeat' split) <;> omega
  dsimp only
  rw [hmin,w64 (by omega) (by omega)]
  refine KML (by omega) (by omega) (by omega) (by omega) ?_
  have hp:(⟨if (((2 * i:Nat):Int)+((min 2 (x.len - 2 * i):Nat):Int)).toNat=((2 * i:Nat):Int).toNat then x.base else x.base.map (fun a=>a.add (((2 * i:Nat):Int).toNat * 4)),(((2 * i:Nat):Int)+((min 2 (x.len - 2 * i):Nat):Int)).toNat - ((2 * i:Nat):Int).toNat,(((2 * i:Nat):Int)+((min 2 (x.len - 2 * i):Nat):Int)).toNat - ((2 * i:Nat):Int).toNat⟩:Sl)=KGd x i:=by
   have e1:(((2 * i:Nat):Int)+((min 2 (x.len - 2 * i):Nat):Int)).toNat=2 * i+min 2 (x.len - 2 * i):=by omega
   have e2:((2 * i:Nat):Int).toNat=2 * i:=rfl
   rw [e1,e2,if_neg (by omega)]
   unfold KGd
   congr 1 <;> omega
  rw [hp]
  have hr:=hround i (by rw [Nx]; omega) h' hI
  rw [KGe x (by rw [Nx]; omega)] at hr
  refine KJ ((Gh _ _ _ _).mono ?_ hr)
  rintro b1 h2 hb1
  cases b1 with
  | true =>
   have hb1:Inv (i+1) h2:=hb1
   obtain ⟨ca2,cb2⟩:=hJ _ _ (hInv _ _ hb1)
   refine iteF rfl (Jx cb2 ?_)
   rw [w64 (by omega) (by omega)]
   exact hself _ _ ⟨i+1,by omega,by omega,hb1⟩ (by omega)
  | false=>exact iteT rfl (KF (.inr hb1))
 ·have hge:(x.len+1) / 2=i:=by have:=of_decide_eq_false hc; omega
  rw [hge]
  exact KF (.inl hI)
end Gx
namespace Gx
open Go Go.Proofs Go.Shelf Go.RowKit Go.Lib
set_option linter.unusedVariables false
set_option linter.unusedSimpArgs false
set_option maxRecDepth 100000
theorem KH1 {P:Program} {α:Type} {enc:α→List Value} {js:List Code} {Y:Nat→α→M Nat} {Yb:α→M Nat} {r:Loop} {l:Nat} (hY:∀ x,Y l x=(beg l>>=fun _=>Yb x)) (hr:KFc P enc js Y r l) {J J':Heap→Prop} {x:α}
  (hJ:∀ h1 h2,J h1→Upd l h1 h2→J h2) (hJ':∀ h1 h2,J' h1→Upd l h1 h2→J' h2)
  (hbody:∀ h1 o,J h1→h1[l]?=some o→(Yb x).wp h1 (fun j h2=>h2[l]?=some o∧j=0∧J' h2)) {h1:Heap} (h0:J h1) (hrec:h1[l]?=some (N1 r .ready none)) :
  (Gh P (fun b:Bool=>.bool b) (yV l) (enc x)).wp h1 (fun b h2=>if b=true then (J' h2∧h2[l]?=some (N1 r .ready none)) else False):=by
 refine hr x h1 _ .ready none hrec ?_
 rw [hY]
 refine ⟨{ r with state:=.ready,pending:=none },hrec,rfl,?_⟩
 have hb:=KFi (o':=N1 r .busy none) hrec
 refine (Yb x).mono ?_ (hbody _ _ (hJ _ _ h0 (Upd.set_ h1 l (N1 r .busy none))) hb)
 rintro j h2 ⟨h3,rfl,h4⟩
 refine ⟨.busy,none,h3,?_⟩
 show if true=true then _ else _
 rw [if_pos rfl]
 exact ⟨hJ' _ _ h4 (Upd.set_ _ _ _),KFi h3⟩
theorem KNB {P:Program} {α:Type} {enc:α→List Value} {js:List Code} {Y:Nat→α→M Nat} {Yb:α→M Nat} (hY:∀ l x,Y l x=(beg l>>=fun _=>Yb x)) {g:Value} (hg:∀ l,g≠.func (.yield l) #[] #[]) {h:Heap} {Q:Nat × Nat→Heap→Prop} {xs:List α}
  (J J0:Nat→Heap→Prop) (hJ:∀ i h1 h2,J i h1→Upd (h.size+1) h1 h2→J i h2) (hJ0:∀ i h1,J i h1→J0 i h1)
  (hseq:SeqW P enc xs g J0) (h0:∀ r:Loop,J 0 ((h.push (.deferred (some []))).push (N1 r .ready none)))
  (hbody:∀ i (hi:i < xs.length) h1 o,J i h1→h1[h.size+1]?=some o→(Yb xs[i]).wp h1 (fun j h2=>h2[h.size+1]?=some o∧j=0∧J (i+1) h2))
  (hq0:∀ h1,J xs.length h1→Q (0,h.size) h1):(rgF P enc js Y g).wp h Q:=by
 refine ⟨hg,fun r hr=>?_⟩
 have hrec:((h.push (.deferred (some []))).push (N1 r .ready none))[h.size+1]?=some (N1 r .ready none):=by
  have:h.size+1=(h.push (.deferred (some []))).size:=by simp
  rw [this]; exact ZJ
 refine (Gh P _ _ _).mono ?_ (hseq (h.size+1) (fun i h1=>J i h1∧h1[h.size+1]?=some (N1 r .ready none)) (fun h1=>False) _ (fun i h1 hh=>hJ0 i h1 hh.1) ⟨h0 r,hrec⟩ (fun i hi h1 hh=>KH1 (hY _) hr (hJ i) (hJ (i+1)) (hbody i hi) hh.1 hh.2))
 rintro _ h1 (⟨h2,h3⟩ | h2)
 ·exact ⟨.ready,0,by decide,h3,hq0 _ (hJ _ _ _ h2 (Upd.set_ _ _ _))⟩
 ·exact h2.elim
theorem KK3 {h:Heap} {b:Nat} {v u:Value} {t:TypeId} (hb:h[b]?=some (.cells #[v] t (0,0))):(hset h ⟨b,0,none⟩ u)[b]?=some (.cells #[u] t (0,0)):=by
 rw [Vh hb]; rfl
theorem KMM {β:Type} {lo:Nat} {h:Heap} {Q:β→Heap→Prop} {r x:Sl} {ss:List Value} {f:Sl→M β} (G:Gw lo h r 1 ss) (hle:lo≤h.size) (hm:ss.length≤1099511627776)
  (H:∀ h' r',Gw lo h' r' 1 (ss++[x.v])→h.size≤h'.size→(∀ j,j < h.size→¬ Sl.on r j→h'[j]?=h[j]?)→(f r').wp h' Q):(bdL Ze 1 #[x.v]>>=fun y=>apL Ze 1 24 (#[.slice none 0 0]:Array Value) r y>>=f).wp h Q:=by
 refine KCq ?_
 have e6:=Ext.push h (.cells #[x.v] Ze)
 have g6:(h.push (.cells #[x.v] Ze))[h.size]?=some (.cells #[x.v] Ze (0,0)):=ZJ
 generalize h.push (.cells #[x.v] Ze)=h6 at e6 g6 ⊢
 have G6:=G.ext e6
 have hrl:=G6.len
 rw [Nat.mul_one] at hrl
 refine KBT (vs:=ss) (news:=[x.v]) rfl G6 rfl (.inr ⟨_,rfl,fun j v hj=>?_⟩) (fun v hv=>by simp at hv; subst hv; exact KB3 x) (by dsimp only; omega) (by dsimp only; omega) (by have:=e6.size; omega) (fun h7 r7 G7 hlen7 hs7 same7 on7=>?_)
 ·rw [ZE,Nat.zero_add,KP g6]
  rw [show (#[x.v]:Array Value)=[x.v].toArray from rfl]
  simpa using hj
 ·exact H h7 r7 G7 (Nat.le_trans e6.size hs7) (fun j hj ho=>(same7 j (by have:=e6.size; omega) ho).trans (e6.same j hj))
theorem KEQ {h:Heap} {Q:Sl→Heap→Prop} {g:Value} {xs:List Sl} (hg:∀ l,g≠.func (.yield l) #[] #[]) (hxs:xs.length≤1000000000) (hseq:SeqW Go.Proofs.Tryz.prog (fun x:Sl=>[x.v]) xs g (fun _ h1=>Ext h h1))
  (H:∀ h' r,Ext h h'→Gw h.size h' r 1 (xs.map Sl.v)→Q r h'):(Zn g).wp h Q:=by
 unfold Zn Ka
 refine KJ (Zu (fun h1 e1 s1 g1=>?_))
 refine KJ (KNB (Yb:=fun x7=>ldL ⟨h.size,0,none⟩>>=fun r=>bdL Ze 1 #[(x7:Sl).v]>>=fun y=>apL Ze 1 24 (#[.slice none 0 0]:Array Value) r y>>=fun r2=>stV ⟨h.size,0,none⟩ ((r2:Sl).v)>>=fun _=>M.pure 0) (fun _ _=>rfl) hg (xs:=xs)
  (fun i hh=>Ext h hh∧(∃ r,hh[h.size]?=some (.cells #[(r:Sl).v] X5 (0,0))∧Gw (h.size+3) hh r 1 ((xs.take i).map Sl.v))∧hh[h1.size]?=some (.deferred (some []))∧h.size+3≤hh.size) (fun _ h1=>Ext h h1) ?_ (fun i hh hJ=>hJ.1) hseq (fun r=>?_) (fun i hi h2 o hJ ho=>?_) (fun h2 hJ=>?_))
 ·rintro i h2 h3 ⟨E,⟨r,hr,G⟩,hd,hs⟩ u
  refine ⟨E.upd u (by omega),⟨r,(u.ne _ (by omega)).trans hr,G.same (fun k hk=>u.ne k (by have:=(G.lt hk).2; omega))⟩,(u.ne _ (by omega)).trans hd,by rw [u.size]; exact hs⟩
 ·have e2:=Ext.push h1 (.deferred (some []))
  have e3:=Ext.push (h1.push (.deferred (some []))) (N1 r .ready none)
  refine ⟨(e1.trans e2).trans e3,⟨Sl.nil,(e2.trans e3).blk g1,Gw.nil _ _ _⟩,e3.blk ZJ,?_⟩
  simp; omega
 ·obtain ⟨E,⟨r,hr,G⟩,hd,hs⟩:=hJ
  refine UO (n:=r) (by rw [KP hr]; rfl) (KMM G (by omega) (by simp; omega) (fun h3 r3 G3 s3 same3=>?_))
  have hno:∀ k,k < h.size+3→¬ Sl.on r k:=fun k hk ho=>by have:=(G.lt ho).2; omega
  have hr3:=(same3 h.size (by omega) (hno _ (by omega))).trans hr
  refine NF (x:=r.v) (by rw [KP hr3]; rfl) (ZS hr3) (KB3 r3) (KF ?_)
  have u4:=Upd.hset h3 h.size 0 r3.v
  have g4:=KK3 (u:=r3.v) hr3
  generalize hset h3 ⟨h.size,0,none⟩ r3.v=h4 at u4 g4 ⊢
  refine ⟨(u4.ne _ (by omega)).trans ((same3 _ (by omega) (hno _ (by omega))).trans ho),rfl,?_,⟨r3,g4,?_⟩,(u4.ne _ (by omega)).trans ((same3 _ (by omega) (hno _ (by omega))).trans hd),by rw [u4.size]; omega⟩
  ·refine ⟨by rw [u4.size]; have:=E.size; omega,fun k hk=>(u4.ne k (by omega)).trans ((same3 k (by omega) (hno k (by omega))).trans (E.same k hk))⟩
  ·rw [List.take_succ_eq_append_getElem hi,List.map_append]
   exact G3.same (fun k hk=>u4.ne k (by have:=(G3.lt hk).2; omega))
 ·obtain ⟨E,⟨r,hr,G⟩,hd,hs⟩:=hJ
  rw [List.take_length] at G
  refine UO (n:=r) (by rw [KP hr]; rfl) ⟨hd,KF (KF ?_)⟩
  have u3:=Upd.set_ h2 h1.size (.deferred none)
  exact H _ r (E.upd u3 (by omega)) ((G.same (fun k hk=>u3.ne k (by have:=(G.lt hk).2; omega))).weak (by omega))
def KJ0 (n:Nat):Prop:=∀ {α:Type} {sl:α→Sl} {lo:Nat} {h:Heap} {Q:Unit→Heap→Prop} {r:Sl} {T:Heap→Prop} {cmp:Value} {key:α→Vl} {ss:List α},ss.length=n→Cmpr sl r T cmp key ss→T h→Gw lo h r 1 (ss.map (vv sl)) →
 (∀ h' ss',Gw lo h' r 1 (ss'.map (vv sl))→ss'.Perm ss→Srt key ss'→Km (Sl.on r) h h'→Q () h')→(KV r cmp).wp h Q
theorem Cmpr.perm {α:Type} {sl:α→Sl} {r:Sl} {T:Heap→Prop} {cmp:Value} {key:α→Vl} {ss ss':List α} (C:Cmpr sl r T cmp key ss) (p:ss'.Perm ss):Cmpr sl r T cmp key ss' :=
 ⟨C.keep,fun hh hT a b ha hb Q H=>C.call hh hT a b (p.mem_iff.1 ha) (p.mem_iff.1 hb) Q H⟩
theorem KK4 {n:Nat} (hn:n≤20):KJ0 n:=by
 intro α sl lo h Q r T cmp key ss hlen C hT G H
 unfold KV Zd
 have hrl:=G.len
 rw [List.length_map,Nat.mul_one] at hrl
 refine KJ (M.loop_inv (fun (t:Int × Int) hh=>∃ ss',Gw lo hh r 1 (ss'.map (vv sl))∧ss'.Perm ss∧Km (Sl.on r) h hh∧(t=(0,20)∨(t=(20,40)∧n=20∧Srt key ss'))) (fun t _=>(40 - t.1).toNat) ?_ ⟨ss,G,List.Perm.refl _,Km.refl _ _,.inl rfl⟩)
 rintro t hh ⟨ss',G1,hp,K1,ht⟩ self hself
 have hl':=hp.length_eq
 have last:∀ h2 ss2,Gw lo h2 r 1 (ss2.map (vv sl))→ss2.Perm ss→Srt key ss2→Km (Sl.on r) h h2→(M.loop (Kh r (r.len:Int) cmp) 20).wp h2 (fun _ h'=>(M.pure ():M Unit).wp h' Q):=by
  intro h2 ss2 G2 p2 s2 K2
  refine M.loop_inv (fun (t:Int) hh=>t=20∧hh=h2) (fun _ _=>0) ?_ ⟨rfl,rfl⟩
  rintro t hh ⟨rfl,rfl⟩ self2 _
  unfold Kh
  exact iteF (decide_eq_false (by omega)) (KF (KF (H _ _ G2 p2 s2 K2)))
 unfold Z8
 rcases ht with rfl | ⟨rfl,h20,hs⟩
 ·dsimp only
  refine KZ (fun hc=>?_) (fun hc=>?_)
  ·have h20:n=20:=by have:=of_decide_eq_true hc; omega
   have hi:=KAk (pre:=[]) (mid:=ss') (post:=[]) (Q:=fun _ h2=>(self (20,IntKind.wrap .i64 (20+20))).wp h2 (fun _ h'=>(M.pure ():M Unit).wp h' Q)) (C.perm hp) (C.keep _ _ hT K1) (by simpa using G1) (fun p hp=>hp) (by simp; omega)
    (fun h2 mid' G2 p2 s2 K2=>hself _ _ ⟨mid',by simpa using G2,p2.trans hp,K1.trans K2,.inr ⟨by rw [w64 (by omega) (by omega)]; rfl,h20,s2⟩⟩ (by decide))
   rw [show ((([]:List α).length:Nat):Int)=0 from rfl,show (((([]:List α).length+ss'.length:Nat)):Int)=20 by rw [hl',hlen,h20]; rfl] at hi
   exact KJ hi
  ·have hlt:n < 20:=by have:=of_decide_eq_false hc; omega
   have hi:=KAk (pre:=[]) (mid:=ss') (post:=[]) (Q:=fun _ h2=>(M.loop (Kh r (r.len:Int) cmp) 20).wp h2 (fun _ h'=>(M.pure ():M Unit).wp h' Q)) (C.perm hp) (C.keep _ _ hT K1) (by simpa using G1) (fun p hp=>hp) (by simp; omega)
    (fun h2 mid' G2 p2 s2 K2=>last _ _ (by simpa using G2) (p2.trans hp) s2 (K1.trans K2))
   rw [show ((([]:List α).length:Nat):Int)=0 from rfl,show (((([]:List α).length+ss'.length:Nat)):Int)=(r.len:Int) by simp; omega] at hi
   exact KJ hi
 ·dsimp only
  refine iteF (decide_eq_false (by omega)) ?_
  have hi:=KAk (pre:=ss') (mid:=[]) (post:=[]) (Q:=fun _ h2=>(M.loop (Kh r (r.len:Int) cmp) 20).wp h2 (fun _ h'=>(M.pure ():M Unit).wp h' Q)) (C.perm hp) (C.keep _ _ hT K1) (by simpa using G1) (fun p hp=>by cases hp) (by simp; omega)
   (fun h2 mid' G2 p2 s2 K2=>last _ ss' (by have e:=List.perm_nil.1 p2; subst e; simpa using G2) hp hs (K1.trans K2))
  rw [show ((ss'.length:Nat):Int)=20 by omega,show (((ss'.length+([]:List α).length:Nat)):Int)=(r.len:Int) by simp; omega] at hi
  exact KJ hi
end Gx
namespace Gx
open Go Go.Proofs Go.Shelf Go.RowKit Go.Lib
set_option linter.unusedVariables false
set_option linter.unusedSimpArgs false
set_option maxRecDepth 100000
theorem KGf {h:Heap} {Q:Sl→Heap→Prop} {n:Nat} (hn:n≤1099511627776) (hq:∀ h' r,Ext h h'→Gw h.size h' r 4 []→Q r h'):(ZI Sl.nil (n:Int)).wp h Q:=by
 unfold ZI
 refine iteF (by simp) ?_
 unfold ZP
 have e:IntKind.wrap .i64 ((n:Int) - IntKind.wrap .i64 ((Sl.nil.cap:Int) - (Sl.nil.len:Int)))=(n:Int):=by
  show IntKind.wrap .i64 ((n:Int) - IntKind.wrap .i64 (0 - 0))=_
  rw [w64 (n:=0 - 0) (by omega) (by omega),w64 (by omega) (by omega)]
  omega
 rw [e]
 refine KZ (fun hc=>?_) (fun hc=>KF (hq _ _ (Ext.refl h) (Gw.nil _ _ _)))
 have hc:0 < n:=by have:=of_decide_eq_true hc; omega
 refine KGI (by omega) (by show (0:Int)≤((0:Nat):Int); omega) (by show ((0:Nat):Int)≤((0:Nat):Int); omega) ?_
 refine KJ ⟨by omega,by omega,by omega,_,rfl,?_⟩
 unfold apGo
 have h0:¬ ((⟨if Sl.nil.cap=(0:Int).toNat then Sl.nil.base else Sl.nil.base.map (·.add ((0:Int).toNat * 4)),(Sl.nil.cap:Int).toNat - (0:Int).toNat,Sl.nil.cap - (0:Int).toNat⟩:Sl).len+(n:Int).toNat≤(⟨if Sl.nil.cap=(0:Int).toNat then Sl.nil.base else Sl.nil.base.map (·.add ((0:Int).toNat * 4)),(Sl.nil.cap:Int).toNat - (0:Int).toNat,Sl.nil.cap - (0:Int).toNat⟩:Sl).cap):=by
  show ¬ (0+(n:Int).toNat≤0)
  omega
 rw [if_neg h0]
 refine ⟨by show (0+(n:Int).toNat) * 56≤_; omega,by show 0+(n:Int).toNat≤_; omega,[],rfl,.inl rfl,fun cap hcap=>?_⟩
 have hcap':0+(n:Int).toNat≤cap:=hcap
 refine KGI (by omega) (by show (0:Int)≤((0:Nat):Int); omega) (by show ((0:Nat):Int)≤(cap:Int); omega) ?_
 refine KF (hq _ _ (Ext.push _ _) (.inr ⟨h.size,_,_,?_,Nat.le_refl _,ZJ,?_,Nat.zero_le _,rfl,fun j v hj=>by cases hj⟩))
 ·show (if cap=(0:Int).toNat then _ else _)=_
  split <;> rfl
 ·simp [NY]
  show n * 4+(cap - (0+n)) * 4=cap * 4
  omega
def NO (L:List (List Vl)):List Vl:=L.flatten
theorem KAl {L:List (List Vl)} {k:Nat} (hk:k < L.length):NO (L.take (k+1))=NO (L.take k)++L[k]:=by
 unfold NO
 rw [List.take_succ_eq_append_getElem hk,List.flatten_append]
 simp
theorem KFs (L:List (List Vl)) (k:Nat):(NO (L.take k)).length≤(NO L).length:=by
 unfold NO
 conv=>rhs; rw [← List.take_append_drop k L,List.flatten_append,List.length_append]
 omega
theorem KER {S:Nat→Prop} {h:Heap} {Q:Sl→Heap→Prop} {lo:Nat} {x:Sl} {ss:List Sl} {L:List (List Vl)} (G:Gw lo h x 1 (ss.map Sl.v)) (hsL:ss.length=L.length) (hS:∀ b,S b→b < h.size) (hr:∀ k (h1:k < ss.length) (h2:k < L.length),VsRepS S h ss[k] L[k])
  (hL:(NO L).length≤1000000000) (hl:L.length≤1000000000) (H:∀ h' r css,Ext h h'→VGw h.size S h' r css (NO L)→Q r h'):(ZC x).wp h Q:=by
 have hxl:x.len=L.length:=by have:=G.len; rw [List.length_map,Nat.mul_one] at this; omega
 have cell:∀ {h1:Heap},Ext h h1→∀ {k:Nat} (hk:k < L.length),∃ b,x.base=some ⟨b,0,none⟩∧KO h1 ⟨b,k,none⟩=some (ss[k]'(by omega)).v:=fun e k hk =>
  (G.ext e).cell (by rw [List.getElem?_map,List.getElem?_eq_getElem (by omega)]; rfl)
 unfold ZC
 refine M.loop_inv (fun (t:Int × Int) h'=>h'=h∧∃ k:Nat,t=(((NO (L.take k)).length:Int),(k:Int))∧k≤L.length) (fun t _=>((L.length:Int) - t.2).toNat) ?_ ⟨rfl,0,by simp [NO],Nat.zero_le _⟩
 rintro t h' ⟨rfl,k,rfl,hk⟩ self hself
 unfold Zm
 rw [hxl]
 dsimp only
 refine KZ (fun hlt=>?_) (fun hge=>?_)
 ·have hlt:k < L.length:=by have:=of_decide_eq_true hlt; omega
  obtain ⟨b,hb,hc⟩:=cell (Ext.refl _) hlt
  refine Gi (by omega) (by rw [hxl]; omega) hb ?_
  rw [ZE,Nat.zero_add]
  refine UO (n:=ss[k]'(by omega)) (by rw [show (k:Int).toNat * 1=k by omega]; exact hc) ?_
  have h2:=(hr k (by omega) hlt).len
  have h3:=KFs L (k+1)
  have e:IntKind.wrap .i64 (((NO (L.take k)).length:Int)+((ss[k]'(by omega)).len:Int))=(((NO (L.take (k+1))).length:Nat):Int):=by
   rw [KAl hlt,List.length_append] at h3 ⊢
   rw [w64 (by omega) (by omega)]
   omega
  rw [e]
  refine iteF (by simp) ?_
  rw [w64 (by omega) (by omega)]
  exact hself _ _ ⟨rfl,k+1,by simp,by omega⟩ (by dsimp only; omega)
 ·have hge:k=L.length:=by have:=of_decide_eq_false hge; omega
  subst hge
  rw [List.take_length]
  refine KJ (KGf (by omega) (fun h1 r1 e1 g1=>?_))
  refine M.loop_inv (fun (t:Sl × Int) h2=>Ext h' h2∧∃ (k:Nat) (css:List (Array Value)),t.2=(k:Int)∧k≤L.length∧VGw h'.size S h2 t.1 css (NO (L.take k))) (fun t _=>((L.length:Int) - t.2).toNat) ?_
   ⟨e1,0,[],rfl,Nat.zero_le _,⟨g1,fun c hc=>(by cases hc),rfl,fun j h1=>(by cases h1)⟩⟩
  rintro ⟨r,t⟩ h2 ⟨E,k,css,hkk,hk,hg⟩ self hself
  dsimp only at hkk hg
  subst hkk
  unfold Zl
  refine KZ (fun hlt=>?_) (fun hge=>?_)
  ·have hlt:k < L.length:=by have:=of_decide_eq_true hlt; omega
   obtain ⟨b,hb,hc⟩:=cell E hlt
   refine Gi (by omega) (by rw [hxl]; omega) hb ?_
   rw [ZE,Nat.zero_add]
   refine UO (n:=ss[k]'(by omega)) (by rw [show (k:Int).toNat * 1=k by omega]; exact hc) ?_
   have hk2:=hr k (by omega) hlt
   obtain ⟨css',w4,hcl,hrep,hrd⟩:=hk2.css
   have h3:=KFs L (k+1)
   rw [KAl hlt,List.length_append] at h3
   refine KJ (KDM (l':=L[k]) (css':=css') hg E.size (fun b hb=>⟨by have:=hS b hb; have:=E.size; omega,fun ho=>by have:=(hg.gw.lt ho).2; have:=hS b hb; omega⟩) w4 hcl hk2.len (E.reads hrd) (fun j h1' h2'=>(hrep j h1' h2').same (fun b hb=>E.same b (hS b hb))) (by omega) (fun h3 r3 G3 hs3 same3 on3=>?_))
   rw [w64 (by omega) (by omega)]
   refine hself _ _ ⟨⟨by have:=E.size; omega,fun i hi=>(same3 i (by have:=E.size; omega) (fun ho=>by have:=(hg.gw.lt ho).2; omega)).trans (E.same i hi)⟩,k+1,css++css',by simp,by omega,?_⟩ (by dsimp only; omega)
   rw [KAl hlt]
   exact G3
  ·have hge:k=L.length:=by have:=of_decide_eq_false hge; omega
   subst hge
   rw [List.take_length] at hg
   exact KF (H _ _ css E hg)
theorem KGg {v:Vl} {h:Heap} {Q:Array Value × Int→Heap→Prop} {c:Array Value} (hv:VRep h v c) (hw:wt v≤1099511627776) (H:∀ h' c',Ext h h'→Zp (h.size≤·) h' (if mayV 8 v=true then v else vl0) c'→Q (c',qO v) h'):(GS c).wp h Q:=by
 unfold GS
 have hc:=hv.size
 refine Zu (fun h1 e1 s1 g1=>Zu (fun h2 e2 s2 g2=>?_))
 have g1':=e2.blk g1
 refine ldR g1' hc (KJ (KBm (hv.ext (e1.trans e2)) (fun h3 e3=>?_)))
 have E3:=(e1.trans e2).trans e3
 have g2':=e3.blk g2
 by_cases hm:mayV 8 v=true
 ·have hk:qO v=0:=by unfold qO; rw [if_pos hm]
  rw [hk] at H ⊢
  rw [if_pos hm] at H
  refine iteF rfl (ldR (e3.blk g1') hc (KJ (qw _ v (Nat.lt_succ_self _) (hv.ext E3) hw (fun h4 c4 e4 V4=>ZQ V4.size (stR (e4.blk g2') (by rw [V4.size]; exact Nat.le_refl 4) V4.to.one (fun h5 u5 g5=>?_))))))
  rw [KS (by rw [Array.length_toList,V4.size]; rfl)] at g5
  have hE:=E3.size
  refine ldR g5 V4.size (KF (H h5 c4 ((E3.trans e4).upd u5 (by omega)) ?_))
  exact (V4.same (fun k hk=>u5.ne k (by have:=e3.size; omega))).mono (fun k hk=>by omega)
 ·have hk:qO v=20:=by unfold qO; rw [if_neg hm]
  rw [hk] at H ⊢
  rw [if_neg hm] at H
  refine iteT rfl (ZQ rfl (stR g2' (Nat.le_refl 4) (ZR 0 0 [] Sl.nil) (fun h5 u5 g5=>?_)))
  rw [KS rfl] at g5
  exact ldR g5 rfl (KF (H h5 _ (E3.upd u5 (by have:=e1.size; omega)) (Xw _ _)))
end Gx
namespace Gx
open Go Go.Proofs Go.Shelf Go.RowKit Go.Lib
set_option linter.unusedVariables false
set_option linter.unusedSimpArgs false
set_option maxRecDepth 100000
theorem KH2 {S:Nat→Prop} {h:Heap} {k n:Int} {l:List Vl} {x:Sl} (hk:I64 k) (hn:I64 n) (hl:VsRepS S h x l):Zp S h (.mk k n [] l) (ZO k n [] x) :=
 Zp.eq.2 ⟨x,rfl,hk,hn,by decide,hl⟩
def KAx (l:List Vl) (n:Nat):List (List Vl):=(List.range n).map (qQ l)
def kOf (p:List Vl):Vl:=p.headD vl0
abbrev vzM:Array Value:=#[.int .i64 0,.int .i64 0,.string ByteArray.empty,.slice none 0 0]
theorem KH3 {m:List Vl} (h:0 < m.length):m[0]=kOf m:=by cases m with | nil=>cases h | cons a r=>rfl
theorem KBr (l:List Vl):∀ n,(KAx l n).flatten=l.take (2 * n)
 | 0=>by simp [KAx]
 | n+1=>by
  have:=KBr l n
  unfold KAx at this ⊢
  rw [List.range_succ,List.map_append,List.flatten_append,this]
  simp only [List.map_cons,List.map_nil,List.flatten_cons,List.flatten_nil,List.append_nil,qQ]
  rw [show 2 * (n+1)=2 * n+2 by omega,List.take_add]
theorem Ny:∀ a b:List Vl,wt.wts (a++b)=wt.wts a+wt.wts b
 | [],b=>by simp [wt.wts]
 | v::a,b=>by rw [List.cons_append,wt.wts,wt.wts,Ny a b]; omega
theorem KJN {ps qs:List (List Vl)} (p:ps.Perm qs):wt.wts ps.flatten=wt.wts qs.flatten:=by
 induction p with
 | nil=>rfl
 | cons x _ ih=>rw [List.flatten_cons,List.flatten_cons,Ny,Ny,ih]
 | swap x y l=>simp only [List.flatten_cons,Ny]; omega
 | trans _ _ h1 h2=>exact h1.trans h2
inductive MapRes (l:List Vl):Vl→Int→Prop
 | odd:l.length % 2=1→MapRes l vl0 1
 | twice (ps:List (List Vl)):l.length % 2=0→ps.Perm (KAx l (l.length / 2))→ps.Pairwise (fun p q=>¬ cmpV (kOf q) (kOf p) < 0)→(∃ i,∃ h:i+1 < ps.length,kOf ps[i]=kOf ps[i+1])→MapRes l vl0 5
 | made (ps:List (List Vl)):l.length % 2=0→ps.Perm (KAx l (l.length / 2))→ps.Pairwise (fun p q=>¬ cmpV (kOf q) (kOf p) < 0)→(∀ i,∀ h:i+1 < ps.length,kOf ps[i]≠kOf ps[i+1])→MapRes l (if mayV 8 (.mk 5 0 [] ps.flatten)=true then .mk 5 0 [] ps.flatten else vl0) (qO (.mk 5 0 [] ps.flatten))
abbrev It:=Sl × List Vl
abbrev KNC (a:It):Vl:=kOf a.2
theorem KND {l:List Vl} {i:Nat} (hi:2 * i+1 < l.length):(qQ l i).length=2:=by simp [qQ]; omega
theorem KFA {h:Heap} {Q:Int→Heap→Prop} {x y:Sl} {l m:List Vl} (hx:VsRep h x l) (hy:VsRep h y m) (h1:0 < l.length) (h2:0 < m.length) (H:∀ h',Ext h h'→Q (cmpV (kOf l) (kOf m)) h'):(qu x y).wp h Q:=by
 unfold qu
 have e1:kOf l=l[0]:=by unfold kOf; cases l with | nil=>cases h1 | cons a r=>rfl
 have e2:kOf m=m[0]:=by unfold kOf; cases m with | nil=>cases h2 | cons a r=>rfl
 rw [e1,e2] at H
 refine KAi hx h1 rfl (fun a cs ha hc hv=>KAi hy h2 rfl (fun a2 cs2 ha2 hc2 hv2=>WF ha hc (WF ha2 hc2 (KJ (XW hv hv2 (fun h' e=>KF (H h' e)))))))
theorem KH4 {l:List Vl} {x:Sl} {h:Heap} {Q:Array Value × Int→Heap→Prop} (hx:VsRep h x l) (hn:KJ0 (l.length / 2)) (hw:wt.wts l≤1000000000)
  (H:∀ h' c v e,MapRes l v e→Ext h h'→Zp (h.size≤·) h' v c→Q (c,e) h'):(Nj x).wp h Q:=by
 have hxl:=hx.len
 have hll:=KBn l
 unfold Nj
 refine Zu (fun h1 e1 s1 g1=>?_)
 refine KZ (fun hodd=>?_) (fun heven=>?_)
 ·have hodd:l.length % 2=1:=by
   rw [eqI,decide_eq_true_iff,Int.tmod_eq_emod_of_nonneg (by omega)] at hodd
   omega
  refine ZQ rfl (stR g1 (Nat.le_refl 4) (ZR 0 0 [] Sl.nil) (fun h2 u2 g2=>?_))
  rw [KS rfl] at g2
  exact ldR g2 rfl (KF (H h2 _ _ _ (.odd hodd) (e1.upd u2 (Nat.le_refl _)) (Xw _ _)))
 have heven:l.length % 2=0:=by
  rw [eqI,decide_eq_false_iff_not,Int.tmod_eq_emod_of_nonneg (by omega)] at heven
  omega
 unfold ZV
 refine KJ (Zu (fun h2 e2 s2 g2=>Zu (fun h3 e3 s3 g3=>Jx (n:=2) (by rw [KP g3]; rfl) (iteF rfl (KF ?_)))))
 have E3:=(e1.trans e2).trans e3
 have g2':=e3.blk g2
 have hpl:(qP x).length=l.length / 2:=by rw [Nx]; omega
 refine KJ (KEQ (xs:=qP x) (fun l h=>by cases h) (by omega) (KH0 hx.cap (by omega) (fun i h4 e4=>⟨by rw [KP (e4.blk g2')]; rfl,by rw [KP (e4.blk g3)]; rfl⟩)) (fun h4 r e4 G4=>?_))
 have E4:=E3.trans e4
 obtain ⟨its,hits⟩:∃ its:List It,its=(List.range (l.length / 2)).map (fun i=>(KGd x i,qQ l i)):=⟨_,rfl⟩
 have hitl:its.length=l.length / 2:=by rw [hits]; simp
 have hit:∀ a ∈ its,VsRepS (· < h.size) h a.1 a.2∧a.2.length=2:=fun a ha=>by
  rw [hits] at ha
  obtain ⟨i,hi,rfl⟩:=List.mem_map.1 ha
  have hi:=List.mem_range.1 hi
  exact ⟨KHz hx.lt (by omega),KND (by omega)⟩
 have hrow:(qP x).map Sl.v=its.map (vv Prod.fst):=by
  rw [hits,List.map_map]
  unfold qP
  rw [List.map_map,show (x.len+1) / 2=l.length / 2 by omega]
  rfl
 rw [hrow] at G4
 have hron:∀ b,Sl.on r b→h.size≤b:=fun b hb=>by have:=(G4.lt hb).2; have:=E3.size; omega
 have C:Cmpr (α:=It) Prod.fst r (fun hh=>Ext h hh) (.func (.func qL) #[] #[]) KNC its:=by
  refine ⟨fun hh h' e K=>⟨Nat.le_trans e.size K.size,fun i hi=>(K.same i (by have:=e.size; omega) (fun ho=>by have:=hron i ho; omega)).trans (e.same i hi)⟩,fun hh e p q hp hq Q' HQ=>?_⟩
  refine KHQ KCB (KDG p.1 q.1) (KFA ((hit p hp).1.to.ext e) ((hit q hq).1.to.ext e) (by rw [(hit p hp).2]; decide) (by rw [(hit q hq).2]; decide) HQ)
 refine KJ (hn hitl C E4 G4 (fun h5 ps G5 hperm hs K5=>?_))
 have E5:Ext h h5:=C.keep _ _ E4 K5
 have hpsl:ps.length=l.length / 2:=by rw [hperm.length_eq,hitl]
 have hps:∀ a ∈ ps,VsRepS (· < h.size) h a.1 a.2∧a.2.length=2:=fun a ha=>hit a (hperm.mem_iff.1 ha)
 have g5:h5[h.size]?=some (.cells vzM KB (0,0)):=K5.blk ((e2.trans (e3.trans e4)).blk g1) (fun ho=>by have:=(G4.lt ho).2; have:=(e2.trans e3).size; omega)
 have hpermL:(ps.map Prod.snd).Perm (KAx l (l.length / 2)):=by
  have:=hperm.map Prod.snd
  rw [hits,List.map_map] at this
  exact this
 have hsL:(ps.map Prod.snd).Pairwise (fun p q=>¬ cmpV (kOf q) (kOf p) < 0):=by
  rw [List.pairwise_map]
  exact hs
 have hrl:r.len=ps.length:=by have:=G5.len; rw [List.length_map,Nat.mul_one] at this; exact this.symm
 refine M.loop_inv (fun (t:Int) hh=>∃ i:Nat,t=(i:Int)∧1≤i∧Ext h5 hh∧∀ j,∀ h:j+1 < ps.length,j+1 < i→kOf (ps[j]).2≠kOf (ps[j+1]).2) (fun t _=>(((ps.length:Nat):Int)+1 - t).toNat) ?_ ⟨1,rfl,Nat.le_refl _,Ext.refl _,fun j h1 h2=>by omega⟩
 rintro t hh ⟨i,rfl,hi1,E,hne⟩ self hself
 have EE:=E5.trans E
 unfold Ni
 refine KZ (fun hc=>?_) (fun hc=>?_)
 ·have hil:i < ps.length:=by have:=of_decide_eq_true hc; omega
  rw [w64 (by omega) (by omega),show ((i:Int) - 1)=((i - 1:Nat):Int) by omega]
  refine (G5.ext E).ix1 (i:=i - 1) (v:=(ps[i - 1]'(by omega)).1.v) (by rw [List.getElem?_map,List.getElem?_eq_getElem (by omega)]; rfl) rfl (fun b hb hc1 hf1=>?_)
  refine (G5.ext E).ix1 (i:=i) (v:=(ps[i]).1.v) (by rw [List.getElem?_map,List.getElem?_eq_getElem hil]; rfl) rfl (fun b2 hb2 hc2 hf2=>?_)
  obtain ⟨r1,l1⟩:=hps _ (List.getElem_mem (show i - 1 < ps.length by omega))
  obtain ⟨r2,l2⟩:=hps _ (List.getElem_mem hil)
  refine UO hc1 (KAi (i:=0) (r1.to.ext EE) (by omega) rfl (fun a cs ha hca hv=>WF ha hca (UO hc2 (KAi (i:=0) (r2.to.ext EE) (by omega) rfl (fun a2 cs2 ha2 hca2 hv2=>WF ha2 hca2 (KJ (KGW hv hv2 (fun h6 e6=>?_))))))))
  have k1:=KH3 (m:=(ps[i - 1]'(by omega)).2) (by omega)
  have k2:=KH3 (m:=(ps[i]).2) (by omega)
  rw [k1,k2]
  refine KZ (fun hsame=>?_) (fun hdiff=>?_)
  ·have heq:=(KDQ _ _).1 (of_decide_eq_true hsame)
   refine ZQ rfl (stR (e6.blk (E.blk g5)) (Nat.le_refl 4) (ZR 0 0 [] Sl.nil) (fun h7 u7 g7=>?_))
   rw [KS rfl] at g7
   refine ldR g7 rfl (KF (H h7 _ _ _ (.twice (ps.map Prod.snd) heven hpermL hsL ⟨i - 1,by rw [List.length_map]; omega,?_⟩) ((EE.trans e6).upd u7 (Nat.le_refl _)) (Xw _ _)))
   simp only [List.getElem_map,show i - 1+1=i by omega]
   exact heq
  ·rw [w64 (by omega) (by omega)]
   refine hself _ _ ⟨i+1,by omega,by omega,E.trans e6,fun j hj hj2=>?_⟩ (by omega)
   by_cases hji:j+1 < i
   ·exact hne j hj hji
   ·have:j=i - 1:=by omega
    subst this
    intro heq
    have:=of_decide_eq_false hdiff
    simp only [show i - 1+1=i by omega] at heq
    exact this ((KDQ _ _).2 heq)
 ·have hge:ps.length≤i:=by have:=of_decide_eq_false hc; omega
  have hflat:wt.wts (NO (ps.map Prod.snd))=wt.wts l:=by
   unfold NO
   rw [KJN hpermL,KBr,List.take_of_length_le (by omega)]
  have hfl:=KBn (NO (ps.map Prod.snd))
  have hrow5:ps.map (vv Prod.fst)=(ps.map Prod.fst).map Sl.v:=by rw [List.map_map]; rfl
  have G6:=G5.ext E
  rw [hrow5] at G6
  refine KJ (KER (S:=(· < h.size)) (ss:=ps.map Prod.fst) (L:=ps.map Prod.snd) G6 (by simp) (fun b hb=>by have:=EE.size; omega) (fun k hk1 hk2=>?_) (by omega) (by rw [List.length_map]; omega) (fun h6 r6 css e6 V6=>?_))
  ·rw [List.getElem_map,List.getElem_map]
   exact ((hps _ (List.getElem_mem _)).1).same (fun b hb=>EE.same b hb) (fun b hb=>hb)
  ·have hl6:(NO (ps.map Prod.snd)).length≤1000000000:=by omega
   have R6:VRep h6 (.mk 5 0 [] (NO (ps.map Prod.snd))) (ZO 5 0 [] r6):=(KH2 ⟨by decide,by decide⟩ ⟨by decide,by decide⟩ (V6.rep_ (by omega))).to
   refine KJ (KGg R6 (by rw [wt]; simp only [List.length_nil]; omega) (fun h7 c7 e7 V7=>?_))
   have E7:=(EE.trans e6).trans e7
   have g7:=e7.blk (e6.blk (E.blk g5))
   refine ZQ V7.size (stR g7 (by rw [V7.size]; exact Nat.le_refl 4) V7.to.one (fun h8 u8 g8=>?_))
   rw [KS (by rw [Array.length_toList,V7.size]; rfl)] at g8
   have hz6:=(EE.trans e6).size
   have hz5:=(E.trans e6).size
   have hlt:h.size < h5.size:=ND g5
   refine ldR g8 V7.size (KF (H h8 c7 _ _ (.made (ps.map Prod.snd) heven hpermL hsL (fun j hj=>?_)) (E7.upd u8 (Nat.le_refl _)) ?_))
   ·rw [List.length_map] at hj
    simp only [List.getElem_map]
    exact hne j hj (by omega)
   ·exact (V7.same (fun k hk=>u8.ne k (by omega))).mono (fun k hk=>by omega)
end Gx
namespace Gx
open Go Go.Proofs Go.Shelf Go.RowKit Go.Lib
set_option linter.unusedVariables false
set_option maxRecDepth 100000
end Gx
namespace Gx
open Go Go.Proofs Go.Shelf Go.RowKit Go.Lib
set_option linter.unusedVariables false
set_option maxRecDepth 100000
theorem Srt.le {α:Type} {key:α→Vl} {l:List α} (H:Srt key l) {i j:Nat} (hij:i≤j) (hj:j < l.length):¬ cmpV (key l[j]) (key (l[i]'(by omega))) < 0:=by
 rcases Nat.lt_or_ge i j with h | h
 ·exact List.pairwise_iff_getElem.1 H i j (by omega) hj h
 ·have:i=j:=by omega
  subst this
  rw [z8]; decide
theorem Srt.take {α:Type} {key:α→Vl} {l:List α} (H:Srt key l) (n:Nat):Srt key (l.take n):=List.Pairwise.sublist (List.take_sublist _ _) H
theorem Srt.drop {α:Type} {key:α→Vl} {l:List α} (H:Srt key l) (n:Nat):Srt key (l.drop n):=List.Pairwise.sublist (List.drop_sublist _ _) H
theorem Srt.one {α:Type} (key:α→Vl) (x:α):Srt key [x]:=List.pairwise_singleton _ _
section
variable {α:Type} {sl:α→Sl} {lo:Nat} {r:Sl} {T:Heap→Prop} {cmp:Value} {key:α→Vl} {ss:List α}
end
end Gx
namespace Gx
open Go Go.Proofs Go.Shelf Go.RowKit Go.Lib
set_option linter.unusedVariables false
set_option maxRecDepth 100000
section
variable {α:Type} {sl:α→Sl} {lo:Nat} {r:Sl} {T:Heap→Prop} {cmp:Value} {key:α→Vl} {ss:List α}
theorem KFt {β:Type} {c d:Prop} [Decidable c] [Decidable d] {h:Heap} {Q:β→Heap→Prop} {f:Bool→M β} (H:(f (decide (c∧d))).wp h Q):(M.ite (decide c) (M.pure (decide d)) (M.pure false)>>=f).wp h Q:=by
 refine KHR (fun hc=>Zc ?_) (fun hc=>Zc ?_)
 ·have hc:=of_decide_eq_true hc
  rwa [show decide d=decide (c∧d) from decide_eq_decide.2 ⟨fun hd=>⟨hc,hd⟩,fun h=>h.2⟩]
 ·have hc:=of_decide_eq_false hc
  rwa [show false=decide (c∧d) from (decide_eq_false (fun h=>hc h.1)).symm]
end
end Gx
namespace Gx
open Go Go.Proofs Go.Shelf Go.RowKit Go.Lib
set_option linter.unusedVariables false
set_option maxRecDepth 100000
section
variable {α:Type} {sl:α→Sl} {lo:Nat} {r:Sl} {T:Heap→Prop} {cmp:Value} {key:α→Vl} {ss:List α}
def Runs (key:α→Vl) (bs:Nat) (D:List (List α)):Prop:=∀ b ∈ D,b.length=bs∧Srt key b
theorem Runs.len {bs:Nat} {D:List (List α)} (H:Runs key bs D):D.flatten.length=D.length * bs:=by
 induction D with
 | nil=>simp
 | cons b D ih =>
  rw [List.flatten_cons,List.length_append,ih (fun c hc=>H c (List.mem_cons_of_mem _ hc)),(H b List.mem_cons_self).1,List.length_cons,Nat.succ_mul]
  omega
theorem Runs.tail {bs:Nat} {D:List (List α)} {b:List α} (H:Runs key bs (b::D)):Runs key bs D:=fun c hc=>H c (List.mem_cons_of_mem _ hc)
end
end Gx
namespace Gx
open Go Go.Proofs Go.Shelf Go.RowKit Go.Lib
set_option linter.unusedVariables false
set_option maxRecDepth 100000
end Gx
namespace Gx
open Go
set_option linter.unusedVariables false
set_option linter.unusedSimpArgs false
end Gx
namespace Gx
open Go Go.Proofs Go.Shelf Go.RowKit Go.Lib
set_option linter.unusedVariables false
set_option linter.unusedSimpArgs false
set_option maxRecDepth 100000
theorem W4.take {a:List (Array Value)} (h:W4 a) (n:Nat):W4 (a.take n):=fun c hc=>h c (List.mem_of_mem_take hc)
theorem W4.drop {a:List (Array Value)} (h:W4 a) (n:Nat):W4 (a.drop n):=fun c hc=>h c (List.mem_of_mem_drop hc)
end Gx
namespace Gx
open Go Go.Proofs Go.Shelf Go.RowKit Go.Lib
set_option linter.unusedVariables false
set_option linter.unusedSimpArgs false
set_option maxRecDepth 100000
theorem KK5 {s:List UInt8} {a b:Nat}:(bs s).extract a b=bs ((s.drop a).take (b - a)):=by
 apply ByteArray.ext
 simp [bs,ByteArray.extract,ByteArray.copySlice]
theorem KGh (l:List UInt8):JG (bs l)=l.map bv:=rfl
theorem KJ1 {β:Type} {h:Heap} {Q:β→Heap→Prop} {s:List UInt8} {a b:Nat} {lo hi:Int} {f:ByteArray→M β} (hl:lo=(a:Int)) (hh:hi=(b:Int)) (h1:a≤b) (h2:b≤s.length) (H:(f (bs ((s.drop a).take (b - a)))).wp h Q):(slS (bs s) lo hi>>=f).wp h Q:=by
 subst hl; subst hh
 refine ⟨_,⟨by omega,by omega,by rw [JL]; omega,rfl⟩,?_⟩
 rw [Int.toNat_natCast,Int.toNat_natCast,KK5]
 exact H
theorem KCL {h:Heap} {Q:Bool→Heap→Prop} {x:Sl} {l:List UInt8} {g:Value} {p:UInt8→Bool} (hx:Bys h x l) (hl:l.length≤4611686018427387904)
  (hg:∀ (c:UInt8) (Q1:Bool→Heap→Prop),Q1 (p c) h→(Gh Go.Proofs.Tryz.prog (fun r:Bool=>.bool r) g [.int .u8 (c.toNat:Int)]).wp h Q1)
  (H:Q (l.any p) h):(ZN x g).wp h Q:=by
 unfold ZN JA
 have hxl:=hx.len
 refine KJ (M.loop_inv (fun (t:Int) h'=>h'=h∧∃ i:Nat,t=(i:Int)∧i≤l.length∧(l.drop i).any p=l.any p) (fun t _=>((l.length:Int) - t).toNat) ?_ ⟨rfl,0,rfl,Nat.zero_le _,by simp⟩)
 rintro t h' ⟨rfl,i,rfl,hi,hd⟩ self hself
 unfold JV
 refine KZ (fun hc=>?_) (fun hc=>?_)
 ·have hlt:i < l.length:=by have:=of_decide_eq_true hc; omega
  rw [List.drop_eq_getElem_cons hlt,List.any_cons] at hd
  obtain ⟨b,hb,KO⟩:=hx.get hlt
  refine Gi (by omega) (by omega) hb (Jx (n:=(l[i].toNat:Int)) ?_ (KJ (hg l[i] _ ?_)))
  ·rw [show (i:Int).toNat * 1=i by omega]; exact KO
  refine KZ (fun ht=>KF (KF ?_)) (fun hf=>?_)
  ·rw [ht] at hd
   rw [show decide ((i:Int) ≥ 0)=l.any p by rw [← hd]; simp]
   exact H
  ·rw [hf,Bool.false_or] at hd
   rw [w64 (by omega) (by omega)]
   exact hself _ _ ⟨rfl,i+1,by simp,by omega,hd⟩ (by omega)
 ·have hge:i=l.length:=by have:=of_decide_eq_false hc; omega
  subst hge
  rw [List.drop_length] at hd
  refine KF (KF ?_)
  rw [show decide ((-1:Int) ≥ 0)=l.any p by rw [← hd]; rfl]
  exact H
def digB (c:UInt8):Bool:=decide (48≤c.toNat) && decide (c.toNat≤57)
theorem KGi {c:UInt8} {h:Heap} {Q:Bool→Heap→Prop} (H:Q (!digB c) h):(qv (c.toNat:Int)).wp h Q:=by
 unfold qv
 refine or_b (c:=decide ((c.toNat:Int) > 57)) (fun _ Q' hq=>KF hq) (KF ?_)
 rw [show (decide ((c.toNat:Int) < 48) || decide ((c.toNat:Int) > 57))=!digB c by
  unfold digB
  by_cases h1:c.toNat < 48
  ·simp [show ((c.toNat:Int) < 48) by omega,show ¬ 48≤c.toNat by omega]
  ·by_cases h2:c.toNat > 57
   ·simp [show ((c.toNat:Int) > 57) by omega,show ¬ c.toNat≤57 by omega]
   ·simp [show ¬ ((c.toNat:Int) < 48) by omega,show ¬ ((c.toNat:Int) > 57) by omega,show 48≤c.toNat by omega,show c.toNat≤57 by omega]]
 exact H
def ErrV (h:Heap):Prop:=∃ t p,KO h ⟨5,0,none⟩=some (.iface t p)
theorem ErrV.ext {h h':Heap} (H:ErrV h) (e:Ext h h'):ErrV h':=by obtain ⟨t,p,hc⟩:=H; exact ⟨t,p,e.cell hc⟩
theorem KGj {t:List UInt8} {h:Heap} {Q:ByteArray→Heap→Prop} (ht:t.length≤281474976710656) (H:∀ h',Ext h h'→Q (bs t) h'):(Zo (bs t)).wp h Q:=by
 unfold Zo
 rw [JL]
 refine KZ (fun h0=>?_) (fun h0=>?_)
 ·have:t=[]:=by have:=eq_of_beq h0; exact List.length_eq_zero_iff.1 (by omega)
  subst this
  exact KF (H _ (Ext.refl _))
 ·have hne:t≠[]:=fun e=>by subst e; exact absurd h0 (by decide)
  have hpos:0 < t.length:=List.length_pos_iff.2 hne
  refine ⟨by omega,by omega,by omega,by omega,?_⟩
  rw [Int.toNat_natCast,Nat.mul_one]
  have e1:=Ext.push h (.cells (zRow #[.int .u8 0] t.length) ZG)
  have g1:(h.push (.cells (zRow #[.int .u8 0] t.length) ZG))[h.size]?=some (.cells (zRow #[.int .u8 0] t.length) ZG (0,0)):=ZJ
  have s1:(h.push (.cells (zRow #[.int .u8 0] t.length) ZG)).size=h.size+1:=Array.size_push _
  generalize h.push (.cells (zRow #[.int .u8 0] t.length) ZG)=h1 at e1 g1 s1 ⊢
  have hz:(zRow #[.int .u8 0] t.length).size=t.length:=NY _ _
  refine ⟨by rw [JL]; exact Nat.le_refl _,?_,?_⟩
  ·intro a ha j hj
   cases ha
   rw [JL] at hj
   rw [ZE,Nat.zero_add]
   refine ⟨⟨(zRow #[.int .u8 0] t.length)[j]'(by omega),?_⟩,ZS g1⟩
   rw [KP g1]; exact Array.getElem?_eq_getElem (by omega)
  show M.wp _ (hsetL h1 ((⟨h.size,0,none⟩:Addr).add 0) (JG (bs t)) 0) Q
  rw [ZE,Nat.zero_add]
  have g2:=zH (o:=0) (JG (bs t)) h1 0 _ g1
  have e2:Ext h (hsetL h1 ⟨h.size,0,none⟩ (JG (bs t)) 0):=e1.hsetL (Nat.le_refl _)
  have s2:=XX (a:=⟨h.size,0,none⟩) (JG (bs t)) h1 0
  have hlen:(JG (bs t)).length=(zRow #[.int .u8 0] t.length).size:=by rw [hz]; simp [JG,bs]
  rw [Nat.add_zero,KS hlen] at g2
  generalize hsetL h1 ⟨h.size,0,none⟩ (JG (bs t)) 0=h2 at g2 e2 s2 ⊢
  refine Gi (b:=⟨h.size,0,none⟩) (by decide) (by show (0:Int) < ((t.length:Nat):Int); omega) rfl (.inr ⟨h.size,_,_,t,?_,rfl,hne,?_,by omega,g2,?_,?_⟩)
  ·rw [ZE]; rfl
  ·rw [List.size_toArray,hlen,hz]; exact Nat.le_refl _
  ·intro j x hx
   rw [List.getElem?_toArray]
   simp [JG,bs,hx]
  ·intro h3 hs3 same3
   refine KF (H _ ⟨by have:=e2.size; omega,fun i hi=>?_⟩)
   rw [same3 i (by omega)]
   exact e2.same i hi
theorem KDR {fn t:List UInt8} {h:Heap} {Q:Option Addr→Heap→Prop} (ht:t.length≤281474976710656) (hv:ErrV h) (H:∀ h' a,Ext h h'→Q (some a) h'):(US (bs fn) (bs t)).wp h Q:=by
 obtain ⟨ty,p,hc⟩:=hv
 unfold US
 refine ⟨_,hc,KJ (KGj ht (fun h1 e1=>KEo (e1.cell hc) ?_))⟩
 refine ⟨_,rfl,KKj (KF (H _ _ (e1.pushed _)))⟩
theorem KGk {fn t:List UInt8} {h:Heap} {Q:Value→Heap→Prop} (ht:t.length≤281474976710656) (hv:ErrV h) (H:∀ h' u x,Ext h h'→Q (.iface u x) h'):(VV (bs fn) (bs t) 10 64 (.iface Kk (.int .i64 1))).wp h Q:=by
 unfold VV
 refine ⟨false,⟨_,_,_,rfl,rfl,rfl⟩,iteF rfl ⟨true,⟨_,_,_,rfl,rfl,rfl⟩,iteT rfl (KJ (KDR ht hv (fun h1 a e1=>KF (H _ _ _ e1))))⟩⟩
def numD (t:List UInt8):List UInt8:=if t.head?=some 45 then t.tail else t
def numP (t:List UInt8):Int × Int :=
 if numD t=[] then (0,10) else if (numD t).all digB=false then (0,10) else if (numD t).head?=some 48∧t≠[48] then (0,10)
 else match Lib.parseIntB 64 t with | .ok n=>(n,0) | _=>(0,7)
def KMN {α:Type}:Lib.NumEnd α→Bool
 | .ok _=>true
 | .range=>true
 | _=>false
theorem KCZ (M:Nat):∀ (r:List UInt8) (acc:Nat),r.all digB=true→KMN (parseUintM M acc r)=true
 | [],acc,_=>by rw [parseUintM]; rfl
 | c::r,acc,h=>by
  rw [List.all_cons,Bool.and_eq_true] at h
  have h1:=h.1
  unfold digB at h1
  rw [Bool.and_eq_true,decide_eq_true_iff,decide_eq_true_iff] at h1
  rw [parseUintM,if_pos h1]
  split
  ·rfl
  ·split
   ·rfl
   ·exact KCZ M r _ h.2
theorem KK6 {c:UInt8}:((c.toNat:Int) == 45)=decide (some c=some (45:UInt8)):=by
 rw [eqI]
 refine decide_eq_decide.2 ⟨fun h=>?_,fun h=>by cases h; rfl⟩
 have:c=45:=UInt8.toNat_inj.1 (by show c.toNat=45; omega)
 rw [this]
theorem KMO {c:UInt8}:((c.toNat:Int) == 48)=decide (some c=some (48:UInt8)):=by
 rw [eqI]
 refine decide_eq_decide.2 ⟨fun h=>?_,fun h=>by cases h; rfl⟩
 have:c=48:=UInt8.toNat_inj.1 (by show c.toNat=48; omega)
 rw [this]
theorem KGl {t:List UInt8} (h1:numD t≠[]) (h2:(numD t).all digB=true):KMN (Lib.parseIntB 64 t)=true:=by
 cases t with
 | nil=>exact absurd rfl h1
 | cons c r =>
  have hd:numD (c::r)=(if c.toNat=43∨c.toNat=45 then r else c::r):=by
   unfold numD
   rw [List.head?_cons,List.tail_cons]
   by_cases h45:c=45
   ·subst h45; rfl
   ·have hn:c.toNat≠45:=fun e=>h45 (UInt8.toNat_inj.1 (by rw [e]; rfl))
    rw [if_neg (by simpa using h45)]
    by_cases h43:c.toNat=43
    ·exfalso
     unfold numD at h2
     rw [List.head?_cons,if_neg (by simpa using h45),List.all_cons,Bool.and_eq_true] at h2
     have:=h2.1
     unfold digB at this
     rw [Bool.and_eq_true,decide_eq_true_iff,decide_eq_true_iff] at this
     omega
    ·rw [if_neg (by omega)]
  rw [hd] at h1 h2
  unfold parseIntB
  dsimp only
  unfold parseUintB
  rw [if_neg h1]
  have:=KCZ (2 ^ 64 - 1) _ 0 h2
  split
  ·rename_i hh; rw [hh] at this; cases this
  ·rfl
  ·split
   ·rfl
   ·split <;> rfl
theorem KBs {t:List UInt8} {h:Heap} {Q:Int × Int→Heap→Prop} (ht:t.length≤281474976710656) (hv:ErrV h) (H:∀ h',Ext h h'→Q (numP t) h'):(Yi (bs t) (bs (numD t))).wp h Q:=by
 have hdl:(numD t).length≤t.length:=by unfold numD; split <;> simp
 have hdl2:t.length≤(numD t).length+1:=by unfold numD; split <;> simp <;> omega
 unfold Yi
 refine ZZ ?_
 have fin:∀ (b:Bool) (h1:Heap),Ext h h1→b=(decide (numD t=[]) || !(numD t).all digB)→(M.wp (M.ite b (M.pure true) (do
  let Xx11←ixS (bs (numD t)) 0
  let Xx12←M.ite (Xx11 == 48) (do
   M.pure (!(sEq (bs t) (⟨#[48]⟩:ByteArray)))
   ) (do
   M.pure false
   )
  M.pure Xx12
  )>>=fun Xx10=>M.ite Xx10 (do
  M.pure (0,10)
  ) (do
  let Xx15←Uz (bs t) 10 64
  let Xx17←isNI Xx15.2
  let Xx18←YS Xx15.1 Xx17
  M.pure (Xx18.1,Xx18.2)
  )) h1 Q):=by
  intro b h1 e1 hb
  refine KHR (fun hbt=>?_) (fun hbf=>?_)
  ·refine Zc (iteT rfl (KF ?_))
   have:numP t=(0,10):=by
    unfold numP
    rw [hb,Bool.or_eq_true,decide_eq_true_iff,Bool.not_eq_true'] at hbt
    by_cases h0:numD t=[]
    ·rw [if_pos h0]
    ·rw [if_neg h0,if_pos (hbt.resolve_left h0)]
   rw [← this]
   exact H _ e1
  ·rw [hb,Bool.or_eq_false_iff,decide_eq_false_iff_not,Bool.not_eq_false'] at hbf
   obtain ⟨hd0,hda⟩:=hbf
   have hpos:0 < (numD t).length:=List.length_pos_iff.2 hd0
   refine qE (i:=0) rfl hpos ?_
   have hhead:(numD t).head?=some ((numD t)[0]'hpos):=by rw [List.head?_eq_getElem?]; exact List.getElem?_eq_getElem hpos
   refine ZZ (z6 (c:=decide (t≠[48])) (fun _ Q' hq=>KF ?_) (Zc ?_))
   ·rw [show (⟨#[48]⟩:ByteArray)=bs [48] from rfl,KHp]
    rw [show (!decide (t=[48]))=decide (t≠[48]) by simp]
    exact hq
   rw [KMO]
   have hnp:∀ X,numP t=(if (numD t).head?=some 48∧t≠[48] then (0,10) else X)↔numP t=(if (numD t).head?=some 48∧t≠[48] then (0,10) else X):=fun _=>Iff.rfl
   refine KZ (fun hz=>KF ?_) (fun hz=>?_)
   ·rw [Bool.and_eq_true,decide_eq_true_iff,decide_eq_true_iff,← hhead] at hz
    have:numP t=(0,10):=by
     unfold numP
     rw [if_neg hd0,if_neg (by rw [hda]; decide),if_pos hz]
    rw [← this]
    exact H _ e1
   ·have hz':¬ ((numD t).head?=some 48∧t≠[48]):=fun hh=>by
     rw [hhead] at hh
     rw [decide_eq_true hh.1,decide_eq_true hh.2] at hz
     cases hz
    have hres:numP t=(match Lib.parseIntB 64 t with | .ok n=>(n,0) | _=>(0,7)):=by
     unfold numP
     rw [if_neg hd0,if_neg (by rw [hda]; decide),if_neg hz']
    have hns:=KGl hd0 hda
    refine KJ ?_
    unfold Uz
    refine KJ ⟨rfl,rfl,by rw [JL]; omega,fun h2 s2 same2=>?_⟩
    have e2:Ext h h2:=e1.trans ⟨s2,same2⟩
    rw [show (bs t).data.toList=t from rfl]
    cases hp:Lib.parseIntB 64 t with
    | ok n =>
     rw [hp] at hres
     refine ⟨true,.inl ⟨rfl,rfl⟩,iteF rfl (KF ⟨true,.inl ⟨rfl,rfl⟩,KJ ?_⟩)⟩
     unfold YS
     refine iteF rfl (KF (KF ?_))
     show Q (n,0) h2
     rw [show (n,(0:Int))=numP t from hres.symm]
     exact H _ e2
    | range =>
     rw [hp] at hres
     refine ⟨false,.inr ⟨⟨_,_,rfl⟩,rfl⟩,iteT rfl (KJ (KGk (fn:=[80,97,114,115,101,73,110,116]) ht (hv.ext e2) (fun h3 u x e3=>KF ⟨false,.inr ⟨⟨_,_,rfl⟩,rfl⟩,KJ ?_⟩)))⟩
     unfold YS
     refine iteT rfl (KF (KF ?_))
     show Q (0,7) h3
     rw [show ((0:Int),(7:Int))=numP t from hres.symm]
     exact H _ (e2.trans e3)
    | _=>rw [hp] at hns; cases hns
 refine KHR (fun h0=>Zc ?_) (fun h0=>?_)
 ·rw [sEq0] at h0
  exact fin _ _ (Ext.refl _) (by rw [h0]; rfl)
 ·rw [sEq0] at h0
  refine fun cap hcap mk hmk=>?_
  refine KJ (KCL (l:=numD t) (p:=fun c=>!digB c) ⟨?_,.inr ⟨_,rfl,fun j v hj=>?_⟩⟩ (by omega) (fun c Q1 hq=>KCp (KB9) (KDK _) (KGi hq)) (Zc ?_))
  ·show (numD t).length=(bs (numD t)).size
   rw [JL]
  ·rw [ZE,Nat.zero_add,KP ZJ]
   rw [List.getElem?_map] at hj
   have hjl:j < (numD t).length:=by
    by_cases hh:j < (numD t).length
    ·exact hh
    ·rw [List.getElem?_eq_none (by omega)] at hj; cases hj
   rw [Array.getElem?_append_left (by simp [JG,bs]; exact hjl)]
   rw [List.getElem?_toArray,KGh,List.getElem?_map]
   exact hj
  ·refine fin _ _ (Ext.push _ _) ?_
   rw [h0,Bool.false_or]
   rw [List.any_eq_not_all_not]
   simp
theorem KCM {t:List UInt8} {h:Heap} {Q:Int × Int→Heap→Prop} (ht:t.length≤281474976710656) (hv:ErrV h) (H:∀ h',Ext h h'→Q (numP t) h'):(KBj (bs t)).wp h Q:=by
 unfold KBj
 cases t with
 | nil =>
  refine z6 (c:=false) (fun hb _ _=>?_) ?_
  ·rw [sEq0] at hb; exact absurd hb (by decide)
  ·rw [Bool.and_false]
   exact iteF rfl (KBs ht hv H)
 | cons c r =>
  refine z6 (c:=decide (some c=some (45:UInt8))) (fun hb Q' hq=>?_) ?_
  ·refine qE (i:=0) rfl (by simp) (KF ?_)
   rw [List.getElem_cons_zero,KK6]
   exact hq
  ·rw [sEq0]
   refine KZ (fun hb=>?_) (fun hb=>?_)
   ·rw [Bool.and_eq_true,decide_eq_true_iff (p:=some c=some 45)] at hb
    refine KJ1 (a:=1) (b:=(c::r).length) rfl (by rw [JL]) (by simp) (Nat.le_refl _) ?_
    have:(((c::r).drop 1).take ((c::r).length - 1))=numD (c::r):=by
     unfold numD
     rw [List.head?_cons,if_pos hb.2]
     simp
    rw [this]
    exact KBs ht hv H
   ·have:numD (c::r)=c::r:=by
     unfold numD
     rw [List.head?_cons,if_neg]
     intro hc
     rw [decide_eq_true hc] at hb
     simp at hb
    have h2:=KBs ht hv H
    rw [this] at h2
    exact h2
end Gx
namespace Gx
open Go Go.Proofs Go.Shelf Go.RowKit Go.Lib Gx.Last
set_option linter.unusedVariables false
set_option linter.unusedSimpArgs false
set_option maxRecDepth 100000
abbrev vz:Array Value:=#[.int .i64 0,.int .i64 0,.string ByteArray.empty,.slice none 0 0]
def KFu (x0 x1 x2 x4:Addr):M Unit:=do
 let Xx2←ldI .i64 ((x4).add 0)
 M.need (vz.size=4)
 stG x0 vz
 chk (fun h:Heap=>(KO h ((x4).add 0)=some (.int .i64 Xx2)))
 stV x1 (.int .i64 Xx2)
 stV x2 (.bool false)
 M.pure ()
def NB (p2 p3 p4:Addr):M (Array Value × Int × Bool):=do
 let c←ldG 4 p2
 let i←ldI .i64 p3
 let b←ldB p4
 M.pure (c,i,b)
def Ga (p2 p3 p4:Addr) (u:Value):M Unit:=do
 let i←M.get (fun _ i=>u=.iface JF (.agg #[.int .i64 i]))
 let q←mkB JF (#[.int .i64 0]:Array Value)
 M.need ((#[.int .i64 i]:Array Value).size=1)
 stG q (#[.int .i64 i]:Array Value)
 KFu p2 p3 p4 q
def KDS (p2 p3 p4:Addr):M (Array Value × Int × Bool):=do
 let x←ldG 4 p2
 M.need (x.size=4)
 stG p2 x
 stV p3 (.int .i64 0)
 stV p4 (.bool true)
 NB p2 p3 p4
def KK7 (x0:ByteArray):M (Array Value × Int × Bool):=do
 let p2←mkB KB vz
 let p3←mkB Nb (#[.int .i64 0]:Array Value)
 let p4←mkB KBW (#[.bool false]:Array Value)
 let r←mkB Xa (#[.string x0,.int .i64 0]:Array Value)
 let v←Ji (some r) 1
 match v with
 | .inl u=>Ga p2 p3 p4 u>>=fun _=>NB p2 p3 p4
 | .inr cs=>do
  M.need (cs.size=4)
  stG p2 cs
  let i←ldI .i64 (r.add 1)
  M.ite (decide (i < (x0.size:Int))) (do
   let v←Kv (some r)
   match v with
   | .inl u=>Ga p2 p3 p4 u>>=fun _=>NB p2 p3 p4
   | .inr _=>M.fail) (KDS p2 p3 p4)
def KBt (r:Array Value × Int × Bool):Value:=.tuple #[.agg r.1,.int .i64 r.2.1,.bool r.2.2]
theorem KJO:KEa Go.Proofs.Tryz.prog 142 0=some 0:=by kernel_rfl
theorem KMP:szB Go.Proofs.Tryz.prog 142 1=true:=by kernel_rfl
theorem zr4':((Go.Proofs.Tryz.prog.info? 4).bind (·.zero))=some (.bool false):=by kernel_rfl
theorem sz4':szB Go.Proofs.Tryz.prog 4 1=true:=by kernel_rfl
theorem sc4':scB Go.Proofs.Tryz.prog 4=true:=by kernel_rfl
theorem KJ2:ifB Go.Proofs.Tryz.prog 20=true:=by kernel_rfl
theorem KMQ:((Go.Proofs.Tryz.prog.info? 146).bind (·.zero))=some (.agg (#[.string ByteArray.empty,.int .i64 0]:Array Value)):=by kernel_rfl
theorem KMR:X3 Go.Proofs.Tryz.prog 146=some [(0,1),(1,1)]:=by kernel_rfl
theorem KJP:KEa Go.Proofs.Tryz.prog 146 1=some 1:=by kernel_rfl
theorem un9':Go.Proofs.Tryz.prog.underlying 9=some .string:=Tryz.underlying9
theorem KK8:KEh Go.Proofs.Tryz.f130 5 [[],[],[1],[0,0],[2,3,0,1,2,3],[4,0,1,2,3,4]] [[],[],[1],[0],[2],[]] [[],[],[1],[0],[0,1,2,3],[0,1,2,3,4]]=true:=by kernel_rfl
theorem KFv {c:Code} {P:Program} {N:Act→World→Prop} {R:Act→World→Prop} {Q:Exit→Act→List Frame→World→Prop} {a:Act} {cs:List Frame} {w:World} (h:c.wpIn (Fw none) 1 P (Ps N X0 R) a w)
  (hn:∀ a w,N a w→Q .normal a cs w) (hr:∀ a w,R a w→Q .ret a cs w):c.wpS P Q a cs w:=by
 refine wpS_of_wp (wp_mono (wpIn_wide.1 h) ?_)
 intro e a w hh
 cases e with
 | normal=>exact hn _ _ hh
 | ret=>exact hr _ _ hh
 | exit i=>exact hh.2.elim
 | goto l=>exact hh.elim
 | panic c=>obtain ⟨_,_,hh⟩:=hh; exact hh.elim
 | outgrown=>exact hh.elim
theorem KBu {dst:Option Tmp} {ty:TypeId} {pos:String} {aft:Array Edge} {ρ:Operand→Value} {P:Program} {w:World}:(execOp ρ ⟨dst,.call { callee:=.builtin .recover,args:=#[],argTypes:=#[] },ty,pos,aft,none⟩).run P w=.ok .recover w:=by
 simp [execOp,resolve,invoke,builtin]
theorem qR {P:Program} {Q:Exit→Act→List Frame→World→Prop} {a:Act} {cs cs':List Frame} {w:World} {id d1 d2:Nat} {ty1 ty2:TypeId} {pos1 pos2:String} {aft1 aft2:Array Edge} {n:Frm} {l:List (Nat × Value)} {v:Value}
  (hE:Env n a l) (hn1:Nat.blt d1 n.size=true) (hn2:Nat.blt d2 n.size=true) (hv:recoverD cs=some (v,cs')∨(recoverD cs=none∧v=.nilIface∧cs'=cs))
  (h:∀ a',Env n a' ((d2,v)::(d1,v)::l)→Q .normal a' cs' w) :
  (Code.region id #[⟨some d1,.call { callee:=.builtin .recover,args:=#[],argTypes:=#[] },ty1,pos1,aft1,none⟩,⟨some d2,.assign (.tmp d1),ty2,pos2,aft2,none⟩] false).wpS P Q a cs w:=by
 refine wpS_region ?_
 have e1:=hE.put d1 v hn1
 have hr2:(execOp (a.put (some d1) v).eval ⟨some d2,.assign (.tmp d1),ty2,pos2,aft2,none⟩).run P w=.ok (.value v) w:=Kf e1 (by simp [opv,look])
 have hf:=h _ (e1.put d2 v hn2)
 show wpOpsS P _ Q [0,1] a cs w
 rcases hv with hv | ⟨hv,rfl,rfl⟩
 ·simp [wpOpsS,Region.wanted,KBu,hv,hr2]
  exact hf
 ·simp [wpOpsS,Region.wanted,KBu,hv,hr2]
  exact hf
abbrev a130 (p2 p3 p4:Addr):Act:={ tmps:=#[.pointer (some p2),.pointer (some p3),.pointer (some p4)]++Array.replicate (20 - 3) undef,defers:=[] }
theorem KFw (p2 p3 p4:Addr):Env ⟨20,[]⟩ (a130 p2 p3 p4) [(0,.pointer (some p2)),(1,.pointer (some p3)),(2,.pointer (some p4))] :=
 Env.enter (n:=20) #[.pointer (some p2),.pointer (some p3),.pointer (some p4)] _ (Nat.le_of_ble_eq_true rfl) (Ym ⟨rfl,rfl,rfl,trivial⟩)
theorem KH5 {p2 p3 p4:Addr} {w:World} {R:Ending→FrameMode→World→Prop} (h:R (.returned (.tuple #[])) .returning w):CallsD Go.Proofs.Tryz.prog 130 #[.pointer (some p2),.pointer (some p3),.pointer (some p4)] .returning w R:=by
 refine callsD_of_wpS Go.Proofs.Tryz.func130 rfl (fun c₀ cs hu=>?_)
 refine wpS_seq (qR (v:=.nilIface) (cs':=c₀::cs) (KFw p2 p3 p4) rfl rfl (.inr ⟨by simp [recoverD,hu],rfl,rfl⟩) (fun a hE=>?_))
 refine KFv (N:=fun _ _=>False) (R:=fun a w'=>w'=w∧Env ⟨20,[]⟩ a [(0,.pointer (some p2))]) ?_ (fun _ _ h=>h.elim) (fun a w' hh=>?_)
 ·refine Kx (fun K hK_1=>?_)
  refine Kx (fun K hK_2=>?_)
  refine KH ?_
  refine KE (v:=.nilIface) rfl rfl hE rfl (KG hE rfl) (fun a hE=>?_)
  refine KE (v:=.bool true) rfl rfl hE rfl (Zk hE rfl rfl (g_ni (b:=true) (.inl ⟨rfl,rfl⟩)) (KHP KJ2 (.inl ⟨rfl,rfl⟩))) (fun a hE=>?_)
  refine Kc ?_
  refine hK_2 _ _ ?_
  refine UE true hE rfl (fun _=>?_) (fun hb=>by cases hb)
  exact Gd ⟨rfl,hE.cut (.cons rfl Subs.nil)⟩
 ·obtain ⟨rfl,hE⟩:=hh
  refine ⟨hE.defers,.returning,by rw [← hu],_,UF (rs:=[]) (vs:=[]) hE rfl RV.nil,h⟩
theorem KH6 {n:Frm} {a:Act} {w:World} {l:List (Nat × Value)} {P:Program} {dst:Option Tmp} {ty xt t:TypeId} {pos:String} {aft:Array Edge} {g:Option (Nat × Bool)} {x:Operand} {v:Value} {fs:Array Field} (hE:Env n a l) (hx:opv l x=some (.iface t v)) (ht:P.underlying t=some (.struct fs)) :
  (execOp a.eval ⟨dst,.typeAssert x xt t true,ty,pos,aft,g⟩).run P w=.ok (.value (.tuple #[v,.bool true])) w:=by
 simp [execOp,hE.opv hx,Instr.typeAssert,run_underlying ht]
theorem KH7 {p2 p3 p4:Addr} {w:World} {u:Value} {Q:Unit→Heap→Prop} {R:Ending→FrameMode→World→Prop} (H:(Ga p2 p3 p4 u).wp w.heap Q)
  (h:∀ w',Rest w w'→Q () w'.heap→R (.returned (.tuple #[])) (.panicking [{ v:=u,recovered:=true }]) w'):CallsD Go.Proofs.Tryz.prog 130 #[.pointer (some p2),.pointer (some p3),.pointer (some p4)] (.panicking [{ v:=u,recovered:=false }]) w R:=by
 refine callsD_of_wpS Go.Proofs.Tryz.func130 rfl (fun c₀ cs hu=>?_)
 obtain ⟨i,hi,H⟩:=H
 subst hi
 refine wpS_seq (qR (v:=.iface JF (.agg #[.int .i64 i])) (cs':={ c₀ with mode:=.panicking [{ v:=.iface JF (.agg #[.int .i64 i]),recovered:=true }] }::cs) (KFw p2 p3 p4) rfl rfl (.inl (by simp [recoverD,hu])) (fun a hE=>?_))
 have hR:Rest w w:=Rest.refl w
 refine KFv (N:=fun a w'=>Rest w w'∧Q () w'.heap∧Env ⟨20,[]⟩ a [(0,.pointer (some p2))]) (R:=fun _ _=>False) ?_ (fun a w' hh=>?_) (fun _ _ h=>h.elim)
 ·refine Kx (fun K hK_1=>?_)
  refine Kx (fun K hK_2=>?_)
  refine KH ?_
  refine KE (v:=.iface JF (.agg #[.int .i64 i])) rfl rfl hE rfl (KG hE rfl) (fun a hE=>?_)
  refine KE (v:=.bool false) rfl rfl hE rfl (Zk hE rfl rfl (g_ni (b:=false) (.inr ⟨⟨_,_,rfl⟩,rfl⟩)) (KHP KJ2 (.inr ⟨⟨_,_,rfl⟩,rfl⟩))) (fun a hE=>?_)
  refine Kc ?_
  refine hK_2 _ _ ?_
  refine UE false hE rfl (fun hb=>by cases hb) (fun _=>?_)
  refine Vg ?_
  refine hK_1 _ _ ?_
  refine Kx (fun K hK_3=>?_)
  refine KH ?_
  refine KE (v:=.iface JF (.agg #[.int .i64 i])) rfl rfl hE rfl (KG hE rfl) (fun a hE=>?_)
  refine KE (v:=.tuple #[.agg #[.int .i64 i],.bool true]) rfl rfl hE rfl (KH6 hE rfl Tryz.underlying142) (fun a hE=>?_)
  refine KE (v:=.tuple #[.agg #[.int .i64 i],.bool true]) rfl rfl hE rfl (KG hE rfl) (fun a hE=>?_)
  refine KE (v:=.agg #[.int .i64 i]) rfl rfl hE rfl (YU hE rfl rfl) (fun a hE=>?_)
  refine KE (v:=.bool true) rfl rfl hE rfl (YU hE rfl rfl) (fun a hE=>?_)
  obtain ⟨q,hq,H⟩:=H
  refine q8 (v:=.pointer (some q)) rfl rfl hE rfl hR (NQ KMH hq) (fun a w hE hR hh=>?_)
  replace H:=M.at hh H; clear hh
  obtain ⟨qz,H⟩:=H
  obtain ⟨u_3,qu_3,H⟩:=H
  refine XA rfl rfl hE hR (UX hE rfl rfl KMP qz qu_3) (fun a w hE hR hh=>?_)
  replace H:=M.at hh H; clear hh
  refine KE (v:=.bool true) rfl rfl hE rfl (Kf hE rfl) (fun a hE=>?_)
  refine Kc ?_
  refine hK_3 _ _ ?_
  refine Kx (fun K hK_4=>?_)
  refine Kx (fun K hK_5=>?_)
  refine KH ?_
  refine KE (v:=.bool true) rfl rfl hE rfl (KG hE rfl) (fun a hE=>?_)
  refine KE (v:=.bool false) rfl rfl hE rfl (r_un hE rfl KKE) (fun a hE=>?_)
  refine Kc ?_
  refine hK_5 _ _ ?_
  refine UE false hE rfl (fun hb=>by cases hb) (fun _=>?_)
  refine Vg ?_
  refine hK_4 _ _ ?_
  replace hE:Env ⟨20,[]⟩ a [(0,.pointer (some p2)),(1,.pointer (some p3)),(2,.pointer (some p4)),(4,.pointer (some q))]:=hE.cut (.cons rfl (.cons rfl (.cons rfl (.cons rfl Subs.nil))))
  obtain ⟨Xx2,qXx2,H⟩:=H
  have hT:=NC KK8 rfl rfl
  refine YD (fun w:World=>(fun h:Heap=>(KO h ((q).add 0)=some (.int .i64 Xx2))) w.heap) [4,5] #[false,false,false,false,false,false] mo hR rfl rfl (fun w' e=>by rw [e]; exact qXx2) (fun w hh hR hs=>?_)
  replace H:=M.at hh H; clear hh
  refine KC (i:=0) (v:=.agg vz) #[true,false,false,false,false,false] rfl rfl hT (by kernel_rfl) hE rfl (KA rfl) (fun w=>KFb bd24) (fun a hE=>?_)
  refine KC (i:=1) (v:=.pointer (some ((q).add 0))) #[true,true,false,false,false,false] rfl rfl hT (by kernel_rfl) hE rfl (KA rfl) (fun w=>KL hE rfl KJO) (fun a hE=>?_)
  refine Ut (i:=2) (v:=.int .i64 Xx2) #[true,true,true,false,false,false] rfl rfl hT (by kernel_rfl) hE rfl (KA rfl) hs (fun w s=>Z3 hE rfl sc3 s) (fun a hE=>?_)
  obtain ⟨qz,H⟩:=H
  obtain ⟨u_3,qu_3,H⟩:=H
  obtain ⟨_,sA,H⟩:=H
  refine KMo (i:=3) #[true,true,true,true,false,false] rfl rfl hT (by kernel_rfl) rfl hE hR (KA rfl) (UX hE rfl rfl sz24 qz qu_3)  (fun w' e=>by rw [e]; exact sA) (fun a w hE hR hh hs=>?_)
  replace H:=M.at hh H; clear hh
  obtain ⟨u_4,qu_4,H⟩:=H
  refine KJl (i:=4) #[true,true,true,true,true,false] rfl rfl hT (by kernel_rfl) rfl hE hR (KA rfl) (VD hE rfl rfl sz3 qu_4)  (fun a w hE hR hh=>?_)
  replace H:=M.at hh H; clear hh
  obtain ⟨u_5,qu_5,H⟩:=H
  refine KJl (i:=5) #[true,true,true,true,true,true] rfl rfl hT (by kernel_rfl) rfl hE hR (KA rfl) (VD hE rfl rfl sz4' qu_5)  (fun a w hE hR hh=>?_)
  replace H:=M.at hh H; clear hh
  refine GK hT (by kernel_rfl) ?_
  exact ⟨hR,H,hE.cut (.cons rfl Subs.nil)⟩
 ·obtain ⟨hR,hq,hE⟩:=hh
  exact ⟨hE.defers,_,rfl,_,UF (rs:=[]) (vs:=[]) hE rfl RV.nil,h _ hR hq⟩
theorem KCa {Q:Array Value × Int × Bool→Heap→Prop} {w0 w:World} {a:Act} {l:List (Nat × Value)} {p2 p3 p4:Addr} {l0:List Deferred} (hE:EnvD l0 22 a l) (h2:look l 2=some (.pointer (some p2))) (h3:look l 3=some (.pointer (some p3))) (h4:look l 4=some (.pointer (some p4))) (hR:Rest w0 w) (H:(NB p2 p3 p4).wp w.heap Q) :
  ∃ v,(results Tryz.f75 a.tmps).run Tryz.prog w=.ok v w∧∃ r,Ending.returned v=.returned (KBt r)∧Q r w.heap∧Rest w0 w:=by
 obtain ⟨c,qc,H⟩:=H
 obtain ⟨i,qi,H⟩:=H
 obtain ⟨b,qb,H⟩:=H
 exact ⟨_,UF (a:={ tmps:=a.tmps,defers:=[] }) (rs:=[.cell 2 24,.cell 3 3,.cell 4 4]) hE.env rfl (RV.cellG h2 ag24 qc (RV.cell h3 sc3 qi (RV.cell h4 sc4' qb RV.nil))),(c,i,b),rfl,H,hR⟩
abbrev dfr (p2 p3 p4:Addr):Deferred:={ target:=.fn (.func 130) #[.pointer (some p2),.pointer (some p3),.pointer (some p4)],args:=#[] }
theorem KES {p2 p3 p4:Addr} {w:World}:(invoke (.fn (.func 130) #[.pointer (some p2),.pointer (some p3),.pointer (some p4)]) #[]).run Tryz.prog w=.ok (.enter 130 #[.pointer (some p2),.pointer (some p3),.pointer (some p4)]) w:=by
 have h:=KD Tryz.func130 (by kernel_rfl) rfl #[.pointer (some p2),.pointer (some p3),.pointer (some p4)] w
 simp [invoke,h]
theorem KJQ {Q:Array Value × Int × Bool→Heap→Prop} {w0 w:World} {a:Act} {l:List (Nat × Value)} {p2 p3 p4:Addr} (hE:EnvD [dfr p2 p3 p4] 22 a l) (h2:look l 2=some (.pointer (some p2))) (h3:look l 3=some (.pointer (some p3))) (h4:look l 4=some (.pointer (some p4))) (hR:Rest w0 w) (H:(NB p2 p3 p4).wp w.heap Q) :
  Leaves Tryz.prog Tryz.f75 a.tmps (fun e w'=>∃ r,e=.returned (KBt r)∧Q r w'.heap∧Rest w0 w') a.defers .returning w:=by
 rw [hE.def_]
 refine leaves_cons (by simp) KES (KH5 ?_)
 exact KCa hE h2 h3 h4 hR H
theorem KFx {Q:Array Value × Int × Bool→Heap→Prop} {w0 w:World} {a:Act} {l:List (Nat × Value)} {p2 p3 p4:Addr} {u:Value} (hE:EnvD [dfr p2 p3 p4] 22 a l) (h2:look l 2=some (.pointer (some p2))) (h3:look l 3=some (.pointer (some p3))) (h4:look l 4=some (.pointer (some p4))) (hR:Rest w0 w) (H:(Ga p2 p3 p4 u>>=fun _=>NB p2 p3 p4).wp w.heap Q) :
  Leaves Tryz.prog Tryz.f75 a.tmps (fun e w'=>∃ r,e=.returned (KBt r)∧Q r w'.heap∧Rest w0 w') a.defers (.panicking [{ v:=u,recovered:=false }]) w:=by
 rw [hE.def_]
 refine leaves_cons (by simp) KES (KH7 (M.unbind H) (fun w' hR' H'=>?_))
 show Leaves _ _ _ _ [] (settle (.panicking [{ v:=u,recovered:=true }])) w'
 exact KCa hE h2 h3 h4 (hR.trans hR') H'
theorem KMS (x0:ByteArray):Kg Go.Proofs.Tryz.prog XG #[.string x0] KBt (KK7 x0):=by
 intro W0 Q H
 refine calls_of_wp_defers Go.Proofs.Tryz.func75 rfl ?_
 refine (fun hs=>wpIn_wide.1 hs) (?_:Code.wpIn (Fw none) 1 _ _ _ _ _)
 have hE0:Env ⟨22,[]⟩ { tmps:=#[.string x0]++Array.replicate (22 - 1) undef,defers:=[] } [(0,.string x0)]:=Env.enter (n:=22) #[.string x0] _ (Nat.le_of_ble_eq_true rfl) (Ym ⟨rfl,trivial⟩)
 have hE:EnvD [] 22 { tmps:=#[.string x0]++Array.replicate (22 - 1) undef,defers:=[] } [(0,.string x0)]:=⟨hE0,rfl⟩
 have hR:Rest W0 W0:=Rest.refl W0
 obtain ⟨p2,q2,H⟩:=H
 refine wpIn_seq (Gk ?_)
 refine KFj (v:=.pointer (some p2)) rfl rfl hE rfl hR (fun b hE=>NQ zr24 q2) (fun a w1 hE hR hh=>?_)
 replace H:=M.at hh H; clear hh
 obtain ⟨p3,q3,H⟩:=H
 refine KFj (v:=.pointer (some p3)) rfl rfl hE rfl hR (fun b hE=>NQ zr3 q3) (fun a w1 hE hR hh=>?_)
 replace H:=M.at hh H; clear hh
 obtain ⟨p4,q4,H⟩:=H
 refine KFj (v:=.pointer (some p4)) rfl rfl hE rfl hR (fun b hE=>NQ zr4' q4) (fun a w1 hE hR hh=>?_)
 replace H:=M.at hh H; clear hh
 refine KGP ?_
 refine wpIn_seq (Gk ?_)
 refine zJ (v:=.func (.func 130) #[] #[.pointer (some p2),.pointer (some p3),.pointer (some p4)]) rfl rfl hE rfl (fun b hE=>KCT hE rfl) (fun a hE=>?_)
 refine KKy hE rfl (fun a hE=>?_)
 replace hE:EnvD [dfr p2 p3 p4] 22 a [(0,.string x0),(2,.pointer (some p2)),(3,.pointer (some p3)),(4,.pointer (some p4))]:=⟨hE.env.cut (.cons rfl (.cons rfl (.cons rfl (.cons rfl Subs.nil)))),hE.def_⟩
 refine KGP ?_
 refine wpIn_seq (Gk ?_)
 refine zJ (v:=.string x0) rfl rfl hE rfl (fun b hE=>KG hE rfl) (fun a hE=>?_)
 refine zJ (v:=.agg (#[.string x0,.int .i64 0]:Array Value)) rfl rfl hE rfl (fun b hE=>NU hE rfl KMQ KMR (by rfl)) (fun a hE=>?_)
 obtain ⟨r,qr,H⟩:=H
 refine KFj (v:=.pointer (some r)) rfl rfl hE rfl hR (fun b hE=>KKC hE rfl qr) (fun a w1 hE hR hh=>?_)
 replace H:=M.at hh H; clear hh
 refine zJ (v:=.pointer (some r)) rfl rfl hE rfl (fun b hE=>Kf hE rfl) (fun a hE=>?_)
 replace hE:EnvD [dfr p2 p3 p4] 22 a [(0,.string x0),(2,.pointer (some p2)),(3,.pointer (some p3)),(4,.pointer (some p4)),(5,.pointer (some r))]:=⟨hE.env.cut (.cons rfl (.cons rfl (.cons rfl (.cons rfl (.cons rfl Subs.nil))))),hE.def_⟩
 refine KGP ?_
 refine wpIn_seq (Gk ?_)
 refine zJ (v:=.pointer (some r)) rfl rfl hE rfl (fun b hE=>KG hE rfl) (fun a hE=>?_)
 refine KHa hE hR VN rfl (Y9 (some r) 1) (M.unbind H) (fun u w1 hR H=>?_) (fun cs a1 w1 ea hR H=>?_)
 ·exact KFx hE rfl rfl rfl hR H
 replace hE:EnvD [dfr p2 p3 p4] 22 a1 _:=ea ▸ hE.put 11 (.agg cs) rfl
 obtain ⟨qz,H⟩:=H
 obtain ⟨u_6,qu_6,H⟩:=H
 refine KJD rfl rfl hE hR (fun b hE=>UX hE rfl rfl sz24 qz qu_6) (fun a w hE hR hh=>?_)
 replace H:=M.at hh H; clear hh
 replace hE:EnvD [dfr p2 p3 p4] 22 a [(0,.string x0),(2,.pointer (some p2)),(3,.pointer (some p3)),(4,.pointer (some p4)),(5,.pointer (some r))]:=⟨hE.env.cut (.cons rfl (.cons rfl (.cons rfl (.cons rfl (.cons rfl Subs.nil))))),hE.def_⟩
 refine KGP ?_
 obtain ⟨i,qi,H⟩:=H
 refine wpIn_seq (wpIn_mono (Q:=Exit.then (fun a w1=>EnvD [dfr p2 p3 p4] 22 a [(0,.string x0),(2,.pointer (some p2)),(3,.pointer (some p3)),(4,.pointer (some p4)),(5,.pointer (some r))]∧Rest W0 w1∧(KDS p2 p3 p4).wp w1.heap Q)
  (bodyPostD Tryz.prog Tryz.f75 (fun e w'=>∃ r,e=.returned (KBt r)∧Q r w'.heap∧Rest W0 w'))) ?_ ?_)
 ·refine wpIn_seq (Gk ?_)
  refine zJ (v:=.pointer (some r)) rfl rfl hE rfl (fun b hE=>KG hE rfl) (fun a hE=>?_)
  refine zJ (v:=.pointer (some r)) rfl rfl hE rfl (fun b hE=>KM hE rfl) (fun a hE=>?_)
  refine zJ (v:=.pointer (some (r.add 1))) rfl rfl hE rfl (fun b hE=>KL hE rfl KJP) (fun a hE=>?_)
  refine zJ (v:=.int .i64 i) rfl rfl hE rfl (fun b hE=>Z3 hE rfl sc3 qi) (fun a hE=>?_)
  refine zJ (v:=.string x0) rfl rfl hE rfl (fun b hE=>KG hE rfl) (fun a hE=>?_)
  refine zJ (v:=.int .i64 (x0.size:Int)) rfl rfl hE rfl (fun b hE=>GJ hE rfl un9') (fun a hE=>?_)
  refine zJ (v:=.bool (decide (i < (x0.size:Int)))) rfl rfl hE rfl (fun b hE=>Zk hE rfl rfl ZX KA0) (fun a hE=>?_)
  refine KGP ?_
  refine KMG (decide (i < (x0.size:Int))) hE rfl (fun hb=>?_) (fun hb=>?_)
  ·replace H:=M.ite_t hb H
   refine Gk ?_
   refine zJ (v:=.pointer (some r)) rfl rfl hE rfl (fun b hE=>KG hE rfl) (fun a hE=>?_)
   refine KHa hE hR ZD rfl (ZK (some r)) (M.unbind H) (fun u w1 hR H=>?_) (fun cs a1 w1 ea hR H=>H.elim)
   exact KFx hE rfl rfl rfl hR H
  ·replace H:=M.ite_f hb H
   refine wpIn_skip ?_
   exact ⟨⟨hE.env.cut (.cons rfl (.cons rfl (.cons rfl (.cons rfl (.cons rfl Subs.nil))))),hE.def_⟩,hR,H⟩
 ·intro e a w hh
  cases e with
  | normal =>
   obtain ⟨hE,hR,H⟩:=hh
   obtain ⟨x,qx,H⟩:=H
   obtain ⟨qz,H⟩:=H
   obtain ⟨u_6,qu_6,H⟩:=H
   refine wpIn_seq (Gk ?_)
   refine zJ (v:=.agg x) rfl rfl hE rfl (fun b hE=>KEb hE rfl ag24 qx) (fun a hE=>?_)
   refine KJD rfl rfl hE hR (fun b hE=>UX hE rfl rfl sz24 qz qu_6) (fun a w hE hR hh=>?_)
   replace H:=M.at hh H; clear hh
   obtain ⟨u_7,qu_7,H⟩:=H
   refine KJD rfl rfl hE hR (fun b hE=>VD hE rfl rfl sz3 qu_7) (fun a w hE hR hh=>?_)
   replace H:=M.at hh H; clear hh
   obtain ⟨u_8,qu_8,H⟩:=H
   refine KJD rfl rfl hE hR (fun b hE=>VD hE rfl rfl sz4' qu_8) (fun a w hE hR hh=>?_)
   replace H:=M.at hh H; clear hh
   refine KGP ?_
   refine wpIn_ret ?_
   exact KJQ hE rfl rfl rfl hR H
  | exit i=>exact hh
  | ret=>exact hh
  | goto l=>exact hh
  | panic c=>exact hh
  | outgrown=>exact hh
end Gx
