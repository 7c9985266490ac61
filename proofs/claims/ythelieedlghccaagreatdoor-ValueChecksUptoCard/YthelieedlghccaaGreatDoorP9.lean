/- Own proofs: what those Lean programs compute. No condition. -/
import Derived.Test.YthelieedlghccaaGreatDoorP0
import Derived.Test.YthelieedlghccaaGreatDoorP1
import Derived.Test.YthelieedlghccaaGreatDoorP2
import Derived.Test.YthelieedlghccaaGreatDoorP3
import Derived.Test.YthelieedlghccaaGreatDoorP4
import Derived.Test.YthelieedlghccaaGreatDoorP5
import Derived.Test.YthelieedlghccaaGreatDoorP6
import Derived.Test.YthelieedlghccaaGreatDoorP7
import Derived.Test.YthelieedlghccaaGreatDoorP8
import Derived.Test.YthelieedlghccaaGreatDoorTie
import Derived.KernelRfl
import Derived.ChangeArms
import Derived.DataReads
set_option linter.unusedVariables false
set_option linter.unusedSimpArgs false
namespace Gx
open Go
set_option linter.unusedVariables false
set_option linter.unusedSimpArgs false
abbrev bs (l:List UInt8):ByteArray:=⟨l.toArray⟩
inductive Vl where
 | mk (k n:Int) (s:List UInt8) (l:List Vl)
instance:Inhabited Vl:=⟨.mk 0 0 [] []⟩
def I64 (n:Int):Prop:=-9223372036854775808≤n∧n≤9223372036854775807
def Z9 (k n:Int) (s:List UInt8) (x:Sl):Array Value:=#[.int .i64 k,.int .i64 n,.string (bs s),x.v]
mutual
def VRep (h:Heap):Vl→Array Value→Prop
 | .mk k n s l,cs=>∃ x:Sl,cs=Z9 k n s x∧I64 k∧I64 n∧s.length≤9223372036854775807∧(x.len=l.length∧x.len≤x.cap∧x.len≤9223372036854775807∧VsAt h l x.base 0)
def VsAt (h:Heap):List Vl→Option Addr→Nat→Prop
 | [],_,_=>True
 | v::l,b,i=>(∃ a cs,b=some a∧cs.size=4∧(∀ j,j < 4→KV h (a.add (i * 4+j))=cs[j]?)∧VRep h v cs)∧VsAt h l b (i+1)
end
structure VsRep (h:Heap) (x:Sl) (l:List Vl):Prop where
 len:x.len=l.length
 cap:x.len≤x.cap
 big:x.len≤9223372036854775807
 at_:VsAt h l x.base 0
theorem VRep.eq {h:Heap} {k n:Int} {s:List UInt8} {l:List Vl} {cs:Array Value}:VRep h (.mk k n s l) cs↔∃ x:Sl,cs=Z9 k n s x∧I64 k∧I64 n∧s.length≤9223372036854775807∧VsRep h x l:=by
 rw [VRep]
 constructor
 ·rintro ⟨x,h1,h2,h3,h4,h5,h6,h7,h8⟩; exact ⟨x,h1,h2,h3,h4,h5,h6,h7,h8⟩
 ·rintro ⟨x,h1,h2,h3,h4,h5,h6,h7,h8⟩; exact ⟨x,h1,h2,h3,h4,h5,h6,h7,h8⟩
theorem VRep.size {h:Heap}:∀ {v:Vl} {cs:Array Value},VRep h v cs→cs.size=4
 | .mk _ _ _ _,cs,H=>by obtain ⟨x,rfl,_⟩:=VRep.eq.1 H; rfl
theorem VRep.one {h:Heap}:∀ {v:Vl} {cs:Array Value},VRep h v cs→∀ u ∈ cs.toList,Gx.one u=true
 | .mk _ _ _ _,cs,H=>by
  obtain ⟨x,rfl,_⟩:=VRep.eq.1 H
  intro u hu
  simp only [Z9,List.mem_cons,List.not_mem_nil,or_false] at hu
  rcases hu with rfl | rfl | rfl | rfl <;> first | rfl | exact zH _
theorem VsAt.get {h:Heap}:∀ {l:List Vl} {b:Option Addr} {i:Nat},VsAt h l b i→∀ {j:Nat} (hj:j < l.length),∃ a cs,b=some a∧cs.size=4∧(∀ m,m < 4→KV h (a.add ((i+j) * 4+m))=cs[m]?)∧VRep h l[j] cs
 | [],_,_,_,j,hj=>by simp at hj
 | v::l,b,i,H,0,hj=>by rw [VsAt] at H; exact H.1
 | v::l,b,i,H,j+1,hj=>by
  rw [VsAt] at H
  have:=VsAt.get H.2 (j:=j) (by simpa using hj)
  rw [show i+(j+1)=i+1+j by omega]
  exact this
theorem VsAt.of {h:Heap}:∀ {l:List Vl} {b:Option Addr} {i:Nat},(∀ j (hj:j < l.length),∃ a cs,b=some a∧cs.size=4∧(∀ m,m < 4→KV h (a.add ((i+j) * 4+m))=cs[m]?)∧VRep h l[j] cs)→VsAt h l b i
 | [],_,_,_=>by rw [VsAt]; trivial
 | v::l,b,i,H=>by
  rw [VsAt]
  refine ⟨H 0 (by simp),VsAt.of (fun j hj=>?_)⟩
  have:=H (j+1) (by simpa using hj)
  rw [show i+1+j=i+(j+1) by omega]
  exact this
theorem VsRep.get {h:Heap} {x:Sl} {l:List Vl} (H:VsRep h x l) {j:Nat} (hj:j < l.length):∃ a cs,x.base=some a∧cs.size=4∧(∀ m,m < 4→KV h (a.add (j * 4+m))=cs[m]?)∧VRep h l[j] cs:=by
 have:=H.at_.get hj
 rw [Nat.zero_add] at this
 exact this
theorem Ext.row {h h':Heap} (e:Ext h h') {a:Addr} {cs:Array Value} {i n:Nat} (hs:cs.size=n) (H:∀ m,m < n→KV h (a.add (i+m))=cs[m]?):∀ m,m < n→KV h' (a.add (i+m))=cs[m]?:=fun m hm=>by
 have h1:cs[m]?=some (cs[m]'(by omega)):=Array.getElem?_eq_getElem (by omega)
 rw [h1]
 exact e.cell (by rw [H m hm,h1])
theorem KGL {h h':Heap} (e:Ext h h'):∀ (m:Nat) (v:Vl) (cs:Array Value),sizeOf v < m→VRep h v cs→VRep h' v cs:=by
 intro m
 induction m with
 | zero=>intro v cs hm; omega
 | succ m ih =>
  rintro ⟨k,n,s,l⟩ cs hm H
  obtain ⟨x,h1,h2,h3,h4,h5⟩:=VRep.eq.1 H
  refine VRep.eq.2 ⟨x,h1,h2,h3,h4,h5.len,h5.cap,h5.big,VsAt.of (fun j hj=>?_)⟩
  obtain ⟨a,cs',ha,hs,hc,hv⟩:=h5.at_.get hj
  refine ⟨a,cs',ha,hs,e.row hs hc,ih _ _ ?_ hv⟩
  have:=List.sizeOf_lt_of_mem (List.getElem_mem hj)
  simp only [Vl.mk.sizeOf_spec] at hm
  omega
theorem VRep.ext {h h':Heap} {v:Vl} {cs:Array Value} (H:VRep h v cs) (e:Ext h h'):VRep h' v cs:=KGL e _ v cs (Nat.lt_succ_self _) H
theorem VsRep.ext {h h':Heap} {x:Sl} {l:List Vl} (H:VsRep h x l) (e:Ext h h'):VsRep h' x l :=
 ⟨H.len,H.cap,H.big,VsAt.of (fun j hj=>by
  obtain ⟨a,cs',ha,hs,hc,hv⟩:=H.at_.get hj
  exact ⟨a,cs',ha,hs,e.row hs hc,hv.ext e⟩)⟩
theorem VsRep.nil (h:Heap):VsRep h Sl.nil []:=⟨rfl,Nat.le_refl _,by decide,by rw [VsAt]; trivial⟩
def cmpI (a b:Int):Int:=if a < b then -1 else if b < a then 1 else 0
def cOr (a b:Int):Int:=if a=0 then b else a
mutual
def cmpV:Vl→Vl→Int
 | .mk k n s l,.mk k' n' s' l'=>cOr (cmpI k k') (cOr (cmpI n n') (cOr (Lib.compareBytes s s') (XK l l')))
def XK:List Vl→List Vl→Int
 | [],[]=>0
 | [],_::_=>-1
 | _::_,[]=>1
 | a::l,b::l'=>cOr (cmpV a b) (XK l l')
end
theorem Jp {β:Type} {t:TypeId} {h:Heap} {Q:β→Heap→Prop} {cs:Array Value} {f:Addr→M β} (H:∀ h',Ext h h'→h'.size=h.size+1→h'[h.size]?=some (.cells cs t (0,0))→(f ⟨h.size,0,none⟩).wp h' Q):(mkB t cs>>=f).wp h Q :=
 KHf (H _ (Ext.push _ _) (by simp) Zj)
theorem ZW {h:Heap} {b i:Nat} {cs:Array Value} {t:TypeId} {z:Nat × Nat} (hb:h[b]?=some (.cells cs t z)):KV h ((⟨b,0,none⟩:Addr).add i)=cs[i]?:=by
 rw [Zn,Nat.zero_add,Ks hb]
theorem KBS {a b:Int} {h:Heap} {Q:Int→Heap→Prop} (H:Q (cmpI a b) h):(Vk a b).wp h Q:=by
 unfold Vk Wl
 refine UP (UP (iteF (by simp) (iteF (by simp) ?_)))
 unfold cmpI at H
 refine Kx (fun hc=>?_) (fun hc=>?_)
 ·rw [if_pos (of_decide_eq_true hc)] at H; exact H
 ·rw [if_neg (of_decide_eq_false hc)] at H
  refine Kx (fun hc=>?_) (fun hc=>?_)
  ·rw [if_pos (of_decide_eq_true hc)] at H; exact H
  ·rw [if_neg (of_decide_eq_false hc)] at H; exact H
theorem zo {a b:Int} {h:Heap} {Q:Int→Heap→Prop} (H:Q (cmpI a b) h):(U6 a b).wp h Q:=by
 unfold U6 Vm
 refine UP (UP (iteF (by simp) (iteF (by simp) ?_)))
 unfold cmpI at H
 refine Kx (fun hc=>?_) (fun hc=>?_)
 ·rw [if_pos (of_decide_eq_true hc)] at H; exact H
 ·rw [if_neg (of_decide_eq_false hc)] at H
  refine Kx (fun hc=>?_) (fun hc=>?_)
  ·rw [if_pos (of_decide_eq_true hc)] at H; exact H
  ·rw [if_neg (of_decide_eq_false hc)] at H; exact H
def cOrs:List Int→Int
 | []=>0
 | a::l=>cOr a (cOrs l)
theorem KGM {t:TypeId} {b n:Nat} {zs:List Int} {h:Heap} {Q:Int→Heap→Prop} (hb:h[b]?=some (.cells (zs.map (Value.int .i64)).toArray t (0,0))) (hn:n=zs.length) (hz:zs.length≤1000) (H:Q (cOrs zs) h):(Xq ⟨some ⟨b,0,none⟩,n,n⟩).wp h Q:=by
 subst hn
 unfold Xq
 refine M.loop_inv (fun (t:Int) h'=>h'=h∧∃ i:Nat,t=(i:Int)∧i≤zs.length∧cOrs (zs.drop i)=cOrs zs) (fun t _=>((zs.length:Int) - t).toNat) ?_ ⟨rfl,0,rfl,Nat.zero_le _,by simp⟩
 rintro t h' ⟨rfl,i,rfl,hi,hd⟩ self hself
 unfold Yn
 refine Kx (fun hc=>?_) (fun hc=>?_)
 ·have hlt:i < zs.length:=by have:=of_decide_eq_true hc; dsimp only at this; omega
  refine GW (by omega) (by dsimp only; omega) rfl ?_
  refine Ux (n:=zs[i]) (by rw [show (i:Int).toNat * 1=i by omega,ZW hb]; simp [hlt]) ?_
  rw [List.drop_eq_getElem_cons hlt,cOrs] at hd
  refine Kx (fun hne=>?_) (fun heq=>?_)
  ·have hne:zs[i]≠0:=by simpa using hne
   rw [cOr,if_neg hne] at hd
   rw [← hd] at H
   exact KQ H
  ·have heq:zs[i]=0:=by simpa using heq
   rw [cOr,if_pos heq] at hd
   rw [w64 (by omega) (by omega)]
   exact hself _ _ ⟨rfl,i+1,by simp,by omega,hd⟩ (by omega)
 ·have hge:i=zs.length:=by have:=of_decide_eq_false hc; dsimp only at this; omega
  subst hge
  rw [List.drop_length] at hd
  have hd:(0:Int)=cOrs zs:=hd
  rw [← hd] at H
  exact KQ H
theorem zI {l l':List Vl} {h:Heap} {Q:Int→Heap→Prop} {x y:Sl} {g:Value} (hx:VsRep h x l) (hy:VsRep h y l')
  (hg:∀ j (hj:j < l.length) (hj':j < l'.length) h1 c c' (Q1:Int→Heap→Prop),Ext h h1→VRep h1 l[j] c→VRep h1 l'[j] c'→(∀ h2,Ext h1 h2→Q1 (cmpV l[j] l'[j]) h2)→(GV Go.Proofs.Tryz.prog (fun r:Int=>.int .i64 r) g [.agg c,.agg c']).wp h1 Q1)
  (H:∀ h',Ext h h'→Q (XK l l') h'):(Kh x y g).wp h Q:=by
 unfold Kh
 have hxl:=hx.len
 have hyl:=hy.len
 have hxb:=hx.big
 have hyb:=hy.big
 have hxc:=hx.cap
 have hyc:=hy.cap
 refine M.loop_inv (fun (t:Int) h'=>Ext h h'∧∃ i:Nat,t=(i:Int)∧i≤l.length∧i≤l'.length∧XK (l.drop i) (l'.drop i)=XK l l') (fun t _=>((l.length:Int) - t).toNat) ?_ ⟨Ext.refl h,0,rfl,Nat.zero_le _,Nat.zero_le _,by simp⟩
 rintro t h' ⟨E,i,rfl,hi,hi',hd⟩ self hself
 unfold Kl
 rw [hxl,hyl]
 refine Kx (fun hc=>?_) (fun hc=>?_)
 ·have hlt:i < l.length:=by have:=of_decide_eq_true hc; omega
  obtain ⟨a,c,ha,hs,hcs,hv⟩:=(hx.ext E).get hlt
  refine GW (by omega) (by rw [hxl]; omega) ha (Wu hs (fun j hj=>by rw [Addr.add_add,show (i:Int).toNat * 4=i * 4 by omega]; exact hcs j hj) (Jp (fun h1 e1 s1 g1=>?_)))
  refine Ju hs (stR (vs:=c) g1 (by rw [hs]; decide) hv.one (fun h2 u2 g2=>?_))
  have E2:Ext h' h2:=e1.upd u2 (Nat.le_refl _)
  rw [ZV (by rw [Array.length_toList,hs]; rfl),Array.toArray_toList] at g2
  refine Kx (fun hge=>?_) (fun hlt'=>?_)
  ·have hge:i=l'.length:=by have:=of_decide_eq_true hge; omega
   subst hge
   rw [List.drop_length,List.drop_eq_getElem_cons hlt,XK] at hd
   have:=H _ (E.trans E2)
   rw [← hd] at this
   exact KQ this
  ·have hlt':i < l'.length:=by have:=of_decide_eq_false hlt'; omega
   obtain ⟨a',c',ha',hs',hcs',hv'⟩:=(hy.ext (E.trans E2)).get hlt'
   refine GW (by omega) (by rw [hyl]; omega) ha' (Wu hs' (fun j hj=>by rw [Addr.add_add,show (i:Int).toNat * 4=i * 4 by omega]; exact hcs' j hj) (Jp (fun h3 e3 s3 g3=>?_)))
   refine Ju hs' (stR (vs:=c') g3 (by rw [hs']; decide) hv'.one (fun h4 u4 g4=>?_))
   have E4:Ext h2 h4:=e3.upd u4 (Nat.le_refl _)
   rw [ZV (by rw [Array.length_toList,hs']; rfl),Array.toArray_toList] at g4
   have g2':=E4.blk g2
   refine Wu hs (fun j hj=>by rw [ZW g2']) (Wu hs' (fun j hj=>by rw [ZW g4]) ?_)
   have E':=(E.trans E2).trans E4
   refine KX (hg i hlt hlt' h4 c c' _ E' ((hv.ext E2).ext E4) (hv'.ext E4) (fun h5 e5=>?_))
   rw [List.drop_eq_getElem_cons hlt,List.drop_eq_getElem_cons hlt',XK] at hd
   refine Kx (fun hne=>?_) (fun heq=>?_)
   ·have hne:cmpV l[i] l'[i]≠0:=by simpa using hne
    rw [cOr,if_neg hne] at hd
    rw [hd]
    exact KQ (H _ (E'.trans e5))
   ·have heq:cmpV l[i] l'[i]=0:=by simpa using heq
    rw [cOr,if_pos heq] at hd
    rw [w64 (by omega) (by omega)]
    exact hself _ _ ⟨E'.trans e5,i+1,by simp,by omega,by omega,hd⟩ (by omega)
 ·have hge:i=l.length:=by have:=of_decide_eq_false hc; omega
  subst hge
  rw [List.drop_length] at hd
  refine Kx (fun hlt=>?_) (fun hge=>?_)
  ·have hlt:l.length < l'.length:=by have:=of_decide_eq_true hlt; omega
   rw [List.drop_eq_getElem_cons hlt,XK] at hd
   have:=H _ E
   rw [← hd] at this
   exact KQ this
  ·have hge:l'.length=l.length:=by have:=of_decide_eq_false hge; omega
   rw [← hge,List.drop_length,XK] at hd
   have:=H _ E
   rw [← hd] at this
   exact KQ this
theorem KBs:∀ (m:Nat) (a b:Vl) {h:Heap} {Q:Int→Heap→Prop} {x y:Array Value},sizeOf a < m→VRep h a x→VRep h b y→(∀ h',Ext h h'→Q (cmpV a b) h')→(Uu x y).wp h Q:=by
 intro m
 induction m with
 | zero=>intro a b h Q x y hm; omega
 | succ m ih =>
  rintro ⟨k,n,s,l⟩ ⟨k',n',s',l'⟩ h Q x y hm hx hy H
  obtain ⟨xs,rfl,k1,n1,s1,r1⟩:=VRep.eq.1 hx
  obtain ⟨ys,rfl,k2,n2,s2,r2⟩:=VRep.eq.1 hy
  unfold Uu
  refine Jp (fun h1 e1 z1 g1=>Jp (fun h2 e2 z2 g2=>?_))
  have g1':=e2.blk g1
  have E:=e1.trans e2
  have c0:KV h2 ((⟨h.size,0,none⟩:Addr).add 0)=some (.int .i64 k):=by rw [ZW g1']; rfl
  have c1:KV h2 ((⟨h.size,0,none⟩:Addr).add 1)=some (.int .i64 n):=by rw [ZW g1']; rfl
  have c2:KV h2 ((⟨h.size,0,none⟩:Addr).add 2)=some (.string (bs s)):=by rw [ZW g1']; rfl
  have c3:KV h2 ((⟨h.size,0,none⟩:Addr).add 3)=some xs.v:=by rw [ZW g1']; rfl
  have d0:KV h2 ((⟨h1.size,0,none⟩:Addr).add 0)=some (.int .i64 k'):=by rw [ZW g2]; rfl
  have d1:KV h2 ((⟨h1.size,0,none⟩:Addr).add 1)=some (.int .i64 n'):=by rw [ZW g2]; rfl
  have d2:KV h2 ((⟨h1.size,0,none⟩:Addr).add 2)=some (.string (bs s')):=by rw [ZW g2]; rfl
  have d3:KV h2 ((⟨h1.size,0,none⟩:Addr).add 3)=some ys.v:=by rw [ZW g2]; rfl
  refine Ux (n:=k) c0 (Ux (n:=k') d0 (Ux (n:=n) c1 (Ux (n:=n') d1 (Gj (n:=bs s) c2 (Gj (n:=bs s') d2 (UG (n:=xs) c3 (UG (n:=ys) d3 ?_)))))))
  refine KX (KBS (KBk ⟨c0,d0,c1,d1,c2,d2,c3,d3⟩ ?_))
  refine KX (zo (KBk ⟨c0,d0,c1,d1,c2,d2,c3,d3⟩ ?_))
  unfold Wm UK
  refine KX (UP (KQ (KBk ⟨c0,d0,c1,d1,c2,d2,c3,d3⟩ ?_)))
  simp only [Vl.mk.sizeOf_spec] at hm
  refine KX (zI (r1.ext E) (r2.ext E) (fun j hj hj' h3 c c' Q1 e3 hv hv' hq=>?_) (fun h3 e3=>?_))
  ·refine KA6 WL (Wn _ _) (ih _ _ ?_ hv hv' hq)
   have:=List.sizeOf_lt_of_mem (List.getElem_mem hj)
   omega
  ·refine KA8 ?_
   have e4:=Ext.push h3 (.cells #[Value.int .i64 (cmpI k k'),.int .i64 (cmpI n n'),.int .i64 (Lib.compareBytes (bs s).data.toList (bs s').data.toList),.int .i64 (XK l l')] Gm)
   refine KX (KGM (zs:=[cmpI k k',cmpI n n',Lib.compareBytes s s',XK l l']) (t:=Gm) ?_ rfl (by simp) (KQ ?_))
   ·exact Zj
   ·have:=H _ ((E.trans e3).trans e4)
    rw [cmpV] at this
    have hz:∀ a:Int,cOr a 0=a:=fun a=>by unfold cOr; split <;> simp_all
    simpa [cOrs,hz] using this
theorem GP {a b:Vl} {h:Heap} {Q:Int→Heap→Prop} {x y:Array Value} (hx:VRep h a x) (hy:VRep h b y) (H:∀ h',Ext h h'→Q (cmpV a b) h'):(Uu x y).wp h Q:=KBs _ a b (Nat.lt_succ_self _) hx hy H
end Gx
namespace Gx
open Go
set_option linter.unusedVariables false
set_option linter.unusedSimpArgs false
theorem UT (l:List UInt8):(bs l).size=l.length:=by simp [bs,ByteArray.size]
theorem bs_get? (l:List UInt8) (i:Nat):(bs l)[i]?=l[i]?:=by
 rcases Nat.lt_or_ge i l.length with h | h
 ·rw [List.getElem?_eq_getElem h]
  have:i < (bs l).size:=by rw [UT]; exact h
  rw [getElem?_pos (bs l) i this]
  rfl
 ·rw [List.getElem?_eq_none h]
  have:¬ i < (bs l).size:=by rw [UT]; omega
  rw [getElem?_neg (bs l) i this]
theorem KBt (l:List UInt8):(bs l).toList=l:=by rw [ByteArray.toList_eq]
theorem KE3 (a b:List UInt8):sEq (bs a) (bs b)=decide (a=b):=by
 unfold sEq
 rw [KBt,KBt,Bool.eq_iff_iff]
 simp
theorem KGN:ByteArray.empty=bs []:=rfl
theorem KAP {β:Type} {h:Heap} {Q:β→Heap→Prop} {l:List UInt8} {i:Nat} {t:Int} {f:Int→M β} (ht:t=(i:Int)) (hi:i < l.length) (H:(f (l[i].toNat:Int)).wp h Q):(ixS (bs l) t>>=f).wp h Q :=
 ⟨_,⟨by omega,l[i],by subst ht; rw [Int.toNat_natCast,bs_get?,List.getElem?_eq_getElem hi],rfl⟩,H⟩
theorem Gv {β:Type} {h:Heap} {Q:β→Heap→Prop} {x:Sl} {l:List Vl} {i:Nat} {t:Int} {f:Addr→M β} (H:VsRep h x l) (hi:i < l.length) (ht:t=(i:Int))
  (hq:∀ a c,c.size=4→(∀ m,m < 4→KV h (a.add m)=c[m]?)→VRep h l[i] c→(f a).wp h Q):(ixL x t 4>>=f).wp h Q:=by
 obtain ⟨a,c,ha,hs,hcs,hv⟩:=H.get hi
 have:=H.len
 subst ht
 refine GW (by omega) (by omega) ha (hq _ c hs (fun m hm=>?_) hv)
 rw [Addr.add_add,show (i:Int).toNat * 4=i * 4 by omega]
 exact hcs m hm
theorem Gy {a b:Int} {h:Heap} {Q:Int→Heap→Prop} (H:Q (cmpI a b) h):(JQ a b).wp h Q:=by
 unfold JQ
 unfold cmpI at H
 refine Kx (fun hc=>?_) (fun hc=>?_)
 ·rw [if_pos (of_decide_eq_true hc)] at H; exact H
 ·rw [if_neg (of_decide_eq_false hc)] at H
  refine Kx (fun hc=>?_) (fun hc=>?_)
  ·rw [if_pos (of_decide_eq_true hc)] at H; exact H
  ·rw [if_neg (of_decide_eq_false hc)] at H; exact H
theorem u8_lt_int {a b:UInt8}:(a < b)↔((a.toNat:Int) < (b.toNat:Int)):=by
 rw [UInt8.lt_iff_toNat_lt]; omega
theorem X3 (a b:UInt8) (s t:List UInt8):Lib.compareBytes (a::s) (b::t)=if a=b then Lib.compareBytes s t else cmpI (a.toNat:Int) (b.toNat:Int):=by
 rw [Lib.compareBytes]
 unfold cmpI
 have h1:=@u8_lt_int a b
 have h2:=@u8_lt_int b a
 by_cases he:a=b
 ·subst he
  rw [if_pos rfl,if_neg (by rw [h1]; omega),if_neg (by rw [h1]; omega)]
 ·have hne:a.toNat≠b.toNat:=fun h=>he (UInt8.toNat_inj.1 h)
  rw [if_neg he]
  by_cases hlt:a < b
  ·rw [if_pos hlt,if_pos (h1.1 hlt)]
  ·rw [if_neg hlt,if_neg (fun h=>hlt (h1.2 h))]
   have:b < a:=by rw [h2]; rw [h1] at hlt; omega
   rw [if_pos this,if_pos (h2.1 this)]
theorem KDb {s t:List UInt8} {h:Heap} {Q:Int→Heap→Prop} (hs:s.length≤9223372036854775807) (ht:t.length≤9223372036854775807) (H:Q (Lib.compareBytes s t) h):(VN (bs s) (bs t)).wp h Q:=by
 unfold VN
 refine M.loop_inv (fun (x:Int) h'=>h'=h∧∃ i:Nat,x=(i:Int)∧i≤s.length∧i≤t.length∧Lib.compareBytes (s.drop i) (t.drop i)=Lib.compareBytes s t) (fun x _=>((s.length:Int) - x).toNat) ?_ ⟨rfl,0,rfl,Nat.zero_le _,Nat.zero_le _,by simp⟩
 rintro x h' ⟨rfl,i,rfl,hi,hi',hd⟩ self hself
 unfold VH
 rw [UT,UT]
 have fin:¬ (i < s.length∧i < t.length)→(JQ (s.length:Int) (t.length:Int)).wp h' (fun r h1=>(M.pure r:M Int).wp h1 Q):=fun hno=>by
  refine Gy (KQ ?_)
  have:cmpI (s.length:Int) (t.length:Int)=Lib.compareBytes s t:=by
   rw [← hd]
   unfold cmpI
   rcases Nat.lt_or_ge i s.length with h1 | h1
   ·have h2:i=t.length:=by omega
    subst h2
    rw [List.drop_eq_getElem_cons h1,List.drop_length,Lib.compareBytes,if_neg (by omega),if_pos (by omega)]
   ·have h2:i=s.length:=by omega
    subst h2
    rw [List.drop_length]
    rcases Nat.lt_or_ge s.length t.length with h3 | h3
    ·rw [List.drop_eq_getElem_cons h3,Lib.compareBytes,if_pos (by omega)]
    ·have:t.length=s.length:=by omega
     rw [← this,List.drop_length,Lib.compareBytes,if_neg (by omega),if_neg (by omega)]
  rw [this]
  exact H
 refine KX (Kx (fun h1=>?_) (fun h1=>?_))
 ·have h1:i < s.length:=by have:=of_decide_eq_true h1; omega
  refine KQ (Kx (fun h2=>?_) (fun h2=>?_))
  ·have h2:i < t.length:=by have:=of_decide_eq_true h2; omega
   rw [List.drop_eq_getElem_cons h1,List.drop_eq_getElem_cons h2,X3] at hd
   refine KAP rfl h1 (KAP rfl h2 (Kx (fun hne=>?_) (fun heq=>?_)))
   ·have hne:s[i]≠t[i]:=fun h=>by rw [h] at hne; simp at hne
    rw [if_neg hne] at hd
    have b1:=s[i].toNat_lt
    have b2:=t[i].toNat_lt
    refine KAP rfl h1 (KAP rfl h2 ?_)
    rw [w64 (by omega) (by omega),w64 (by omega) (by omega)]
    refine KX (Gy (KQ ?_))
    rw [hd]; exact H
   ·have heq':((s[i].toNat:Int))=t[i].toNat:=by simpa using heq
    have heq:s[i]=t[i]:=UInt8.toNat_inj.1 (by omega)
    rw [if_pos heq] at hd
    rw [w64 (by omega) (by omega)]
    exact hself _ _ ⟨rfl,i+1,by simp,by omega,by omega,hd⟩ (by omega)
  ·have h2:¬ i < t.length:=by have:=of_decide_eq_false h2; omega
   exact KX (fin (fun h=>h2 h.2))
 ·have h1:¬ i < s.length:=by have:=of_decide_eq_false h1; omega
  exact KQ (iteF rfl (KX (fin (fun h=>h1 h.1))))
theorem KBu:∀ (m:Nat) (a b:Vl) {h:Heap} {Q:Int→Heap→Prop} {x y:Array Value},sizeOf a < m→VRep h a x→VRep h b y→(∀ h',Ext h h'→Q (cmpV a b) h')→(JB x y).wp h Q:=by
 intro m
 induction m with
 | zero=>intro a b h Q x y hm; omega
 | succ m ih =>
  rintro ⟨k,n,s,l⟩ ⟨k',n',s',l'⟩ h Q x y hm hx hy H
  obtain ⟨xs,rfl,k1,n1,s1,r1⟩:=VRep.eq.1 hx
  obtain ⟨ys,rfl,k2,n2,s2,r2⟩:=VRep.eq.1 hy
  simp only [Vl.mk.sizeOf_spec] at hm
  have hxl:=r1.len
  have hyl:=r2.len
  have hxb:=r1.big
  have hyb:=r2.big
  have hxc:=r1.cap
  have hyc:=r2.cap
  unfold JB
  refine Jp (fun h1 e1 z1 g1=>Jp (fun h2 e2 z2 g2=>?_))
  have g1':=e2.blk g1
  have E:=e1.trans e2
  rw [cmpV] at H
  refine Ux (n:=k) (by rw [ZW g1']; rfl) (Ux (n:=k') (by rw [ZW g2]; rfl) (KX (Gy ?_)))
  refine Kx (fun hne=>?_) (fun heq=>?_)
  ·have hne:cmpI k k'≠0:=by simpa using hne
   have:=H _ E
   rw [cOr,if_neg hne] at this
   exact KQ this
  have heq:cmpI k k'=0:=by simpa using heq
  rw [cOr,if_pos heq] at H
  refine Ux (n:=n) (by rw [ZW g1']; rfl) (Ux (n:=n') (by rw [ZW g2]; rfl) (KX (Gy ?_)))
  refine Kx (fun hne=>?_) (fun heq=>?_)
  ·have hne:cmpI n n'≠0:=by simpa using hne
   have:=H _ E
   rw [cOr,if_neg hne] at this
   exact KQ this
  have heq:cmpI n n'=0:=by simpa using heq
  rw [cOr,if_pos heq] at H
  refine Gj (n:=bs s) (by rw [ZW g1']; rfl) (Gj (n:=bs s') (by rw [ZW g2]; rfl) (KX (KDb s1 s2 ?_)))
  refine Kx (fun hne=>?_) (fun heq=>?_)
  ·have hne:Lib.compareBytes s s'≠0:=by simpa using hne
   have:=H _ E
   rw [cOr,if_neg hne] at this
   exact KQ this
  have heq:Lib.compareBytes s s'=0:=by simpa using heq
  rw [cOr,if_pos heq] at H
  refine M.loop_inv (fun (t:Int) h'=>Ext h2 h'∧∃ i:Nat,t=(i:Int)∧i≤l.length∧i≤l'.length∧XK (l.drop i) (l'.drop i)=XK l l') (fun t _=>((l.length:Int) - t).toNat) ?_ ⟨Ext.refl h2,0,rfl,Nat.zero_le _,Nat.zero_le _,by simp⟩
  rintro t h' ⟨E',i,rfl,hi,hi',hd⟩ self hself
  have f1:=E'.blk g1'
  have f2:=E'.blk g2
  have c3:KV h' ((⟨h.size,0,none⟩:Addr).add 3)=some xs.v:=by rw [ZW f1]; rfl
  have d3:KV h' ((⟨h1.size,0,none⟩:Addr).add 3)=some ys.v:=by rw [ZW f2]; rfl
  have EE:=E.trans E'
  have fin:¬ (i < l.length∧i < l'.length)→(ldL ((⟨h.size,0,none⟩:Addr).add 3)>>=fun Xx48=>ldL ((⟨h1.size,0,none⟩:Addr).add 3)>>=fun Xx49=>JQ (Xx48.len:Int) (Xx49.len:Int)>>=fun Xx50=>M.pure Xx50).wp h' Q:=fun hno=>by
   refine UG (n:=xs) c3 (UG (n:=ys) d3 (KX (Gy (KQ ?_))))
   have:cmpI (xs.len:Int) (ys.len:Int)=XK l l':=by
    rw [← hd,hxl,hyl]
    unfold cmpI
    rcases Nat.lt_or_ge i l.length with h1 | h1
    ·have h2:i=l'.length:=by omega
     subst h2
     rw [List.drop_eq_getElem_cons h1,List.drop_length,XK,if_neg (by omega),if_pos (by omega)]
    ·have h2:i=l.length:=by omega
     subst h2
     rw [List.drop_length]
     rcases Nat.lt_or_ge l.length l'.length with h3 | h3
     ·rw [List.drop_eq_getElem_cons h3,XK,if_pos (by omega)]
     ·have:l'.length=l.length:=by omega
      rw [← this,List.drop_length,XK,if_neg (by omega),if_neg (by omega)]
   rw [this]
   exact H _ EE
  unfold Uk
  refine UG (n:=xs) c3 (KX (Kx (fun h3=>?_) (fun h3=>?_)))
  ·have h3:i < l.length:=by have:=of_decide_eq_true h3; omega
   refine UG (n:=ys) d3 (KQ (Kx (fun h4=>?_) (fun h4=>?_)))
   ·have h4:i < l'.length:=by have:=of_decide_eq_true h4; omega
    rw [List.drop_eq_getElem_cons h3,List.drop_eq_getElem_cons h4,XK] at hd
    refine UG (n:=xs) c3 (Gv (r1.ext EE) h3 rfl (fun a c hs hcs hv=>Wu hs hcs (UG (n:=ys) d3 (Gv (r2.ext EE) h4 rfl (fun a' c' hs' hcs' hv'=>Wu hs' hcs' ?_)))))
    refine KX (Xb (UM _ _) (ih _ _ ?_ hv hv' (fun h5 e5=>?_)))
    ·have:=List.sizeOf_lt_of_mem (List.getElem_mem h3)
     omega
    refine Kx (fun hne=>?_) (fun heq=>?_)
    ·have hne:cmpV l[i] l'[i]≠0:=by simpa using hne
     rw [cOr,if_neg hne] at hd
     rw [hd]
     exact KQ (H _ (EE.trans e5))
    ·have heq:cmpV l[i] l'[i]=0:=by simpa using heq
     rw [cOr,if_pos heq] at hd
     rw [w64 (by omega) (by omega)]
     exact hself _ _ ⟨E'.trans e5,i+1,by simp,by omega,by omega,hd⟩ (by omega)
   ·have h4:¬ i < l'.length:=by have:=of_decide_eq_false h4; omega
    exact fin (fun h=>h4 h.2)
  ·have h3:¬ i < l.length:=by have:=of_decide_eq_false h3; omega
   exact KQ (iteF rfl (fin (fun h=>h3 h.1)))
theorem Yv {a b:Vl} {h:Heap} {Q:Int→Heap→Prop} {x y:Array Value} (hx:VRep h a x) (hy:VRep h b y) (H:∀ h',Ext h h'→Q (cmpV a b) h'):(JB x y).wp h Q:=KBu _ a b (Nat.lt_succ_self _) hx hy H
theorem KBT {β:Type} {h:Heap} {Q:β→Heap→Prop} {b:Nat} {t:TypeId} {z:Nat × Nat} {v:Vl} {cs:Array Value} {f:Array Value→M β} (hb:h[b]?=some (.cells cs t z)) (hv:cs.size=4) (H:(f cs).wp h Q):(ldG 4 ⟨b,0,none⟩>>=f).wp h Q :=
 Wu hv (fun i _=>by rw [ZW hb]) H
theorem KDc {a b:Vl} {h:Heap} {Q:Bool→Heap→Prop} {x y:Array Value} (hx:VRep h a x) (hy:VRep h b y) (H:∀ h',Ext h h'→Q (decide (cmpV a b=0)) h'):(Xv x y).wp h Q:=by
 unfold Xv
 refine Jp (fun h1 e1 z1 g1=>Jp (fun h2 e2 z2 g2=>?_))
 have E:=e1.trans e2
 refine KBT (v:=a) (e2.blk g1) hx.size (KBT (v:=b) g2 hy.size (KX (GP (hx.ext E) (hy.ext E) (fun h3 e3=>KQ ?_))))
 have:=H _ (E.trans e3)
 rwa [show (cmpV a b == 0)=decide (cmpV a b=0) from rfl]
theorem X4 {a b:Vl} {h:Heap} {Q:Bool→Heap→Prop} {x y:Array Value} (hx:VRep h a x) (hy:VRep h b y) (H:∀ h',Ext h h'→Q (decide (cmpV a b=0)) h'):(ZY x y).wp h Q:=by
 unfold ZY
 refine Jp (fun h1 e1 z1 g1=>Jp (fun h2 e2 z2 g2=>?_))
 have E:=e1.trans e2
 refine KBT (v:=a) (e2.blk g1) hx.size (KBT (v:=b) g2 hy.size (KX (Yv (hx.ext E) (hy.ext E) (fun h3 e3=>KQ ?_))))
 have:=H _ (E.trans e3)
 rwa [show (cmpV a b == 0)=decide (cmpV a b=0) from rfl]
end Gx
namespace Gx
open Go
set_option linter.unusedVariables false
set_option linter.unusedSimpArgs false
def GU:List Vl→Bool
 | a::_::c::r=>decide (cmpV a c < 0) && GU (c::r)
 | _=>true
def KDd (s:List UInt8) (l:List Vl):Bool:=decide (s=[]) && l.isEmpty
def mayV:Nat→Vl→Bool
 | 0,_=>false
 | d+1,.mk k n s l =>
  if k=1 then KDd s l
  else if k=3 then KDd s l && (decide (n=0) || decide (n=1))
  else if k=6∨k=7 then KDd s l && decide (1≤n) && decide (n≤281474976710656)
  else if k=2 then decide (n=0) && l.isEmpty && decide (s.length≤128)
  else if k=4 then decide (l.length≤256) && (decide (n=0) && decide (s=[]) && l.all (mayV d))
  else if k=5 then decide (l.length≤512) && decide (l.length % 2=0) && GU l && (decide (n=0) && decide (s=[]) && l.all (mayV d))
  else false
theorem Yw {β:Type} {h:Heap} {Q:β→Heap→Prop} {b c:Bool} {m:M Bool} {f:Bool→M β} (hm:b=true→∀ Q':Bool→Heap→Prop,Q' c h→m.wp h Q') (H:(f (b && c)).wp h Q):(M.ite b m (M.pure false)>>=f).wp h Q:=by
 cases b with
 | true=>exact hm rfl _ H
 | false=>exact H
theorem or_b {β:Type} {h:Heap} {Q:β→Heap→Prop} {b c:Bool} {m:M Bool} {f:Bool→M β} (hm:b=false→∀ Q':Bool→Heap→Prop,Q' c h→m.wp h Q') (H:(f (b || c)).wp h Q):(M.ite b (M.pure true) m>>=f).wp h Q:=by
 cases b with
 | true=>exact H
 | false=>exact hm rfl _ H
theorem len0 {n:Nat} {l:List Vl} (h:n=l.length):((n:Int) == 0)=l.isEmpty:=by
 subst h
 cases l with
 | nil=>rfl
 | cons a l=>simp; omega
theorem sEq0 (s:List UInt8):sEq (bs s) ByteArray.empty=decide (s=[]):=by rw [KGN,KE3]
theorem eqI (a b:Int):(a == b)=decide (a=b):=rfl
theorem KAQ {h:Heap} {Q:Bool→Heap→Prop} {x:Sl} {l:List Vl} {g:Value} {p:Vl→Bool} (hx:VsRep h x l)
  (hg:∀ j (hj:j < l.length) h1 c (Q1:Bool→Heap→Prop),Ext h h1→VRep h1 l[j] c→(∀ h2,Ext h1 h2→Q1 (p l[j]) h2)→(GV Go.Proofs.Tryz.prog (fun r:Bool=>.bool r) g [.agg c]).wp h1 Q1)
  (H:∀ h',Ext h h'→Q (l.any p) h'):(ZD x g).wp h Q:=by
 unfold ZD Zs
 have hxl:=hx.len
 have hxb:=hx.big
 have hxc:=hx.cap
 refine KX (M.loop_inv (fun (t:Int) h'=>Ext h h'∧∃ i:Nat,t=(i:Int)∧i≤l.length∧(l.drop i).any p=l.any p) (fun t _=>((l.length:Int) - t).toNat) ?_ ⟨Ext.refl h,0,rfl,Nat.zero_le _,by simp⟩)
 rintro t h' ⟨E,i,rfl,hi,hd⟩ self hself
 unfold Ze
 refine Kx (fun hc=>?_) (fun hc=>?_)
 ·have hlt:i < l.length:=by have:=of_decide_eq_true hc; omega
  rw [List.drop_eq_getElem_cons hlt,List.any_cons] at hd
  refine Gv (hx.ext E) hlt rfl (fun a c hs hcs hv=>Wu hs hcs (KX (hg i hlt h' c _ E hv (fun h2 e2=>?_))))
  refine Kx (fun ht=>KQ (KQ ?_)) (fun hf=>?_)
  ·rw [ht] at hd
   rw [show decide ((i:Int) ≥ 0)=l.any p by rw [← hd]; simp]
   exact H _ (E.trans e2)
  ·rw [hf,Bool.false_or] at hd
   rw [w64 (by omega) (by omega)]
   exact hself _ _ ⟨E.trans e2,i+1,by simp,by omega,hd⟩ (by omega)
 ·have hge:i=l.length:=by have:=of_decide_eq_false hc; omega
  subst hge
  rw [List.drop_length] at hd
  refine KQ (KQ ?_)
  rw [show decide ((-1:Int) ≥ 0)=l.any p by rw [← hd]; rfl]
  exact H _ E
theorem KAe {l:List Vl} {i:Nat} (h2:2≤i) (hi:i < l.length):GU (l.drop (i - 2))=(decide (cmpV (l[i - 2]'(by omega)) l[i] < 0) && GU (l.drop i)):=by
 rw [List.drop_eq_getElem_cons (show i - 2 < l.length by omega),List.drop_eq_getElem_cons (show i - 2+1 < l.length by omega)]
 have e:i - 2+1+1=i:=by omega
 simp only [e]
 rw [List.drop_eq_getElem_cons hi,GU]
theorem KBv {l:List Vl} {i:Nat} (h2:2≤i) (hi:l.length≤i):GU (l.drop (i - 2))=true:=by
 have hl:(l.drop (i - 2)).length≤2:=by rw [List.length_drop]; omega
 match h:l.drop (i - 2),hl with
 | [],_=>rfl
 | [_],_=>rfl
 | [_,_],_=>rfl
theorem KHz (l:List Vl) (p:Vl→Bool):(!l.any fun x=>!p x)=l.all p:=by
 induction l with
 | nil=>rfl
 | cons a l ih=>simp [List.any_cons,List.all_cons,← ih]
theorem KE4:∀ (d:Nat) (v:Vl) {h:Heap} {Q:Bool→Heap→Prop} {x:Array Value},d≤8→VRep h v x→(∀ h',Ext h h'→Q (mayV d v) h')→(Y8 x ((9 - d:Nat):Int)).wp h Q:=by
 intro d
 induction d with
 | zero =>
  rintro v h Q x _ hx H
  unfold Y8
  refine Jp (fun h1 e1 z1 g1=>Jp (fun h2 e2 z2 g2=>?_))
  refine Ux (n:=((9 - 0:Nat):Int)) (by rw [show (⟨h1.size,0,none⟩:Addr)=(⟨h1.size,0,none⟩:Addr).add 0 from rfl,ZW g2]; rfl) (iteT rfl (KQ (H _ (e1.trans e2))))
 | succ d ih =>
  rintro ⟨k,n,s,l⟩ h Q x hd hx H
  obtain ⟨xs,rfl,k1,n1,s1,r1⟩:=VRep.eq.1 hx
  have hxl:=r1.len
  have hxb:=r1.big
  have hxc:=r1.cap
  unfold Y8
  refine Jp (fun h1 e1 z1 g1=>Jp (fun h2 e2 z2 g2=>?_))
  have g1':=e2.blk g1
  have E:=e1.trans e2
  have c0:KV h2 ((⟨h.size,0,none⟩:Addr).add 0)=some (.int .i64 k):=by rw [ZW g1']; rfl
  have c1:KV h2 ((⟨h.size,0,none⟩:Addr).add 1)=some (.int .i64 n):=by rw [ZW g1']; rfl
  have c2:KV h2 ((⟨h.size,0,none⟩:Addr).add 2)=some (.string (bs s)):=by rw [ZW g1']; rfl
  have c3:KV h2 ((⟨h.size,0,none⟩:Addr).add 3)=some xs.v:=by rw [ZW g1']; rfl
  have cd:KV h2 ⟨h1.size,0,none⟩=some (.int .i64 ((9 - (d+1):Nat):Int)):=by rw [show (⟨h1.size,0,none⟩:Addr)=(⟨h1.size,0,none⟩:Addr).add 0 from rfl,ZW g2]; rfl
  have H2:Q (mayV (d+1) (.mk k n s l)) h2:=H _ E
  unfold mayV at H H2
  refine Ux cd (iteF (by simp; omega) (Gj c2 (Yw (c:=l.isEmpty) (fun _ Q' hq=>UG c3 (KQ (by rw [len0 hxl]; exact hq))) ?_)))
  rw [sEq0]
  have hb:(decide (s=[]) && l.isEmpty)=KDd s l:=rfl
  rw [hb]
  have tail:(∀ h',Ext h h'→Q (decide (n=0) && decide (s=[]) && l.all (mayV d)) h')→∀ h3,Ext h2 h3→(WU ⟨h.size,0,none⟩ ⟨h1.size,0,none⟩).wp h3 Q:=fun HT h3 e3=>by
   unfold WU
   refine Ux (e3.cell c1) (Yw (c:=decide (s=[])) (fun _ Q' hq=>Gj (e3.cell c2) (KQ (by rw [sEq0]; exact hq))) ?_)
   rw [eqI]
   cases hns:(decide (n=0) && decide (s=[])) with
   | false =>
    have:=HT h3 (E.trans e3)
    rw [hns] at this
    exact UP (KQ this)
   | true =>
    rw [hns] at HT
    refine KX (iteT rfl (UG (e3.cell c3) (KX (KAQ (p:=fun x=>!mayV d x) (r1.ext (E.trans e3)) (fun j hj h4 c Q1 e4 hv hq=>?_) (fun h4 e4=>KQ (KQ ?_))))))
    ·refine KA6 KAJ (KBP _ _) ?_
     unfold Nt
     refine Jp (fun h5 e5 z5 g5=>KBT (v:=l[j]) g5 hv.size (Ux (e5.cell (e4.cell (e3.cell cd))) ?_))
     rw [show IntKind.wrap .i64 (((9 - (d+1):Nat):Int)+1)=((9 - d:Nat):Int) by rw [w64 (by omega) (by omega)]; omega]
     exact KX (ih _ (by omega) (hv.ext e5) (fun h6 e6=>KQ (hq _ (e5.trans e6))))
    ·rw [KHz]
     exact HT _ ((E.trans e3).trans e4)
  refine Ux c0 (Kx (fun h1k=>?_) (fun h1k=>?_))
  ·have h1k:k=1:=by simpa using h1k
   rw [if_pos h1k] at H2
   exact KQ H2
  have h1k:¬ k=1:=by simpa using h1k
  rw [if_neg h1k] at H2
  simp only [if_neg h1k] at H
  refine Kx (fun h3k=>?_) (fun h3k=>?_)
  ·have h3k:k=3:=by simpa using h3k
   rw [if_pos h3k] at H2
   refine Yw (c:=(decide (n=0) || decide (n=1))) (fun _ Q' hq=>Ux c1 (or_b (c:=decide (n=1)) (fun _ Q'' hq'=>Ux c1 (KQ hq')) (KQ hq))) (KQ H2)
  have h3k:¬ k=3:=by simpa using h3k
  rw [if_neg h3k] at H2
  simp only [if_neg h3k] at H
  have j2:(WV ⟨h.size,0,none⟩ ⟨h1.size,0,none⟩ (KDd s l) k (decide (k=6∨k=7))).wp h2 Q:=by
   unfold WV
   refine Kx (fun h67=>?_) (fun h67=>?_)
   ·rw [if_pos (of_decide_eq_true h67)] at H2
    refine Yw (c:=decide (1≤n)) (fun _ Q' hq=>Ux c1 (KQ hq)) (Yw (c:=decide (n≤281474976710656)) (fun _ Q' hq=>Ux c1 (KQ hq)) (KQ H2))
   rw [if_neg (of_decide_eq_false h67)] at H2
   simp only [if_neg (of_decide_eq_false h67)] at H
   refine Kx (fun h2k=>?_) (fun h2k=>?_)
   ·have h2k:k=2:=by simpa using h2k
    rw [if_pos h2k] at H2
    refine Ux c1 (Yw (c:=l.isEmpty) (fun _ Q' hq=>UG c3 (KQ (by rw [len0 hxl]; exact hq))) (Yw (c:=decide (s.length≤128)) (fun _ Q' hq=>Gj c2 (KQ (by rw [show decide (((bs s).size:Int)≤128)=decide (s.length≤128) by rw [UT,Bool.eq_iff_iff]; simp only [decide_eq_true_eq]; omega]; exact hq))) (KQ ?_)))
    exact H2
   have h2k:¬ k=2:=by simpa using h2k
   rw [if_neg h2k] at H2
   simp only [if_neg h2k] at H
   refine Kx (fun h4k=>?_) (fun h4k=>?_)
   ·have h4k:k=4:=by simpa using h4k
    rw [if_pos h4k] at H2
    simp only [if_pos h4k] at H
    refine UG c3 (Kx (fun hbig=>?_) (fun hsm=>?_))
    ·have:¬ l.length≤256:=by have:=of_decide_eq_true hbig; omega
     rw [decide_eq_false this,Bool.false_and] at H2
     exact KQ H2
    ·have:l.length≤256:=by have:=of_decide_eq_false hsm; omega
     simp only [decide_eq_true this,Bool.true_and] at H
     exact tail H h2 (Ext.refl _)
   have h4k:¬ k=4:=by simpa using h4k
   rw [if_neg h4k] at H2
   simp only [if_neg h4k] at H
   refine Kx (fun h5k=>?_) (fun h5k=>?_)
   ·have h5k:k=5:=by simpa using h5k
    rw [if_pos h5k] at H2
    simp only [if_pos h5k] at H
    have hodd:((Int.tmod (xs.len:Int) 2) == 1)=!decide (l.length % 2=0):=by
     rw [hxl,Int.tmod_eq_emod_of_nonneg (by omega),Bool.eq_iff_iff]
     simp
     omega
    refine UG c3 (or_b (c:=!decide (l.length % 2=0)) (fun _ Q' hq=>UG c3 (KQ (by rw [hodd]; exact hq))) ?_)
    have hbig:decide ((xs.len:Int) > 512)=!decide (l.length≤512):=by
     rw [hxl,Bool.eq_iff_iff]; simp; omega
    rw [hbig]
    cases h512:decide (l.length≤512) with
    | false=>rw [h512] at H2; exact iteT rfl (KQ (by simpa using H2))
    | true =>
     cases heven:decide (l.length % 2=0) with
     | false=>rw [h512,heven] at H2; exact iteT rfl (KQ (by simpa using H2))
     | true =>
      simp only [h512,heven,Bool.true_and] at H
      refine iteF rfl ?_
      refine M.loop_inv (fun (t:Int) h'=>Ext h2 h'∧∃ i:Nat,t=(i:Int)∧2≤i∧i≤l.length+2∧GU (l.drop (i - 2))=GU l) (fun t _=>((l.length:Int)+2 - t).toNat) ?_ ⟨Ext.refl h2,2,rfl,Nat.le_refl _,by omega,by simp⟩
      rintro t h' ⟨E',i,rfl,hi2,hi,hd'⟩ self hself
      unfold XW
      have hl512:=of_decide_eq_true h512
      refine UG (E'.cell c3) (Kx (fun hc=>?_) (fun hc=>?_))
      ·have hlt:i < l.length:=by have:=of_decide_eq_true hc; omega
       rw [KAe hi2 hlt] at hd'
       have EE:=E.trans E'
       refine UG (E'.cell c3) (Gv (i:=i - 2) (r1.ext EE) (by omega) (by rw [w64 (by omega) (by omega)]; omega) (fun a c hs hcs hv=>Wu hs hcs (UG (E'.cell c3) (Gv (r1.ext EE) hlt rfl (fun a' c' hs' hcs' hv'=>Wu hs' hcs' ?_)))))
       refine KX (GP hv hv' (fun h3 e3=>?_))
       refine Kx (fun hge=>?_) (fun hlt'=>?_)
       ·have hge:¬ cmpV (l[i - 2]'(by omega)) l[i] < 0:=by have:=of_decide_eq_true hge; omega
        rw [decide_eq_false hge,Bool.false_and] at hd'
        have:=H _ (EE.trans e3)
        rw [← hd',Bool.false_and] at this
        exact KQ this
       ·have hlt':cmpV (l[i - 2]'(by omega)) l[i] < 0:=by have:=of_decide_eq_false hlt'; omega
        rw [decide_eq_true hlt',Bool.true_and] at hd'
        rw [w64 (by omega) (by omega)]
        exact hself _ _ ⟨E'.trans e3,i+2,by simp,by omega,by omega,by simpa using hd'⟩ (by omega)
      ·have hge:l.length≤i:=by have:=of_decide_eq_false hc; omega
       rw [KBv hi2 hge] at hd'
       refine tail (fun h3 e3=>?_) h' E'
       have:=H h3 e3
       rw [← hd',Bool.true_and] at this
       exact this
   ·have h5k:¬ k=5:=by simpa using h5k
    rw [if_neg h5k] at H2
    exact KQ H2
  refine Kx (fun h6k=>?_) (fun h6k=>?_)
  ·have h6k:k=6:=by simpa using h6k
   have e:(k == 6)=decide (k=6∨k=7):=by subst h6k; rfl
   rw [e]
   exact j2
  ·have h6k:¬ k=6:=by simpa using h6k
   have e:(k == 7)=decide (k=6∨k=7):=by rw [eqI,Bool.eq_iff_iff]; simp [h6k]
   rw [e]
   exact j2
def WZ (v:Vl):Int:=if mayV 8 v=true then 0 else 20
theorem Nu {v:Vl} {h:Heap} {Q:Int→Heap→Prop} {x:Array Value} (hx:VRep h v x) (H:∀ h',Ext h h'→Q (WZ v) h'):(WP x).wp h Q:=by
 unfold WP
 refine Jp (fun h1 e1 z1 g1=>KBT (v:=v) g1 hx.size (KX (KE4 8 v (Nat.le_refl _) (hx.ext e1) (fun h2 e2=>?_))))
 have:=H _ (e1.trans e2)
 unfold WZ at this
 cases hm:mayV 8 v with
 | true=>rw [hm,if_pos rfl] at this; exact iteF rfl (KQ this)
 | false=>rw [hm,if_neg (by simp)] at this; exact iteT rfl (KQ this)
end Gx
namespace Gx
open Go
set_option linter.unusedVariables false
set_option linter.unusedSimpArgs false
theorem KCM {l:List Vl} {h:Heap} {Q:Bool→Heap→Prop} {x:Sl} (hx:VsRep h x l) (hb:l.length≤9223372036854775000) (H:∀ h',Ext h h'→Q (GU l) h'):(U9 x).wp h Q:=by
 unfold U9
 have hxl:=hx.len
 refine M.loop_inv (fun (t:Int) h'=>Ext h h'∧∃ i:Nat,t=(i:Int)∧2≤i∧i≤l.length+2∧GU (l.drop (i - 2))=GU l) (fun t _=>((l.length:Int)+2 - t).toNat) ?_ ⟨Ext.refl h,2,rfl,Nat.le_refl _,by omega,by simp⟩
 rintro t h' ⟨E,i,rfl,hi2,hi,hd'⟩ self hself
 unfold U0
 rw [hxl]
 refine Kx (fun hc=>?_) (fun hc=>?_)
 ·have hlt:i < l.length:=by have:=of_decide_eq_true hc; omega
  rw [KAe hi2 hlt] at hd'
  refine Gv (i:=i - 2) (hx.ext E) (by omega) (by rw [w64 (by omega) (by omega)]; omega) (fun a c hs hcs hv=>Gv (hx.ext E) hlt rfl (fun a' c' hs' hcs' hv'=>Wu hs hcs (Wu hs' hcs' ?_)))
  refine KX (Yv hv hv' (fun h3 e3=>?_))
  refine Kx (fun hge=>?_) (fun hlt'=>?_)
  ·have hge:¬ cmpV (l[i - 2]'(by omega)) l[i] < 0:=by have:=of_decide_eq_true hge; omega
   rw [decide_eq_false hge,Bool.false_and] at hd'
   have:=H _ (E.trans e3)
   rw [← hd'] at this
   exact KQ this
  ·have hlt':cmpV (l[i - 2]'(by omega)) l[i] < 0:=by have:=of_decide_eq_false hlt'; omega
   rw [decide_eq_true hlt',Bool.true_and] at hd'
   rw [w64 (by omega) (by omega)]
   exact hself _ _ ⟨E.trans e3,i+2,by simp,by omega,by omega,by simpa using hd'⟩ (by omega)
 ·have hge:l.length≤i:=by have:=of_decide_eq_false hc; omega
  rw [KBv hi2 hge] at hd'
  have:=H _ E
  rw [← hd'] at this
  exact KQ this
theorem KE5 {d:Nat} (hd:d≤7) {l:List Vl} {h:Heap} {Q:Bool→Heap→Prop} {x:Sl} (hx:VsRep h x l)
  (hg:∀ j (hj:j < l.length) h1 c (Q1:Bool→Heap→Prop),Ext h h1→VRep h1 l[j] c→(∀ h2,Ext h1 h2→Q1 (mayV d l[j]) h2)→(Uh c ((8 - d:Nat):Int)).wp h1 Q1)
  (H:∀ h',Ext h h'→Q (l.all (mayV d)) h'):(Ws x ((8 - (d+1):Nat):Int)).wp h Q:=by
 unfold Ws
 have hxl:=hx.len
 have hxb:=hx.big
 have hxc:=hx.cap
 refine M.loop_inv (fun (t:Int) h'=>Ext h h'∧∃ i:Nat,t=(i:Int)∧i≤l.length∧(l.drop i).all (mayV d)=l.all (mayV d)) (fun t _=>((l.length:Int) - t).toNat) ?_ ⟨Ext.refl h,0,rfl,Nat.zero_le _,by simp⟩
 rintro t h' ⟨E,i,rfl,hi,hd'⟩ self hself
 unfold Vc
 rw [hxl]
 refine Kx (fun hc=>?_) (fun hc=>?_)
 ·have hlt:i < l.length:=by have:=of_decide_eq_true hc; omega
  rw [List.drop_eq_getElem_cons hlt,List.all_cons] at hd'
  refine Gv (hx.ext E) hlt rfl (fun a c hs hcs hv=>Wu hs hcs ?_)
  rw [show IntKind.wrap .i64 (((8 - (d+1):Nat):Int)+1)=((8 - d:Nat):Int) by rw [w64 (by omega) (by omega)]; omega]
  refine KX (Xb (Xz _ _) (hg i hlt h' c _ E hv (fun h2 e2=>?_)))
  refine Kx (fun hf=>?_) (fun ht=>?_)
  ·have hf:mayV d l[i]=false:=by simpa using hf
   rw [hf,Bool.false_and] at hd'
   have:=H _ (E.trans e2)
   rw [← hd'] at this
   exact KQ this
  ·have ht:mayV d l[i]=true:=by simpa using ht
   rw [ht,Bool.true_and] at hd'
   rw [w64 (by omega) (by omega)]
   exact hself _ _ ⟨E.trans e2,i+1,by simp,by omega,hd'⟩ (by omega)
 ·have hge:i=l.length:=by have:=of_decide_eq_false hc; omega
  subst hge
  rw [List.drop_length] at hd'
  have:=H _ E
  rw [← hd'] at this
  exact KQ this
theorem KE6:∀ (d:Nat) (v:Vl) {h:Heap} {Q:Bool→Heap→Prop} {x:Array Value},d≤8→VRep h v x→(∀ h',Ext h h'→Q (mayV d v) h')→(Uh x ((8 - d:Nat):Int)).wp h Q:=by
 intro d
 induction d with
 | zero =>
  rintro v h Q x _ hx H
  unfold Uh
  exact Jp (fun h1 e1 z1 g1=>iteT rfl (KQ (H _ e1)))
 | succ d ih =>
  rintro ⟨k,n,s,l⟩ h Q x hd hx H
  obtain ⟨xs,rfl,k1,n1,s1,r1⟩:=VRep.eq.1 hx
  have hxl:=r1.len
  have hxb:=r1.big
  have hxc:=r1.cap
  unfold Uh
  refine Jp (fun h1 E z1 g1=>?_)
  have c0:KV h1 ((⟨h.size,0,none⟩:Addr).add 0)=some (.int .i64 k):=by rw [ZW g1]; rfl
  have c1:KV h1 ((⟨h.size,0,none⟩:Addr).add 1)=some (.int .i64 n):=by rw [ZW g1]; rfl
  have c2:KV h1 ((⟨h.size,0,none⟩:Addr).add 2)=some (.string (bs s)):=by rw [ZW g1]; rfl
  have c3:KV h1 ((⟨h.size,0,none⟩:Addr).add 3)=some xs.v:=by rw [ZW g1]; rfl
  have H2:Q (mayV (d+1) (.mk k n s l)) h1:=H _ E
  unfold mayV at H H2
  have bare:∀ {β:Type} {Q':β→Heap→Prop} {f:Bool→M β},(f (KDd s l)).wp h1 Q'→(ldS ((⟨h.size,0,none⟩:Addr).add 2)>>=fun x=>M.ite (sEq x ByteArray.empty) (ldL ((⟨h.size,0,none⟩:Addr).add 3)>>=fun y=>M.pure ((y.len:Int) == 0)) (M.pure false)>>=f).wp h1 Q':=fun hq=>by
   refine Gj c2 (Yw (c:=l.isEmpty) (fun _ Q' hq=>UG c3 (KQ (by rw [len0 hxl]; exact hq))) ?_)
   rw [sEq0]
   exact hq
  have all:∀ {Q':Bool→Heap→Prop},(∀ h',Ext h1 h'→Q' (l.all (mayV d)) h')→(ldL ((⟨h.size,0,none⟩:Addr).add 3)>>=fun y=>NY Go.Proofs.Tryz.prog Wg #[y.v,.int .i64 ((8 - (d+1):Nat):Int)] (fun r:Bool=>.bool r)>>=fun r=>M.pure r).wp h1 Q':=fun hq =>
   UG c3 (KX (Xb (qv _ _) (KE5 (by omega) (r1.ext E) (fun j hj h4 c Q1 e4 hv hq'=>ih _ (by omega) hv hq') (fun h2 e2=>KQ (hq _ e2)))))
  refine iteF (by simp; omega) (Ux c0 (Kx (fun h1k=>?_) (fun h1k=>?_)))
  ·have h1k:k=1:=by simpa using h1k
   rw [if_pos h1k] at H2
   exact bare (KQ H2)
  have h1k:¬ k=1:=by simpa using h1k
  rw [if_neg h1k] at H2
  simp only [if_neg h1k] at H
  refine Kx (fun h3k=>?_) (fun h3k=>?_)
  ·have h3k:k=3:=by simpa using h3k
   rw [if_pos h3k] at H2
   refine bare (Yw (c:=(decide (n=0) || decide (n=1))) (fun _ Q' hq=>Ux c1 (or_b (c:=decide (n=1)) (fun _ Q'' hq'=>Ux c1 (KQ hq')) (KQ hq))) (KQ H2))
  have h3k:¬ k=3:=by simpa using h3k
  rw [if_neg h3k] at H2
  simp only [if_neg h3k] at H
  have j2:(UQ ((8 - (d+1):Nat):Int) ⟨h.size,0,none⟩ k (decide (k=6∨k=7))).wp h1 Q:=by
   unfold UQ
   refine Kx (fun h67=>?_) (fun h67=>?_)
   ·rw [if_pos (of_decide_eq_true h67)] at H2
    exact bare (Yw (c:=decide (1≤n)) (fun _ Q' hq=>Ux c1 (KQ hq)) (Yw (c:=decide (n≤281474976710656)) (fun _ Q' hq=>Ux c1 (KQ hq)) (KQ H2)))
   rw [if_neg (of_decide_eq_false h67)] at H2
   simp only [if_neg (of_decide_eq_false h67)] at H
   refine Kx (fun h2k=>?_) (fun h2k=>?_)
   ·have h2k:k=2:=by simpa using h2k
    rw [if_pos h2k] at H2
    refine Ux c1 (Yw (c:=l.isEmpty) (fun _ Q' hq=>UG c3 (KQ (by rw [len0 hxl]; exact hq))) (Yw (c:=decide (s.length≤128)) (fun _ Q' hq=>Gj c2 (KQ (by rw [show decide (((bs s).size:Int)≤128)=decide (s.length≤128) by rw [UT,Bool.eq_iff_iff]; simp only [decide_eq_true_eq]; omega]; exact hq))) (KQ ?_)))
    exact H2
   have h2k:¬ k=2:=by simpa using h2k
   rw [if_neg h2k] at H2
   simp only [if_neg h2k] at H
   have zero:∀ {β:Type} {Q':β→Heap→Prop} {f:Bool→M β},(f (decide (n=0) && decide (s=[]))).wp h1 Q'→(ldI .i64 ((⟨h.size,0,none⟩:Addr).add 1)>>=fun x=>M.ite (x == 0) (ldS ((⟨h.size,0,none⟩:Addr).add 2)>>=fun y=>M.pure (sEq y ByteArray.empty)) (M.pure false)>>=f).wp h1 Q':=fun hq =>
    Ux c1 (Yw (c:=decide (s=[])) (fun _ Q' hq=>Gj c2 (KQ (by rw [sEq0]; exact hq))) hq)
   refine Kx (fun h4k=>?_) (fun h4k=>?_)
   ·have h4k:k=4:=by simpa using h4k
    rw [if_pos h4k] at H2
    simp only [if_pos h4k] at H
    refine zero (Yw (c:=decide (l.length≤256)) (fun _ Q' hq=>UG c3 (KQ (by rw [show decide ((xs.len:Int)≤256)=decide (l.length≤256) by rw [hxl,Bool.eq_iff_iff]; simp only [decide_eq_true_eq]; omega]; exact hq))) ?_)
    cases hz:(decide (n=0) && decide (s=[])) with
    | false =>
     rw [hz] at H2
     exact UP (KQ (by simpa using H2))
    | true =>
     cases hl:decide (l.length≤256) with
     | false=>rw [hl] at H2; exact UP (KQ (by simpa using H2))
     | true =>
      simp only [hz,hl,Bool.true_and] at H
      exact KX (iteT rfl (all (fun h2 e2=>KQ (H _ (E.trans e2)))))
   have h4k:¬ k=4:=by simpa using h4k
   rw [if_neg h4k] at H2
   simp only [if_neg h4k] at H
   refine Kx (fun h5k=>?_) (fun h5k=>?_)
   ·have h5k:k=5:=by simpa using h5k
    rw [if_pos h5k] at H2
    simp only [if_pos h5k] at H
    have heven:((Int.tmod (xs.len:Int) 2) == 0)=decide (l.length % 2=0):=by
     rw [hxl,Int.tmod_eq_emod_of_nonneg (by omega),Bool.eq_iff_iff]
     simp
     omega
    refine zero (Yw (c:=decide (l.length≤512)) (fun _ Q' hq=>UG c3 (KQ (by rw [show decide ((xs.len:Int)≤512)=decide (l.length≤512) by rw [hxl,Bool.eq_iff_iff]; simp only [decide_eq_true_eq]; omega]; exact hq))) ?_)
    refine Yw (c:=decide (l.length % 2=0)) (fun _ Q' hq=>UG c3 (KQ (by rw [heven]; exact hq))) ?_
    cases hz:(decide (n=0) && decide (s=[])) with
    | false =>
     rw [hz] at H2
     exact UP (UP (KQ (by simpa using H2)))
    | true =>
     cases hl:decide (l.length≤512) with
     | false=>rw [hl] at H2; exact UP (UP (KQ (by simpa using H2)))
     | true =>
      cases hev:decide (l.length % 2=0) with
      | false=>rw [hev] at H2; exact UP (UP (KQ (by simpa using H2)))
      | true =>
       simp only [hz,hl,hev,Bool.true_and] at H
       refine KX (iteT rfl (all (fun h2 e2=>?_)))
       cases ha:l.all (mayV d) with
       | false =>
        have:=H _ (E.trans e2)
        rw [ha,Bool.and_false] at this
        exact UP (KQ this)
       | true =>
        refine KX (iteT rfl (UG (e2.cell c3) (KX (KCM (r1.ext (E.trans e2)) (by have:=of_decide_eq_true hl; omega) (fun h3 e3=>KQ (KQ ?_))))))
        have:=H _ ((E.trans e2).trans e3)
        rw [ha,Bool.and_true] at this
        exact this
   ·have h5k:¬ k=5:=by simpa using h5k
    rw [if_neg h5k] at H2
    exact KQ H2
  refine Kx (fun h6k=>?_) (fun h6k=>?_)
  ·have h6k:k=6:=by simpa using h6k
   have e:(k == 6)=decide (k=6∨k=7):=by subst h6k; rfl
   rw [e]
   exact j2
  ·have h6k:¬ k=6:=by simpa using h6k
   have e:(k == 7)=decide (k=6∨k=7):=by rw [eqI,Bool.eq_iff_iff]; simp [h6k]
   rw [e]
   exact j2
theorem zp {v:Vl} {h:Heap} {Q:Int→Heap→Prop} {x:Array Value} (hx:VRep h v x) (H:∀ h',Ext h h'→Q (WZ v) h'):(Ub x).wp h Q:=by
 unfold Ub
 refine Jp (fun h1 e1 z1 g1=>KBT (v:=v) g1 hx.size (KX (KE6 8 v (Nat.le_refl _) (hx.ext e1) (fun h2 e2=>?_))))
 have:=H _ (e1.trans e2)
 unfold WZ at this
 cases hm:mayV 8 v with
 | true=>rw [hm,if_pos rfl] at this; exact iteF rfl (KQ this)
 | false=>rw [hm,if_neg (by simp)] at this; exact iteT rfl (KQ this)
end Gx
namespace Gx
open Go
set_option linter.unusedVariables false
set_option linter.unusedSimpArgs false
mutual
def JS (S:Nat→Prop) (h:Heap):Vl→Array Value→Prop
 | .mk k n s l,cs=>∃ x:Sl,cs=Z9 k n s x∧I64 k∧I64 n∧s.length≤9223372036854775807∧(x.len=l.length∧x.len≤x.cap∧x.len≤9223372036854775807∧YC S h l x.base 0)
def YC (S:Nat→Prop) (h:Heap):List Vl→Option Addr→Nat→Prop
 | [],_,_=>True
 | v::l,b,i=>(∃ a cs,b=some a∧S a.block∧cs.size=4∧(∀ j,j < 4→KV h (a.add (i * 4+j))=cs[j]?)∧JS S h v cs)∧YC S h l b (i+1)
end
structure VsRepS (S:Nat→Prop) (h:Heap) (x:Sl) (l:List Vl):Prop where
 len:x.len=l.length
 cap:x.len≤x.cap
 big:x.len≤9223372036854775807
 at_:YC S h l x.base 0
theorem JS.eq {S:Nat→Prop} {h:Heap} {k n:Int} {s:List UInt8} {l:List Vl} {cs:Array Value}:JS S h (.mk k n s l) cs↔∃ x:Sl,cs=Z9 k n s x∧I64 k∧I64 n∧s.length≤9223372036854775807∧VsRepS S h x l:=by
 rw [JS]
 constructor
 ·rintro ⟨x,h1,h2,h3,h4,h5,h6,h7,h8⟩; exact ⟨x,h1,h2,h3,h4,h5,h6,h7,h8⟩
 ·rintro ⟨x,h1,h2,h3,h4,h5,h6,h7,h8⟩; exact ⟨x,h1,h2,h3,h4,h5,h6,h7,h8⟩
theorem YC.get {S:Nat→Prop} {h:Heap}:∀ {l:List Vl} {b:Option Addr} {i:Nat},YC S h l b i→∀ {j:Nat} (hj:j < l.length),∃ a cs,b=some a∧S a.block∧cs.size=4∧(∀ m,m < 4→KV h (a.add ((i+j) * 4+m))=cs[m]?)∧JS S h l[j] cs
 | [],_,_,_,j,hj=>by simp at hj
 | v::l,b,i,H,0,hj=>by rw [YC] at H; exact H.1
 | v::l,b,i,H,j+1,hj=>by
  rw [YC] at H
  have:=YC.get H.2 (j:=j) (by simpa using hj)
  rw [show i+(j+1)=i+1+j by omega]
  exact this
theorem YC.of {S:Nat→Prop} {h:Heap}:∀ {l:List Vl} {b:Option Addr} {i:Nat},(∀ j (hj:j < l.length),∃ a cs,b=some a∧S a.block∧cs.size=4∧(∀ m,m < 4→KV h (a.add ((i+j) * 4+m))=cs[m]?)∧JS S h l[j] cs)→YC S h l b i
 | [],_,_,_=>by rw [YC]; trivial
 | v::l,b,i,H=>by
  rw [YC]
  refine ⟨H 0 (by simp),YC.of (fun j hj=>?_)⟩
  have:=H (j+1) (by simpa using hj)
  rw [show i+1+j=i+(j+1) by omega]
  exact this
theorem VsRepS.get {S:Nat→Prop} {h:Heap} {x:Sl} {l:List Vl} (H:VsRepS S h x l) {j:Nat} (hj:j < l.length):∃ a cs,x.base=some a∧S a.block∧cs.size=4∧(∀ m,m < 4→KV h (a.add (j * 4+m))=cs[m]?)∧JS S h l[j] cs:=by
 have:=H.at_.get hj
 rw [Nat.zero_add] at this
 exact this
theorem KE7 {k n:Int} {s:List UInt8} {l:List Vl} {m j:Nat} (hm:sizeOf (Vl.mk k n s l) < m+1) (hj:j < l.length):sizeOf l[j] < m:=by
 have:=List.sizeOf_lt_of_mem (List.getElem_mem hj)
 simp only [Vl.mk.sizeOf_spec] at hm
 omega
theorem qw {S T:Nat→Prop} {h h':Heap} (e:∀ b,S b→h'[b]?=h[b]?) (hT:∀ b,S b→T b):∀ (m:Nat) (v:Vl) (cs:Array Value),sizeOf v < m→JS S h v cs→JS T h' v cs:=by
 intro m
 induction m with
 | zero=>intro v cs hm; omega
 | succ m ih =>
  rintro ⟨k,n,s,l⟩ cs hm H
  obtain ⟨x,h1,h2,h3,h4,h5⟩:=JS.eq.1 H
  refine JS.eq.2 ⟨x,h1,h2,h3,h4,h5.len,h5.cap,h5.big,YC.of (fun j hj=>?_)⟩
  obtain ⟨a,cs',ha,hS,hs,hc,hv⟩:=h5.at_.get hj
  refine ⟨a,cs',ha,hT _ hS,hs,fun i hi=>?_,ih _ _ (KE7 hm hj) hv⟩
  rw [← hc i hi]
  unfold KV
  rw [Y3,e _ hS]
theorem JS.same {S:Nat→Prop} {h h':Heap} {v:Vl} {cs:Array Value} (H:JS S h v cs) (e:∀ b,S b→h'[b]?=h[b]?):JS S h' v cs:=qw e (fun _ h=>h) _ v cs (Nat.lt_succ_self _) H
theorem JS.mono {S T:Nat→Prop} {h:Heap} {v:Vl} {cs:Array Value} (H:JS S h v cs) (e:∀ b,S b→T b):JS T h v cs:=qw (fun _ _=>rfl) e _ v cs (Nat.lt_succ_self _) H
theorem KGO {S:Nat→Prop} {h:Heap}:∀ (m:Nat) (v:Vl) (cs:Array Value),sizeOf v < m→JS S h v cs→VRep h v cs:=by
 intro m
 induction m with
 | zero=>intro v cs hm; omega
 | succ m ih =>
  rintro ⟨k,n,s,l⟩ cs hm H
  obtain ⟨x,h1,h2,h3,h4,h5⟩:=JS.eq.1 H
  refine VRep.eq.2 ⟨x,h1,h2,h3,h4,h5.len,h5.cap,h5.big,VsAt.of (fun j hj=>?_)⟩
  obtain ⟨a,cs',ha,hS,hs,hc,hv⟩:=h5.at_.get hj
  exact ⟨a,cs',ha,hs,hc,ih _ _ (KE7 hm hj) hv⟩
theorem JS.to {S:Nat→Prop} {h:Heap} {v:Vl} {cs:Array Value} (H:JS S h v cs):VRep h v cs:=KGO _ v cs (Nat.lt_succ_self _) H
theorem qV {h:Heap} {a:Addr} {v:Value} (H:KV h a=some v):a.block < h.size:=by
 rcases Nat.lt_or_ge a.block h.size with h1 | h1
 ·exact h1
 ·unfold KV at H
  rw [Array.getElem?_eq_none h1] at H
  cases H
theorem KH0 {h:Heap}:∀ (m:Nat) (v:Vl) (cs:Array Value),sizeOf v < m→VRep h v cs→JS (· < h.size) h v cs:=by
 intro m
 induction m with
 | zero=>intro v cs hm; omega
 | succ m ih =>
  rintro ⟨k,n,s,l⟩ cs hm H
  obtain ⟨x,h1,h2,h3,h4,h5⟩:=VRep.eq.1 H
  refine JS.eq.2 ⟨x,h1,h2,h3,h4,h5.len,h5.cap,h5.big,YC.of (fun j hj=>?_)⟩
  obtain ⟨a,cs',ha,hs,hc,hv⟩:=h5.at_.get hj
  refine ⟨a,cs',ha,?_,hs,hc,ih _ _ (KE7 hm hj) hv⟩
  have h0:=hc 0 (by decide)
  rw [Array.getElem?_eq_getElem (by omega)] at h0
  have:=qV h0
  rwa [Y3] at this
theorem VRep.lt {h:Heap} {v:Vl} {cs:Array Value} (H:VRep h v cs):JS (· < h.size) h v cs:=KH0 _ v cs (Nat.lt_succ_self _) H
theorem VsRepS.to {S:Nat→Prop} {h:Heap} {x:Sl} {l:List Vl} (H:VsRepS S h x l):VsRep h x l :=
 ⟨H.len,H.cap,H.big,VsAt.of (fun j hj=>by obtain ⟨a,cs,h1,h2,h3,h4,h5⟩:=H.at_.get hj; exact ⟨a,cs,h1,h3,h4,h5.to⟩)⟩
theorem VsRepS.same {S T:Nat→Prop} {h h':Heap} {x:Sl} {l:List Vl} (H:VsRepS S h x l) (e:∀ b,S b→h'[b]?=h[b]?) (hT:∀ b,S b→T b):VsRepS T h' x l :=
 ⟨H.len,H.cap,H.big,YC.of (fun j hj=>by
  obtain ⟨a,cs,h1,h2,h3,h4,h5⟩:=H.at_.get hj
  refine ⟨a,cs,h1,hT _ h2,h3,fun i hi=>?_,qw e hT _ _ _ (Nat.lt_succ_self _) h5⟩
  rw [← h4 i hi]
  unfold KV
  rw [Y3,e _ h2])⟩
theorem VsRep.lt {h:Heap} {x:Sl} {l:List Vl} (H:VsRep h x l):VsRepS (· < h.size) h x l :=
 ⟨H.len,H.cap,H.big,YC.of (fun j hj=>by
  obtain ⟨a,cs,h1,h3,h4,h5⟩:=H.at_.get hj
  refine ⟨a,cs,h1,?_,h3,h4,h5.lt⟩
  have h0:=h4 0 (by decide)
  rw [Array.getElem?_eq_getElem (by omega)] at h0
  have:=qV h0
  rwa [Y3] at this)⟩
theorem JS.size {S:Nat→Prop} {h:Heap} {v:Vl} {cs:Array Value} (H:JS S h v cs):cs.size=4:=H.to.size
def wt:Vl→Nat
 | .mk _ _ s l=>1+s.length+wts l
where wts:List Vl→Nat
 | []=>0
 | v::l=>wt v+wts l
theorem KIt (v:Vl):1≤wt v:=by cases v; rw [wt]; omega
theorem Nv:∀ l:List Vl,l.length≤wt.wts l
 | []=>by simp
 | v::l=>by have:=Nv l; have:=KIt v; rw [wt.wts,List.length_cons]; omega
theorem KH1 {l:List Vl} {v:Vl} (h:v ∈ l):wt v≤wt.wts l:=by
 induction l with
 | nil=>cases h
 | cons x l ih =>
  rw [wt.wts]
  rcases List.mem_cons.1 h with rfl | h
  ·omega
  ·have:=ih h; omega
end Gx
namespace Gx
open Go
set_option linter.unusedVariables false
set_option linter.unusedSimpArgs false
def Uj (css:List (Array Value)):List Value:=css.flatMap Array.toList
def W4 (css:List (Array Value)):Prop:=∀ c ∈ css,c.size=4∧∀ u ∈ c.toList,one u=true
theorem Vq:∀ {css:List (Array Value)},W4 css→(Uj css).length=css.length * 4
 | [],_=>rfl
 | c::r,h=>by
  have:=Vq (css:=r) (fun x hx=>h x (List.mem_cons_of_mem _ hx))
  have hc:=(h c (by simp)).1
  unfold Uj at this ⊢
  rw [List.flatMap_cons,List.length_append,this,Array.length_toList,hc,List.length_cons]; omega
theorem zq:∀ {css:List (Array Value)},W4 css→∀ (i j:Nat),j < 4→(Uj css)[i * 4+j]?=(css[i]?).bind (fun c=>c[j]?)
 | [],_,i,j,_=>by simp [Uj]
 | c::r,h,i,j,hj=>by
  have hc:=(h c (by simp)).1
  unfold Uj
  rw [List.flatMap_cons]
  cases i with
  | zero=>rw [List.getElem?_append_left (by rw [Array.length_toList]; omega)]; simp
  | succ i =>
   rw [List.getElem?_append_right (by rw [Array.length_toList]; omega),Array.length_toList,hc,show (i+1) * 4+j - 4=i * 4+j by omega]
   have:=zq (css:=r) (fun x hx=>h x (List.mem_cons_of_mem _ hx)) i j hj
   unfold Uj at this
   rw [this]; simp
theorem KBw {css:List (Array Value)} (h:W4 css):∀ v ∈ Uj css,one v=true:=fun v hv=>by
 obtain ⟨c,hc,hv⟩:=List.mem_flatMap.1 hv
 exact (h c hc).2 v hv
theorem W4.append {a b:List (Array Value)} (ha:W4 a) (hb:W4 b):W4 (a++b):=fun c hc=>(List.mem_append.1 hc).elim (ha c) (hb c)
theorem W4.set {a:List (Array Value)} (ha:W4 a) {i:Nat} {c:Array Value} (hc:c.size=4) (h1:∀ u ∈ c.toList,one u=true):W4 (a.set i c):=fun x hx=>by
 rcases List.mem_or_eq_of_mem_set hx with h | rfl
 ·exact ha x h
 ·exact ⟨hc,h1⟩
theorem KBx:∀ {css:List (Array Value)},W4 css→∀ (i:Nat) (c:Array Value),c.size=4→i < css.length→Uj (css.set i c)=(Uj css).take (i * 4)++c.toList++(Uj css).drop (i * 4+4)
 | [],_,i,c,_,hi=>by simp at hi
 | x::r,h,0,c,hc,_=>by
  have hx:=(h x (by simp)).1
  simp only [Uj,List.set_cons_zero,List.flatMap_cons]
  rw [show (0 * 4+4)=x.toList.length by rw [Array.length_toList,hx]]
  simp
 | x::r,h,i+1,c,hc,hi=>by
  have hx:=(h x (by simp)).1
  have ih:=KBx (css:=r) (fun y hy=>h y (List.mem_cons_of_mem _ hy)) i c hc (by simpa using hi)
  simp only [Uj,List.set_cons_succ,List.flatMap_cons] at ih ⊢
  rw [ih]
  have e1:(i+1) * 4=x.toList.length+i * 4:=by rw [Array.length_toList,hx]; omega
  rw [e1,List.take_length_add_append,show x.toList.length+i * 4+4=x.toList.length+(i * 4+4) by omega,List.drop_length_add_append]
  simp
theorem Gw.row4 {lo:Nat} {h:Heap} {r:Sl} {css:List (Array Value)} (G:Gw lo h r 4 (Uj css)) (hw:W4 css) {i:Nat} (hi:i < css.length):∃ b,r.base=some ⟨b,0,none⟩∧Sl.on r b∧∀ j,j < 4→KV h ((⟨b,0,none⟩:Addr).add (i * 4+j))=css[i][j]?:=by
 have hl:=Vq hw
 rcases G with ⟨rfl,he⟩ | ⟨b,ty,cells,R⟩
 ·rw [he] at hl; simp at hl; omega
 ·refine ⟨b,R.base,⟨_,R.base,rfl⟩,fun j hj=>?_⟩
  rw [Zn,Nat.zero_add,Ks R.blk]
  have h1:=zq hw i j hj
  rw [List.getElem?_eq_getElem hi] at h1
  have hc:=(hw _ (List.getElem_mem hi)).1
  have h2:css[i][j]?=some (css[i][j]'(by omega)):=Array.getElem?_eq_getElem (by omega)
  rw [h2]
  refine R.get _ _ ?_
  rw [h1]
  exact h2
theorem Gw.len4 {lo:Nat} {h:Heap} {r:Sl} {css:List (Array Value)} (G:Gw lo h r 4 (Uj css)) (hw:W4 css):r.len=css.length:=by
 have:=G.len
 rw [Vq hw] at this
 omega
theorem KIu {β:Type} {lo:Nat} {h:Heap} {Q:β→Heap→Prop} {r:Sl} {css:List (Array Value)} {i:Nat} {t:Int} {c:Array Value} {f:Unit→M β} (G:Gw lo h r 4 (Uj css)) (hw:W4 css) (hi:i < css.length) (ht:t=(i:Int)) (hc:c.size=4) (h1:∀ u ∈ c.toList,one u=true)
  (H:∀ b h',r.base=some ⟨b,0,none⟩→Upd b h h'→Gw lo h' r 4 (Uj (css.set i c))→(f ()).wp h' Q):(ixL r t 4>>=fun a=>M.need (c.size=4)>>=fun _=>stG a c>>=f).wp h Q:=by
 subst ht
 have hl:=G.len4 hw
 obtain ⟨b0,hb0,_,_⟩:=G.row4 hw hi
 rcases G with ⟨rfl,he⟩ | ⟨b,ty,cells,R⟩
 ·cases hb0
 ·have hsz:=R.size
  have hcap:=R.cap
  refine GW (by omega) (by omega) R.base (Ju hc ?_)
  rw [Zn,show 0+(i:Int).toNat * 4=i * 4 by omega]
  refine stR (vs:=c) R.blk (by omega) h1 (fun h' u g=>H b h' R.base u (.inr ⟨b,ty,_,R.base,R.lo,g,by rw [ND]; exact R.size,R.cap,?_,fun j v hj=>?_⟩))
  ·rw [Vq (hw.set hc h1),List.length_set,hl]
  ·rw [KBx hw i c hc hi] at hj
   have hfl:=Vq hw
   rw [← Array.getElem?_toList,W2 _ _ _ (by rw [Array.length_toList]; omega),Array.length_toList,hc]
   have hlen1:((Uj css).take (i * 4)).length=i * 4:=by rw [List.length_take]; omega
   have hlen2:(cells.toList.take (i * 4)).length=i * 4:=by rw [List.length_take,Array.length_toList]; omega
   by_cases h1:j < i * 4
   ·rw [List.append_assoc,List.getElem?_append_left (by omega),List.getElem?_take,if_pos h1] at hj
    rw [List.append_assoc,List.getElem?_append_left (by omega),List.getElem?_take,if_pos h1,Array.getElem?_toList]
    exact R.get j v hj
   ·by_cases h2:j < i * 4+4
    ·rw [List.append_assoc,List.getElem?_append_right (by omega),hlen1,List.getElem?_append_left (by rw [Array.length_toList,hc]; omega)] at hj
     rw [List.append_assoc,List.getElem?_append_right (by omega),hlen2,List.getElem?_append_left (by rw [Array.length_toList,hc]; omega)]
     exact hj
    ·rw [List.getElem?_append_right (by rw [List.length_append,hlen1,Array.length_toList,hc]; omega),List.length_append,hlen1,Array.length_toList,hc,List.getElem?_drop] at hj
     rw [List.getElem?_append_right (by rw [List.length_append,hlen2,Array.length_toList,hc]; omega),List.length_append,hlen2,Array.length_toList,hc,List.getElem?_drop,Array.getElem?_toList]
     exact R.get _ v hj
structure VGw (lo:Nat) (S:Nat→Prop) (h:Heap) (r:Sl) (css:List (Array Value)) (l:List Vl):Prop where
 gw:Gw lo h r 4 (Uj css)
 w4:W4 css
 len:css.length=l.length
 rep:∀ j (h1:j < l.length) (h2:j < css.length),JS S h l[j] css[j]
theorem VGw.nil (lo:Nat) (S:Nat→Prop) (h:Heap):VGw lo S h Sl.nil [] []:=⟨Gw.nil _ _ _,fun c hc=>(by cases hc),rfl,fun j h1=>(by cases h1)⟩
theorem VGw.rep_ {lo:Nat} {S:Nat→Prop} {h:Heap} {r:Sl} {css:List (Array Value)} {l:List Vl} (G:VGw lo S h r css l) (hl:l.length≤9223372036854775807):VsRepS (fun b=>S b∨Sl.on r b) h r l :=
 ⟨by rw [G.gw.len4 G.w4,G.len],G.gw.cap,by rw [G.gw.len4 G.w4,G.len]; exact hl,YC.of (fun j hj=>by
  obtain ⟨b,hb,hon,hc⟩:=G.gw.row4 G.w4 (i:=j) (by rw [G.len]; exact hj)
  exact ⟨_,css[j]'(by rw [G.len]; exact hj),hb,.inr hon,(G.w4 _ (List.getElem_mem _)).1,fun m hm=>by rw [Nat.zero_add]; exact hc m hm,(G.rep j hj (by rw [G.len]; exact hj)).mono (fun b hb=>.inl hb)⟩)⟩
theorem VGw.same {lo:Nat} {S:Nat→Prop} {h h':Heap} {r:Sl} {css:List (Array Value)} {l:List Vl} (G:VGw lo S h r css l) (e1:∀ b,Sl.on r b→h'[b]?=h[b]?) (e2:∀ b,S b→h'[b]?=h[b]?):VGw lo S h' r css l :=
 ⟨G.gw.same e1,G.w4,G.len,fun j h1 h2=>(G.rep j h1 h2).same e2⟩
theorem VGw.mono {lo:Nat} {S T:Nat→Prop} {h:Heap} {r:Sl} {css:List (Array Value)} {l:List Vl} (G:VGw lo S h r css l) (e:∀ b,S b→T b):VGw lo T h r css l :=
 ⟨G.gw,G.w4,G.len,fun j h1 h2=>(G.rep j h1 h2).mono e⟩
theorem NF {lo:Nat} {S:Nat→Prop} {h:Heap} {Q:Sl→Heap→Prop} {r x:Sl} {css css':List (Array Value)} {l l':List Vl} (G:VGw lo S h r css l) (hlo:lo≤h.size) (hS:∀ b,S b→b < h.size∧¬ Sl.on r b) (hw:W4 css') (hl':css'.length=l'.length) (hx:x.len=l'.length) (hr:Y2 h x.base (Uj css')) (hv:∀ j (h1:j < l'.length) (h2:j < css'.length),JS S h l'[j] css'[j])
  (hm:l.length+l'.length≤2199023255552)
  (hq:∀ h' r',VGw lo S h' r' (css++css') (l++l')→h.size≤h'.size→(∀ i,i < h.size→¬ Sl.on r i→h'[i]?=h[i]?)→(∀ i,Sl.on r' i→Sl.on r i∨h.size≤i)→Q r' h'):(apL KJ 4 56 (#[.int .i64 0,.int .i64 0,.string ByteArray.empty,.slice none 0 0]:Array Value) r x).wp h Q:=by
 have hrl:=G.gw.len4 G.w4
 have hgl:=G.len
 refine KA9 (vs:=Uj css) (news:=Uj css') rfl G.gw (by rw [Vq hw,hl',hx]) hr (KBw hw) (by omega) (by omega) hlo (fun h' r' G' hlen hs same on_=>?_)
 have he:∀ b,S b→h'[b]?=h[b]?:=fun b hb=>same b (hS b hb).1 (hS b hb).2
 refine hq h' r' ⟨?_,G.w4.append hw,by rw [List.length_append,List.length_append,G.len,hl'],fun j h1 h2=>?_⟩ hs same on_
 ·unfold Uj at G' ⊢
  rw [List.flatMap_append]
  exact G'
 ·by_cases hj:j < l.length
  ·rw [List.getElem_append_left hj,List.getElem_append_left (by rw [G.len]; exact hj)]
   exact (G.rep j hj _).same he
  ·rw [List.getElem_append_right (by omega),List.getElem_append_right (by omega)]
   have h3:css.length=l.length:=G.len
   simp only [h3]
   exact (hv _ (by rw [List.length_append] at h1; omega) _).same he
end Gx
namespace Gx
open Go
set_option linter.unusedVariables false
set_option linter.unusedSimpArgs false
theorem YC.css {S:Nat→Prop} {h:Heap}:∀ {l:List Vl} {b:Option Addr} {i:Nat},YC S h l b i→∃ css:List (Array Value),W4 css∧css.length=l.length∧(∀ j (h1:j < l.length) (h2:j < css.length),JS S h l[j] css[j])∧(∀ j (h2:j < css.length),∃ a,b=some a∧∀ m,m < 4→KV h (a.add ((i+j) * 4+m))=css[j][m]?)
 | [],_,_,_=>⟨[],fun c hc=>(by cases hc),rfl,fun j h1=>(by cases h1),fun j h1=>(by cases h1)⟩
 | v::l,b,i,H=>by
  rw [YC] at H
  obtain ⟨⟨a,cs,ha,hS,hs,hc,hv⟩,H2⟩:=H
  obtain ⟨css,h1,h2,h3,h4⟩:=YC.css H2
  refine ⟨cs::css,?_,by simp [h2],?_,?_⟩
  ·intro c hc
   rcases List.mem_cons.1 hc with rfl | hc
   ·exact ⟨hs,hv.to.one⟩
   ·exact h1 c hc
  ·intro j j1 j2
   cases j with
   | zero=>exact hv
   | succ j=>exact h3 j (by simpa using j1) (by simpa using j2)
  ·intro j j2
   cases j with
   | zero=>exact ⟨a,ha,hc⟩
   | succ j =>
    obtain ⟨a',ha',h5⟩:=h4 j (by simpa using j2)
    refine ⟨a',ha',fun m hm=>?_⟩
    rw [show i+(j+1)=i+1+j by omega]
    exact h5 m hm
theorem VsRepS.css {S:Nat→Prop} {h:Heap} {x:Sl} {l:List Vl} (H:VsRepS S h x l):∃ css:List (Array Value),W4 css∧css.length=l.length∧(∀ j (h1:j < l.length) (h2:j < css.length),JS S h l[j] css[j])∧Y2 h x.base (Uj css):=by
 obtain ⟨css,h1,h2,h3,h4⟩:=H.at_.css
 refine ⟨css,h1,h2,h3,?_⟩
 cases hc:css with
 | nil=>exact .inl rfl
 | cons c r =>
  rw [← hc]
  obtain ⟨a,ha,_⟩:=h4 0 (by rw [hc]; simp)
  refine .inr ⟨a,ha,fun n v hn=>?_⟩
  have hlt:=(List.getElem?_eq_some_iff.1 hn).1
  rw [Vq h1] at hlt
  have hj:n / 4 < css.length:=by omega
  obtain ⟨a',ha',h5⟩:=h4 (n / 4) hj
  rw [ha] at ha'; cases ha'
  have h6:=zq h1 (n / 4) (n % 4) (by omega)
  rw [show n / 4 * 4+n % 4=n by omega,hn,List.getElem?_eq_getElem hj] at h6
  have h7:=h5 (n % 4) (by omega)
  rw [show (0+n / 4) * 4+n % 4=n by omega] at h7
  rw [h7]
  exact h6.symm
theorem KGP {S:Nat→Prop} {h:Heap}:∀ (m:Nat) (v:Vl) (cs:Array Value),sizeOf v < m→JS S h v cs→JS (fun b=>S b∧b < h.size) h v cs:=by
 intro m
 induction m with
 | zero=>intro v cs hm; omega
 | succ m ih =>
  rintro ⟨k,n,s,l⟩ cs hm H
  obtain ⟨x,h1,h2,h3,h4,h5⟩:=JS.eq.1 H
  refine JS.eq.2 ⟨x,h1,h2,h3,h4,h5.len,h5.cap,h5.big,YC.of (fun j hj=>?_)⟩
  obtain ⟨a,cs',ha,hS,hs,hc,hv⟩:=h5.at_.get hj
  refine ⟨a,cs',ha,⟨hS,?_⟩,hs,hc,ih _ _ (KE7 hm hj) hv⟩
  have h0:=hc 0 (by decide)
  rw [Array.getElem?_eq_getElem (by omega)] at h0
  have:=qV h0
  rwa [Y3] at this
theorem JS.lt2 {S:Nat→Prop} {h:Heap} {v:Vl} {cs:Array Value} (H:JS S h v cs):JS (fun b=>S b∧b < h.size) h v cs:=KGP _ v cs (Nat.lt_succ_self _) H
theorem Zm (k n:Int) (s:List UInt8) (x:Sl):∀ v ∈ (Z9 k n s x).toList,one v=true:=fun v hv=>by
 simp only [Z9,List.mem_cons,List.not_mem_nil,or_false] at hv
 rcases hv with rfl | rfl | rfl | rfl <;> first | rfl | exact zH _
theorem KCN {S:Nat→Prop} {h:Heap} {Q:Sl→Heap→Prop} {x:Sl} {l:List Vl} (hx:VsRepS S h x l) (hS:∀ b,S b→b < h.size) (hm:l.length≤1099511627776)
  (H:∀ h' r css,Ext h h'→VGw h.size S h' r css l→Q r h'):(Zh x).wp h Q:=by
 unfold Zh
 refine Kx (fun hn=>?_) (fun hn=>?_)
 ·have hb:x.base=none:=by simpa using hn
  have hl:l=[]:=by
   cases hl:l with
   | nil=>rfl
   | cons v r =>
    obtain ⟨a,cs,ha,_⟩:=hx.get (j:=0) (by rw [hl]; simp)
    rw [hb] at ha; cases ha
  subst hl
  exact KQ (H _ _ _ (Ext.refl _) (VGw.nil _ _ _))
 ·refine ⟨zRow (#[.int .i64 0,.int .i64 0,.string ByteArray.empty,.slice none 0 0]:Array Value) 0,rfl,KA8 ?_⟩
  have e1:=Ext.push h (.cells (zRow (#[.int .i64 0,.int .i64 0,.string ByteArray.empty,.slice none 0 0]:Array Value) 0) KJ)
  have g1:(h.push (.cells (zRow (#[.int .i64 0,.int .i64 0,.string ByteArray.empty,.slice none 0 0]:Array Value) 0) KJ))[h.size]?=some (.cells (zRow (#[.int .i64 0,.int .i64 0,.string ByteArray.empty,.slice none 0 0]:Array Value) 0) KJ (0,0)):=Zj
  have hs1:(h.push (.cells (zRow (#[.int .i64 0,.int .i64 0,.string ByteArray.empty,.slice none 0 0]:Array Value) 0) KJ)).size=h.size+1:=by simp
  generalize h.push (.cells (zRow (#[.int .i64 0,.int .i64 0,.string ByteArray.empty,.slice none 0 0]:Array Value) 0) KJ)=h1 at e1 g1 hs1 ⊢
  obtain ⟨css,w4,hcl,hrep,hrd⟩:=hx.css
  have G1:VGw h.size S h1 ⟨some ⟨h.size,0,none⟩,0,0⟩ [] []:=⟨.inr ⟨h.size,_,_,rfl,Nat.le_refl _,g1,Xn _ _,Nat.le_refl _,rfl,fun j v hj=>(by cases hj)⟩,fun c hc=>(by cases hc),rfl,fun j h1=>(by cases h1)⟩
  refine KX (NF (l':=l) (css':=css) G1 e1.size (fun b hb=>⟨by have:=hS b hb; omega,fun ⟨a,ha,hab⟩=>by cases ha; have:h.size=b:=hab; have:=hS b hb; omega⟩) w4 hcl hx.len (e1.reads hrd) (fun j h1' h2=>(hrep j h1' h2).same (fun b hb=>e1.same b (hS b hb))) (by simp; omega) (fun h2 r G2 hs same on_=>KQ (H h2 r css ?_ (by simpa using G2))))
  exact ⟨Nat.le_trans e1.size hs,fun i hi=>(same i (Nat.lt_of_lt_of_le hi e1.size) (fun ⟨a,ha,hab⟩=>by cases ha; have:h.size=i:=hab; omega)).trans (e1.same i hi)⟩
theorem KDe {h:Heap} {b:Nat} {k n:Int} {s:List UInt8} {x y:Sl} {t:TypeId} (hb:h[b]?=some (.cells (Z9 k n s x) t (0,0))):(hset h ⟨b,3,none⟩ y.v)[b]?=some (.cells (Z9 k n s y) t (0,0)):=by
 rw [Wf hb]; rfl
theorem KCO:∀ (m:Nat) (v:Vl) {h:Heap} {Q:Array Value→Heap→Prop} {x:Array Value},sizeOf v < m→VRep h v x→wt v≤1099511627776→(∀ h' c,Ext h h'→JS (h.size≤·) h' v c→Q c h')→(XB x).wp h Q:=by
 intro m
 induction m with
 | zero=>intro v h Q x hm; omega
 | succ m ih =>
  rintro ⟨k,n,s,l⟩ h Q x hm hx hw H
  obtain ⟨xs,rfl,k1,n1,s1,r1⟩:=VRep.eq.1 hx
  rw [wt] at hw
  have hcnt:=Nv l
  unfold XB
  refine Jp (fun h1 e1 z1 g1=>Jp (fun h2 e2 z2 g2=>?_))
  have E2:=e1.trans e2
  have g1':=e2.blk g1
  have c3:KV h2 ((⟨h.size,0,none⟩:Addr).add 3)=some xs.v:=by rw [ZW g1']; rfl
  have rS:VsRepS (· < h.size) h2 xs l:=r1.lt.same (fun b hb=>E2.same b hb) (fun _ h=>h)
  refine UG c3 (KX (KCN rS (fun b hb=>Nat.lt_of_lt_of_le hb E2.size) (by omega) (fun h3 y css e3 G3=>?_)))
  have g1'':=e3.blk g1'
  have g2'':=e3.blk g2
  refine Gk (x:=xs.v) (e3.cell c3) (by rw [Zn,JH g1'']) (zH _) ?_
  rw [Zn,Nat.zero_add]
  have u4:=Upd.hset h3 h.size 3 y.v
  have g4:=KDe (y:=y) g1''
  generalize hset h3 ⟨h.size,3,none⟩ y.v=h4 at u4 g4 ⊢
  have yon:∀ b,Sl.on y b→h2.size≤b∧b < h3.size:=fun b hb=>⟨(G3.gw.lt hb).2,(G3.gw.lt hb).1⟩
  have hs1:h1.size=h.size+1:=z1
  have hs2:h2.size=h1.size+1:=z2
  have hs3:=e3.size
  have E4:Ext h h4:=(E2.trans e3).upd u4 (Nat.le_refl _)
  have g24:h4[h1.size]?=_:=(u4.ne _ (by omega)).trans g2''
  have cy:∀ {hh:Heap},hh[h.size]?=some (.cells (Z9 k n s y) KJ (0,0))→KV hh ((⟨h.size,0,none⟩:Addr).add 3)=some y.v:=fun hb=>by rw [ZW hb]; rfl
  refine UG (cy g4) ?_
  have hyl:y.len=l.length:=by rw [G3.gw.len4 G3.w4,G3.len]
  rw [hyl]
  refine M.loop_inv (fun (t:Int) hh=>∃ (i:Nat) (css:List (Array Value)),t=(i:Int)∧i≤l.length∧Gw h2.size hh y 4 (Uj css)∧W4 css∧css.length=l.length∧(∀ j (j1:j < l.length) (j2:j < css.length),j < i→JS (h3.size≤·) hh l[j] css[j])∧(∀ j (j1:j < l.length) (j2:j < css.length),i≤j→JS (· < h.size) hh l[j] css[j])∧Ext h hh∧h3.size≤hh.size∧hh[h.size]?=some (.cells (Z9 k n s y) KJ (0,0))∧hh[h1.size]?=h4[h1.size]?) (fun t _=>((l.length:Int) - t).toNat) ?_
   ⟨0,css,rfl,Nat.zero_le _,G3.gw.same (fun b hb=>u4.ne b (by have:=(yon b hb).1; omega)),G3.w4,G3.len,fun j j1 j2 h0=>by omega,fun j j1 j2 _=>(G3.rep j j1 j2).same (fun b hb=>u4.ne b (by omega)),E4,by rw [u4.size]; exact Nat.le_refl _,g4,rfl⟩
  rintro t hh ⟨i,css,rfl,hi,G,w4,hcl,hnew,hold,E,hsz,gb,gz⟩ self hself
  unfold YG
  refine Kx (fun hc=>?_) (fun hc=>?_)
  ·have hlt:i < l.length:=by have:=of_decide_eq_true hc; omega
   have hlc:i < css.length:=by omega
   refine UG (cy gb) (UG (cy gb) ?_)
   obtain ⟨b,hb,hon,hrow⟩:=G.row4 w4 hlc
   have hv:=hold i hlt hlc (Nat.le_refl _)
   have hi4:(i:Int).toNat * 4=i * 4:=by omega
   refine GW (by omega) (by omega) hb (Wu hv.size (fun j hj=>by rw [Addr.add_add,hi4]; exact hrow j hj) ?_)
   have hwi:=KH1 (List.getElem_mem hlt)
   refine KX (Xb (qN _) (ih l[i] (KE7 hm hlt) hv.to (by omega) (fun h5 c e5 hc5=>?_)))
   have hcell5:∀ j,j < 4→KV h5 (((⟨b,0,none⟩:Addr).add ((i:Int).toNat * 4)).add j)=css[i][j]?:=fun j hj=>by
    rw [Addr.add_add,hi4]
    have h6:=hrow j hj
    have h7:css[i][j]?=some (css[i][j]'(by rw [hv.size]; exact hj)):=Array.getElem?_eq_getElem _
    rw [h7] at h6 ⊢
    exact e5.cell h6
   have G5:=G.ext e5
   refine KBk ⟨e5.cell (cy gb),e5.cell (cy gb),hv.size,hcell5⟩ ?_
   refine KIu G5 w4 hlc rfl hc5.size hc5.to.one (fun b' h6 hb' u6 G6=>?_)
   rw [hb] at hb'; cases hb'
   have hbl:=yon b hon
   have hcs:∀ j (j1:j < (css.set i c).length) (j2:j < css.length),i≠j→(css.set i c)[j]=css[j]:=fun j j1 j2 hne=>List.getElem_set_ne hne _
   have hs5:=e5.size
   rw [w64 (by omega) (by omega)]
   refine hself _ _ ⟨i+1,css.set i c,by simp,by omega,G6,w4.set hc5.size hc5.to.one,by rw [List.length_set]; exact hcl,fun j j1 j2 hj=>?_,fun j j1 j2 hj=>?_,(E.trans e5).upd u6 (by omega),by rw [u6.size]; omega,?_,?_⟩ (by omega)
   ·by_cases hji:i=j
    ·subst hji
     rw [List.getElem_set_self]
     exact (hc5.same (fun b1 hb1=>u6.ne b1 (by omega))).mono (fun b1 hb1=>by omega)
    ·rw [hcs j j2 (by rw [hcl]; exact j1) hji]
     have:=hnew j j1 (by rw [hcl]; exact j1) (by omega)
     exact (this.lt2.same (fun b1 hb1=>(u6.ne b1 (by omega)).trans (e5.same b1 hb1.2))).mono (fun b1 hb1=>hb1.1)
   ·rw [hcs j j2 (by rw [hcl]; exact j1) (by omega)]
    exact (hold j j1 (by rw [hcl]; exact j1) (by omega)).same (fun b1 hb1=>(u6.ne b1 (by omega)).trans (e5.same b1 (by have:=E.size; omega)))
   ·rw [u6.ne _ (by omega)]; exact e5.blk gb
   ·rw [u6.ne _ (by omega),← gz]
    exact e5.same _ (by omega)
  ·have hge:i=l.length:=by have:=of_decide_eq_false hc; omega
   subst hge
   refine Wu (cs:=Z9 k n s y) rfl (fun j hj=>by rw [ZW gb]) (Ju rfl ?_)
   rw [g24] at gz
   refine stR (vs:=Z9 k n s y) (off:=0) gz (Nat.le_refl 4) (Zm k n s y) (fun h7 u7 g7=>?_)
   rw [ZV (by rfl),Array.toArray_toList] at g7
   refine Wu (cs:=Z9 k n s y) rfl (fun j hj=>by rw [ZW g7]) (KQ (H _ _ (E.upd u7 (by omega)) ?_))
   have hG:VGw h2.size (h3.size≤·) h7 y css l:=⟨G.same (fun b hb=>u7.ne b (by have:=(yon b hb).1; omega)),w4,hcl,fun j j1 j2=>(hnew j j1 j2 j1).same (fun b hb=>u7.ne b (by omega))⟩
   exact JS.eq.2 ⟨y,rfl,k1,n1,s1,(hG.rep_ (by omega)).same (fun _ _=>rfl) (fun b hb=>hb.elim (fun hb=>by omega) (fun hb=>by have:=(yon b hb).1; omega))⟩
def vl0:Vl:=.mk 0 0 [] []
theorem Gz (S:Nat→Prop) (h:Heap):JS S h vl0 (#[.int .i64 0,.int .i64 0,.string ByteArray.empty,.slice none 0 0]:Array Value) :=
 JS.eq.2 ⟨Sl.nil,rfl,⟨by decide,by decide⟩,⟨by decide,by decide⟩,by decide,rfl,Nat.le_refl _,by decide,by rw [YC]; trivial⟩
end Gx
namespace Go.Proofs.YthelieedlghccaaGreatDoor
open Go Go.RowKit Gx
set_option linter.unusedVariables false
set_option maxRecDepth 100000
theorem c24:Tryz.prog.cellsOf 24=4:=by kernel_rfl
theorem c3:Tryz.prog.cellsOf 3=1:=by kernel_rfl
theorem c2:Tryz.prog.cellsOf 2=1:=by kernel_rfl
theorem c9:Tryz.prog.cellsOf 9=1:=by kernel_rfl
theorem c22:Tryz.prog.cellsOf 22=1:=by kernel_rfl
theorem KDA {H:Type}:∀ (l:List Vl) (es:List (DataW H)),l.length=es.length→(∀ i (h1:i < l.length) (h2:i < es.length),wt l[i]≤Rows.uptoBulk es[i])→wt.wts l≤Rows.uptoBulkAll es
 | [],[],_,_=>by simp [wt.wts]
 | [],_::_,h,_=>by simp at h
 | _::_,[],h,_=>by simp at h
 | v::l,d::es,h,hk=>by
  have h0:=hk 0 (by simp) (by simp)
  have:=KDA l es (by simpa using h) (fun i h1 h2=>by
   have:=hk (i+1) (by simpa using h1) (by simpa using h2)
   simpa using this)
  simp only [List.getElem_cons_zero] at h0
  rw [wt.wts]
  simp only [Rows.uptoBulkAll]
  omega
section
variable {H:Type} {enc:TypeId × Value→H}
theorem KBU {W:World} {t:TypeId} {n:Nat} {c:Value} {x:DataW H × List MemPlace} {sp:Nat→Bool} {held:Bool} {base:Nat} (ht:Tryz.prog.underlying t=some (.int .i64)) (h:DataW.trod enc Tryz.prog W base sp held n t [c]=some x):∃ z,c=.int .i64 z∧I64 z∧Rows.uptoBulk x.1=1:=by
 cases n with
 | zero=>simp [DataW.trod] at h
 | succ n =>
  unfold DataW.trod at h
  rw [ht] at h
  cases c with
  | int k z =>
   simp only at h
   split at h
   ·rename_i hk
    obtain ⟨rfl,hw⟩:=hk
    cases h
    refine ⟨z,rfl,?_,by simp [Rows.uptoBulk]⟩
    have:-9223372036854775808≤z∧z≤9223372036854775807:=by simpa [Lit.wf,IntKind.min,IntKind.max,IntKind.signed,IntKind.bits] using hw
    exact this
   ·cases h
  | _=>simp at h
theorem KDB {W:World} {t:TypeId} {n:Nat} {c:Value} {x:DataW H × List MemPlace} {sp:Nat→Bool} {held:Bool} {base:Nat} (ht:Tryz.prog.underlying t=some .string) (h:DataW.trod enc Tryz.prog W base sp held n t [c]=some x):∃ s:ByteArray,c=.string s∧s.size≤maxLen∧Rows.uptoBulk x.1=s.data.toList.length+1:=by
 cases n with
 | zero=>simp [DataW.trod] at h
 | succ n =>
  unfold DataW.trod at h
  rw [ht] at h
  cases c with
  | string s =>
   simp only at h
   split at h
   ·rename_i hk
    cases h
    exact ⟨s,rfl,hk,by simp [Rows.uptoBulk]⟩
   ·cases h
  | _=>simp at h
theorem KBy {W:World} {sp:Nat→Bool} {held:Bool} {base:Nat}:∀ (m:Nat),
  (∀ (cs:List Value) (x:DataW H × List MemPlace),DataW.trod enc Tryz.prog W base sp held m 24 cs=some x→∃ v,VRep W.heap v cs.toArray∧wt v≤Rows.uptoBulk x.1) ∧
  (∀ (v:Value) (x:DataW H × List MemPlace),DataW.trod enc Tryz.prog W base sp held m 22 [v]=some x→∃ (s:Sl) (l:List Vl),v=s.v∧VsRep W.heap s l∧wt.wts l+1≤Rows.uptoBulk x.1):=by
 intro m
 induction m with
 | zero=>exact ⟨fun cs x h=>by simp [DataW.trod] at h,fun v x h=>by simp [DataW.trod] at h⟩
 | succ m ih =>
  refine ⟨fun cs x h=>?_,fun v x h=>?_⟩
  ·obtain ⟨xs,n,hn,hx,hcl,hxl,hf⟩:=DataW.trod_struct Tryz.underlying24 h
   obtain rfl:m=n:=by omega
   rw [c24] at hcl
   have hxl:xs.length=4:=hxl
   match cs,hcl with
   | [a0,a1,a2,a3],_ =>
   match xs,hxl with
   | [y0,y1,y2,y3],_ =>
   have f0:DataW.trod enc Tryz.prog W base sp held m 3 (([a0,a1,a2,a3].drop 0).take (Tryz.prog.cellsOf 3))=some y0:=hf 0 _ rfl
   have f1:DataW.trod enc Tryz.prog W base sp held m 2 (([a0,a1,a2,a3].drop 1).take (Tryz.prog.cellsOf 2))=some y1:=hf 1 _ rfl
   have f2:DataW.trod enc Tryz.prog W base sp held m 9 (([a0,a1,a2,a3].drop 2).take (Tryz.prog.cellsOf 9))=some y2:=hf 2 _ rfl
   have f3:DataW.trod enc Tryz.prog W base sp held m 22 (([a0,a1,a2,a3].drop 3).take (Tryz.prog.cellsOf 22))=some y3:=hf 3 _ rfl
   rw [c3] at f0
   rw [c2] at f1
   rw [c9] at f2
   rw [c22] at f3
   obtain ⟨k,rfl,hk,b0⟩:=KBU Tryz.underlying3 f0
   obtain ⟨nn,rfl,hnn,b1⟩:=KBU Tryz.underlying2 f1
   obtain ⟨s,rfl,hs,b2⟩:=KDB Tryz.underlying9 f2
   obtain ⟨sl,l,rfl,hl,b3⟩:=ih.2 _ _ f3
   have hsb:bs s.data.toList=s:=by simp [bs]
   refine ⟨.mk k nn s.data.toList l,VRep.eq.2 ⟨sl,by unfold Z9; rw [hsb],hk,hnn,?_,hl⟩,?_⟩
   ·have:s.data.toList.length=s.size:=Array.length_toList
    rw [this]; unfold maxLen at hs; omega
   ·rw [wt,hx]
    simp only [List.map_cons,List.map_nil,Rows.uptoBulk,Rows.uptoBulkAll]
    omega
  ·rcases DataW.trod_slice Tryz.underlying22 h with ⟨h0,hx⟩ | ⟨a,len,cap,elems,rest,n,hn,h1,hx,_,hle,hm,hlen,hel,_,_⟩
   ·cases h0
    refine ⟨Sl.nil,[],rfl,VsRep.nil _,?_⟩
    rw [hx]; simp [wt.wts,Rows.uptoBulk]
   ·cases h1
    obtain rfl:m=n:=by omega
    rw [c24] at hel
    have key:∀ i,i < len→∃ (v:Vl) (cs:Array Value),cs.size=4∧(∀ j,j < 4→KV W.heap (a.add (i * 4+j))=cs[j]?)∧VRep W.heap v cs∧∀ (h:i < elems.length),wt v≤Rows.uptoBulk (elems[i]).1:=fun i hi=>by
     have h2:=hel i hi
     rw [List.getElem?_eq_getElem (by omega),Option.bind_eq_some_iff] at h2
     obtain ⟨cs,hcs,ht⟩:=h2
     obtain ⟨_,hl1,hc⟩:=World.cells?_some hcs
     obtain ⟨v,hv,hw⟩:=ih.1 _ _ ht
     refine ⟨v,cs.toArray,by simpa using hl1,fun j hj=>?_,hv,fun _=>hw⟩
     have:=hc j hj
     rw [Addr.add_add] at this
     rw [KAU] at this
     rw [this]; simp
    let l:=List.ofFn (fun i:Fin len=>Classical.choose (key i i.2))
    have hL:l.length=len:=by simp [l]
    have hget:∀ i (h:i < l.length),∃ cs:Array Value,cs.size=4∧(∀ j,j < 4→KV W.heap (a.add (i * 4+j))=cs[j]?)∧VRep W.heap l[i] cs∧∀ (h:i < elems.length),wt l[i]≤Rows.uptoBulk (elems[i]).1:=fun i h=>by
     have:=Classical.choose_spec (key i (by omega))
     simpa [l] using this
    have hmx:len≤9223372036854775807:=by unfold maxLen at hm; omega
    refine ⟨⟨some a,len,cap⟩,l,rfl,⟨hL.symm,hle,hmx,VsAt.of (fun j hj=>?_)⟩,?_⟩
    ·obtain ⟨cs,h1,h2,h3,_⟩:=hget j hj
     exact ⟨a,cs,rfl,h1,fun i hi=>by rw [Nat.zero_add]; exact h2 i hi,h3⟩
    ·rw [hx]
     have:=KDA l (elems.map (·.1)) (by rw [hL,List.length_map,hlen]) (fun i h1 h2=>by
      obtain ⟨_,_,_,_,h4⟩:=hget i h1
      rw [List.getElem_map]
      exact h4 (by simpa using h2))
     simp only [Rows.uptoBulk]
     omega
end
end Go.Proofs.YthelieedlghccaaGreatDoor
namespace Gx
open Go
set_option linter.unusedVariables false
set_option linter.unusedSimpArgs false
structure Tri (ab bc ac:Int):Prop where
 tr:ab < 0→bc < 0→ac < 0
 z1:ab=0→ac=bc
 z2:bc=0→ac=ab
theorem Tri.cOr {x y z x' y' z':Int} (h:Tri x y z) (h':x=0→y=0→Tri x' y' z'):Tri (cOr x x') (cOr y y') (cOr z z'):=by
 unfold Gx.cOr
 obtain ⟨t,a,b⟩:=h
 by_cases hx:x=0
 ·have hz:=a hx
  by_cases hy:y=0
  ·have hz0:z=0:=by omega
   rw [if_pos hx,if_pos hy,if_pos hz0]
   exact h' hx hy
  ·have hz0:¬ z=0:=by omega
   rw [if_pos hx,if_neg hy,if_neg hz0]
   refine ⟨fun h1 h2=>by omega,fun h1=>hz,fun h1=>by omega⟩
 ·by_cases hy:y=0
  ·have hz:=b hy
   have hz0:¬ z=0:=by omega
   rw [if_neg hx,if_pos hy,if_neg hz0]
   exact ⟨fun h1 h2=>by omega,fun h1=>by omega,fun h1=>hz⟩
  ·rw [if_neg hx,if_neg hy]
   refine ⟨fun h1 h2=>?_,fun h1=>by omega,fun h1=>by omega⟩
   have:=t h1 h2
   rw [if_neg (by omega)]; exact this
theorem KBV (a b c:Int):Tri (cmpI a b) (cmpI b c) (cmpI a c):=by
 unfold cmpI
 constructor <;> (repeat' split) <;> intros <;> omega
theorem zr (a b:Int):cmpI b a=- cmpI a b:=by
 unfold cmpI
 (repeat' split) <;> omega
theorem KBW (a b:Int):cmpI a b=0↔a=b:=by
 unfold cmpI
 (repeat' split) <;> omega
theorem zO {x x' y y':Int} (h:x'=-x) (h':x=0→y'=-y):cOr x' y'=- cOr x y:=by
 unfold cOr
 by_cases hx:x=0
 ·rw [if_pos hx,if_pos (by omega)]; exact h' hx
 ·rw [if_neg hx,if_neg (by omega)]; exact h
theorem zP {x y:Int}:cOr x y=0↔x=0∧y=0:=by
 unfold cOr
 by_cases hx:x=0
 ·rw [if_pos hx]; simp [hx]
 ·rw [if_neg hx]; simp [hx]
def cmpL {α:Type} (f:α→α→Int):List α→List α→Int
 | [],[]=>0
 | [],_::_=>-1
 | _::_,[]=>1
 | a::l,b::l'=>cOr (f a b) (cmpL f l l')
theorem zt {α:Type} {f:α→α→Int}:∀ {l l':List α},(∀ a ∈ l,∀ b ∈ l',f b a=- f a b)→cmpL f l' l=- cmpL f l l'
 | [],[],_=>rfl
 | [],_::_,_=>rfl
 | _::_,[],_=>rfl
 | a::l,b::l',h=>zO (h a (by simp) b (by simp)) (fun _=>zt (fun x hx y hy=>h x (List.mem_cons_of_mem _ hx) y (List.mem_cons_of_mem _ hy)))
theorem KCP {α:Type} {f:α→α→Int}:∀ {l l':List α},(∀ a ∈ l,∀ b ∈ l',f a b=0↔a=b)→(cmpL f l l'=0↔l=l')
 | [],[],_=>by simp [cmpL]
 | [],_::_,_=>by simp [cmpL]
 | _::_,[],_=>by simp [cmpL]
 | a::l,b::l',h=>by
  rw [cmpL,zP,h a (by simp) b (by simp),KCP (fun x hx y hy=>h x (List.mem_cons_of_mem _ hx) y (List.mem_cons_of_mem _ hy))]
  simp
theorem KBX {α:Type} {f:α→α→Int}:∀ {l l' l'':List α},(∀ a ∈ l,∀ b ∈ l',∀ c ∈ l'',Tri (f a b) (f b c) (f a c))→Tri (cmpL f l l') (cmpL f l' l'') (cmpL f l l'')
 | [],[],[],_=>by simp only [cmpL]; constructor <;> intros <;> omega
 | [],[],_::_,_=>by simp only [cmpL]; constructor <;> intros <;> omega
 | [],_::_,[],_=>by simp only [cmpL]; constructor <;> intros <;> omega
 | [],b::l',c::l'',_=>by
  show Tri (-1) (cmpL f (b::l') (c::l'')) (-1)
  constructor <;> intros <;> omega
 | _::_,[],[],_=>by simp only [cmpL]; constructor <;> intros <;> omega
 | _::_,[],_::_,_=>by simp only [cmpL]; constructor <;> intros <;> omega
 | a::l,b::l',[],_=>by
  show Tri (cmpL f (a::l) (b::l')) 1 1
  constructor <;> intros <;> omega
 | a::l,b::l',c::l'',h=>Tri.cOr (h a (by simp) b (by simp) c (by simp)) (fun _ _=>KBX (fun x hx y hy z hz=>h x (List.mem_cons_of_mem _ hx) y (List.mem_cons_of_mem _ hy) z (List.mem_cons_of_mem _ hz)))
def cmpU (a b:UInt8):Int:=cmpI (a.toNat:Int) (b.toNat:Int)
theorem KG5:∀ s t:List UInt8,Lib.compareBytes s t=cmpL cmpU s t
 | [],[]=>rfl
 | [],_::_=>rfl
 | _::_,[]=>rfl
 | a::s,b::t=>by
  rw [X3,cmpL,cOr,KG5 s t]
  have:cmpU a b=0↔a=b:=by
   unfold cmpU
   rw [KBW,← UInt8.toNat_inj]; omega
  by_cases h:a=b
  ·rw [if_pos h,if_pos (this.2 h)]
  ·rw [if_neg h,if_neg (fun h'=>h (this.1 h'))]; rfl
theorem KH2 (a b:UInt8):cmpU a b=0↔a=b:=by
 unfold cmpU
 rw [KBW,← UInt8.toNat_inj]; omega
theorem KE8:∀ l l':List Vl,XK l l'=cmpL cmpV l l'
 | [],[]=>by simp [XK,cmpL]
 | [],_::_=>by simp [XK,cmpL]
 | _::_,[]=>by simp [XK,cmpL]
 | a::l,b::l'=>by rw [XK,cmpL,KE8 l l']
theorem qy (k n k' n':Int) (s s':List UInt8) (l l':List Vl):cmpV (.mk k n s l) (.mk k' n' s' l')=cOr (cmpI k k') (cOr (cmpI n n') (cOr (cmpL cmpU s s') (cmpL cmpV l l'))):=by
 rw [cmpV,KG5,KE8]
theorem KE9 {k n:Int} {s:List UInt8} {l:List Vl} {m:Nat} {v:Vl} (hm:sizeOf (Vl.mk k n s l) < m+1) (hv:v ∈ l):sizeOf v < m:=by
 have:=List.sizeOf_lt_of_mem hv
 simp only [Vl.mk.sizeOf_spec] at hm
 omega
theorem KDf:∀ (m:Nat) (a b:Vl),sizeOf a < m→cmpV b a=- cmpV a b:=by
 intro m
 induction m with
 | zero=>intro a b h; omega
 | succ m ih =>
  rintro ⟨k,n,s,l⟩ ⟨k',n',s',l'⟩ hm
  rw [qy,qy]
  exact zO (zr _ _) (fun _=>zO (zr _ _) (fun _=>zO (zt (fun a _ b _=>zr _ _)) (fun _=>zt (fun a ha b hb=>ih a b (KE9 hm ha)))))
theorem qW (a b:Vl):cmpV b a=- cmpV a b:=KDf _ a b (Nat.lt_succ_self _)
theorem KGQ:∀ (m:Nat) (a b:Vl),sizeOf a < m→(cmpV a b=0↔a=b):=by
 intro m
 induction m with
 | zero=>intro a b h; omega
 | succ m ih =>
  rintro ⟨k,n,s,l⟩ ⟨k',n',s',l'⟩ hm
  rw [qy,zP,zP,zP,KBW,KBW,KCP (fun a _ b _=>KH2 a b),KCP (fun a ha b hb=>ih a b (KE9 hm ha))]
  simp
theorem q5 (a b:Vl):cmpV a b=0↔a=b:=KGQ _ a b (Nat.lt_succ_self _)
theorem KFA:∀ (m:Nat) (a b c:Vl),sizeOf a < m→Tri (cmpV a b) (cmpV b c) (cmpV a c):=by
 intro m
 induction m with
 | zero=>intro a b c h; omega
 | succ m ih =>
  rintro ⟨k,n,s,l⟩ ⟨k',n',s',l'⟩ ⟨k'',n'',s'',l''⟩ hm
  rw [qy,qy,qy]
  exact Tri.cOr (KBV _ _ _) (fun _ _=>Tri.cOr (KBV _ _ _) (fun _ _=>Tri.cOr (KBX (fun a _ b _ c _=>KBV _ _ _)) (fun _ _=>KBX (fun a ha b hb c hc=>ih a b c (KE9 hm ha)))))
theorem KGR (a b c:Vl):Tri (cmpV a b) (cmpV b c) (cmpV a c):=KFA _ a b c (Nat.lt_succ_self _)
theorem Vr (a:Vl):cmpV a a=0:=(q5 a a).2 rfl
theorem NG {a b c:Vl} (h1:cmpV a b < 0) (h2:cmpV b c < 0):cmpV a c < 0:=(KGR a b c).tr h1 h2
theorem Y0 (a b:Vl):cmpV a b < 0∨a=b∨cmpV b a < 0:=by
 have:=qW a b
 have:=q5 a b
 by_cases h:cmpV a b=0
 ·exact .inr (.inl (this.1 h))
 ·omega
end Gx
namespace Gx
open Go Go.Proofs Go.Shelf Go.RowKit Go.Lib
set_option linter.unusedVariables false
set_option linter.unusedSimpArgs false
set_option maxRecDepth 100000
theorem Gw.ix1 {β:Type} {lo:Nat} {h:Heap} {Q:β→Heap→Prop} {r:Sl} {vs:List Value} {i:Nat} {t:Int} {v:Value} {f:Addr→M β} (G:Gw lo h r 1 vs) (hi:vs[i]?=some v) (ht:t=(i:Int))
  (H:∀ b,r.base=some ⟨b,0,none⟩→KV h ⟨b,i,none⟩=some v→VE h ⟨b,i,none⟩=false→(f ⟨b,i,none⟩).wp h Q):(ixL r t 1>>=f).wp h Q:=by
 subst ht
 have hl:=G.len
 have hil:=(List.getElem?_eq_some_iff.1 hi).1
 rcases G with ⟨rfl,rfl⟩ | ⟨b,ty,cells,R⟩
 ·cases hi
 ·refine GW (by omega) (by omega) R.base ?_
  rw [Zn,show 0+(i:Int).toNat * 1=i by omega]
  exact H b R.base (by rw [Ks R.blk]; exact R.get i v hi) (JH R.blk)
theorem Gw.set1 {lo:Nat} {h:Heap} {r:Sl} {vs:List Value} {b i:Nat} {v:Value} (G:Gw lo h r 1 vs) (hb:r.base=some ⟨b,0,none⟩) (hi:i < vs.length):Gw lo (hset h ⟨b,i,none⟩ v) r 1 (vs.set i v):=by
 rcases G with ⟨rfl,rfl⟩ | ⟨b',ty,cells,R⟩
 ·cases hb
 ·have:b'=b:=by
   have:=R.base.symm.trans hb
   cases this
   rfl
  subst this
  have hsz:=R.size
  have hcap:=R.cap
  have hlen:=R.len
  refine .inr ⟨b',ty,_,R.base,R.lo,Wf R.blk,by rw [Array.size_setIfInBounds]; exact R.size,R.cap,by rw [List.length_set]; exact R.len,fun j u hj=>?_⟩
  rw [Array.getElem?_setIfInBounds]
  rw [List.getElem?_set] at hj
  by_cases hij:i=j
  ·subst hij
   rw [if_pos rfl,if_pos hi] at hj
   rw [if_pos rfl,if_pos (by omega)]
   exact hj
  ·rw [if_neg hij] at hj
   rw [if_neg hij]
   exact R.get j u hj
theorem KGS {α β:Type} (g:α→β) (L1 L2:List α) (x y:α):(((L1++y::x::L2).map g).set (L1.length+1) (g y)).set L1.length (g x)=(L1++x::y::L2).map g:=by
 simp only [List.map_append,List.map_cons]
 rw [show L1.map g++g y::g x::L2.map g=(L1.map g++[g y])++g x::L2.map g by simp]
 rw [XP (by simp)]
 rw [show (L1.map g++[g y])++g y::L2.map g=L1.map g++g y::g y::L2.map g by simp]
 rw [XP (by simp)]
def vv {α:Type} (sl:α→Sl) (a:α):Value:=(sl a).v
theorem KG6 {α β:Type} {sl:α→Sl} {lo:Nat} {h:Heap} {Q:β→Heap→Prop} {r:Sl} {y x:α} {L1 L2:List α} {j:Int} {f:Unit→M β} (G:Gw lo h r 1 ((L1++y::x::L2).map (vv sl))) (hj:j=((L1.length+1:Nat):Int)) (hsm:L1.length≤1099511627776)
  (H:∀ h',Km (Sl.on r) h h'→Gw lo h' r 1 ((L1++x::y::L2).map (vv sl))→(f ()).wp h' Q) :
  (ixL r (IntKind.wrap .i64 (j - 1)) 1>>=fun a=>ixL r j 1>>=fun b=>ldL a>>=fun u=>ldL b>>=fun v=>ixL r j 1>>=fun c=>stV c u.v>>=fun _=>ixL r (IntKind.wrap .i64 (j - 1)) 1>>=fun d=>stV d v.v>>=f).wp h Q:=by
 subst hj
 rw [w64 (by omega) (by omega),show (((L1.length+1:Nat):Int) - 1)=(L1.length:Int) by omega]
 have hy:((L1++y::x::L2).map (vv sl))[L1.length]?=some (sl y).v:=by simp [vv]
 have hx:((L1++y::x::L2).map (vv sl))[L1.length+1]?=some (sl x).v:=by
  rw [List.map_append,List.getElem?_append_right (by simp)]
  simp [vv]
 have hlen:L1.length+1 < ((L1++y::x::L2).map (vv sl)).length:=by simp
 refine G.ix1 hy rfl (fun b hb hc hf=>G.ix1 hx rfl (fun b2 hb2 hc2 hf2=>UG hc (UG hc2 (G.ix1 hx rfl (fun b3 hb3 hc3 hf3=>Gk hc3 hf3 (zH (sl y)) ?_)))))
 have e3:b3=b:=by rw [hb3] at hb; cases hb; rfl
 subst e3
 have G1:=G.set1 (v:=(sl y).v) hb3 hlen
 have u1:=Upd.hset h b3 (L1.length+1) (sl y).v
 generalize hset h ⟨b3,L1.length+1,none⟩ (sl y).v=h1 at G1 u1 ⊢
 have hy1:(((L1++y::x::L2).map (vv sl)).set (L1.length+1) (sl y).v)[L1.length]?=some (sl y).v:=by
  rw [List.getElem?_set_ne (by omega)]
  exact hy
 refine G1.ix1 hy1 rfl (fun b4 hb4 hc4 hf4=>Gk hc4 hf4 (zH (sl x)) ?_)
 have e4:b4=b3:=by rw [hb4] at hb3; cases hb3; rfl
 subst e4
 have G2:=G1.set1 (v:=(sl x).v) (i:=L1.length) hb4 (by rw [List.length_set]; omega)
 have u2:=Upd.hset h1 b4 L1.length (sl x).v
 rw [show (sl y).v=vv sl y from rfl,show (sl x).v=vv sl x from rfl,KGS] at G2
 have hon:Sl.on r b4:=⟨_,hb4,rfl⟩
 exact H _ ((Km.upd u1 hon).trans (Km.upd u2 hon)) G2
structure Cmpr {α:Type} (sl:α→Sl) (r:Sl) (T:Heap→Prop) (cmp:Value) (key:α→Vl) (ss:List α):Prop where
 keep:∀ hh h',T hh→Km (Sl.on r) hh h'→T h'
 call:∀ hh,T hh→∀ p q,p ∈ ss→q ∈ ss→∀ Q:Int→Heap→Prop,(∀ h',Ext hh h'→Q (cmpV (key p) (key q)) h')→(KBj Go.Proofs.Tryz.prog (fun r:Int=>.int .i64 r) cmp [(sl p).v,(sl q).v]).wp hh Q
def Srt {α:Type} (key:α→Vl) (l:List α):Prop:=l.Pairwise (fun p q=>¬ cmpV (key q) (key p) < 0)
theorem VT {x y z:Vl} (h1:¬ cmpV z y < 0) (h2:¬ cmpV y x < 0):¬ cmpV z x < 0:=by
 intro h3
 rcases Y0 y x with h | h | h
 ·exact h2 h
 ·subst h; exact h1 h3
 ·exact h1 (NG h3 h)
theorem X5 {α:Type} {sl:α→Sl} {lo:Nat} {h:Heap} {Q:Unit→Heap→Prop} {r:Sl} {T:Heap→Prop} {cmp:Value} {key:α→Vl} {ss pre mid post:List α} (C:Cmpr sl r T cmp key ss) (hT:T h) (G:Gw lo h r 1 ((pre++mid++post).map (vv sl))) (hp:∀ p ∈ mid,p ∈ ss)
  (hsm:(pre++mid++post).length≤1099511627776) (H:∀ h' mid',Gw lo h' r 1 ((pre++mid'++post).map (vv sl))→mid'.Perm mid→Srt key mid'→Km (Sl.on r) h h'→Q () h') :
  (K0 r (pre.length:Int) ((pre.length+mid.length:Nat):Int) cmp).wp h Q:=by
 simp only [List.length_append] at hsm
 unfold K0
 rw [w64 (by omega) (by omega)]
 refine M.loop_inv (fun (t:Int) hh=>∃ (k:Nat) (m1:List α),t=((pre.length+k:Nat):Int)∧1≤k∧m1.Perm (mid.take k)∧Srt key m1∧Km (Sl.on r) h hh∧Gw lo hh r 1 ((pre++m1++(mid.drop k++post)).map (vv sl))) (fun t _=>(((pre.length+mid.length+1:Nat):Int) - t).toNat) ?_
  ⟨1,mid.take 1,by omega,Nat.le_refl _,List.Perm.refl _,?_,Km.refl _ _,?_⟩
 ·rintro t hh ⟨k,m1,rfl,hk,hperm,hs,K,G1⟩ self hself
  have hm1:=hperm.length_eq
  rw [List.length_take] at hm1
  unfold Zb
  refine Kx (fun hc=>?_) (fun hc=>?_)
  ·have hkl:k < mid.length:=by have:=of_decide_eq_true hc; omega
   have hxm:mid[k] ∈ ss:=hp _ (List.getElem_mem hkl)
   have hm1s:∀ p ∈ m1,p ∈ ss:=fun p hp1=>hp p (List.mem_of_mem_take (hperm.mem_iff.1 hp1))
   rw [List.drop_eq_getElem_cons hkl] at G1
   generalize hxx:mid[k]=x at hxm G1
   refine M.loop_inv (fun (t:Int) h2=>∃ u w:List α,t=((pre.length+u.length:Nat):Int)∧u++w=m1∧(∀ y ∈ w,cmpV (key x) (key y) < 0)∧Km (Sl.on r) h h2∧Gw lo h2 r 1 ((pre++u++x::(w++(mid.drop (k+1)++post))).map (vv sl))) (fun t _=>t.toNat) ?_
    ⟨m1,[],by omega,by simp,fun y hy=>(by cases hy),K,by simpa using G1⟩
   rintro t h2 ⟨u,w,rfl,huw,hw,K2,G2⟩ self2 hself2
   have hul:u.length≤mid.length:=by have:=congrArg List.length huw; rw [List.length_append] at this; omega
   have done:(u≠[]→∀ y,u.getLast?=some y→¬ cmpV (key x) (key y) < 0)→∀ h3,Km (Sl.on r) h h3→Gw lo h3 r 1 ((pre++u++x::(w++(mid.drop (k+1)++post))).map (vv sl)) →
     (Kk self self2 r ((pre.length+k:Nat):Int) ((pre.length+u.length:Nat):Int) false).wp h3 Q:=by
    intro hlast h3 K3 G3
    unfold Kk
    refine iteF rfl ?_
    rw [w64 (by omega) (by omega)]
    refine hself _ _ ⟨k+1,u++x::w,by omega,by omega,?_,?_,K3,?_⟩ (by omega)
    ·rw [List.take_succ_eq_append_getElem hkl,hxx]
     refine List.Perm.trans (List.perm_middle) ?_
     refine List.Perm.trans ?_ (List.perm_append_singleton _ _).symm
     rw [huw]
     exact hperm.cons x
    ·unfold Srt at hs ⊢
     rw [← huw,List.pairwise_append] at hs
     rw [List.pairwise_append]
     refine ⟨hs.1,List.pairwise_cons.2 ⟨fun y hy=>?_,hs.2.1⟩,fun p hp1 q hq=>?_⟩
     ·have:=hw y hy
      have a:=qW (key x) (key y)
      omega
     ·rcases List.mem_cons.1 hq with rfl | hq
      ·have hne:u≠[]:=List.ne_nil_of_mem hp1
       obtain ⟨u',y,rfl⟩:∃ u' y,u=u'++[y]:=⟨u.dropLast,u.getLast hne,(List.dropLast_concat_getLast hne).symm⟩
       have hy:=hlast hne y (by simp)
       rcases List.mem_append.1 hp1 with hp2 | hp2
       ·have h4:=hs.1
        rw [List.pairwise_append] at h4
        exact VT hy (h4.2.2 p hp2 y (by simp))
       ·rw [List.mem_singleton] at hp2
        subst hp2
        exact hy
      ·exact hs.2.2 p hp1 q hq
    ·rw [show pre++(u++x::w)++(mid.drop (k+1)++post)=pre++u++x::(w++(mid.drop (k+1)++post)) by simp]
     exact G3
   unfold Za
   refine Kx (fun hpos=>?_) (fun hz=>?_)
   ·have hne:u≠[]:=by
     intro e
     subst e
     have:=of_decide_eq_true hpos
     simp at this
    obtain ⟨u',y,rfl⟩:∃ u' y,u=u'++[y]:=⟨u.dropLast,u.getLast hne,(List.dropLast_concat_getLast hne).symm⟩
    have hys:y ∈ ss:=hm1s y (by rw [← huw]; simp)
    have eL:pre++(u'++[y])++x::(w++(mid.drop (k+1)++post))=(pre++u')++y::x::(w++(mid.drop (k+1)++post)):=by simp
    have G2':=G2
    rw [eL] at G2'
    have hjl:((pre.length+(u'++[y]).length:Nat):Int)=(((pre++u').length+1:Nat):Int):=by simp; omega
    rw [hjl]
    have hul':u'.length+1≤mid.length:=by simpa using hul
    have hpl:(pre++u').length=pre.length+u'.length:=List.length_append
    have hx:((((pre++u')++y::x::(w++(mid.drop (k+1)++post))).map (vv sl)))[(pre++u').length+1]?=some (sl x).v:=by
     rw [List.map_append,List.getElem?_append_right (by simp)]
     simp [vv]
    have hy:((((pre++u')++y::x::(w++(mid.drop (k+1)++post))).map (vv sl)))[(pre++u').length]?=some (sl y).v:=by
     rw [List.map_append,List.getElem?_append_right (by simp)]
     simp [vv]
    refine G2'.ix1 hx rfl (fun b1 hb1 hc1 hf1=>?_)
    rw [w64 (by omega) (by omega),show ((((pre++u').length+1:Nat):Int) - 1)=(((pre++u').length:Nat):Int) by omega]
    refine G2'.ix1 hy rfl (fun b2 hb2 hc2 hf2=>UG hc1 (UG hc2 (KX (C.call h2 (C.keep _ _ hT K2) x y hxm hys _ (fun h3 e3=>?_)))))
    have K3:=K2.trans (Km.ext e3)
    by_cases hlt:cmpV (key x) (key y) < 0
    ·rw [decide_eq_true hlt]
     unfold Kk
     refine iteT rfl (KG6 (G2'.ext e3) rfl (by omega) (fun h4 K4 G4=>?_))
     rw [w64 (by omega) (by omega)]
     refine hself2 _ _ ⟨u',y::w,by omega,by rw [← huw]; simp,fun z hz=>?_,K3.trans K4,by simpa using G4⟩ (by omega)
     rcases List.mem_cons.1 hz with rfl | hz
     ·exact hlt
     ·exact hw z hz
    ·rw [decide_eq_false hlt]
     have h5:=done (fun _ z hz=>by simp at hz; subst hz; exact hlt) h3 K3 (by rw [eL]; exact G2'.ext e3)
     rw [hjl] at h5
     exact h5
   ·have hu0:u=[]:=by
     have:=of_decide_eq_false hz
     exact List.length_eq_zero_iff.1 (by omega)
    subst hu0
    exact done (fun h=>absurd rfl h) h2 K2 G2
  ·have hkl:mid.length≤k:=by have:=of_decide_eq_false hc; omega
   rw [List.take_of_length_le hkl] at hperm
   rw [List.drop_of_length_le hkl,List.nil_append] at G1
   exact KQ (H _ _ G1 hperm hs K)
 ·unfold Srt
  cases mid with
  | nil=>exact List.Pairwise.nil
  | cons a m=>simp
 ·rw [show pre++mid.take 1++(mid.drop 1++post)=pre++(mid.take 1++mid.drop 1)++post by simp,List.take_append_drop]
  exact G
end Gx
namespace Gx
open Go
set_option linter.unusedVariables false
set_option linter.unusedSimpArgs false
def KDg (x:Sl) (i:Nat):Sl:=⟨x.base.map (fun a=>a.add (2 * i * 4)),min 2 (x.len - 2 * i),min 2 (x.len - 2 * i)⟩
def NW (x:Sl):List Sl:=(List.range ((x.len+1) / 2)).map (KDg x)
theorem NH (x:Sl):(NW x).length=(x.len+1) / 2:=by simp [NW]
theorem KDh (x:Sl) {i:Nat} (hi:i < (NW x).length):(NW x)[i]=KDg x i:=by simp [NW]
def Vz (l:List Vl) (i:Nat):List Vl:=(l.drop (2 * i)).take 2
theorem KFB {S:Nat→Prop} {h:Heap} {x:Sl} {l:List Vl} (H:VsRepS S h x l) {i:Nat} (hi:2 * i < l.length):VsRepS S h (KDg x i) (Vz l i):=by
 have hl:=H.len
 have hlen:(Vz l i).length=min 2 (l.length - 2 * i):=by simp [Vz]
 refine ⟨by rw [hlen]; show min 2 (x.len - 2 * i)=_; rw [hl],Nat.le_refl _,by show min 2 (x.len - 2 * i)≤_; omega,YC.of (fun j hj=>?_)⟩
 rw [hlen] at hj
 obtain ⟨a,cs,ha,hS,hs,hc,hv⟩:=H.get (j:=2 * i+j) (by omega)
 refine ⟨a.add (2 * i * 4),cs,by show x.base.map _=_; rw [ha]; rfl,by rw [Y3]; exact hS,hs,fun m hm=>?_,?_⟩
 ·rw [Addr.add_add,← hc m hm]
  congr 2; omega
 ·have:(Vz l i)[j]'(by rw [hlen]; omega)=l[2 * i+j]'(by omega):=by simp [Vz]
  rw [this]; exact hv
theorem KG7 {β:Type} {h:Heap} {Q:β→Heap→Prop} {s:Sl} {lo hi mx:Int} {sz:Nat} {f:Sl→M β} (h0:0≤lo) (h1:lo≤hi) (h2:hi≤mx) (h3:mx≤s.cap) (H:(f ⟨if mx.toNat=lo.toNat then s.base else s.base.map (·.add (lo.toNat * sz)),hi.toNat - lo.toNat,mx.toNat - lo.toNat⟩).wp h Q):(slL3 s lo hi mx sz>>=f).wp h Q:=⟨_,⟨h0,h1,h2,h3,rfl⟩,H⟩
theorem KFC {x:Sl} {a b:Addr} (hlc:x.len≤x.cap) (hb:x.len≤1099511627776) {J:Nat→Heap→Prop} (hJ:∀ i h1,J i h1→KV h1 a=some x.v∧KV h1 b=some (.int .i64 2)) :
  SeqW Go.Proofs.Tryz.prog (fun x:Sl=>[x.v]) (NW x) (.func (.func ZM) #[] #[.pointer (some a),.pointer (some b)]) J:=by
 intro l Inv Stop h hInv h0 hround
 refine KA6 Vi (Vw (yV l) a b) ?_
 unfold Jj
 rw [NH]
 refine M.loop_inv (fun (t:Int) h'=>∃ i:Nat,t=((2 * i:Nat):Int)∧i≤(x.len+1) / 2∧Inv i h') (fun t _=>((x.len:Int)+2 - t).toNat) ?_ ⟨0,rfl,Nat.zero_le _,h0⟩
 rintro t h' ⟨i,rfl,hi,hI⟩ self hself
 unfold Zp
 obtain ⟨ca,cb⟩:=hJ i h' (hInv i h' hI)
 refine UG ca (Kx (fun hc=>?_) (fun hc=>?_))
 ·have hlt:2 * i < x.len:=by have:=of_decide_eq_true hc; omega
  refine Ux cb (UG ca (KDW (by omega) (by omega) (by omega) (UG ca ?_)))
  have hmin:iMin 2 (((x.len:Int).toNat - ((2 * i:Nat):Int).toNat:Nat):Int)=((min 2 (x.len - 2 * i):Nat):Int):=by
   unfold iMin
   (repeat' split) <;> omega
  dsimp only
  rw [hmin,w64 (by omega) (by omega)]
  refine KG7 (by omega) (by omega) (by omega) (by omega) ?_
  have hp:(⟨if (((2 * i:Nat):Int)+((min 2 (x.len - 2 * i):Nat):Int)).toNat=((2 * i:Nat):Int).toNat then x.base else x.base.map (fun a=>a.add (((2 * i:Nat):Int).toNat * 4)),(((2 * i:Nat):Int)+((min 2 (x.len - 2 * i):Nat):Int)).toNat - ((2 * i:Nat):Int).toNat,(((2 * i:Nat):Int)+((min 2 (x.len - 2 * i):Nat):Int)).toNat - ((2 * i:Nat):Int).toNat⟩:Sl)=KDg x i:=by
   have e1:(((2 * i:Nat):Int)+((min 2 (x.len - 2 * i):Nat):Int)).toNat=2 * i+min 2 (x.len - 2 * i):=by omega
   have e2:((2 * i:Nat):Int).toNat=2 * i:=rfl
   rw [e1,e2,if_neg (by omega)]
   unfold KDg
   congr 1 <;> omega
  rw [hp]
  have hr:=hround i (by rw [NH]; omega) h' hI
  rw [KDh x (by rw [NH]; omega)] at hr
  refine KX ((GV _ _ _ _).mono ?_ hr)
  rintro b1 h2 hb1
  cases b1 with
  | true =>
   have hb1:Inv (i+1) h2:=hb1
   obtain ⟨ca2,cb2⟩:=hJ _ _ (hInv _ _ hb1)
   refine iteF rfl (Ux cb2 ?_)
   rw [w64 (by omega) (by omega)]
   exact hself _ _ ⟨i+1,by omega,by omega,hb1⟩ (by omega)
  | false=>exact iteT rfl (KQ (.inr hb1))
 ·have hge:(x.len+1) / 2=i:=by have:=of_decide_eq_false hc; omega
  rw [hge]
  exact KQ (.inl hI)
end Gx
namespace Gx
open Go Go.Proofs Go.Shelf Go.RowKit Go.Lib
set_option linter.unusedVariables false
set_option linter.unusedSimpArgs false
set_option maxRecDepth 100000
theorem KFD {P:Program} {α:Type} {enc:α→List Value} {js:List Code} {Y:Nat→α→M Nat} {Yb:α→M Nat} {r:Loop} {l:Nat} (hY:∀ x,Y l x=(beg l>>=fun _=>Yb x)) (hr:KCo P enc js Y r l) {J J':Heap→Prop} {x:α}
  (hJ:∀ h1 h2,J h1→Upd l h1 h2→J h2) (hJ':∀ h1 h2,J' h1→Upd l h1 h2→J' h2)
  (hbody:∀ h1 o,J h1→h1[l]?=some o→(Yb x).wp h1 (fun j h2=>h2[l]?=some o∧j=0∧J' h2)) {h1:Heap} (h0:J h1) (hrec:h1[l]?=some (NJ r .ready none)) :
  (GV P (fun b:Bool=>.bool b) (yV l) (enc x)).wp h1 (fun b h2=>if b=true then (J' h2∧h2[l]?=some (NJ r .ready none)) else False):=by
 refine hr x h1 _ .ready none hrec ?_
 rw [hY]
 refine ⟨{ r with state:=.ready,pending:=none },hrec,rfl,?_⟩
 have hb:=KCs (o':=NJ r .busy none) hrec
 refine (Yb x).mono ?_ (hbody _ _ (hJ _ _ h0 (Upd.set_ h1 l (NJ r .busy none))) hb)
 rintro j h2 ⟨h3,rfl,h4⟩
 refine ⟨.busy,none,h3,?_⟩
 show if true=true then _ else _
 rw [if_pos rfl]
 exact ⟨hJ' _ _ h4 (Upd.set_ _ _ _),KCs h3⟩
theorem KJe {P:Program} {α:Type} {enc:α→List Value} {js:List Code} {Y:Nat→α→M Nat} {Yb:α→M Nat} (hY:∀ l x,Y l x=(beg l>>=fun _=>Yb x)) {g:Value} (hg:∀ l,g≠.func (.yield l) #[] #[]) {h:Heap} {Q:Nat × Nat→Heap→Prop} {xs:List α}
  (J J0:Nat→Heap→Prop) (hJ:∀ i h1 h2,J i h1→Upd (h.size+1) h1 h2→J i h2) (hJ0:∀ i h1,J i h1→J0 i h1)
  (hseq:SeqW P enc xs g J0) (h0:∀ r:Loop,J 0 ((h.push (.deferred (some []))).push (NJ r .ready none)))
  (hbody:∀ i (hi:i < xs.length) h1 o,J i h1→h1[h.size+1]?=some o→(Yb xs[i]).wp h1 (fun j h2=>h2[h.size+1]?=some o∧j=0∧J (i+1) h2))
  (hq0:∀ h1,J xs.length h1→Q (0,h.size) h1):(rgF P enc js Y g).wp h Q:=by
 refine ⟨hg,fun r hr=>?_⟩
 have hrec:((h.push (.deferred (some []))).push (NJ r .ready none))[h.size+1]?=some (NJ r .ready none):=by
  have:h.size+1=(h.push (.deferred (some []))).size:=by simp
  rw [this]; exact Zj
 refine (GV P _ _ _).mono ?_ (hseq (h.size+1) (fun i h1=>J i h1∧h1[h.size+1]?=some (NJ r .ready none)) (fun h1=>False) _ (fun i h1 hh=>hJ0 i h1 hh.1) ⟨h0 r,hrec⟩ (fun i hi h1 hh=>KFD (hY _) hr (hJ i) (hJ (i+1)) (hbody i hi) hh.1 hh.2))
 rintro _ h1 (⟨h2,h3⟩ | h2)
 ·exact ⟨.ready,0,by decide,h3,hq0 _ (hJ _ _ _ h2 (Upd.set_ _ _ _))⟩
 ·exact h2.elim
theorem KH3 {h:Heap} {b:Nat} {v u:Value} {t:TypeId} (hb:h[b]?=some (.cells #[v] t (0,0))):(hset h ⟨b,0,none⟩ u)[b]?=some (.cells #[u] t (0,0)):=by
 rw [Wf hb]; rfl
theorem KIv {β:Type} {lo:Nat} {h:Heap} {Q:β→Heap→Prop} {r x:Sl} {ss:List Value} {f:Sl→M β} (G:Gw lo h r 1 ss) (hle:lo≤h.size) (hm:ss.length≤1099511627776)
  (H:∀ h' r',Gw lo h' r' 1 (ss++[x.v])→h.size≤h'.size→(∀ j,j < h.size→¬ Sl.on r j→h'[j]?=h[j]?)→(f r').wp h' Q):(bdL JN 1 #[x.v]>>=fun y=>apL JN 1 24 (#[.slice none 0 0]:Array Value) r y>>=f).wp h Q:=by
 refine KA8 ?_
 have e6:=Ext.push h (.cells #[x.v] JN)
 have g6:(h.push (.cells #[x.v] JN))[h.size]?=some (.cells #[x.v] JN (0,0)):=Zj
 generalize h.push (.cells #[x.v] JN)=h6 at e6 g6 ⊢
 have G6:=G.ext e6
 have hrl:=G6.len
 rw [Nat.mul_one] at hrl
 refine KA9 (vs:=ss) (news:=[x.v]) rfl G6 rfl (.inr ⟨_,rfl,fun j v hj=>?_⟩) (fun v hv=>by simp at hv; subst hv; exact zH x) (by dsimp only; omega) (by dsimp only; omega) (by have:=e6.size; omega) (fun h7 r7 G7 hlen7 hs7 same7 on7=>?_)
 ·rw [Zn,Nat.zero_add,Ks g6]
  rw [show (#[x.v]:Array Value)=[x.v].toArray from rfl]
  simpa using hj
 ·exact H h7 r7 G7 (Nat.le_trans e6.size hs7) (fun j hj ho=>(same7 j (by have:=e6.size; omega) ho).trans (e6.same j hj))
theorem KBz {h:Heap} {Q:Sl→Heap→Prop} {g:Value} {xs:List Sl} (hg:∀ l,g≠.func (.yield l) #[] #[]) (hxs:xs.length≤1000000000) (hseq:SeqW Go.Proofs.Tryz.prog (fun x:Sl=>[x.v]) xs g (fun _ h1=>Ext h h1))
  (H:∀ h' r,Ext h h'→Gw h.size h' r 1 (xs.map Sl.v)→Q r h'):(JV g).wp h Q:=by
 unfold JV ZZ
 refine KX (Jp (fun h1 e1 s1 g1=>?_))
 refine KX (KJe (Yb:=fun x7=>ldL ⟨h.size,0,none⟩>>=fun r=>bdL JN 1 #[(x7:Sl).v]>>=fun y=>apL JN 1 24 (#[.slice none 0 0]:Array Value) r y>>=fun r2=>stV ⟨h.size,0,none⟩ ((r2:Sl).v)>>=fun _=>M.pure 0) (fun _ _=>rfl) hg (xs:=xs)
  (fun i hh=>Ext h hh∧(∃ r,hh[h.size]?=some (.cells #[(r:Sl).v] XQ (0,0))∧Gw (h.size+3) hh r 1 ((xs.take i).map Sl.v))∧hh[h1.size]?=some (.deferred (some []))∧h.size+3≤hh.size) (fun _ h1=>Ext h h1) ?_ (fun i hh hJ=>hJ.1) hseq (fun r=>?_) (fun i hi h2 o hJ ho=>?_) (fun h2 hJ=>?_))
 ·rintro i h2 h3 ⟨E,⟨r,hr,G⟩,hd,hs⟩ u
  refine ⟨E.upd u (by omega),⟨r,(u.ne _ (by omega)).trans hr,G.same (fun k hk=>u.ne k (by have:=(G.lt hk).2; omega))⟩,(u.ne _ (by omega)).trans hd,by rw [u.size]; exact hs⟩
 ·have e2:=Ext.push h1 (.deferred (some []))
  have e3:=Ext.push (h1.push (.deferred (some []))) (NJ r .ready none)
  refine ⟨(e1.trans e2).trans e3,⟨Sl.nil,(e2.trans e3).blk g1,Gw.nil _ _ _⟩,e3.blk Zj,?_⟩
  simp; omega
 ·obtain ⟨E,⟨r,hr,G⟩,hd,hs⟩:=hJ
  refine UG (n:=r) (by rw [Ks hr]; rfl) (KIv G (by omega) (by simp; omega) (fun h3 r3 G3 s3 same3=>?_))
  have hno:∀ k,k < h.size+3→¬ Sl.on r k:=fun k hk ho=>by have:=(G.lt ho).2; omega
  have hr3:=(same3 h.size (by omega) (hno _ (by omega))).trans hr
  refine Gk (x:=r.v) (by rw [Ks hr3]; rfl) (JH hr3) (zH r3) (KQ ?_)
  have u4:=Upd.hset h3 h.size 0 r3.v
  have g4:=KH3 (u:=r3.v) hr3
  generalize hset h3 ⟨h.size,0,none⟩ r3.v=h4 at u4 g4 ⊢
  refine ⟨(u4.ne _ (by omega)).trans ((same3 _ (by omega) (hno _ (by omega))).trans ho),rfl,?_,⟨r3,g4,?_⟩,(u4.ne _ (by omega)).trans ((same3 _ (by omega) (hno _ (by omega))).trans hd),by rw [u4.size]; omega⟩
  ·refine ⟨by rw [u4.size]; have:=E.size; omega,fun k hk=>(u4.ne k (by omega)).trans ((same3 k (by omega) (hno k (by omega))).trans (E.same k hk))⟩
  ·rw [List.take_succ_eq_append_getElem hi,List.map_append]
   exact G3.same (fun k hk=>u4.ne k (by have:=(G3.lt hk).2; omega))
 ·obtain ⟨E,⟨r,hr,G⟩,hd,hs⟩:=hJ
  rw [List.take_length] at G
  refine UG (n:=r) (by rw [Ks hr]; rfl) ⟨hd,KQ (KQ ?_)⟩
  have u3:=Upd.set_ h2 h1.size (.deferred none)
  exact H _ r (E.upd u3 (by omega)) ((G.same (fun k hk=>u3.ne k (by have:=(G.lt hk).2; omega))).weak (by omega))
def KFE (n:Nat):Prop:=∀ {α:Type} {sl:α→Sl} {lo:Nat} {h:Heap} {Q:Unit→Heap→Prop} {r:Sl} {T:Heap→Prop} {cmp:Value} {key:α→Vl} {ss:List α},ss.length=n→Cmpr sl r T cmp key ss→T h→Gw lo h r 1 (ss.map (vv sl)) →
 (∀ h' ss',Gw lo h' r 1 (ss'.map (vv sl))→ss'.Perm ss→Srt key ss'→Km (Sl.on r) h h'→Q () h')→(Ko r cmp).wp h Q
theorem Cmpr.perm {α:Type} {sl:α→Sl} {r:Sl} {T:Heap→Prop} {cmp:Value} {key:α→Vl} {ss ss':List α} (C:Cmpr sl r T cmp key ss) (p:ss'.Perm ss):Cmpr sl r T cmp key ss' :=
 ⟨C.keep,fun hh hT a b ha hb Q H=>C.call hh hT a b (p.mem_iff.1 ha) (p.mem_iff.1 hb) Q H⟩
theorem KH4 {n:Nat} (hn:n≤20):KFE n:=by
 intro α sl lo h Q r T cmp key ss hlen C hT G H
 unfold Ko Zx
 have hrl:=G.len
 rw [List.length_map,Nat.mul_one] at hrl
 refine KX (M.loop_inv (fun (t:Int × Int) hh=>∃ ss',Gw lo hh r 1 (ss'.map (vv sl))∧ss'.Perm ss∧Km (Sl.on r) h hh∧(t=(0,20)∨(t=(20,40)∧n=20∧Srt key ss'))) (fun t _=>(40 - t.1).toNat) ?_ ⟨ss,G,List.Perm.refl _,Km.refl _ _,.inl rfl⟩)
 rintro t hh ⟨ss',G1,hp,K1,ht⟩ self hself
 have hl':=hp.length_eq
 have last:∀ h2 ss2,Gw lo h2 r 1 (ss2.map (vv sl))→ss2.Perm ss→Srt key ss2→Km (Sl.on r) h h2→(M.loop (Ki r (r.len:Int) cmp) 20).wp h2 (fun _ h'=>(M.pure ():M Unit).wp h' Q):=by
  intro h2 ss2 G2 p2 s2 K2
  refine M.loop_inv (fun (t:Int) hh=>t=20∧hh=h2) (fun _ _=>0) ?_ ⟨rfl,rfl⟩
  rintro t hh ⟨rfl,rfl⟩ self2 _
  unfold Ki
  exact iteF (decide_eq_false (by omega)) (KQ (KQ (H _ _ G2 p2 s2 K2)))
 unfold Zc
 rcases ht with rfl | ⟨rfl,h20,hs⟩
 ·dsimp only
  refine Kx (fun hc=>?_) (fun hc=>?_)
  ·have h20:n=20:=by have:=of_decide_eq_true hc; omega
   have hi:=X5 (pre:=[]) (mid:=ss') (post:=[]) (Q:=fun _ h2=>(self (20,IntKind.wrap .i64 (20+20))).wp h2 (fun _ h'=>(M.pure ():M Unit).wp h' Q)) (C.perm hp) (C.keep _ _ hT K1) (by simpa using G1) (fun p hp=>hp) (by simp; omega)
    (fun h2 mid' G2 p2 s2 K2=>hself _ _ ⟨mid',by simpa using G2,p2.trans hp,K1.trans K2,.inr ⟨by rw [w64 (by omega) (by omega)]; rfl,h20,s2⟩⟩ (by decide))
   rw [show ((([]:List α).length:Nat):Int)=0 from rfl,show (((([]:List α).length+ss'.length:Nat)):Int)=20 by rw [hl',hlen,h20]; rfl] at hi
   exact KX hi
  ·have hlt:n < 20:=by have:=of_decide_eq_false hc; omega
   have hi:=X5 (pre:=[]) (mid:=ss') (post:=[]) (Q:=fun _ h2=>(M.loop (Ki r (r.len:Int) cmp) 20).wp h2 (fun _ h'=>(M.pure ():M Unit).wp h' Q)) (C.perm hp) (C.keep _ _ hT K1) (by simpa using G1) (fun p hp=>hp) (by simp; omega)
    (fun h2 mid' G2 p2 s2 K2=>last _ _ (by simpa using G2) (p2.trans hp) s2 (K1.trans K2))
   rw [show ((([]:List α).length:Nat):Int)=0 from rfl,show (((([]:List α).length+ss'.length:Nat)):Int)=(r.len:Int) by simp; omega] at hi
   exact KX hi
 ·dsimp only
  refine iteF (decide_eq_false (by omega)) ?_
  have hi:=X5 (pre:=ss') (mid:=[]) (post:=[]) (Q:=fun _ h2=>(M.loop (Ki r (r.len:Int) cmp) 20).wp h2 (fun _ h'=>(M.pure ():M Unit).wp h' Q)) (C.perm hp) (C.keep _ _ hT K1) (by simpa using G1) (fun p hp=>by cases hp) (by simp; omega)
   (fun h2 mid' G2 p2 s2 K2=>last _ ss' (by have e:=List.perm_nil.1 p2; subst e; simpa using G2) hp hs (K1.trans K2))
  rw [show ((ss'.length:Nat):Int)=20 by omega,show (((ss'.length+([]:List α).length:Nat)):Int)=(r.len:Int) by simp; omega] at hi
  exact KX hi
end Gx
namespace Gx
open Go Go.Proofs Go.Shelf Go.RowKit Go.Lib
set_option linter.unusedVariables false
set_option linter.unusedSimpArgs false
set_option maxRecDepth 100000
theorem KDi {h:Heap} {Q:Sl→Heap→Prop} {n:Nat} (hn:n≤1099511627776) (hq:∀ h' r,Ext h h'→Gw h.size h' r 4 []→Q r h'):(Zo Sl.nil (n:Int)).wp h Q:=by
 unfold Zo
 refine iteF (by simp) ?_
 unfold ZX
 have e:IntKind.wrap .i64 ((n:Int) - IntKind.wrap .i64 ((Sl.nil.cap:Int) - (Sl.nil.len:Int)))=(n:Int):=by
  show IntKind.wrap .i64 ((n:Int) - IntKind.wrap .i64 (0 - 0))=_
  rw [w64 (n:=0 - 0) (by omega) (by omega),w64 (by omega) (by omega)]
  omega
 rw [e]
 refine Kx (fun hc=>?_) (fun hc=>KQ (hq _ _ (Ext.refl h) (Gw.nil _ _ _)))
 have hc:0 < n:=by have:=of_decide_eq_true hc; omega
 refine KDW (by omega) (by show (0:Int)≤((0:Nat):Int); omega) (by show ((0:Nat):Int)≤((0:Nat):Int); omega) ?_
 refine KX ⟨by omega,by omega,by omega,_,rfl,?_⟩
 unfold apGo
 have h0:¬ ((⟨if Sl.nil.cap=(0:Int).toNat then Sl.nil.base else Sl.nil.base.map (·.add ((0:Int).toNat * 4)),(Sl.nil.cap:Int).toNat - (0:Int).toNat,Sl.nil.cap - (0:Int).toNat⟩:Sl).len+(n:Int).toNat≤(⟨if Sl.nil.cap=(0:Int).toNat then Sl.nil.base else Sl.nil.base.map (·.add ((0:Int).toNat * 4)),(Sl.nil.cap:Int).toNat - (0:Int).toNat,Sl.nil.cap - (0:Int).toNat⟩:Sl).cap):=by
  show ¬ (0+(n:Int).toNat≤0)
  omega
 rw [if_neg h0]
 refine ⟨by show (0+(n:Int).toNat) * 56≤_; omega,by show 0+(n:Int).toNat≤_; omega,[],rfl,.inl rfl,fun cap hcap=>?_⟩
 have hcap':0+(n:Int).toNat≤cap:=hcap
 refine KDW (by omega) (by show (0:Int)≤((0:Nat):Int); omega) (by show ((0:Nat):Int)≤(cap:Int); omega) ?_
 refine KQ (hq _ _ (Ext.push _ _) (.inr ⟨h.size,_,_,?_,Nat.le_refl _,Zj,?_,Nat.zero_le _,rfl,fun j v hj=>by cases hj⟩))
 ·show (if cap=(0:Int).toNat then _ else _)=_
  split <;> rfl
 ·simp [Xn]
  show n * 4+(cap - (0+n)) * 4=cap * 4
  omega
def Gd (L:List (List Vl)):List Vl:=L.flatten
theorem q6 {L:List (List Vl)} {k:Nat} (hk:k < L.length):Gd (L.take (k+1))=Gd (L.take k)++L[k]:=by
 unfold Gd
 rw [List.take_succ_eq_append_getElem hk,List.flatten_append]
 simp
theorem KDC (L:List (List Vl)) (k:Nat):(Gd (L.take k)).length≤(Gd L).length:=by
 unfold Gd
 conv=>rhs; rw [← List.take_append_drop k L,List.flatten_append,List.length_append]
 omega
theorem KB0 {S:Nat→Prop} {h:Heap} {Q:Sl→Heap→Prop} {lo:Nat} {x:Sl} {ss:List Sl} {L:List (List Vl)} (G:Gw lo h x 1 (ss.map Sl.v)) (hsL:ss.length=L.length) (hS:∀ b,S b→b < h.size) (hr:∀ k (h1:k < ss.length) (h2:k < L.length),VsRepS S h ss[k] L[k])
  (hL:(Gd L).length≤1000000000) (hl:L.length≤1000000000) (H:∀ h' r css,Ext h h'→VGw h.size S h' r css (Gd L)→Q r h'):(Zd x).wp h Q:=by
 have hxl:x.len=L.length:=by have:=G.len; rw [List.length_map,Nat.mul_one] at this; omega
 have cell:∀ {h1:Heap},Ext h h1→∀ {k:Nat} (hk:k < L.length),∃ b,x.base=some ⟨b,0,none⟩∧KV h1 ⟨b,k,none⟩=some (ss[k]'(by omega)).v:=fun e k hk =>
  (G.ext e).cell (by rw [List.getElem?_map,List.getElem?_eq_getElem (by omega)]; rfl)
 unfold Zd
 refine M.loop_inv (fun (t:Int × Int) h'=>h'=h∧∃ k:Nat,t=(((Gd (L.take k)).length:Int),(k:Int))∧k≤L.length) (fun t _=>((L.length:Int) - t.2).toNat) ?_ ⟨rfl,0,by simp [Gd],Nat.zero_le _⟩
 rintro t h' ⟨rfl,k,rfl,hk⟩ self hself
 unfold Zv
 rw [hxl]
 dsimp only
 refine Kx (fun hlt=>?_) (fun hge=>?_)
 ·have hlt:k < L.length:=by have:=of_decide_eq_true hlt; omega
  obtain ⟨b,hb,hc⟩:=cell (Ext.refl _) hlt
  refine GW (by omega) (by rw [hxl]; omega) hb ?_
  rw [Zn,Nat.zero_add]
  refine UG (n:=ss[k]'(by omega)) (by rw [show (k:Int).toNat * 1=k by omega]; exact hc) ?_
  have h2:=(hr k (by omega) hlt).len
  have h3:=KDC L (k+1)
  have e:IntKind.wrap .i64 (((Gd (L.take k)).length:Int)+((ss[k]'(by omega)).len:Int))=(((Gd (L.take (k+1))).length:Nat):Int):=by
   rw [q6 hlt,List.length_append] at h3 ⊢
   rw [w64 (by omega) (by omega)]
   omega
  rw [e]
  refine iteF (by simp) ?_
  rw [w64 (by omega) (by omega)]
  exact hself _ _ ⟨rfl,k+1,by simp,by omega⟩ (by dsimp only; omega)
 ·have hge:k=L.length:=by have:=of_decide_eq_false hge; omega
  subst hge
  rw [List.take_length]
  refine KX (KDi (by omega) (fun h1 r1 e1 g1=>?_))
  refine M.loop_inv (fun (t:Sl × Int) h2=>Ext h' h2∧∃ (k:Nat) (css:List (Array Value)),t.2=(k:Int)∧k≤L.length∧VGw h'.size S h2 t.1 css (Gd (L.take k))) (fun t _=>((L.length:Int) - t.2).toNat) ?_
   ⟨e1,0,[],rfl,Nat.zero_le _,⟨g1,fun c hc=>(by cases hc),rfl,fun j h1=>(by cases h1)⟩⟩
  rintro ⟨r,t⟩ h2 ⟨E,k,css,hkk,hk,hg⟩ self hself
  dsimp only at hkk hg
  subst hkk
  unfold Zu
  refine Kx (fun hlt=>?_) (fun hge=>?_)
  ·have hlt:k < L.length:=by have:=of_decide_eq_true hlt; omega
   obtain ⟨b,hb,hc⟩:=cell E hlt
   refine GW (by omega) (by rw [hxl]; omega) hb ?_
   rw [Zn,Nat.zero_add]
   refine UG (n:=ss[k]'(by omega)) (by rw [show (k:Int).toNat * 1=k by omega]; exact hc) ?_
   have hk2:=hr k (by omega) hlt
   obtain ⟨css',w4,hcl,hrep,hrd⟩:=hk2.css
   have h3:=KDC L (k+1)
   rw [q6 hlt,List.length_append] at h3
   refine KX (NF (l':=L[k]) (css':=css') hg E.size (fun b hb=>⟨by have:=hS b hb; have:=E.size; omega,fun ho=>by have:=(hg.gw.lt ho).2; have:=hS b hb; omega⟩) w4 hcl hk2.len (E.reads hrd) (fun j h1' h2'=>(hrep j h1' h2').same (fun b hb=>E.same b (hS b hb))) (by omega) (fun h3 r3 G3 hs3 same3 on3=>?_))
   rw [w64 (by omega) (by omega)]
   refine hself _ _ ⟨⟨by have:=E.size; omega,fun i hi=>(same3 i (by have:=E.size; omega) (fun ho=>by have:=(hg.gw.lt ho).2; omega)).trans (E.same i hi)⟩,k+1,css++css',by simp,by omega,?_⟩ (by dsimp only; omega)
   rw [q6 hlt]
   exact G3
  ·have hge:k=L.length:=by have:=of_decide_eq_false hge; omega
   subst hge
   rw [List.take_length] at hg
   exact KQ (H _ _ css E hg)
theorem KAf {v:Vl} {h:Heap} {Q:Array Value × Int→Heap→Prop} {c:Array Value} (hv:VRep h v c) (hw:wt v≤1099511627776) (H:∀ h' c',Ext h h'→JS (h.size≤·) h' (if mayV 8 v=true then v else vl0) c'→Q (c',WZ v) h'):(Yz c).wp h Q:=by
 unfold Yz
 have hc:=hv.size
 refine Jp (fun h1 e1 s1 g1=>Jp (fun h2 e2 s2 g2=>?_))
 have g1':=e2.blk g1
 refine ldR g1' hc (KX (Nu (hv.ext (e1.trans e2)) (fun h3 e3=>?_)))
 have E3:=(e1.trans e2).trans e3
 have g2':=e3.blk g2
 by_cases hm:mayV 8 v=true
 ·have hk:WZ v=0:=by unfold WZ; rw [if_pos hm]
  rw [hk] at H ⊢
  rw [if_pos hm] at H
  refine iteF rfl (ldR (e3.blk g1') hc (KX (KCO _ v (Nat.lt_succ_self _) (hv.ext E3) hw (fun h4 c4 e4 V4=>Ju V4.size (stR (e4.blk g2') (by rw [V4.size]; exact Nat.le_refl 4) V4.to.one (fun h5 u5 g5=>?_))))))
  rw [ZV (by rw [Array.length_toList,V4.size]; rfl)] at g5
  have hE:=E3.size
  refine ldR g5 V4.size (KQ (H h5 c4 ((E3.trans e4).upd u5 (by omega)) ?_))
  exact (V4.same (fun k hk=>u5.ne k (by have:=e3.size; omega))).mono (fun k hk=>by omega)
 ·have hk:WZ v=20:=by unfold WZ; rw [if_neg hm]
  rw [hk] at H ⊢
  rw [if_neg hm] at H
  refine iteT rfl (Ju rfl (stR g2' (Nat.le_refl 4) (Zm 0 0 [] Sl.nil) (fun h5 u5 g5=>?_)))
  rw [ZV rfl] at g5
  exact ldR g5 rfl (KQ (H h5 _ (E3.upd u5 (by have:=e1.size; omega)) (Gz _ _)))
end Gx
namespace Gx
open Go Go.Proofs Go.Shelf Go.RowKit Go.Lib
set_option linter.unusedVariables false
set_option linter.unusedSimpArgs false
set_option maxRecDepth 100000
theorem KFF {S:Nat→Prop} {h:Heap} {k n:Int} {l:List Vl} {x:Sl} (hk:I64 k) (hn:I64 n) (hl:VsRepS S h x l):JS S h (.mk k n [] l) (Z9 k n [] x) :=
 JS.eq.2 ⟨x,rfl,hk,hn,by decide,hl⟩
def Vd (l:List Vl) (n:Nat):List (List Vl):=(List.range n).map (Vz l)
def kOf (p:List Vl):Vl:=p.headD vl0
abbrev vzM:Array Value:=#[.int .i64 0,.int .i64 0,.string ByteArray.empty,.slice none 0 0]
theorem KFG {m:List Vl} (h:0 < m.length):m[0]=kOf m:=by cases m with | nil=>cases h | cons a r=>rfl
theorem zu (l:List Vl):∀ n,(Vd l n).flatten=l.take (2 * n)
 | 0=>by simp [Vd]
 | n+1=>by
  have:=zu l n
  unfold Vd at this ⊢
  rw [List.range_succ,List.map_append,List.flatten_append,this]
  simp only [List.map_cons,List.map_nil,List.flatten_cons,List.flatten_nil,List.append_nil,Vz]
  rw [show 2 * (n+1)=2 * n+2 by omega,List.take_add]
theorem NI:∀ a b:List Vl,wt.wts (a++b)=wt.wts a+wt.wts b
 | [],b=>by simp [wt.wts]
 | v::a,b=>by rw [List.cons_append,wt.wts,wt.wts,NI a b]; omega
theorem KGT {ps qs:List (List Vl)} (p:ps.Perm qs):wt.wts ps.flatten=wt.wts qs.flatten:=by
 induction p with
 | nil=>rfl
 | cons x _ ih=>rw [List.flatten_cons,List.flatten_cons,NI,NI,ih]
 | swap x y l=>simp only [List.flatten_cons,NI]; omega
 | trans _ _ h1 h2=>exact h1.trans h2
inductive MapRes (l:List Vl):Vl→Int→Prop
 | odd:l.length % 2=1→MapRes l vl0 1
 | twice (ps:List (List Vl)):l.length % 2=0→ps.Perm (Vd l (l.length / 2))→ps.Pairwise (fun p q=>¬ cmpV (kOf q) (kOf p) < 0)→(∃ i,∃ h:i+1 < ps.length,kOf ps[i]=kOf ps[i+1])→MapRes l vl0 5
 | made (ps:List (List Vl)):l.length % 2=0→ps.Perm (Vd l (l.length / 2))→ps.Pairwise (fun p q=>¬ cmpV (kOf q) (kOf p) < 0)→(∀ i,∀ h:i+1 < ps.length,kOf ps[i]≠kOf ps[i+1])→MapRes l (if mayV 8 (.mk 5 0 [] ps.flatten)=true then .mk 5 0 [] ps.flatten else vl0) (WZ (.mk 5 0 [] ps.flatten))
abbrev It:=Sl × List Vl
abbrev KJf (a:It):Vl:=kOf a.2
theorem KIw {l:List Vl} {i:Nat} (hi:2 * i+1 < l.length):(Vz l i).length=2:=by simp [Vz]; omega
theorem KCQ {h:Heap} {Q:Int→Heap→Prop} {x y:Sl} {l m:List Vl} (hx:VsRep h x l) (hy:VsRep h y m) (h1:0 < l.length) (h2:0 < m.length) (H:∀ h',Ext h h'→Q (cmpV (kOf l) (kOf m)) h'):(GN x y).wp h Q:=by
 unfold GN
 have e1:kOf l=l[0]:=by unfold kOf; cases l with | nil=>cases h1 | cons a r=>rfl
 have e2:kOf m=m[0]:=by unfold kOf; cases m with | nil=>cases h2 | cons a r=>rfl
 rw [e1,e2] at H
 refine Gv hx h1 rfl (fun a cs ha hc hv=>Gv hy h2 rfl (fun a2 cs2 ha2 hc2 hv2=>Wu ha hc (Wu ha2 hc2 (KX (GP hv hv2 (fun h' e=>KQ (H h' e)))))))
theorem KB1 {l:List Vl} {x:Sl} {h:Heap} {Q:Array Value × Int→Heap→Prop} (hx:VsRep h x l) (hn:KFE (l.length / 2)) (hw:wt.wts l≤1000000000)
  (H:∀ h' c v e,MapRes l v e→Ext h h'→JS (h.size≤·) h' v c→Q (c,e) h'):(Xw x).wp h Q:=by
 have hxl:=hx.len
 have hll:=Nv l
 unfold Xw
 refine Jp (fun h1 e1 s1 g1=>?_)
 refine Kx (fun hodd=>?_) (fun heven=>?_)
 ·have hodd:l.length % 2=1:=by
   rw [eqI,decide_eq_true_iff,Int.tmod_eq_emod_of_nonneg (by omega)] at hodd
   omega
  refine Ju rfl (stR g1 (Nat.le_refl 4) (Zm 0 0 [] Sl.nil) (fun h2 u2 g2=>?_))
  rw [ZV rfl] at g2
  exact ldR g2 rfl (KQ (H h2 _ _ _ (.odd hodd) (e1.upd u2 (Nat.le_refl _)) (Gz _ _)))
 have heven:l.length % 2=0:=by
  rw [eqI,decide_eq_false_iff_not,Int.tmod_eq_emod_of_nonneg (by omega)] at heven
  omega
 unfold JF
 refine KX (Jp (fun h2 e2 s2 g2=>Jp (fun h3 e3 s3 g3=>Ux (n:=2) (by rw [Ks g3]; rfl) (iteF rfl (KQ ?_)))))
 have E3:=(e1.trans e2).trans e3
 have g2':=e3.blk g2
 have hpl:(NW x).length=l.length / 2:=by rw [NH]; omega
 refine KX (KBz (xs:=NW x) (fun l h=>by cases h) (by omega) (KFC hx.cap (by omega) (fun i h4 e4=>⟨by rw [Ks (e4.blk g2')]; rfl,by rw [Ks (e4.blk g3)]; rfl⟩)) (fun h4 r e4 G4=>?_))
 have E4:=E3.trans e4
 obtain ⟨its,hits⟩:∃ its:List It,its=(List.range (l.length / 2)).map (fun i=>(KDg x i,Vz l i)):=⟨_,rfl⟩
 have hitl:its.length=l.length / 2:=by rw [hits]; simp
 have hit:∀ a ∈ its,VsRepS (· < h.size) h a.1 a.2∧a.2.length=2:=fun a ha=>by
  rw [hits] at ha
  obtain ⟨i,hi,rfl⟩:=List.mem_map.1 ha
  have hi:=List.mem_range.1 hi
  exact ⟨KFB hx.lt (by omega),KIw (by omega)⟩
 have hrow:(NW x).map Sl.v=its.map (vv Prod.fst):=by
  rw [hits,List.map_map]
  unfold NW
  rw [List.map_map,show (x.len+1) / 2=l.length / 2 by omega]
  rfl
 rw [hrow] at G4
 have hron:∀ b,Sl.on r b→h.size≤b:=fun b hb=>by have:=(G4.lt hb).2; have:=E3.size; omega
 have C:Cmpr (α:=It) Prod.fst r (fun hh=>Ext h hh) (.func (.func Xd) #[] #[]) KJf its:=by
  refine ⟨fun hh h' e K=>⟨Nat.le_trans e.size K.size,fun i hi=>(K.same i (by have:=e.size; omega) (fun ho=>by have:=hron i ho; omega)).trans (e.same i hi)⟩,fun hh e p q hp hq Q' HQ=>?_⟩
  refine KHe KAH (KBQ p.1 q.1) (KCQ ((hit p hp).1.to.ext e) ((hit q hq).1.to.ext e) (by rw [(hit p hp).2]; decide) (by rw [(hit q hq).2]; decide) HQ)
 refine KX (hn hitl C E4 G4 (fun h5 ps G5 hperm hs K5=>?_))
 have E5:Ext h h5:=C.keep _ _ E4 K5
 have hpsl:ps.length=l.length / 2:=by rw [hperm.length_eq,hitl]
 have hps:∀ a ∈ ps,VsRepS (· < h.size) h a.1 a.2∧a.2.length=2:=fun a ha=>hit a (hperm.mem_iff.1 ha)
 have g5:h5[h.size]?=some (.cells vzM KJ (0,0)):=K5.blk ((e2.trans (e3.trans e4)).blk g1) (fun ho=>by have:=(G4.lt ho).2; have:=(e2.trans e3).size; omega)
 have hpermL:(ps.map Prod.snd).Perm (Vd l (l.length / 2)):=by
  have:=hperm.map Prod.snd
  rw [hits,List.map_map] at this
  exact this
 have hsL:(ps.map Prod.snd).Pairwise (fun p q=>¬ cmpV (kOf q) (kOf p) < 0):=by
  rw [List.pairwise_map]
  exact hs
 have hrl:r.len=ps.length:=by have:=G5.len; rw [List.length_map,Nat.mul_one] at this; exact this.symm
 refine M.loop_inv (fun (t:Int) hh=>∃ i:Nat,t=(i:Int)∧1≤i∧Ext h5 hh∧∀ j,∀ h:j+1 < ps.length,j+1 < i→kOf (ps[j]).2≠kOf (ps[j+1]).2) (fun t _=>(((ps.length:Nat):Int)+1 - t).toNat) ?_ ⟨1,rfl,Nat.le_refl _,Ext.refl _,fun j h1 h2=>by omega⟩
 rintro t hh ⟨i,rfl,hi1,E,hne⟩ self hself
 have EE:=E5.trans E
 unfold XX
 refine Kx (fun hc=>?_) (fun hc=>?_)
 ·have hil:i < ps.length:=by have:=of_decide_eq_true hc; omega
  rw [w64 (by omega) (by omega),show ((i:Int) - 1)=((i - 1:Nat):Int) by omega]
  refine (G5.ext E).ix1 (i:=i - 1) (v:=(ps[i - 1]'(by omega)).1.v) (by rw [List.getElem?_map,List.getElem?_eq_getElem (by omega)]; rfl) rfl (fun b hb hc1 hf1=>?_)
  refine (G5.ext E).ix1 (i:=i) (v:=(ps[i]).1.v) (by rw [List.getElem?_map,List.getElem?_eq_getElem hil]; rfl) rfl (fun b2 hb2 hc2 hf2=>?_)
  obtain ⟨r1,l1⟩:=hps _ (List.getElem_mem (show i - 1 < ps.length by omega))
  obtain ⟨r2,l2⟩:=hps _ (List.getElem_mem hil)
  refine UG hc1 (Gv (i:=0) (r1.to.ext EE) (by omega) rfl (fun a cs ha hca hv=>Wu ha hca (UG hc2 (Gv (i:=0) (r2.to.ext EE) (by omega) rfl (fun a2 cs2 ha2 hca2 hv2=>Wu ha2 hca2 (KX (KDc hv hv2 (fun h6 e6=>?_))))))))
  have k1:=KFG (m:=(ps[i - 1]'(by omega)).2) (by omega)
  have k2:=KFG (m:=(ps[i]).2) (by omega)
  rw [k1,k2]
  refine Kx (fun hsame=>?_) (fun hdiff=>?_)
  ·have heq:=(q5 _ _).1 (of_decide_eq_true hsame)
   refine Ju rfl (stR (e6.blk (E.blk g5)) (Nat.le_refl 4) (Zm 0 0 [] Sl.nil) (fun h7 u7 g7=>?_))
   rw [ZV rfl] at g7
   refine ldR g7 rfl (KQ (H h7 _ _ _ (.twice (ps.map Prod.snd) heven hpermL hsL ⟨i - 1,by rw [List.length_map]; omega,?_⟩) ((EE.trans e6).upd u7 (Nat.le_refl _)) (Gz _ _)))
   simp only [List.getElem_map,show i - 1+1=i by omega]
   exact heq
  ·rw [w64 (by omega) (by omega)]
   refine hself _ _ ⟨i+1,by omega,by omega,E.trans e6,fun j hj hj2=>?_⟩ (by omega)
   by_cases hji:j+1 < i
   ·exact hne j hj hji
   ·have:j=i - 1:=by omega
    subst this
    intro heq
    have:=of_decide_eq_false hdiff
    simp only [show i - 1+1=i by omega] at heq
    exact this ((q5 _ _).2 heq)
 ·have hge:ps.length≤i:=by have:=of_decide_eq_false hc; omega
  have hflat:wt.wts (Gd (ps.map Prod.snd))=wt.wts l:=by
   unfold Gd
   rw [KGT hpermL,zu,List.take_of_length_le (by omega)]
  have hfl:=Nv (Gd (ps.map Prod.snd))
  have hrow5:ps.map (vv Prod.fst)=(ps.map Prod.fst).map Sl.v:=by rw [List.map_map]; rfl
  have G6:=G5.ext E
  rw [hrow5] at G6
  refine KX (KB0 (S:=(· < h.size)) (ss:=ps.map Prod.fst) (L:=ps.map Prod.snd) G6 (by simp) (fun b hb=>by have:=EE.size; omega) (fun k hk1 hk2=>?_) (by omega) (by rw [List.length_map]; omega) (fun h6 r6 css e6 V6=>?_))
  ·rw [List.getElem_map,List.getElem_map]
   exact ((hps _ (List.getElem_mem _)).1).same (fun b hb=>EE.same b hb) (fun b hb=>hb)
  ·have hl6:(Gd (ps.map Prod.snd)).length≤1000000000:=by omega
   have R6:VRep h6 (.mk 5 0 [] (Gd (ps.map Prod.snd))) (Z9 5 0 [] r6):=(KFF ⟨by decide,by decide⟩ ⟨by decide,by decide⟩ (V6.rep_ (by omega))).to
   refine KX (KAf R6 (by rw [wt]; simp only [List.length_nil]; omega) (fun h7 c7 e7 V7=>?_))
   have E7:=(EE.trans e6).trans e7
   have g7:=e7.blk (e6.blk (E.blk g5))
   refine Ju V7.size (stR g7 (by rw [V7.size]; exact Nat.le_refl 4) V7.to.one (fun h8 u8 g8=>?_))
   rw [ZV (by rw [Array.length_toList,V7.size]; rfl)] at g8
   have hz6:=(EE.trans e6).size
   have hz5:=(E.trans e6).size
   have hlt:h.size < h5.size:=GR g5
   refine ldR g8 V7.size (KQ (H h8 c7 _ _ (.made (ps.map Prod.snd) heven hpermL hsL (fun j hj=>?_)) (E7.upd u8 (Nat.le_refl _)) ?_))
   ·rw [List.length_map] at hj
    simp only [List.getElem_map]
    exact hne j hj (by omega)
   ·exact (V7.same (fun k hk=>u8.ne k (by omega))).mono (fun k hk=>by omega)
end Gx
namespace Gx
open Go Go.Proofs Go.Shelf Go.RowKit Go.Lib
set_option linter.unusedVariables false
set_option maxRecDepth 100000
theorem KFH {α β:Type} {sl:α→Sl} {lo:Nat} {h:Heap} {Q:β→Heap→Prop} {r:Sl} {L:List α} {i j:Nat} {ti tj:Int} {p q:α} {f:Unit→M β}
  (G:Gw lo h r 1 (L.map (vv sl))) (hi:L[i]?=some p) (hj:L[j]?=some q) (hti:ti=(i:Int)) (htj:tj=(j:Int))
  (H:∀ h',Km (Sl.on r) h h'→Gw lo h' r 1 (((L.set j p).set i q).map (vv sl))→(f ()).wp h' Q) :
  (ixL r ti 1>>=fun a=>ixL r tj 1>>=fun b=>ldL a>>=fun u=>ldL b>>=fun v=>ixL r tj 1>>=fun c=>stV c u.v>>=fun _=>ixL r ti 1>>=fun d=>stV d v.v>>=f).wp h Q:=by
 subst hti; subst htj
 have hy:(L.map (vv sl))[i]?=some (sl p).v:=by rw [List.getElem?_map,hi]; rfl
 have hx:(L.map (vv sl))[j]?=some (sl q).v:=by rw [List.getElem?_map,hj]; rfl
 have hil:=(List.getElem?_eq_some_iff.1 hy).1
 have hjl:=(List.getElem?_eq_some_iff.1 hx).1
 refine G.ix1 hy rfl (fun b hb hc hf=>G.ix1 hx rfl (fun b2 hb2 hc2 hf2=>UG hc (UG hc2 (G.ix1 hx rfl (fun b3 hb3 hc3 hf3=>Gk hc3 hf3 (zH (sl p)) ?_)))))
 have e3:b3=b:=by rw [hb3] at hb; cases hb; rfl
 subst e3
 have G1:=G.set1 (v:=(sl p).v) hb3 hjl
 have u1:=Upd.hset h b3 j (sl p).v
 generalize hset h ⟨b3,j,none⟩ (sl p).v=h1 at G1 u1 ⊢
 have hil1:i < ((L.map (vv sl)).set j (sl p).v).length:=by rw [List.length_set]; exact hil
 refine G1.ix1 (List.getElem?_eq_getElem hil1) rfl (fun b4 hb4 hc4 hf4=>Gk hc4 hf4 (zH (sl q)) ?_)
 have e4:b4=b3:=by rw [hb4] at hb3; cases hb3; rfl
 subst e4
 have G2:=G1.set1 (v:=(sl q).v) (i:=i) hb4 hil1
 have u2:=Upd.hset h1 b4 i (sl q).v
 have hon:Sl.on r b4:=⟨_,hb4,rfl⟩
 refine H _ ((Km.upd u1 hon).trans (Km.upd u2 hon)) ?_
 rw [List.map_set,List.map_set]
 exact G2
theorem KFI {α:Type} (P N R:List α) (x y:α):(((P++x::(N++y::R)).set P.length y).set (P.length+1+N.length) x)=P++y::(N++x::R):=by
 rw [XP rfl,show P++y::(N++y::R)=(P++y::N)++y::R by simp,XP (by simp; omega)]
 simp
theorem KBY {α:Type} (P R:List α) (x:α):(P++x::R)[P.length]?=some x:=by simp
theorem KDD {α:Type} (P N R:List α) (x y:α):(P++x::(N++y::R))[P.length+1+N.length]?=some y:=by
 rw [show P++x::(N++y::R)=(P++x::N)++y::R by simp,show P.length+1+N.length=(P++x::N).length by simp; omega]
 exact KBY _ _ _
theorem Xk {α:Type} {sl:α→Sl} {lo:Nat} {h:Heap} {Q:Unit→Heap→Prop} {r:Sl} {cmp:Value} {pre X Mi Y post:List α} {ta tb tn:Int}
  (G:Gw lo h r 1 ((pre++X++Mi++Y++post).map (vv sl))) (hn:X.length=Y.length) (hsm:(pre++X++Mi++Y++post).length≤1099511627776) (hta:ta=(pre.length:Int)) (htb:tb=((pre.length+X.length+Mi.length:Nat):Int)) (htn:tn=(X.length:Int))
  (H:∀ h',Km (Sl.on r) h h'→Gw lo h' r 1 ((pre++Y++Mi++X++post).map (vv sl))→Q () h'):(Ky r ta tb tn cmp).wp h Q:=by
 subst hta; subst htb; subst htn
 simp only [List.length_append] at hsm
 unfold Ky
 refine M.loop_inv (fun (t:Int) hh=>∃ k:Nat,t=(k:Int)∧k≤X.length∧Km (Sl.on r) h hh∧Gw lo hh r 1 ((pre++Y.take k++X.drop k++Mi++X.take k++Y.drop k++post).map (vv sl))) (fun t _=>((X.length:Int) - t).toNat) ?_
  ⟨0,rfl,Nat.zero_le _,Km.refl _ _,by simpa using G⟩
 rintro t hh ⟨k,rfl,hk,K,G1⟩ self hself
 unfold Zt
 refine Kx (fun hc=>?_) (fun hc=>?_)
 ·have hkx:k < X.length:=by have:=of_decide_eq_true hc; omega
  have hky:k < Y.length:=by omega
  have e1:pre++Y.take k++X.drop k++Mi++X.take k++Y.drop k++post=(pre++Y.take k)++X[k]::((X.drop (k+1)++Mi++X.take k)++Y[k]::(Y.drop (k+1)++post)):=by
   rw [List.drop_eq_getElem_cons hkx,List.drop_eq_getElem_cons hky]; simp only [List.append_assoc,List.cons_append]
  have e2:pre++Y.take (k+1)++X.drop (k+1)++Mi++X.take (k+1)++Y.drop (k+1)++post=(pre++Y.take k)++Y[k]::((X.drop (k+1)++Mi++X.take k)++X[k]::(Y.drop (k+1)++post)):=by
   rw [List.take_succ_eq_append_getElem hkx,List.take_succ_eq_append_getElem hky]; simp only [List.append_assoc,List.cons_append,List.nil_append]
  rw [e1] at G1
  have l1:(pre++Y.take k).length=pre.length+k:=by rw [List.length_append,List.length_take]; omega
  have l2:(pre++Y.take k).length+1+(X.drop (k+1)++Mi++X.take k).length=pre.length+X.length+Mi.length+k:=by
   rw [l1]; simp only [List.length_append,List.length_take,List.length_drop]; omega
  have g1:=KBY (pre++Y.take k) ((X.drop (k+1)++Mi++X.take k)++Y[k]::(Y.drop (k+1)++post)) X[k]
  have g2:=KDD (pre++Y.take k) (X.drop (k+1)++Mi++X.take k) (Y.drop (k+1)++post) X[k] Y[k]
  refine KFH G1 g2 g1 (by rw [w64 (by omega) (by omega)]; omega) (by rw [w64 (by omega) (by omega)]; omega) (fun h2 K2 G2=>?_)
  rw [KFI,← e2] at G2
  rw [w64 (by omega) (by omega)]
  exact hself _ _ ⟨k+1,by simp,by omega,K.trans K2,G2⟩ (by omega)
 ·have hkx:k=X.length:=by have:=of_decide_eq_false hc; omega
  subst hkx
  rw [List.take_of_length_le (Nat.le_of_eq hn.symm),List.drop_of_length_le (Nat.le_refl _),List.take_of_length_le (Nat.le_refl _),List.drop_of_length_le (Nat.le_of_eq hn.symm)] at G1
  exact KQ (H _ K (by simpa using G1))
theorem KCR {α:Type} {sl:α→Sl} {lo:Nat} {h:Heap} {Q:Unit→Heap→Prop} {r:Sl} {cmp:Value} {pre X Y post:List α} {ta tm tb:Int}
  (G:Gw lo h r 1 ((pre++X++Y++post).map (vv sl))) (hX:0 < X.length) (hY:0 < Y.length) (hsm:(pre++X++Y++post).length≤1099511627776) (hta:ta=(pre.length:Int)) (htm:tm=((pre.length+X.length:Nat):Int)) (htb:tb=((pre.length+X.length+Y.length:Nat):Int))
  (H:∀ h',Km (Sl.on r) h h'→Gw lo h' r 1 ((pre++Y++X++post).map (vv sl))→Q () h'):(Zw r ta tm tb cmp).wp h Q:=by
 subst hta; subst htm; subst htb
 simp only [List.length_append] at hsm
 unfold Zw
 rw [w64 (by omega) (by omega),w64 (by omega) (by omega)]
 refine M.loop_inv (fun (t:Int × Int) hh=>∃ D1 X1 Y1 D2:List α,t=((X1.length:Int),(Y1.length:Int))∧0 < X1.length∧0 < Y1.length∧D1.length+X1.length=pre.length+X.length∧D1++Y1++X1++D2=pre++Y++X++post∧Km (Sl.on r) h hh∧Gw lo hh r 1 ((D1++X1++Y1++D2).map (vv sl))) (fun t _=>(t.1+t.2).toNat) ?_
  ⟨pre,X,Y,post,by rw [Prod.mk.injEq]; omega,hX,hY,rfl,rfl,Km.refl _ _,G⟩
 rintro t hh ⟨D1,X1,Y1,D2,rfl,hx1,hy1,hl,he,K,G1⟩ self hself
 have hel:=congrArg List.length he
 simp only [List.length_append] at hel
 unfold JC
 dsimp only
 have hta:IntKind.wrap .i64 (((pre.length+X.length:Nat):Int) - (X1.length:Int))=(D1.length:Int):=by rw [w64 (by omega) (by omega)]; omega
 rw [hta]
 refine Kx (fun hne=>?_) (fun heq=>?_)
 ·have hne0:(X1.length:Int)≠(Y1.length:Int):=by simpa using hne
  have hne:X1.length≠Y1.length:=by omega
  refine Kx (fun hgt=>?_) (fun hle=>?_)
  ·have hgt:Y1.length < X1.length:=by have:=of_decide_eq_true hgt; omega
   have G1':Gw lo hh r 1 ((D1++X1.take Y1.length++X1.drop Y1.length++Y1++D2).map (vv sl)):=by
    rw [show D1++X1.take Y1.length++X1.drop Y1.length++Y1++D2=D1++(X1.take Y1.length++X1.drop Y1.length)++Y1++D2 by simp,List.take_append_drop]; exact G1
   have hlt:(X1.take Y1.length).length=Y1.length:=by rw [List.length_take]; omega
   have hld:(X1.drop Y1.length).length=X1.length - Y1.length:=List.length_drop
   refine KX (Xk G1' hlt (by simp only [List.length_append,hlt,hld]; omega) rfl (by rw [hlt,hld]; omega) (by rw [hlt]) (fun h2 K2 G2=>?_))
   rw [w64 (by omega) (by omega)]
   refine hself _ _ ⟨D1++Y1,X1.drop Y1.length,X1.take Y1.length,D2,by rw [Prod.mk.injEq]; omega,by omega,by omega,by rw [List.length_append]; omega,?_,K.trans K2,G2⟩ ?_
   ·rw [← he,show D1++Y1++X1.take Y1.length++X1.drop Y1.length++D2=D1++Y1++(X1.take Y1.length++X1.drop Y1.length)++D2 by simp,List.take_append_drop]
   ·dsimp only; omega
  ·have hlt:X1.length < Y1.length:=by have:=of_decide_eq_false hle; omega
   have hw:IntKind.wrap .i64 (((pre.length+X.length:Nat):Int)+(Y1.length:Int))=((pre.length+X.length:Nat):Int)+(Y1.length:Int):=w64 (by omega) (by omega)
   have htk:(Y1.take (Y1.length - X1.length)).length=Y1.length - X1.length:=by rw [List.length_take]; omega
   have htd:(Y1.drop (Y1.length - X1.length)).length=X1.length:=by rw [List.length_drop]; omega
   have G1':Gw lo hh r 1 ((D1++X1++Y1.take (Y1.length - X1.length)++Y1.drop (Y1.length - X1.length)++D2).map (vv sl)):=by
    rw [show D1++X1++Y1.take (Y1.length - X1.length)++Y1.drop (Y1.length - X1.length)++D2=D1++X1++(Y1.take (Y1.length - X1.length)++Y1.drop (Y1.length - X1.length))++D2 by simp,List.take_append_drop]; exact G1
   refine KX (Xk G1' htd.symm (by simp only [List.length_append,htk,htd]; omega) rfl (by rw [hw,w64 (by omega) (by omega),htk]; omega) rfl (fun h2 K2 G2=>?_))
   rw [w64 (by omega) (by omega)]
   refine hself _ _ ⟨D1,Y1.drop (Y1.length - X1.length),Y1.take (Y1.length - X1.length),X1++D2,by rw [Prod.mk.injEq]; omega,by omega,by omega,by omega,?_,K.trans K2,?_⟩ ?_
   ·rw [← he,show D1++Y1.take (Y1.length - X1.length)++Y1.drop (Y1.length - X1.length)++(X1++D2)=D1++(Y1.take (Y1.length - X1.length)++Y1.drop (Y1.length - X1.length))++X1++D2 by simp,List.take_append_drop]
   ·simpa using G2
   ·dsimp only; omega
 ·have heq:X1.length=Y1.length:=by
   have:=bne_eq_false_iff_eq.1 heq
   omega
  refine KX (Xk (Mi:=[]) (by simpa using G1) heq (by simp only [List.length_append,List.length_nil]; omega) rfl (by rw [List.length_nil]; omega) rfl (fun h2 K2 G2=>KQ (H _ (K.trans K2) ?_)))
  rw [← he]
  simpa using G2
end Gx
namespace Gx
open Go Go.Proofs Go.Shelf Go.RowKit Go.Lib
set_option linter.unusedVariables false
set_option maxRecDepth 100000
theorem KIx {x y z:Vl} (h1:¬ cmpV y x < 0) (h2:cmpV y z < 0):cmpV x z < 0:=by
 rcases Y0 y x with h | h | h
 ·exact absurd h h1
 ·subst h; exact h2
 ·exact NG h h2
theorem KH5 {x y z:Vl} (h1:cmpV x y < 0) (h2:¬ cmpV z y < 0):cmpV x z < 0:=by
 rcases Y0 z y with h | h | h
 ·exact absurd h h2
 ·subst h; exact h1
 ·exact NG h1 h
theorem KAg {x y:Vl} (h1:cmpV x y < 0):¬ cmpV y x < 0:=by
 have:=qW x y
 omega
theorem Srt.le {α:Type} {key:α→Vl} {l:List α} (H:Srt key l) {i j:Nat} (hij:i≤j) (hj:j < l.length):¬ cmpV (key l[j]) (key (l[i]'(by omega))) < 0:=by
 rcases Nat.lt_or_ge i j with h | h
 ·exact List.pairwise_iff_getElem.1 H i j (by omega) hj h
 ·have:i=j:=by omega
  subst this
  rw [Vr]; decide
theorem Srt.take {α:Type} {key:α→Vl} {l:List α} (H:Srt key l) (n:Nat):Srt key (l.take n):=List.Pairwise.sublist (List.take_sublist _ _) H
theorem Srt.drop {α:Type} {key:α→Vl} {l:List α} (H:Srt key l) (n:Nat):Srt key (l.drop n):=List.Pairwise.sublist (List.drop_sublist _ _) H
theorem Srt.app {α:Type} {key:α→Vl} {l m:List α} (H:Srt key l) (K:Srt key m) (h:∀ p ∈ l,∀ q ∈ m,¬ cmpV (key q) (key p) < 0):Srt key (l++m):=List.pairwise_append.2 ⟨H,K,h⟩
theorem Srt.one {α:Type} (key:α→Vl) (x:α):Srt key [x]:=List.pairwise_singleton _ _
theorem XL {α:Type} {l:List α} {n:Nat} {p:α} (h:p ∈ l.take n):∃ i,∃ hi:i < l.length,i < n∧p=l[i]:=by
 obtain ⟨i,hi,rfl⟩:=List.mem_iff_getElem.1 h
 rw [List.length_take] at hi
 exact ⟨i,by omega,by omega,by rw [List.getElem_take]⟩
theorem WJ {α:Type} {l:List α} {n:Nat} {p:α} (h:p ∈ l.drop n):∃ i,∃ hi:i < l.length,n≤i∧p=l[i]:=by
 obtain ⟨i,hi,rfl⟩:=List.mem_iff_getElem.1 h
 rw [List.length_drop] at hi
 exact ⟨n+i,by omega,by omega,by rw [List.getElem_drop]⟩
theorem KJg {α:Type} {key:α→Vl} {A B:List α} {s e:Nat} (sA:Srt key A) (sB:Srt key B) (hsA:s≤A.length) (heB:e≤B.length)
  (h1:∀ (i:Nat) (hi:i < A.length) (he:e < B.length),s=i+1→¬ cmpV (key B[e]) (key A[i]) < 0)
  (h2:∀ (i:Nat) (hs:s < A.length) (hi:i < B.length),e=i+1→cmpV (key B[i]) (key A[s]) < 0) :
  ∀ p ∈ A.take s++B.take e,∀ q ∈ A.drop s++B.drop e,¬ cmpV (key q) (key p) < 0:=by
 intro p hp q hq
 rcases List.mem_append.1 hp with hp | hp <;> rcases List.mem_append.1 hq with hq | hq
 ·obtain ⟨i,hi,his,rfl⟩:=XL hp
  obtain ⟨j,hj,hjs,rfl⟩:=WJ hq
  exact sA.le (by omega) hj
 ·obtain ⟨i,hi,his,rfl⟩:=XL hp
  obtain ⟨j,hj,hjs,rfl⟩:=WJ hq
  cases s with
  | zero=>omega
  | succ s=>exact VT (sB.le hjs hj) (VT (h1 s (by omega) (by omega) rfl) (sA.le (by omega) (by omega)))
 ·obtain ⟨i,hi,his,rfl⟩:=XL hp
  obtain ⟨j,hj,hjs,rfl⟩:=WJ hq
  cases e with
  | zero=>omega
  | succ e=>exact VT (VT (sA.le hjs hj) (KAg (h2 e (by omega) (by omega) rfl))) (sB.le (by omega) (by omega))
 ·obtain ⟨i,hi,his,rfl⟩:=XL hp
  obtain ⟨j,hj,hjs,rfl⟩:=WJ hq
  exact sB.le (by omega) hj
theorem KIy {α:Type} (A B:List α) (s e:Nat):(A.take s++B.take e++(A.drop s++B.drop e)).Perm (A++B):=by
 have h:(A++B)=(A.take s++A.drop s)++(B.take e++B.drop e):=by rw [List.take_append_drop,List.take_append_drop]
 rw [h,List.append_assoc,List.append_assoc]
 refine List.Perm.append_left _ ?_
 rw [← List.append_assoc,← List.append_assoc]
 exact List.Perm.append_right _ List.perm_append_comm
theorem wu64 {n:Nat} (h:n < 18446744073709551616):IntKind.wrap .u64 (n:Int)=(n:Int):=by
 have h2:(n:Int) < 18446744073709551616:=by omega
 simp [IntKind.wrap,IntKind.signed,IntKind.bits,Int.emod_eq_of_lt (by omega:(0:Int)≤n) h2]
theorem KDE {i j:Nat} (h:i+j≤4611686018427387904):IntKind.wrap .i64 (iShr .u64 (IntKind.wrap .u64 (IntKind.wrap .i64 ((i:Int)+(j:Int)))) 1)=(((i+j) / 2:Nat):Int):=by
 rw [w64 (n:=(i:Int)+(j:Int)) (by omega) (by omega),show (i:Int)+(j:Int)=((i+j:Nat):Int) by omega,wu64 (by omega)]
 have:iShr .u64 ((i+j:Nat):Int) 1=(((i+j) / 2:Nat):Int):=by
  show ((i+j:Nat):Int).fdiv 2=_
  rw [Int.fdiv_eq_ediv_of_nonneg _ (by decide)]; rfl
 rw [this,w64 (by omega) (by omega)]
section
variable {α:Type} {sl:α→Sl} {lo:Nat} {r:Sl} {T:Heap→Prop} {cmp:Value} {key:α→Vl} {ss:List α}
theorem KH6 {β:Type} {h:Heap} {Q:β→Heap→Prop} {L:List α} {i j:Nat} {ti tj:Int} {p q:α} {f:Int→M β} (C:Cmpr sl r T cmp key ss) (hT:T h) (G:Gw lo h r 1 (L.map (vv sl))) (hi:L[i]?=some p) (hj:L[j]?=some q) (hp:p ∈ ss) (hq:q ∈ ss)
  (hti:ti=(i:Int)) (htj:tj=(j:Int)) (H:∀ h',Km (Sl.on r) h h'→T h'→Gw lo h' r 1 (L.map (vv sl))→(f (cmpV (key p) (key q))).wp h' Q) :
  (ixL r ti 1>>=fun a=>ixL r tj 1>>=fun b=>ldL a>>=fun u=>ldL b>>=fun v=>KBj Go.Proofs.Tryz.prog (fun r:Int=>.int .i64 r) cmp [u.v,v.v]>>=f).wp h Q:=by
 subst hti; subst htj
 have hy:(L.map (vv sl))[i]?=some (sl p).v:=by rw [List.getElem?_map,hi]; rfl
 have hx:(L.map (vv sl))[j]?=some (sl q).v:=by rw [List.getElem?_map,hj]; rfl
 refine G.ix1 hy rfl (fun b hb hc hf=>G.ix1 hx rfl (fun b2 hb2 hc2 hf2=>UG hc (UG hc2 (KX (C.call h hT p q hp hq _ (fun h3 e3=>?_))))))
 exact H h3 (Km.ext e3) (C.keep _ _ hT (Km.ext e3)) (G.ext e3)
theorem KDF {L1 L2 L3:List α} {k:Nat} (hk:k < L2.length):(L1++L2++L3)[L1.length+k]?=some L2[k]:=by
 rw [List.append_assoc,List.getElem?_append_right (by omega),show L1.length+k - L1.length=k by omega,List.getElem?_append_left hk,List.getElem?_eq_getElem hk]
theorem KCS {x:α} {B pre post:List α} {h:Heap} {Q:Unit→Heap→Prop} (C:Cmpr sl r T cmp key ss) (hT:T h) (sB:Srt key B) (hm:∀ p ∈ x::B,p ∈ ss) (G:Gw lo h r 1 ((pre++[x]++B++post).map (vv sl))) (hsm:(pre++[x]++B++post).length≤1099511627776)
  (H:∀ h' D,Km (Sl.on r) h h'→Gw lo h' r 1 ((pre++D++post).map (vv sl))→D.Perm ([x]++B)→Srt key D→Q () h') :
  (M.loop (ZS r (pre.length:Int) cmp) (((pre.length+1:Nat):Int),((pre.length+1+B.length:Nat):Int))).wp h Q:=by
 simp only [List.length_append,List.length_cons,List.length_nil] at hsm
 refine M.loop_inv (fun (t:Int × Int) hh=>∃ u v:Nat,t=(((pre.length+1+u:Nat):Int),((pre.length+1+v:Nat):Int))∧u≤v∧v≤B.length∧(∀ k (hk:k < B.length),k < u→cmpV (key B[k]) (key x) < 0)∧(∀ k (hk:k < B.length),v≤k→¬ cmpV (key B[k]) (key x) < 0)∧Km (Sl.on r) h hh∧Gw lo hh r 1 ((pre++[x]++B++post).map (vv sl))) (fun t _=>(t.2 - t.1).toNat) ?_
  ⟨0,B.length,rfl,Nat.zero_le _,Nat.le_refl _,fun k hk h0=>by omega,fun k hk h0=>by omega,Km.refl _ _,G⟩
 rintro t hh ⟨u,v,rfl,huv,hv,hlow,hhigh,K,G1⟩ self hself
 unfold ZS
 dsimp only
 rw [KDE (by omega)]
 refine Kx (fun hc=>?_) (fun hc=>?_)
 ·have huv':u < v:=by have:=of_decide_eq_true hc; omega
  have hw:(pre.length+1+u+(pre.length+1+v)) / 2=pre.length+1+(u+v) / 2:=by omega
  rw [hw]
  have hwB:(u+v) / 2 < B.length:=by omega
  generalize hww:(u+v) / 2=w at hwB
  have g1:(pre++[x]++B++post)[pre.length+1+w]?=some B[w]:=by
   have:=KDF (L1:=pre++[x]) (L2:=B) (L3:=post) hwB
   rwa [List.length_append] at this
  have g2:(pre++[x]++B++post)[pre.length]?=some x:=by
   simp
  refine KH6 C (C.keep _ _ hT K) G1 g1 g2 (hm _ (List.mem_cons_of_mem _ (List.getElem_mem hwB))) (hm _ List.mem_cons_self) rfl rfl (fun h2 K2 T2 G2=>?_)
  refine Kx (fun hlt=>?_) (fun hge=>?_)
  ·have hlt:=of_decide_eq_true hlt
   rw [w64 (by omega) (by omega)]
   refine hself _ _ ⟨w+1,v,by rw [Prod.mk.injEq]; omega,by omega,hv,fun k hk hkw=>KIx (sB.le (show k≤w by omega) hwB) hlt,hhigh,K.trans K2,G2⟩ ?_
   dsimp only; omega
  ·have hge:=of_decide_eq_false hge
   refine hself _ _ ⟨u,w,rfl,by omega,by omega,hlow,fun k hk hkw=>VT (sB.le hkw hk) hge,K.trans K2,G2⟩ ?_
   dsimp only; omega
 ·have huv':u=v:=by have:=of_decide_eq_false hc; omega
  subst huv'
  refine M.loop_inv (fun (t:Int) h2=>∃ k:Nat,t=((pre.length+k:Nat):Int)∧k≤u∧Km (Sl.on r) h h2∧Gw lo h2 r 1 ((pre++B.take k++x::(B.drop k++post)).map (vv sl))) (fun t _=>(((pre.length+u:Nat):Int) - t).toNat) ?_
   ⟨0,rfl,Nat.zero_le _,K,by simpa using G1⟩
  rintro t h2 ⟨k,rfl,hk,K2,G2⟩ self2 hself2
  unfold Zz
  rw [w64 (n:=((pre.length+1+u:Nat):Int) - 1) (by omega) (by omega)]
  refine Kx (fun hc2=>?_) (fun hc2=>?_)
  ·have hku:k < u:=by have:=of_decide_eq_true hc2; omega
   have hkB:k < B.length:=by omega
   have e1:pre++B.take k++x::(B.drop k++post)=(pre++B.take k)++x::([]++B[k]::(B.drop (k+1)++post)):=by
    rw [List.drop_eq_getElem_cons hkB]; simp only [List.append_assoc,List.cons_append,List.nil_append]
   have e2:pre++B.take (k+1)++x::(B.drop (k+1)++post)=(pre++B.take k)++B[k]::([]++x::(B.drop (k+1)++post)):=by
    rw [List.take_succ_eq_append_getElem hkB]; simp only [List.append_assoc,List.cons_append,List.nil_append]
   rw [e1] at G2
   have l1:(pre++B.take k).length=pre.length+k:=by rw [List.length_append,List.length_take]; omega
   have g1:=KBY (pre++B.take k) ([]++B[k]::(B.drop (k+1)++post)) x
   have g2:=KDD (pre++B.take k) [] (B.drop (k+1)++post) x B[k]
   have hw1:IntKind.wrap .i64 (((pre.length+k:Nat):Int)+1)=((pre.length+k+1:Nat):Int):=by rw [w64 (by omega) (by omega)]; omega
   rw [hw1]
   refine KFH G2 g2 g1 (by rw [l1]; simp) (by rw [l1]) (fun h3 K3 G3=>?_)
   rw [KFI,← e2] at G3
   exact hself2 _ _ ⟨k+1,by omega,by omega,K2.trans K3,G3⟩ (by omega)
  ·have hku:k=u:=by have:=of_decide_eq_false hc2; omega
   subst hku
   refine KQ (H _ (B.take k++x::B.drop k) K2 (by simpa using G2) ?_ ?_)
   ·refine List.perm_middle.trans ?_
    rw [List.take_append_drop]; exact List.Perm.refl _
   ·refine Srt.app (sB.take k) (List.pairwise_cons.2 ⟨fun q hq=>?_,sB.drop k⟩) (fun p hp q hq=>?_)
    ·obtain ⟨j,hj,hkj,rfl⟩:=WJ hq
     exact hhigh j hj hkj
    ·obtain ⟨i,hi,hik,rfl⟩:=XL hp
     rcases List.mem_cons.1 hq with rfl | hq
     ·exact KAg (hlow i hi hik)
     ·obtain ⟨j,hj,hkj,rfl⟩:=WJ hq
      exact sB.le (by omega) hj
theorem KCT {y:α} {A pre post:List α} {h:Heap} {Q:Unit→Heap→Prop} (C:Cmpr sl r T cmp key ss) (hT:T h) (sA:Srt key A) (hm:∀ p ∈ y::A,p ∈ ss) (G:Gw lo h r 1 ((pre++A++[y]++post).map (vv sl))) (hsm:(pre++A++[y]++post).length≤1099511627776)
  (H:∀ h' D,Km (Sl.on r) h h'→Gw lo h' r 1 ((pre++D++post).map (vv sl))→D.Perm (A++[y])→Srt key D→Q () h') :
  (M.loop (ZT r ((pre.length+A.length:Nat):Int) cmp) ((pre.length:Int),((pre.length+A.length:Nat):Int))).wp h Q:=by
 simp only [List.length_append,List.length_cons,List.length_nil] at hsm
 refine M.loop_inv (fun (t:Int × Int) hh=>∃ u v:Nat,t=(((pre.length+u:Nat):Int),((pre.length+v:Nat):Int))∧u≤v∧v≤A.length∧(∀ k (hk:k < A.length),k < u→¬ cmpV (key y) (key A[k]) < 0)∧(∀ k (hk:k < A.length),v≤k→cmpV (key y) (key A[k]) < 0)∧Km (Sl.on r) h hh∧Gw lo hh r 1 ((pre++A++[y]++post).map (vv sl))) (fun t _=>(t.2 - t.1).toNat) ?_
  ⟨0,A.length,rfl,Nat.zero_le _,Nat.le_refl _,fun k hk h0=>by omega,fun k hk h0=>by omega,Km.refl _ _,G⟩
 rintro t hh ⟨u,v,rfl,huv,hv,hlow,hhigh,K,G1⟩ self hself
 unfold ZT
 dsimp only
 rw [KDE (by omega)]
 refine Kx (fun hc=>?_) (fun hc=>?_)
 ·have huv':u < v:=by have:=of_decide_eq_true hc; omega
  have hw:(pre.length+u+(pre.length+v)) / 2=pre.length+(u+v) / 2:=by omega
  rw [hw]
  have hwA:(u+v) / 2 < A.length:=by omega
  generalize hww:(u+v) / 2=w at hwA
  have g1:(pre++A++[y]++post)[pre.length+w]?=some A[w]:=by
   have:=KDF (L1:=pre) (L2:=A) (L3:=[y]++post) hwA
   rwa [← List.append_assoc] at this
  have g2:(pre++A++[y]++post)[pre.length+A.length]?=some y:=by
   have:=KBY (pre++A) post y
   rw [List.length_append] at this
   rw [show pre++A++[y]++post=pre++A++y::post by simp only [List.append_assoc,List.cons_append,List.nil_append]]
   exact this
  refine KH6 C (C.keep _ _ hT K) G1 g2 g1 (hm _ List.mem_cons_self) (hm _ (List.mem_cons_of_mem _ (List.getElem_mem hwA))) rfl rfl (fun h2 K2 T2 G2=>?_)
  refine Kx (fun hge=>?_) (fun hlt=>?_)
  ·have hge:¬ cmpV (key y) (key A[w]) < 0:=by simpa using hge
   rw [w64 (by omega) (by omega)]
   refine hself _ _ ⟨w+1,v,by rw [Prod.mk.injEq]; omega,by omega,hv,fun k hk hkw=>VT hge (sA.le (show k≤w by omega) hwA),hhigh,K.trans K2,G2⟩ ?_
   dsimp only; omega
  ·have hlt:cmpV (key y) (key A[w]) < 0:=by simpa using hlt
   refine hself _ _ ⟨u,w,rfl,by omega,by omega,hlow,fun k hk hkw=>KH5 hlt (sA.le hkw hk),K.trans K2,G2⟩ ?_
   dsimp only; omega
 ·have huv':u=v:=by have:=of_decide_eq_false hc; omega
  subst huv'
  refine M.loop_inv (fun (t:Int) h2=>∃ k:Nat,t=((pre.length+k:Nat):Int)∧u≤k∧k≤A.length∧Km (Sl.on r) h h2∧Gw lo h2 r 1 ((pre++A.take k++y::(A.drop k++post)).map (vv sl))) (fun t _=>(t - ((pre.length+u:Nat):Int)).toNat) ?_
   ⟨A.length,rfl,hv,Nat.le_refl _,K,by rw [List.take_of_length_le (Nat.le_refl _),List.drop_of_length_le (Nat.le_refl _)]; simpa using G1⟩
  rintro t h2 ⟨k,rfl,hk,hkA,K2,G2⟩ self2 hself2
  unfold Z0
  refine Kx (fun hc2=>?_) (fun hc2=>?_)
  ·have hku:u < k:=by have:=of_decide_eq_true hc2; omega
   obtain ⟨k,rfl⟩:∃ j,k=j+1:=⟨k - 1,by omega⟩
   have hkB:k < A.length:=by omega
   have e1:pre++A.take (k+1)++y::(A.drop (k+1)++post)=(pre++A.take k)++A[k]::y::(A.drop (k+1)++post):=by
    rw [List.take_succ_eq_append_getElem hkB]; simp only [List.append_assoc,List.cons_append,List.nil_append]
   have e2:pre++A.take k++y::(A.drop k++post)=(pre++A.take k)++y::A[k]::(A.drop (k+1)++post):=by
    rw [List.drop_eq_getElem_cons hkB]; simp only [List.append_assoc,List.cons_append,List.nil_append]
   rw [e1] at G2
   have l1:(pre++A.take k).length=pre.length+k:=by rw [List.length_append,List.length_take]; omega
   have hj:((pre.length+(k+1):Nat):Int)=(((pre++A.take k).length+1:Nat):Int):=by rw [l1]; omega
   refine KG6 G2 hj (by omega) (fun h3 K3 G3=>?_)
   rw [← e2] at G3
   rw [w64 (by omega) (by omega)]
   exact hself2 _ _ ⟨k,by omega,by omega,by omega,K2.trans K3,G3⟩ (by omega)
  ·have hku:k=u:=by have:=of_decide_eq_false hc2; omega
   subst hku
   refine KQ (H _ (A.take k++y::A.drop k) K2 (by simpa using G2) ?_ ?_)
   ·refine List.perm_middle.trans ?_
    rw [List.take_append_drop]; exact (List.perm_append_singleton _ _).symm
   ·refine Srt.app (sA.take k) (List.pairwise_cons.2 ⟨fun q hq=>?_,sA.drop k⟩) (fun p hp q hq=>?_)
    ·obtain ⟨j,hj,hkj,rfl⟩:=WJ hq
     exact KAg (hhigh j hj hkj)
    ·obtain ⟨i,hi,hik,rfl⟩:=XL hp
     rcases List.mem_cons.1 hq with rfl | hq
     ·exact hlow i hi hik
     ·obtain ⟨j,hj,hkj,rfl⟩:=WJ hq
      exact sA.le (by omega) hj
end
end Gx
