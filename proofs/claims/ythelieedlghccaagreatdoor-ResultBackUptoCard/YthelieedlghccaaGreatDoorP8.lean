/- Own proofs: what those Lean programs compute. No condition. -/
import Derived.Test.YthelieedlghccaaGreatDoorP0
import Derived.Test.YthelieedlghccaaGreatDoorP1
import Derived.Test.YthelieedlghccaaGreatDoorP2
import Derived.Test.YthelieedlghccaaGreatDoorP3
import Derived.Test.YthelieedlghccaaGreatDoorP4
import Derived.Test.YthelieedlghccaaGreatDoorP5
import Derived.Test.YthelieedlghccaaGreatDoorP6
import Derived.Test.YthelieedlghccaaGreatDoorP7
import Derived.Shelf.SlSortCmp.NoneTotal
set_option linter.unusedVariables false
set_option linter.unusedSimpArgs false
namespace Gx
open Go
set_option linter.unusedVariables false
set_option linter.unusedSimpArgs false
def KFm (x:Sl) (i:Nat):Sl:=⟨x.base.map (fun a=>a.add (2 * i * 4)),min 2 (x.len - 2 * i),min 2 (x.len - 2 * i)⟩
def KCk (x:Sl):List Sl:=(List.range ((x.len+1) / 2)).map (KFm x)
theorem XK (x:Sl):(KCk x).length=(x.len+1) / 2:=by simp [KCk]
theorem KDn (x:Sl) {i:Nat} (hi:i < (KCk x).length):(KCk x)[i]=KFm x i:=by simp [KCk]
def KAV (l:List Vl) (i:Nat):List Vl:=(l.drop (2 * i)).take 2
theorem KJ0 {S:Nat→Prop} {h:Heap} {x:Sl} {l:List Vl} (H:VsRepS S h x l) {i:Nat} (hi:2 * i < l.length):VsRepS S h (KFm x i) (KAV l i):=by
 have hl:=H.len
 have hlen:(KAV l i).length=min 2 (l.length - 2 * i):=by simp [KAV]
 refine ⟨by rw [hlen]; show min 2 (x.len - 2 * i)=_; rw [hl],Nat.le_refl _,by show min 2 (x.len - 2 * i)≤_; omega,Vr.of (fun j hj=>?_)⟩
 rw [hlen] at hj
 obtain ⟨a,cs,ha,hS,hs,hc,hv⟩:=H.get (j:=2 * i+j) (by omega)
 refine ⟨a.add (2 * i * 4),cs,by show x.base.map _=_; rw [ha]; rfl,by rw [YH]; exact hS,hs,fun m hm=>?_,?_⟩
 ·rw [Addr.add_add,← hc m hm]
  congr 2; omega
 ·have:(KAV l i)[j]'(by rw [hlen]; omega)=l[2 * i+j]'(by omega):=by simp [KAV]
  rw [this]; exact hv
theorem KOl {β:Type} {h:Heap} {Q:β→Heap→Prop} {s:Sl} {lo hi mx:Int} {sz:Nat} {f:Sl→M β} (h0:0≤lo) (h1:lo≤hi) (h2:hi≤mx) (h3:mx≤s.cap) (H:(f ⟨if mx.toNat=lo.toNat then s.base else s.base.map (·.add (lo.toNat * sz)),hi.toNat - lo.toNat,mx.toNat - lo.toNat⟩).wp h Q):(slL3 s lo hi mx sz>>=f).wp h Q:=⟨_,⟨h0,h1,h2,h3,rfl⟩,H⟩
theorem KJ1 {x:Sl} {a b:Addr} (hlc:x.len≤x.cap) (hb:x.len≤1099511627776) {J:Nat→Heap→Prop} (hJ:∀ i h1,J i h1→KN h1 a=some x.v∧KN h1 b=some (.int .i64 2)) :
  SeqW Go.Proofs.Tryz.prog (fun x:Sl=>[x.v]) (KCk x) (.func (.func ZX) #[] #[.pointer (some a),.pointer (some b)]) J:=by
 intro l Inv Stop h hInv h0 hround
 refine XM VG (VQ (yV l) a b) ?_
 unfold Jo
 rw [XK]
 refine M.loop_inv (fun (t:Int) h'=>∃ i:Nat,t=((2 * i:Nat):Int)∧i≤(x.len+1) / 2∧Inv i h') (fun t _=>((x.len:Int)+2 - t).toNat) ?_ ⟨0,rfl,Nat.zero_le _,h0⟩
 rintro t h' ⟨i,rfl,hi,hI⟩ self hself
 unfold Za
 obtain ⟨ca,cb⟩:=hJ i h' (hInv i h' hI)
 refine Jp ca (Kc (fun hc=>?_) (fun hc=>?_))
 ·have hlt:2 * i < x.len:=by have:=of_decide_eq_true hc; omega
  refine Jc cb (Jp ca (KHv (by omega) (by omega) (by omega) (Jp ca ?_)))
  have hmin:iMin 2 (((x.len:Int).toNat - ((2 * i:Nat):Int).toNat:Nat):Int)=((min 2 (x.len - 2 * i):Nat):Int):=by
   unfold iMin
   (repeat' split) <;> omega
  dsimp only
  rw [hmin,w64 (by omega) (by omega)]
  refine KOl (by omega) (by omega) (by omega) (by omega) ?_
  have hp:(⟨if (((2 * i:Nat):Int)+((min 2 (x.len - 2 * i):Nat):Int)).toNat=((2 * i:Nat):Int).toNat then x.base else x.base.map (fun a=>a.add (((2 * i:Nat):Int).toNat * 4)),(((2 * i:Nat):Int)+((min 2 (x.len - 2 * i):Nat):Int)).toNat - ((2 * i:Nat):Int).toNat,(((2 * i:Nat):Int)+((min 2 (x.len - 2 * i):Nat):Int)).toNat - ((2 * i:Nat):Int).toNat⟩:Sl)=KFm x i:=by
   have e1:(((2 * i:Nat):Int)+((min 2 (x.len - 2 * i):Nat):Int)).toNat=2 * i+min 2 (x.len - 2 * i):=by omega
   have e2:((2 * i:Nat):Int).toNat=2 * i:=rfl
   rw [e1,e2,if_neg (by omega)]
   unfold KFm
   congr 1 <;> omega
  rw [hp]
  have hr:=hround i (by rw [XK]; omega) h' hI
  rw [KDn x (by rw [XK]; omega)] at hr
  refine KJ ((VD _ _ _ _).mono ?_ hr)
  rintro b1 h2 hb1
  cases b1 with
  | true =>
   have hb1:Inv (i+1) h2:=hb1
   obtain ⟨ca2,cb2⟩:=hJ _ _ (hInv _ _ hb1)
   refine iteF rfl (Jc cb2 ?_)
   rw [w64 (by omega) (by omega)]
   exact hself _ _ ⟨i+1,by omega,by omega,hb1⟩ (by omega)
  | false=>exact iteT rfl (KG (.inr hb1))
 ·have hge:(x.len+1) / 2=i:=by have:=of_decide_eq_false hc; omega
  rw [hge]
  exact KG (.inl hI)
end Gx
namespace Gx
open Go
set_option linter.unusedVariables false
set_option linter.unusedSimpArgs false
def cpt:List Vl→List Vl
 | []=>[]
 | [a]=>[a]
 | a::b::r=>if cmpV b a=0 then cpt (b::r) else a::cpt (b::r)
theorem KEt:∀ (l:List Vl) (a b:Vl),cpt (l++[a,b])=if cmpV b a=0 then cpt (l++[a]) else cpt (l++[a])++[b]
 | [],a,b=>by
  show cpt [a,b]=_
  unfold cpt
  by_cases h:cmpV b a=0
  ·have:=(KCj b a).1 h
   subst this
   rw [if_pos h,if_pos h]; rfl
  ·rw [if_neg h,if_neg h]; rfl
 | [x],a,b=>by
  have ih:=KEt [] a b
  simp only [List.nil_append] at ih
  show cpt (x::a::[b])=if cmpV b a=0 then cpt [x,a] else cpt [x,a]++[b]
  rw [cpt,ih]
  rw [show cpt [x,a]=if cmpV a x=0 then cpt [a] else x::cpt [a] from rfl]
  by_cases h1:cmpV a x=0 <;> by_cases h2:cmpV b a=0 <;> simp [h1,h2]
 | x::y::l,a,b=>by
  have ih:=KEt (y::l) a b
  simp only [List.cons_append] at ih ⊢
  rw [cpt,ih]
  rw [show cpt (x::y::(l++[a]))=if cmpV y x=0 then cpt (y::(l++[a])) else x::cpt (y::(l++[a])) from rfl]
  by_cases h1:cmpV y x=0 <;> by_cases h2:cmpV b a=0 <;> simp [h1,h2]
theorem KHc {l:List Vl} {i:Nat} (h1:1≤i) (hi:i < l.length):cpt (l.take (i+1))=if cmpV l[i] (l[i - 1]'(by omega))=0 then cpt (l.take i) else cpt (l.take i)++[l[i]]:=by
 have e1:l.take (i+1)=l.take (i - 1)++[l[i - 1]'(by omega),l[i]]:=by
  rw [List.take_succ_eq_append_getElem hi]
  obtain ⟨j,rfl⟩:∃ j,i=j+1:=⟨i - 1,by omega⟩
  rw [List.take_succ_eq_append_getElem (show j < l.length by omega)]
  simp only [List.append_assoc,List.cons_append,List.nil_append,Nat.add_sub_cancel]
 have e2:l.take i=l.take (i - 1)++[l[i - 1]'(by omega)]:=by
  obtain ⟨j,rfl⟩:∃ j,i=j+1:=⟨i - 1,by omega⟩
  rw [List.take_succ_eq_append_getElem (show j < l.length by omega)]
  simp
 rw [e1,KEt,← e2]
theorem KJ2:∀ l:List Vl,(cpt l).length≤l.length
 | []=>by simp [cpt]
 | [a]=>by simp [cpt]
 | a::b::r=>by
  have:=KJ2 (b::r)
  rw [cpt]
  split <;> simp at this ⊢ <;> omega
theorem KJ3 {β:Type} {lo:Nat} {h:Heap} {Q:β→Heap→Prop} {r s:Sl} {css:List (Array Value)} {i k:Nat} {t:Int} {f:Addr→M β} (G:Gw lo h r 4 (Zx css)) (hw:W4 css) (hs:s.base=r.base.map (fun a=>a.add (k * 4))) (hi:k+i < css.length) (ht:t=(i:Int)) (hl:i < s.len)
  (H:∀ b,r.base=some ⟨b,0,none⟩→(∀ j,j < 4→KN h ((⟨b,(k+i) * 4,none⟩:Addr).add j)=css[k+i][j]?)→(f ⟨b,(k+i) * 4,none⟩).wp h Q):(ixL s t 4>>=f).wp h Q:=by
 subst ht
 obtain ⟨b,hb,hon,hc⟩:=G.row4 hw hi
 refine Xl (b:=⟨b,k * 4,none⟩) (by omega) (by omega) (by rw [hs,hb]; show some ((⟨b,0,none⟩:Addr).add (k * 4))=_; rw [Kg,Nat.zero_add]) ?_
 rw [Kg,show k * 4+(i:Int).toNat * 4=(k+i) * 4 by omega]
 refine H b hb (fun j hj=>?_)
 have:=hc j hj
 rw [Kg,Nat.zero_add] at this
 rw [Kg]
 exact this
theorem Gw.base0 {lo:Nat} {h:Heap} {r:Sl} {sz:Nat} {vs:List Value} (G:Gw lo h r sz vs):r.base.map (fun a=>a.add (0 * 4))=r.base:=by
 rcases G with ⟨rfl,_⟩ | ⟨b,ty,cells,R⟩
 ·rfl
 ·rw [R.base]; show some ((⟨b,0,none⟩:Addr).add (0 * 4))=_; rw [Kg]
theorem KFn {a b:Vl} {h:Heap} {Q:Bool→Heap→Prop} {x y:Array Value} (hx:VRep h a x) (hy:VRep h b y) (H:∀ h',Ext h h'→Q (decide (cmpV a b=0)) h'):(KI0 Go.Proofs.Tryz.prog (fun r:Bool=>.bool r) (.func (.func WA) #[] #[]) [.agg x,.agg y]).wp h Q :=
 KMl zy (KBP x y) (KDe hx hy H)
theorem KFo {lo:Nat} {S:Nat→Prop} {h:Heap} {Q:Sl→Heap→Prop} {r:Sl} {css:List (Array Value)} {l:List Vl} (G:VGw lo S h r css l) (hS:∀ b,S b→b < h.size∧¬ Sl.on r b) (hm:l.length≤1099511627776)
  (H:∀ h' r' css',VGw lo S h' r' css' (cpt l)→h.size≤h'.size→(∀ i,i < h.size→¬ Sl.on r i→h'[i]?=h[i]?)→(∀ i,Sl.on r' i→Sl.on r i)→Q r' h') :
  (ZA r (.func (.func WA) #[] #[])).wp h Q:=by
 unfold ZA
 have hrl:=G.gw.len4 G.w4
 have hgl:=G.len
 refine Kc (fun hc=>?_) (fun hc=>?_)
 ·have hlt:l.length < 2:=by have:=of_decide_eq_true hc; omega
  have hcpt:cpt l=l:=by
   match l,hlt with
   | [],_=>rfl
   | [a],_=>rfl
   | _::_::_,h=>exact absurd h (by simp)
  refine KG (H h r css (by rw [hcpt]; exact G) (Nat.le_refl _) (fun i _ _=>rfl) (fun i h=>h))
 have h2l:2≤l.length:=by have:=of_decide_eq_false hc; omega
 have hcap:=G.gw.cap
 refine M.loop_inv (fun (t:Int) h'=>∃ k:Nat,t=(k:Int)∧1≤k∧k≤l.length∧Ext h h'∧cpt (l.take k)=l.take k) (fun t _=>((l.length:Int) - t).toNat) ?_ ⟨1,rfl,Nat.le_refl _,by omega,Ext.refl _,by
  obtain ⟨a,b,hl⟩:∃ a b,l=a::b:=by cases l with | nil=>simp at h2l | cons a b=>exact ⟨a,b,rfl⟩
  rw [hl]; rfl⟩
 rintro t h1 ⟨k,rfl,hk1,hk,E,hcp⟩ self hself
 unfold ZN
 have gr:∀ {hh:Heap},Ext h hh→VGw lo S hh r css l:=fun e=>G.same (fun b hb=>e.same b (G.gw.lt hb).1) (fun b hb=>e.same b (hS b hb).1)
 refine Kc (fun hc=>?_) (fun hc=>?_)
 ·have hlt:k < l.length:=by have:=of_decide_eq_true hc; omega
  have G1:=gr E
  have hkk:IntKind.wrap .i64 ((k:Int) - 1)=((k - 1:Nat):Int):=by rw [w64 (by omega) (by omega)]; omega
  rw [hkk]
  refine KJ3 (s:=r) (k:=0) (i:=k) G1.gw G1.w4 G1.gw.base0.symm (by omega) rfl (by omega) (fun b hb hc0=>?_)
  refine KJ3 (s:=r) (k:=0) (i:=k - 1) G1.gw G1.w4 G1.gw.base0.symm (by omega) rfl (by omega) (fun b' hb' hc1=>?_)
  rw [hb] at hb'; cases hb'
  have r0:=G1.rep (0+k) (by omega) (by omega)
  have r1:=G1.rep (0+(k - 1)) (by omega) (by omega)
  refine UW r0.size hc0 (UW r1.size hc1 (KJ (KFn r0.to r1.to (fun h2 e2=>?_))))
  have E2:=E.trans e2
  have ecmp:cmpV (l[0+k]'(by omega)) (l[0+(k - 1)]'(by omega))=cmpV l[k] (l[k - 1]'(by omega)):=by
   congr 1 <;> congr 1 <;> omega
  rw [ecmp]
  have htk:=KHc hk1 hlt
  refine Kc (fun hd=>?_) (fun hd=>?_)
  ·
   have hd:cmpV l[k] (l[k - 1]'(by omega))=0:=of_decide_eq_true hd
   rw [if_pos hd,hcp] at htk
   refine KHv (by omega) (by omega) (by omega) ?_
   rw [show ((k:Int).toNat)=k from rfl,if_neg (show ¬ r.cap=k by omega)]
   refine M.loop_inv (fun (t:Int × Int) hh=>∃ (q j:Nat) (cs2:List (Array Value)),t=((q:Int),(j:Int))∧1≤j∧k+j≤l.length∧q+1≤k+j∧(cpt (l.take (k+j))).length=q∧Gw lo hh r 4 (Zx cs2)∧W4 cs2∧cs2.length=l.length∧(∀ i (i1:i < (cpt (l.take (k+j))).length) (i2:i < cs2.length),ZK S hh (cpt (l.take (k+j)))[i] cs2[i])∧(∀ i (i1:i < l.length) (i2:i < cs2.length),k+j≤i+1→ZK S hh l[i] cs2[i])∧h.size≤hh.size∧(∀ i,i < h.size→¬ Sl.on r i→hh[i]?=h[i]?)) (fun t _=>((l.length:Int) - t.2).toNat) ?_
    ⟨k,1,css,rfl,Nat.le_refl _,hlt,Nat.le_refl _,by rw [htk]; simp; omega,(gr E2).gw,G.w4,hgl,fun i i1 i2=>by
     have e3:(cpt (l.take (k+1)))[i]'i1=l[i]'(by rw [htk] at i1; simp at i1; omega):=by
      simp only [htk,List.getElem_take]
     rw [e3]
     exact (gr E2).rep i _ i2,fun i i1 i2 _=>(gr E2).rep i i1 i2,E2.size,fun i hi _=>E2.same i hi⟩
   rintro t hh ⟨q,j,cs2,rfl,hj1,hkj,hqk,hql,Gq,w4q,hcl,hnew,hold,hsz,hsame⟩ self2 hself2
   unfold ZM
   dsimp only
   have hlen2:((r.len:Int).toNat - k:Nat)=r.len - k:=rfl
   have hsb:r.base.map (fun a=>a.add (k * 4))=r.base.map (fun a=>a.add (k * 4)):=rfl
   refine Kc (fun hc=>?_) (fun hc=>?_)
   ·have hlt2:k+j < l.length:=by have:=of_decide_eq_true hc; omega
    have hjj:IntKind.wrap .i64 ((j:Int) - 1)=((j - 1:Nat):Int):=by rw [w64 (by omega) (by omega)]; omega
    rw [hjj]
    refine KJ3 (k:=k) (i:=j) Gq w4q hsb (by omega) rfl (by show j < (r.len:Int).toNat - k; omega) (fun b2 hb2 hc0=>?_)
    refine KJ3 (k:=k) (i:=j - 1) Gq w4q hsb (by omega) rfl (by show j - 1 < (r.len:Int).toNat - k; omega) (fun b3 hb3 hc1=>?_)
    rw [hb2] at hb3; cases hb3
    have s0:=hold (k+j) hlt2 (by omega) (by omega)
    have s1:=hold (k+(j - 1)) (by omega) (by omega) (by omega)
    refine UW s0.size hc0 (UW s1.size hc1 (KJ (KFn s0.to s1.to (fun h3 e3=>?_))))
    have ecmp2:cmpV (l[k+j]'hlt2) (l[k+(j - 1)]'(by omega))=cmpV (l[k+j]'hlt2) (l[k+j - 1]'(by omega)):=by
     congr 1; congr 1; omega
    rw [ecmp2]
    have htk2:=KHc (l:=l) (i:=k+j) (by omega) hlt2
    have hSe:∀ b,S b→h3[b]?=hh[b]?:=fun b hb=>e3.same b (Nat.lt_of_lt_of_le (hS b hb).1 hsz)
    have Gq3:=Gq.ext e3
    have hw1:IntKind.wrap .i64 ((j:Int)+1)=((j+1:Nat):Int):=by rw [w64 (by omega) (by omega)]; simp
    unfold Kw
    rw [hw1]
    refine Kc (fun hd2=>?_) (fun hd2=>?_)
    ·have hd2:¬ cmpV (l[k+j]'hlt2) (l[k+j - 1]'(by omega))=0:=by simpa using hd2
     rw [if_neg hd2] at htk2
     refine KJ3 (k:=k) (i:=j) Gq3 w4q hsb (by omega) rfl (by show j < (r.len:Int).toNat - k; omega) (fun b4 hb4 hc4=>?_)
     have s4:=s0.same hSe
     refine UW s4.size hc4 ?_
     refine KHH Gq3 w4q (i:=q) (by omega) rfl s4.size s4.to.one (fun b5 h5 hb5 u5 G5=>?_)
     have hon:Sl.on r b5:=⟨_,hb5,rfl⟩
     have hS5:∀ b,S b→h5[b]?=hh[b]?:=fun b hb=>(u5.ne b (fun e=>(hS b hb).2 (e ▸ hon))).trans (hSe b hb)
     rw [w64 (by omega) (by omega)]
     have hlq:(cpt (l.take (k+(j+1)))).length=q+1:=by rw [show k+(j+1)=k+j+1 by omega,htk2,List.length_append,hql]; rfl
     refine hself2 _ _ ⟨q+1,j+1,cs2.set q cs2[k+j],rfl,by omega,by omega,by omega,hlq,G5,w4q.set s4.size s4.to.one,by rw [List.length_set]; exact hcl,fun i i1 i2=>?_,fun i i1 i2 hi=>?_,by have:=e3.size; have:=u5.size; omega,fun i hi hno=>?_⟩ (by dsimp only; omega)
     ·have eq1:(cpt (l.take (k+(j+1))))[i]'i1=(cpt (l.take (k+j))++[l[k+j]'hlt2])[i]'(by rw [List.length_append,hql]; rw [hlq] at i1; exact i1):=by
       simp only [show k+(j+1)=k+j+1 by omega,htk2]
      rw [eq1]
      by_cases hiq:q=i
      ·subst hiq
       rw [List.getElem_set_self,List.getElem_append_right (by omega)]
       simp only [hql,Nat.sub_self,List.getElem_cons_zero]
       exact s0.same hS5
      ·rw [List.getElem_set_ne hiq,List.getElem_append_left (by rw [hql]; rw [hlq] at i1; omega)]
       exact (hnew i (by rw [hql]; rw [hlq] at i1; omega) (by simpa using i2)).same hS5
     ·rw [List.getElem_set_ne (by omega)]
      exact (hold i i1 (by simpa using i2) (by omega)).same hS5
     ·rw [u5.ne i (fun e=>hno (e ▸ hon)),e3.same i (by omega)]
      exact hsame i hi hno
    ·have hd2:cmpV (l[k+j]'hlt2) (l[k+j - 1]'(by omega))=0:=by simpa using hd2
     rw [if_pos hd2] at htk2
     have hkj1:k+(j+1)=k+j+1:=by omega
     refine hself2 _ _ ⟨q,j+1,cs2,rfl,by omega,by omega,by omega,by rw [hkj1,htk2]; exact hql,Gq3,w4q,hcl,fun i i1 i2=>?_,fun i i1 i2 hi=>(hold i i1 i2 (by omega)).same hSe,by have:=e3.size; omega,fun i hi hno=>(e3.same i (by omega)).trans (hsame i hi hno)⟩ (by dsimp only; omega)
     have eq1:(cpt (l.take (k+(j+1))))[i]'i1=(cpt (l.take (k+j)))[i]'(by rw [hkj1,htk2] at i1; exact i1):=by
      simp only [hkj1,htk2]
     rw [eq1]
     exact (hnew i _ i2).same hSe
   ·have hge:k+j=l.length:=by have:=of_decide_eq_false hc; omega
    rw [hge,List.take_length] at hql hnew
    refine KHv (by omega) (by omega) (by omega) ?_
    rw [show ((q:Int).toNat)=q from rfl,if_neg (show ¬ r.cap=q by omega)]
    rcases Gq with ⟨rfl,hnil⟩ | ⟨b9,ty9,cells9,R9⟩
    ·have:=Um w4q; rw [hnil] at this; simp at this; omega
    have hcz:=R9.size
    have hon:Sl.on r b9:=⟨_,R9.base,rfl⟩
    rw [R9.base]
    have hsz4:(zRow (#[.int .i64 0,.int .i64 0,.string ByteArray.empty,.slice none 0 0]:Array Value) (((r.len:Int).toNat - q) * 4)).toList.length=(r.len - q) * 4:=by rw [Array.length_toList,NY]; rfl
    refine .inr ⟨⟨b9,q * 4,none⟩,by show some ((⟨b9,0,none⟩:Addr).add (q * 4))=_; rw [Kg,Nat.zero_add],by show (r.len:Int).toNat - q≠0; omega,fun j hj=>?_,fun v hv=>by simp at hv; rcases hv with rfl | rfl | rfl | rfl <;> rfl,?_⟩
    ·have hj:j < ((r.len:Int).toNat - q) * 4:=hj
     rw [Kg,KS R9.blk,KV R9.blk]
     exact ⟨⟨_,Array.getElem?_eq_getElem (by omega)⟩,rfl⟩
    have hat:=N0 (o:=q * 4) (zRow (#[.int .i64 0,.int .i64 0,.string ByteArray.empty,.slice none 0 0]:Array Value) (((r.len:Int).toNat - q) * 4)).toList hh 0 _ R9.blk
    rw [Nat.add_zero] at hat
    have u9:=Upd.hsetL hh b9 (q * 4) (zRow (#[.int .i64 0,.int .i64 0,.string ByteArray.empty,.slice none 0 0]:Array Value) (((r.len:Int).toNat - q) * 4)).toList 0
    show (slL r 0 (q:Int) 4>>=fun x=>M.pure x).wp (hsetL hh ⟨b9,q * 4,none⟩ (zRow (#[.int .i64 0,.int .i64 0,.string ByteArray.empty,.slice none 0 0]:Array Value) (((r.len:Int).toNat - q) * 4)).toList 0) Q
    generalize hsetL hh ⟨b9,q * 4,none⟩ (zRow (#[.int .i64 0,.int .i64 0,.string ByteArray.empty,.slice none 0 0]:Array Value) (((r.len:Int).toNat - q) * 4)).toList 0=h9 at hat u9 ⊢
    refine KHv (by omega) (by omega) (by omega) (KG ?_)
    rw [show (0:Int).toNat=0 from rfl,if_neg (show ¬ r.cap=0 by omega),R9.base,show (some (⟨b9,0,none⟩:Addr)).map (fun a=>a.add (0 * 4))=some ⟨b9,0,none⟩ by show some ((⟨b9,0,none⟩:Addr).add (0 * 4))=_; rw [Kg]]
    have hw4t:W4 (cs2.take q):=fun c hc=>w4q c (List.mem_of_mem_take hc)
    have hft:=Um hw4t
    rw [List.length_take] at hft
    have hSe:∀ b,S b→h9[b]?=hh[b]?:=fun b hb=>u9.ne b (fun e=>(hS b hb).2 (e ▸ hon))
    refine H h9 _ (cs2.take q) ⟨.inr ⟨b9,ty9,_,rfl,R9.lo,hat,by rw [Yw]; exact R9.size,by show (q:Int).toNat - 0≤_; show q - 0≤r.cap - 0; omega,by rw [hft]; show min q cs2.length * 4=(q - 0) * 4; omega,fun j v hj=>?_⟩,hw4t,by rw [List.length_take,hql]; omega,fun i i1 i2=>?_⟩ (by rw [u9.size]; exact hsz) (fun i hi hno=>(u9.ne i (fun e=>hno (e ▸ hon))).trans (hsame i hi hno)) (fun i ⟨a,ha,hab⟩=>⟨a,by rw [R9.base]; exact ha,hab⟩)
    ·have hlt:=(List.getElem?_eq_some_iff.1 hj).1
     rw [hft] at hlt
     have hpre:(Zx cs2)[j]?=some v:=by
      have e:Zx cs2=Zx (cs2.take q)++Zx (cs2.drop q):=by
       unfold Zx
       rw [← List.flatMap_append,List.take_append_drop]
      rw [e,List.getElem?_append_left (by rw [hft]; exact hlt)]
      exact hj
     have:=R9.get j v hpre
     rw [← Array.getElem?_toList,Uo _ _ _ (by omega),List.append_assoc,List.getElem?_append_left (by rw [List.length_take,Array.length_toList]; omega),List.getElem?_take,if_pos (by omega),Array.getElem?_toList]
     exact this
    ·rw [List.getElem_take]
     exact (hnew i i1 _).same hSe
  ·have hd:¬ cmpV l[k] (l[k - 1]'(by omega))=0:=of_decide_eq_false hd
   rw [if_neg hd,hcp] at htk
   rw [w64 (by omega) (by omega)]
   exact hself _ _ ⟨k+1,by simp,by omega,by omega,E2,by rw [htk,← List.take_succ_eq_append_getElem hlt]⟩ (by omega)
 ·have hge:k=l.length:=by have:=of_decide_eq_false hc; omega
  subst hge
  rw [List.take_length] at hcp
  exact KG (H h1 r css (by rw [hcp]; exact gr E) E.size (fun i hi _=>E.same i hi) (fun i h=>h))
end Gx
namespace Gx
open Go
set_option linter.unusedVariables false
set_option linter.unusedSimpArgs false
def Vf:List Vl→List Vl
 | []=>[]
 | [a]=>[a]
 | a::_::r=>a::Vf r
theorem Xj:∀ l:List Vl,(Vf l).length=(l.length+1) / 2
 | []=>by simp [Vf]
 | [a]=>by simp [Vf]
 | a::b::r=>by rw [Vf,List.length_cons,Xj r,List.length_cons,List.length_cons]; omega
theorem KCl:∀ (l:List Vl) (i:Nat) (h:2 * i < l.length) (h':i < (Vf l).length),(Vf l)[i]=l[2 * i]
 | [],i,h,_=>by simp at h
 | [a],i,h,h'=>by
  have:i=0:=by simp at h; omega
  subst this; simp [Vf]
 | a::b::r,0,h,h'=>by simp [Vf]
 | a::b::r,i+1,h,h'=>by
  have h2:2 * i < r.length:=by simp at h; omega
  have ih:=KCl r i h2 (by rw [Xj]; omega)
  simp only [Vf,List.getElem_cons_succ]
  rw [ih]
  simp only [show 2 * (i+1)=2 * i+1+1 by omega,List.getElem_cons_succ]
theorem KJ4 {l:List Vl} {v:Vl} (h:v ∈ Vf l):v ∈ l:=by
 obtain ⟨i,hi,rfl⟩:=List.getElem_of_mem h
 rw [KCl l i (by rw [Xj] at hi; omega) hi]
 exact List.getElem_mem _
def Inc (l:List Vl):Prop:=l.Pairwise (fun a b=>cmpV a b < 0)
theorem KGk:∀ l:List Vl,l.Pairwise (fun a b=>¬ cmpV b a < 0)→Inc (cpt l)∧∀ x,x ∈ cpt l↔x ∈ l
 | [],_=>⟨List.Pairwise.nil,fun x=>Iff.rfl⟩
 | [a],_=>⟨List.pairwise_singleton _ _,fun x=>Iff.rfl⟩
 | a::b::r,h=>by
  rw [List.pairwise_cons] at h
  obtain ⟨i1,i2⟩:=KGk (b::r) h.2
  rw [cpt]
  by_cases hc:cmpV b a=0
  ·have:=(KCj b a).1 hc
   subst this
   rw [if_pos hc]
   exact ⟨i1,fun x=>by rw [i2]; simp⟩
  ·rw [if_neg hc]
   refine ⟨List.pairwise_cons.2 ⟨fun x hx=>?_,i1⟩,fun x=>by rw [List.mem_cons,i2,List.mem_cons (a:=x) (b:=a)]⟩
   have hx:=(i2 x).1 hx
   have hb:cmpV a b < 0:=by
    have:=h.1 b (by simp)
    have:=GY a b
    omega
   rcases List.mem_cons.1 hx with rfl | hx'
   ·exact hb
   ·have h2:=(List.pairwise_cons.1 h.2).1 x hx'
    have h3:=GY b x
    by_cases h4:cmpV b x=0
    ·rw [← (KCj b x).1 h4]; exact hb
    ·exact KDm hb (by omega)
theorem Inc.head {a b:Vl} {l:List Vl} (h:Inc (a::l)) (hb:b ∈ l):cmpV a b < 0:=(List.pairwise_cons.1 h).1 b hb
theorem Inc.uniq:∀ {a b:List Vl},Inc a→Inc b→(∀ x,x ∈ a↔x ∈ b)→a=b
 | [],[],_,_,_=>rfl
 | [],y::b,_,_,h=>by have:=(h y).2 (by simp); cases this
 | x::a,[],_,_,h=>by have:=(h x).1 (by simp); cases this
 | x::a,y::b,ha,hb,h=>by
  have hxy:x=y:=by
   rcases List.mem_cons.1 ((h x).1 (by simp)) with e | e
   ·exact e
   ·rcases List.mem_cons.1 ((h y).2 (by simp)) with e' | e'
    ·exact e'.symm
    ·have h1:=hb.head e
     have h2:=ha.head e'
     have:=GY x y
     omega
  subst hxy
  have:a=b:=Inc.uniq (List.pairwise_cons.1 ha).2 (List.pairwise_cons.1 hb).2 (fun z=>by
   constructor
   ·intro hz
    rcases List.mem_cons.1 ((h z).1 (List.mem_cons_of_mem _ hz)) with e | e
    ·subst e
     have:=ha.head hz
     rw [Nw] at this; omega
    ·exact e
   ·intro hz
    rcases List.mem_cons.1 ((h z).2 (List.mem_cons_of_mem _ hz)) with e | e
    ·subst e
     have:=hb.head hz
     rw [Nw] at this; omega
    ·exact e)
  rw [this]
def Vg (l:List Vl):List Vl:=l.flatMap (fun v=>Vf v.l)
def KA9 (l:List Vl):Bool:=l.all (fun v=>decide (v.k=5) && (Vf v.l).all (fun k=>decide (k.k=2)))
def YX (ps:List (List UInt8)):List UInt8:=jn [32,124,32] ps++[10]
def Xs (v k:Vl):List UInt8:=match getV k v.l with | some x=>txV x | none=>[45]
def tabT (C l:List Vl):List UInt8:=YX (C.map txV)++l.flatMap (fun v=>YX (C.map (Xs v)))
def Cols (l C:List Vl):Prop:=Inc C∧∀ x,x ∈ C↔x ∈ Vg l
theorem Cols.uniq {l C C':List Vl} (h:Cols l C) (h':Cols l C'):C=C':=Inc.uniq h.1 h'.1 (fun x=>(h.2 x).trans (h'.2 x).symm)
end Gx
namespace Gx
open Go
set_option linter.unusedVariables false
set_option linter.unusedSimpArgs false
theorem KCm:∀ {xm:List Nat} {h:Heap} {Q:Unit→Heap→Prop},xm.Nodup→(∀ b ∈ xm,h[b]?=some (.deferred (some [])))→(∀ h',h'.size=h.size→(∀ i,i ∉ xm→h'[i]?=h[i]?)→Q () h')→(shut xm).wp h Q
 | [],h,Q,_,_,H=>H h rfl (fun i _=>rfl)
 | b::r,h,Q,nd,hd,H=>by
  rw [List.nodup_cons] at nd
  refine ⟨hd b (by simp),KCm nd.2 (fun c hc=>?_) (fun h' hs he=>H h' (by rw [hs]; simp) (fun i hi=>?_))⟩
  ·rw [Array.getElem?_setIfInBounds,if_neg (fun e=>nd.1 (by rw [e]; exact hc))]
   exact hd c (List.mem_cons_of_mem _ hc)
  ·rw [he i (fun h=>hi (List.mem_cons_of_mem _ h)),Array.getElem?_setIfInBounds,if_neg (fun e=>hi (by rw [e]; simp))]
structure TJ (h0:Heap) (b2 b3 b5:Nat) (xm:List Nat) (L:Nat→Prop) (K:List Vl) (h:Heap):Prop where
 ext:Ext h0 h
 c2:∃ s,h[b2]?=some (.cells #[.string s] VY (0,0))
 c3:∃ n,h[b3]?=some (.cells #[.int .i64 n] Jn (0,0))
 c5:∃ r css,h[b5]?=some (.cells #[r.v] Zm (0,0))∧VGw (b5+1) (· < h0.size) h r css K∧∀ i,L i→¬ Sl.on r i
 df:∀ b ∈ xm,h[b]?=some (.deferred (some []))
structure Blks (h0:Heap) (b2 b3 b5:Nat):Prop where
 l2:h0.size≤b2
 l3:b2 < b3
 l5:b3 < b5
theorem TJ.more {h0 h h':Heap} {b2 b3 b5:Nat} {L:Nat→Prop} {xm:List Nat} {K:List Vl} (T:TJ h0 b2 b3 b5 xm L K h) (e:Ext h h'):TJ h0 b2 b3 b5 xm L K h':=by
 obtain ⟨s,c2⟩:=T.c2
 obtain ⟨n,c3⟩:=T.c3
 obtain ⟨r,css,c5,G,off⟩:=T.c5
 exact ⟨T.ext.trans e,⟨s,e.blk c2⟩,⟨n,e.blk c3⟩,⟨r,css,e.blk c5,G.same (fun b hb=>e.same b (G.gw.lt hb).1) (fun b hb=>e.same b (Nat.lt_of_lt_of_le hb T.ext.size)),off⟩,fun b hb=>e.blk (T.df b hb)⟩
theorem TJ.upd {h0 h h':Heap} {b2 b3 b5 lp:Nat} {L:Nat→Prop} {xm:List Nat} {K:List Vl} (B:Blks h0 b2 b3 b5) (T:TJ h0 b2 b3 b5 xm L K h) (u:Upd lp h h') (hL:L lp) (hlp:b5 < lp) (hx:lp ∉ xm):TJ h0 b2 b3 b5 xm L K h':=by
 obtain ⟨s,c2⟩:=T.c2
 obtain ⟨n,c3⟩:=T.c3
 obtain ⟨r,css,c5,G,off⟩:=T.c5
 have:=B.l2; have:=B.l3; have:=B.l5
 exact ⟨T.ext.upd u (by omega),⟨s,(u.ne _ (by omega)).trans c2⟩,⟨n,(u.ne _ (by omega)).trans c3⟩,⟨r,css,(u.ne _ (by omega)).trans c5,G.same (fun b hb=>u.ne b (fun e=>off lp hL (e ▸ hb))) (fun b hb=>u.ne b (by omega)),off⟩,fun b hb=>(u.ne b (fun e=>hx (e ▸ hb))).trans (T.df b hb)⟩
theorem TJ.lp {h0 h:Heap} {b2 b3 b5:Nat} {L L':Nat→Prop} {xm:List Nat} {K:List Vl} (T:TJ h0 b2 b3 b5 xm L K h) (h1:∀ r css,VGw (b5+1) (· < h0.size) h r css K→(∀ i,L i→¬ Sl.on r i)→∀ i,L' i→¬ Sl.on r i):TJ h0 b2 b3 b5 xm L' K h:=by
 obtain ⟨r,css,c5,G,off⟩:=T.c5
 exact ⟨T.ext,T.c2,T.c3,⟨r,css,c5,G,h1 r css G off⟩,T.df⟩
theorem TJ.xs {h0 h:Heap} {b2 b3 b5:Nat} {L:Nat→Prop} {xm xm':List Nat} {K:List Vl} (T:TJ h0 b2 b3 b5 xm L K h) (h1:∀ b ∈ xm',h[b]?=some (.deferred (some []))):TJ h0 b2 b3 b5 xm' L K h :=
 ⟨T.ext,T.c2,T.c3,T.c5,h1⟩
theorem Ke {h:Heap} {b:Nat} {v:Value} {t:TypeId} {z:Nat × Nat} (hb:h[b]?=some (.cells #[v] t z)):KN h ⟨b,0,none⟩=some v:=by rw [KS hb]; rfl
theorem G8 {h:Heap} {b:Nat} {v u:Value} {t:TypeId} (hb:h[b]?=some (.cells #[v] t (0,0))):(hset h ⟨b,0,none⟩ u)[b]?=some (.cells #[u] t (0,0)):=by rw [V5 hb]; rfl
structure TE (h0:Heap) (b2 b3:Nat) (xm:List Nat) (h:Heap):Prop where
 ext:Ext h0 h
 c2:h[b2]?=some (.cells #[.string ByteArray.empty] VY (0,0))
 c3:h[b3]?=some (.cells #[.int .i64 21] Jn (0,0))
 df:∀ b ∈ xm,h[b]?=some (.deferred (some []))
theorem KHd {β:Type} {h0 h:Heap} {b2 b3 b5:Nat} {L:Nat→Prop} {xm:List Nat} {K:List Vl} {Q:β→Heap→Prop} {f:Unit→M β} (B:Blks h0 b2 b3 b5) (T:TJ h0 b2 b3 b5 xm L K h)
  (H:∀ h',TE h0 b2 b3 xm h'→(∀ i,i≠b2→i≠b3→h'[i]?=h[i]?)→(f ()).wp h' Q):(stV ⟨b2,0,none⟩ (.string ByteArray.empty)>>=fun _=>stV ⟨b3,0,none⟩ (.int .i64 21)>>=f).wp h Q:=by
 obtain ⟨s,c2⟩:=T.c2
 obtain ⟨n,c3⟩:=T.c3
 have:=B.l2; have:=B.l3
 refine Vj (Ke c2) (KV c2) rfl ?_
 have u1:=Upd.hset h b2 0 (.string ByteArray.empty)
 have d2:=G8 (u:=.string ByteArray.empty) c2
 generalize hset h ⟨b2,0,none⟩ (.string ByteArray.empty)=h1 at u1 d2 ⊢
 have c3':h1[b3]?=_:=(u1.ne _ (by omega)).trans c3
 refine Vj (Ke c3') (KV c3') rfl ?_
 have u2:=Upd.hset h1 b3 0 (.int .i64 21)
 have d3:=G8 (u:=.int .i64 21) c3'
 generalize hset h1 ⟨b3,0,none⟩ (.int .i64 21)=h2 at u2 d3 ⊢
 have hne:∀ i,i≠b2→i≠b3→h2[i]?=h[i]?:=fun i i2 i3=>(u2.ne i i3).trans (u1.ne i i2)
 refine H h2 ⟨(T.ext.upd u1 (by omega)).upd u2 (by omega),(u2.ne _ (by omega)).trans d2,d3,fun b hb=>?_⟩ hne
 have hd:=T.df b hb
 rw [hne b (fun e=>by rw [e,c2] at hd; cases hd) (fun e=>by rw [e,c3] at hd; cases hd)]
 exact hd
theorem KOm {β:Type} {lo:Nat} {h:Heap} {Q:β→Heap→Prop} {r:Sl} {css:List (Array Value)} {i b:Nat} {c:Array Value} {f:Unit→M β} (G:Gw lo h r 4 (Zx css)) (hw:W4 css) (hi:i < css.length) (hb:r.base=some ⟨b,0,none⟩) (hc:c.size=4) (h1:∀ u ∈ c.toList,one u=true)
  (H:∀ h',Upd b h h'→Gw lo h' r 4 (Zx (css.set i c))→(f ()).wp h' Q):(stG ⟨b,i * 4,none⟩ c>>=f).wp h Q:=by
 have hl:=G.len4 hw
 have key:(stG ⟨b,i * 4,none⟩ c>>=f).wp h Q:=by
  obtain ⟨b',hb',hon,_⟩:=G.row4 hw hi
  rw [hb] at hb'; cases hb'
  obtain ⟨a,⟨h0,h2,b2,hb2,rfl⟩,H2⟩:=KHH (Q:=Q) (f:=f) (t:=(i:Int)) G hw hi rfl hc h1 (fun b3 h' hb3 u G'=>by rw [hb] at hb3; cases hb3; exact H h' u G')
  rw [hb] at hb2; cases hb2
  rw [Kg,show 0+(i:Int).toNat * 4=i * 4 by omega] at H2
  exact H2.2
 exact key
theorem VGw.set {lo:Nat} {S:Nat→Prop} {h h':Heap} {r:Sl} {css:List (Array Value)} {l:List Vl} {i:Nat} {c:Array Value} {k:Vl} (G:VGw lo S h r css l) (G':Gw lo h' r 4 (Zx (css.set i c))) (hc:ZK S h' k c) (e:∀ b,S b→h'[b]?=h[b]?):VGw lo S h' r (css.set i c) (l.set i k) :=
 ⟨G',G.w4.set hc.size hc.to.one,by rw [List.length_set,List.length_set]; exact G.len,fun j h1 h2=>by
  by_cases hij:i=j
  ·subst hij
   rw [List.getElem_set_self,List.getElem_set_self]; exact hc
  ·rw [List.getElem_set_ne hij,List.getElem_set_ne hij]
   exact (G.rep j (by simpa using h1) (by simpa using h2)).same e⟩
theorem KPa {h0 h:Heap} {b2 b3 b5:Nat} {L:Nat→Prop} {xm:List Nat} {K:List Vl} {k:Vl} {c:Array Value} {a:Addr} {Q:Nat→Heap→Prop} (B:Blks h0 b2 b3 b5) (T:TJ h0 b2 b3 b5 xm L K h) (hL:∀ i,L i→i < h.size) (hK:K.length≤1048576) (hc:ZK (· < h0.size) h k c) (ha:a.block < h0.size∧∀ j,j < 4→KN h (a.add j)=c[j]?)
  (H:∀ h',TJ h0 b2 b3 b5 xm L (K++[k]) h'→h.size≤h'.size→(∀ i,L i→i≠b5→h'[i]?=h[i]?)→Q 0 h') :
  ((do
   let Xx57←ldL ⟨b5,0,none⟩
   let Xx58←ldG 4 a
   let y_60←GL 4 1 (#[.int .i64 0,.int .i64 0,.string ByteArray.empty,.slice none 0 0]:Array Value) [(0,.agg (#[.int .i64 0,.int .i64 0,.string ByteArray.empty,.slice none 0 0]:Array Value))]
   let Xx59←bdL KB 1 y_60
   chk (fun h:Heap=>(KN h ⟨b5,0,none⟩=some ((Xx57:Sl).v))∧(Xx58.size=4∧∀ i,i < 4→KN h (Addr.add a i)=Xx58[i]?))
   let Xx61←apL KB 4 56 (#[.int .i64 0,.int .i64 0,.string ByteArray.empty,.slice none 0 0]:Array Value) Xx57 Xx59
   let Xx62←ixL Xx61 (Xx57.len:Int) 4
   let y_67←do
    M.both (do
     M.need (Xx58.size=4)
     stG Xx62 Xx58
     stV ⟨b5,0,none⟩ ((Xx61:Sl).v)
     M.pure ()
     ) (do
     stV ⟨b5,0,none⟩ ((Xx61:Sl).v)
     M.need (Xx58.size=4)
     stG Xx62 Xx58
     M.pure ()
     )
   M.pure 0):M Nat).wp h Q:=by
 obtain ⟨r,css,c5,G,off⟩:=T.c5
 have hB:=B.l2; have hB3:=B.l3; have hB5:=B.l5
 refine Jp (Ke c5) (UW hc.size ha.2 (KBi rfl (KAf ?_)))
 have e1:=Ext.push h (.cells (#[.int .i64 0,.int .i64 0,.string ByteArray.empty,.slice none 0 0]:Array Value) KB)
 have g1:(h.push (.cells (#[.int .i64 0,.int .i64 0,.string ByteArray.empty,.slice none 0 0]:Array Value) KB))[h.size]?=some (.cells (#[.int .i64 0,.int .i64 0,.string ByteArray.empty,.slice none 0 0]:Array Value) KB (0,0)):=Ko
 have s1:(h.push (.cells (#[.int .i64 0,.int .i64 0,.string ByteArray.empty,.slice none 0 0]:Array Value) KB)).size=h.size+1:=by simp
 generalize h.push (.cells (#[.int .i64 0,.int .i64 0,.string ByteArray.empty,.slice none 0 0]:Array Value) KB)=h1 at e1 g1 s1 ⊢
 have c51:=e1.blk c5
 have hlt5:=JX c5
 have hac:∀ j,j < 4→KN h1 (a.add j)=c[j]?:=fun j hj=>by
  have h2:=ha.2 j hj
  have h3:c[j]?=some (c[j]'(by rw [hc.size]; exact hj)):=Array.getElem?_eq_getElem _
  rw [h3] at h2 ⊢
  exact e1.cell h2
 refine KCy ⟨Ke c51,hc.size,hac⟩ ?_
 have hrl:=G.gw.len4 G.w4
 have hgl:=G.len
 have hons:∀ b,Sl.on r b→b5+1≤b∧b < h.size:=fun b hb=>⟨(G.gw.lt hb).2,(G.gw.lt hb).1⟩
 have hES:∀ b,b < h0.size→b < h.size:=fun b hb=>Nat.lt_of_lt_of_le hb T.ext.size
 have G1:VGw (b5+1) (· < h0.size) h1 r css K:=G.same (fun b hb=>e1.same b (G.gw.lt hb).1) (fun b hb=>e1.same b (hES b hb))
 refine KJ (KBm (l':=[vl0]) (css':=[(#[.int .i64 0,.int .i64 0,.string ByteArray.empty,.slice none 0 0]:Array Value)]) G1 (by omega) (fun b hb=>⟨by have:=hES b hb; omega,fun ho=>by have:=(hons b ho).1; omega⟩) (fun c' hc'=>by simp at hc'; subst hc'; exact ⟨rfl,fun u hu=>by simp at hu; rcases hu with rfl | rfl | rfl | rfl <;> rfl⟩) rfl rfl (.inr ⟨_,rfl,fun j v hj=>?_⟩) (fun j j1 j2=>by
   have:j=0:=by simp at j1; exact j1
   subst this
   exact zI _ _) (by simp; omega) (fun h2 r2 G2 hs same on_=>?_))
 ·rw [Kg,Nat.zero_add,KS g1]
  simpa [Zx] using hj
 have hrl2:=G2.gw.len4 G2.w4
 rw [List.length_append] at hrl2
 have hi2:css.length < (css++[(#[.int .i64 0,.int .i64 0,.string ByteArray.empty,.slice none 0 0]:Array Value)]).length:=by simp
 obtain ⟨b,hb,hon,_⟩:=G2.gw.row4 G2.w4 hi2
 refine Xl (by omega) (by rw [hrl2,hrl]; simp; omega) hb ?_
 rw [hrl,Kg,show 0+((css.length:Nat):Int).toNat * 4=css.length * 4 by omega]
 have hbne:b≠b5∧b5+1≤b:=by have:=(G2.gw.lt hon).2; omega
 have hnlp:∀ i,L i→¬ Sl.on r2 i:=fun i hi ho=>(on_ i ho).elim (off i hi) (fun h=>by have:=hL i hi; omega)
 have E2:Ext h0 h2:=⟨by have:=T.ext.size; omega,fun i hi=>(same i (by have:=hES i hi; omega) (fun ho=>by have:=(hons i ho).1; omega)).trans ((e1.same i (hES i hi)).trans (T.ext.same i hi))⟩
 have c52:h2[b5]?=some (.cells #[r.v] Zm (0,0)):=by rw [same b5 (by omega) (fun ho=>by have:=(hons b5 ho).1; omega)]; exact c51
 have fin:∀ h' ,h'.size=h2.size→(∀ i,i≠b→i≠b5→h'[i]?=h2[i]?)→h'[b5]?=some (.cells #[r2.v] Zm (0,0))→Gw (b5+1) h' r2 4 (Zx ((css++[(#[.int .i64 0,.int .i64 0,.string ByteArray.empty,.slice none 0 0]:Array Value)]).set css.length c))→Q 0 h':=fun h' z1 z2 z3 z4=>by
  have hcc:ZK (· < h0.size) h' k c:=hc.same (fun i hi=>(z2 i (by have:=hbne.2; omega) (by omega)).trans ((same i (by have:=hES i hi; omega) (fun ho=>by have:=(hons i ho).1; omega)).trans (e1.same i (hES i hi))))
  have GG:=G2.set (i:=css.length) (k:=k) z4 hcc (fun i hi=>z2 i (by have:=hbne.2; omega) (by omega))
  rw [List.set_append_right _ _ (Nat.le_refl _),Nat.sub_self,hgl,List.set_append_right _ _ (Nat.le_refl _),Nat.sub_self] at GG
  obtain ⟨sx,c2⟩:=T.c2
  obtain ⟨n,c3⟩:=T.c3
  have hkeep:∀ i,i < h.size→i≠b5→¬ Sl.on r i→h'[i]?=h[i]?:=fun i hi hi5 hno=>by
   have:i≠b:=fun e=>(on_ i (e ▸ hon)).elim hno (fun h=>by omega)
   rw [z2 i this hi5,same i (by omega) hno,e1.same i hi]
  have l2:=JX c2
  have l3:=JX c3
  refine H h' ⟨⟨by have:=E2.size; omega,fun i hi=>(z2 i (by have:=hbne.2; omega) (by omega)).trans (E2.same i hi)⟩,⟨sx,(hkeep b2 l2 (by omega) (fun ho=>by have:=(hons _ ho).1; omega)).trans c2⟩,⟨n,(hkeep b3 l3 (by omega) (fun ho=>by have:=(hons _ ho).1; omega)).trans c3⟩,⟨r2,_,z3,GG,hnlp⟩,fun x hx=>?_⟩ (by omega) (fun i hi hi5=>hkeep i (hL i hi) hi5 (off i hi))
  have hd:=T.df x hx
  refine (hkeep x (JX hd) (fun e=>by rw [e,c5] at hd; cases hd) (fun ho=>?_)).trans hd
  rcases G.gw with ⟨hn,_⟩ | ⟨g,ty,cells,R⟩
  ·rw [hn] at ho; obtain ⟨a1,ha1,_⟩:=ho; cases ha1
  ·obtain ⟨a1,ha1,ha2⟩:=ho
   rw [R.base] at ha1; cases ha1
   have:x=g:=ha2.symm
   rw [this,R.blk] at hd; cases hd
 refine KJ (KN8 ?_ ?_)
 ·refine JA hc.size (KOm G2.gw G2.w4 hi2 hb hc.size hc.to.one (fun h3 u3 G3=>?_))
  have c53:h3[b5]?=_:=(u3.ne _ (fun e=>hbne.1 e.symm)).trans c52
  refine Vj (Ke c53) (KV c53) (KAg _) (KG (KG ?_))
  refine fin _ (by rw [GM,u3.size]) (fun i i1 i2=>(XN i2).trans (u3.ne i i1)) (G8 c53) (G3.same (fun i hi=>XN (fun e=>?_)))
  have e:i=b5:=e
  obtain ⟨a1,ha1,ha2⟩:=hi
  rw [hb] at ha1; cases ha1
  exact hbne.1 (by show b=b5; rw [← e]; exact ha2)
 ·refine Vj (Ke c52) (KV c52) (KAg _) ?_
  have u3:=Upd.hset h2 b5 0 r2.v
  have c53:=G8 (u:=r2.v) c52
  generalize hset h2 ⟨b5,0,none⟩ r2.v=h3 at u3 c53 ⊢
  have G3:Gw (b5+1) h3 r2 4 (Zx (css++[(#[.int .i64 0,.int .i64 0,.string ByteArray.empty,.slice none 0 0]:Array Value)])):=G2.gw.same (fun i hi=>u3.ne i (fun e=>by
   obtain ⟨a1,ha1,ha2⟩:=hi
   rw [hb] at ha1; cases ha1
   exact hbne.1 (by show b=b5; rw [← e]; exact ha2)))
  refine JA hc.size (KOm G3 G2.w4 hi2 hb hc.size hc.to.one (fun h4 u4 G4=>KG (KG ?_)))
  exact fin _ (by rw [u4.size,u3.size]) (fun i i1 i2=>(u4.ne i i1).trans (u3.ne i i2)) ((u4.ne _ (fun e=>hbne.1 e.symm)).trans c53) G4
end Gx
namespace Gx
open Go
set_option linter.unusedVariables false
set_option linter.unusedSimpArgs false
theorem KNI (sep a:List UInt8):∀ l:List (List UInt8),jn sep (l++[a])=if l=[] then a else jn sep l++(sep++a)
 | []=>rfl
 | x::l=>by
  rw [if_neg (by simp),List.cons_append,KCd,KCd,List.flatMap_append]
  simp
theorem KNJ {sep:List UInt8} {T:List (List UInt8)} {i:Nat} (hi:i < T.length):jn sep (T.take (i+1))=if i=0 then T[i] else jn sep (T.take i)++(sep++T[i]):=by
 rw [List.take_succ_eq_append_getElem hi,KNI]
 by_cases h0:i=0
 ·subst h0; simp
 ·rw [if_neg h0,if_neg]
  intro h
  have:=congrArg List.length h
  rw [List.length_take,List.length_nil] at this
  omega
theorem KMG (sep:List UInt8) (T:List (List UInt8)):∀ i,i≤T.length→(jn sep (T.take i)).length≤(jn sep T).length:=by
 intro i hi
 by_cases h0:i=0
 ·subst h0; simp [jn]
 ·have hne:0 < T.length:=by omega
  rw [KGf sep (T.take i) (by rw [List.length_take]; omega),KGf sep T hne]
  rw [List.length_append,List.length_append]
  have e1:(T.take i)[0]'(by rw [List.length_take]; omega)=T[0]:=by simp
  have e2:(T.drop 1).flatMap (fun s=>sep++s)=((T.take i).drop 1).flatMap (fun s=>sep++s)++((T.drop i)).flatMap (fun s=>sep++s):=by
   rw [← List.flatMap_append]
   congr 1
   rw [List.drop_take]
   conv=>lhs; rw [← List.take_append_drop (i - 1) (T.drop 1)]
   rw [List.drop_drop]
   congr 2; omega
  rw [e1,e2,List.length_append]
  omega
theorem KFp {hb0 h:Heap} {b c:Nat} {o:Obj} {rr:Sl} {t:List UInt8} {x:Sl} {x1:Nat} {C:List Vl} {T:List (List UInt8)} {g:Value} {Q:Unit→Heap→Prop} (W:BW hb0 b c o h rr t) (cx:KN hb0 ⟨x1,0,none⟩=some x.v) (hC:VsRep hb0 x C) (hT:T.length=C.length)
  (hg:∀ j (hj:j < C.length) (hj':j < T.length) h1 cs (Q1:ByteArray→Heap→Prop),Ext hb0 h1→h1[c]?=some o→VRep h1 C[j] cs→(∀ h2,Ext h1 h2→Q1 (bs T[j]) h2)→(VD Go.Proofs.Tryz.prog (fun r:ByteArray=>.string r) g [.agg cs]).wp h1 Q1)
  (hbd:(t++YX T).length≤140737488355328) (hcnt:C.length≤1099511627776)
  (H:∀ h' rr',BW hb0 b c o h' rr' (t++YX T)→Q () h'):(GD g ⟨x1,0,none⟩ ⟨b,0,none⟩).wp h Q:=by
 unfold GD
 have hxl:=hC.len
 have hlt2:(YX T).length=(jn [32,124,32] T).length+1:=by simp [YX]
 rw [List.length_append,hlt2] at hbd
 refine Jp (W.ext.cell cx) ?_
 rw [hxl]
 refine M.loop_inv (fun (s:Int) h'=>∃ i:Nat,s=(i:Int)∧i≤C.length∧∃ r',BW hb0 b c o h' r' (t++jn [32,124,32] (T.take i))) (fun s _=>((C.length:Int) - s).toNat) ?_ ⟨0,rfl,Nat.zero_le _,rr,by simpa [jn] using W⟩
 rintro s h' ⟨i,rfl,hi,r',W1⟩ self hself
 unfold Wx
 refine Kc (fun hc=>?_) (fun hc=>?_)
 ·have hlt:i < C.length:=by have:=of_decide_eq_true hc; omega
  have hltT:i < T.length:=by omega
  have hjp:=KMG [32,124,32] T i (by omega)
  have hjp1:=KMG [32,124,32] T (i+1) (by omega)
  have hjt:=KNJ (sep:=[32,124,32]) hltT
  have hCS:VsRepS (· < hb0.size) h' x C:=hC.lt.same (fun b hb=>W1.ext.same b hb) (fun _ h=>h)
  obtain ⟨a,cs,ha,hS,hs,hcs,hvS⟩:=hCS.get hlt
  have hv:=hvS.to
  refine Xl (by omega) (by omega) ha (UW hs (fun j hj=>by rw [Addr.add_add,show (i:Int).toNat * 4=i * 4 by omega]; exact hcs j hj) (ZW (fun h2 e2 z2 g2=>JA hs (stR (vs:=cs) g2 (by rw [hs]; decide) hv.one (fun h3 u3 g3=>?_)))))
  rw [ZD (by rw [Array.length_toList,hs]; rfl),Array.toArray_toList] at g3
  have E3:Ext h' h3:=e2.upd u3 (Nat.le_refl _)
  have W3:=W1.more E3
  have hv3:=hv.ext E3
  have tail:∀ {h4:Heap} {r4:Sl} {pre:List UInt8},BW hb0 b c o h4 r4 pre→pre++T[i]=t++jn [32,124,32] (T.take (i+1))→h4[h'.size]?=some (.cells cs KB (0,0))→VRep h4 C[i] cs→(UT self g ⟨b,0,none⟩ ⟨h'.size,0,none⟩ (i:Int)).wp h4 Q:=fun {h4 r4 pre} W4 he g4 hv4=>by
   unfold UT
   refine zE (v:=C[i]) g4 hs (KJ (hg i hlt hltT h4 cs _ W4.ext W4.blk hv4 (fun h5 e5=>?_)))
   have W5:=W4.more e5
   have hlen:=congrArg List.length he
   rw [List.length_append,List.length_append] at hlen
   refine KJ (Ve W5.bld W5.ext.size (by omega) (fun h6 r6 n6 B6 K6=>?_))
   have W6:=W5.keep B6 K6
   rw [he] at W6
   rw [w64 (by omega) (by omega)]
   exact hself _ _ ⟨i+1,by simp,by omega,r6,W6⟩ (by omega)
  refine Kc (fun hp=>?_) (fun hp=>?_)
  ·have hp:¬ i=0:=by have:=of_decide_eq_true hp; omega
   rw [if_neg hp] at hjt
   have hl2:=congrArg List.length hjt
   rw [List.length_append,List.length_append] at hl2
   refine KJ (Ve (s:=[32,124,32]) W3.bld W3.ext.size (by rw [List.length_append]; omega) (fun h4 r4 n4 B4 K4=>?_))
   have W4:=W3.keep B4 K4
   have hlt3:=JX g3
   have hold:∀ i1,i1 < hb0.size→h4[i1]?=h3[i1]?:=fun i1 hi1=>(W4.ext.same i1 hi1).trans (W3.ext.same i1 hi1).symm
   have hne:h'.size≠b:=by have:=W1.bld.lt; omega
   have hno:¬ Sl.on r' h'.size:=fun ho=>by have:=(W1.bld.row.lt ho).1; omega
   refine tail W4 (by rw [hjt]; simp) ((K4.same _ hlt3 hne hno).trans g3) ?_
   exact (hvS.same (fun b1 hb1=>(W4.ext.same b1 hb1).trans (W1.ext.same b1 hb1).symm)).to
  ·have hp:i=0:=by have:=of_decide_eq_false hp; omega
   refine tail W3 (by rw [hjt,if_pos hp]; subst hp; simp [jn]) g3 hv3
 ·have hge:i=T.length:=by have:=of_decide_eq_false hc; omega
  subst hge
  rw [List.take_length] at W1
  refine KJ (YB (c:=10) W1.bld W1.ext.size (by rw [List.length_append]; omega) rfl (fun h4 r4 B4 K4=>KG (H h4 r4 ?_)))
  have W4:=W1.keep B4 K4
  unfold YX
  rw [← List.append_assoc]
  exact W4
theorem KDo:∀ (d:Nat) (v:Vl) {h:Heap} {cs:Array Value},VRep h v cs→(txt d v).length+2≤26 * wt v
 | 0,v,h,cs,_=>by have:=KJQ v; simp [txt]; omega
 | d+1,.mk k n s l,h,cs,H=>by
  obtain ⟨x,rfl,k1,n1,s1,r1⟩:=VRep.eq.1 H
  have hi:=KEi n1
  have hq:(VN s).length≤4 * s.length+2:=by
   rw [KJk]
   have:(s.flatMap qc).length≤4 * s.length:=by
    clear s1 H
    induction s with
    | nil=>simp
    | cons a s ih=>rw [List.flatMap_cons,List.length_append,List.length_cons]; have:=KPZ a; omega
   omega
  have hs:∀ (ev od:List UInt8),ev.length=2→od.length=2→(shw ev od (l.map (txt d))).length≤26 * wt.wts l:=by
   have hel:∀ v ∈ l,(txt d v).length+2≤26 * wt v:=fun v hv=>by
    obtain ⟨j,hj,rfl⟩:=List.getElem_of_mem hv
    obtain ⟨a,c,_,_,_,hv'⟩:=r1.get hj
    exact KDo d _ hv'
   clear r1 H
   induction l with
   | nil=>intro ev od _ _; simp [shw]
   | cons a r ih =>
    intro ev od h1 h2
    have ha:=hel a (by simp)
    have ihr:=ih (fun v hv=>hel v (List.mem_cons_of_mem _ hv)) od ev h2 h1
    rw [List.map_cons,KLO,wt.wts]
    split
    ·omega
    ·rw [List.length_append,List.length_append]; omega
  have h4:=hs [44,32] [44,32] rfl rfl
  have h5:=hs [58,32] [44,32] rfl rfl
  rw [wt]
  unfold txt
  repeat' split
  all_goals (try simp only [List.length_append,List.length_cons,List.length_nil])
  all_goals omega
theorem KBT (k:Vl) (l:List Vl):∀ (l':List Vl),(∀ y ∈ l',y ∈ l)→∀ x,getV k l'=some x→x ∈ l
 | [],_,x,hx=>by cases hx
 | [_],_,x,hx=>by cases hx
 | a::b::r,hm,x,hx=>by
  rw [getV] at hx
  split at hx
  ·cases hx; exact hm b (by simp)
  ·exact KBT k l r (fun y hy=>hm y (by simp [hy])) x hx
theorem KJ5 {v k:Vl} {h:Heap} {cs:Array Value} (H:VRep h v cs):(Xs v k).length≤26 * wt v:=by
 obtain ⟨kk,n,s,l⟩:=v
 obtain ⟨x,rfl,k1,n1,s1,r1⟩:=VRep.eq.1 H
 have hw:1≤wt (.mk kk n s l):=KJQ _
 unfold Xs
 split
 ·rename_i y hy
  have hy':=KBT k l l (fun y hy=>hy) y hy
  obtain ⟨j,hj,rfl⟩:=List.getElem_of_mem hy'
  obtain ⟨a,c,_,_,_,hv'⟩:=r1.get hj
  have:=KDo 8 _ hv'
  have:=zH hy'
  rw [wt]
  show (txt 8 l[j]).length≤_
  omega
 ·simp; omega
end Gx
namespace Gx
open Go
set_option linter.unusedVariables false
set_option linter.unusedSimpArgs false
theorem KFq (T:List (List UInt8)):(YX T).length≤(T.map List.length).sum+3 * T.length+1:=by
 unfold YX
 rw [List.length_append]
 by_cases h:T=[]
 ·subst h; simp [jn]
 ·rw [KJl _ _ h]
  simp only [List.length_cons,List.length_nil]
  omega
theorem KJ6 {α:Type} {f:α→List UInt8} {m:Nat}:∀ {C:List α},(∀ k ∈ C,(f k).length≤m)→((C.map f).map List.length).sum≤C.length * m
 | [],_=>by simp
 | k::C,h=>by
  have ih:=KJ6 (C:=C) (fun x hx=>h x (List.mem_cons_of_mem _ hx))
  have:=h k (by simp)
  rw [List.map_cons,List.map_cons,List.sum_cons,List.length_cons,Nat.add_mul]
  omega
theorem KFr (C:List Vl):∀ (l:List Vl),(∀ v ∈ l,∃ h cs,VRep h v cs)→(l.flatMap (fun v=>YX (C.map (Xs v)))).length≤C.length * (26 * wt.wts l)+(3 * C.length+1) * l.length
 | [],_=>by simp
 | v::l,h=>by
  have ih:=KFr C l (fun x hx=>h x (List.mem_cons_of_mem _ hx))
  obtain ⟨hh,cs,hv⟩:=h v (by simp)
  have h1:=KFq (C.map (Xs v))
  have h2:=KJ6 (C:=C) (f:=Xs v) (m:=26 * wt v) (fun k _=>KJ5 hv)
  rw [List.length_map] at h1
  rw [List.flatMap_cons,List.length_append,wt.wts,List.length_cons,Nat.mul_add 26,Nat.mul_add,Nat.mul_add]
  omega
theorem KJ7 {l:List Vl} {k:Vl} (h:k ∈ Vg l):wt k≤wt.wts l∧((∀ v ∈ l,∃ h cs,VRep h v cs)→∃ h cs,VRep h k cs):=by
 obtain ⟨v,hv,hk⟩:=List.mem_flatMap.1 h
 have hm:=KJ4 hk
 obtain ⟨kk,n,s,lv⟩:=v
 have h1:=zH hv
 have h2:=zH (show k ∈ lv from hm)
 rw [wt] at h1
 refine ⟨by omega,fun H=>?_⟩
 obtain ⟨hh,cs,hr⟩:=H _ hv
 obtain ⟨x,rfl,_,_,_,r1⟩:=VRep.eq.1 hr
 obtain ⟨j,hj,rfl⟩:=List.getElem_of_mem (show k ∈ lv from hm)
 obtain ⟨a,c,_,_,_,hv'⟩:=r1.get hj
 exact ⟨hh,c,hv'⟩
theorem KLX (l:List Vl):(Vg l).length≤wt.wts l:=by
 induction l with
 | nil=>simp [Vg]
 | cons v l ih =>
  obtain ⟨kk,n,s,lv⟩:=v
  have:(Vf lv).length≤wt.wts lv:=by
   rw [Xj]
   have:=Ns lv
   omega
  unfold Vg at ih ⊢
  rw [List.flatMap_cons,List.length_append,wt.wts,wt]
  show (Vf lv).length+_≤_
  omega
theorem KNK {C l:List Vl} (hr:∀ v ∈ l,∃ h cs,VRep h v cs) (hC:C.length≤wt.wts l) (hm:∀ k ∈ C,k ∈ Vg l) (hW:wt.wts l≤1048576):(tabT C l).length≤70368744177664:=by
 have h1:=KFq (C.map txV)
 rw [List.length_map] at h1
 have h2:=KJ6 (C:=C) (f:=txV) (m:=26 * wt.wts l) (fun k hk=>by
  obtain ⟨a,b⟩:=KJ7 (hm k hk)
  obtain ⟨h,cs,hv⟩:=b hr
  have:=KDo 8 k hv
  show (txt 8 k).length≤_
  omega)
 have h3:=KFr C l hr
 have h4:=Ns l
 unfold tabT
 rw [List.length_append]
 have m1:C.length * (26 * wt.wts l)≤1048576 * (26 * 1048576):=Nat.mul_le_mul (by omega) (by omega)
 have m2:(3 * C.length+1) * l.length≤3145729 * 1048576:=Nat.mul_le_mul (by omega) (by omega)
 omega
theorem KGl {C l:List Vl} (i:Nat):(YX (C.map txV)++(l.take i).flatMap (fun v=>YX (C.map (Xs v)))).length≤(tabT C l).length:=by
 unfold tabT
 rw [List.length_append,List.length_append]
 conv=>rhs; rw [← List.take_append_drop i l,List.flatMap_append,List.length_append]
 omega
theorem KGm {l:List Vl} {i:Nat} (hi:i < l.length):Vg (l.take (i+1))=Vg (l.take i)++Vf l[i].l:=by
 unfold Vg
 rw [List.take_succ_eq_append_getElem hi,List.flatMap_append]
 simp
theorem KIL {l:List Vl} {i:Nat} (hi:i < l.length):KA9 (l.take (i+1))=(KA9 (l.take i) && (decide (l[i].k=5) && (Vf l[i].l).all (fun k=>decide (k.k=2)))):=by
 unfold KA9
 rw [List.take_succ_eq_append_getElem hi,List.all_append]
 simp
theorem KJ8 {l:List Vl} {i:Nat} (hi:i < l.length) (h:(decide (l[i].k=5) && (Vf l[i].l).all (fun k=>decide (k.k=2)))=false):KA9 l=false:=by
 unfold KA9
 rw [List.all_eq_false]
 exact ⟨l[i],List.getElem_mem hi,by rw [h]; simp⟩
theorem KDp (l:List Vl) (i:Nat):(Vg (l.take i)).length≤(Vg l).length:=by
 unfold Vg
 conv=>rhs; rw [← List.take_append_drop i l,List.flatMap_append,List.length_append]
 omega
theorem TE.upd {h0 h h':Heap} {b2 b3 lp:Nat} {xm:List Nat} (T:TE h0 b2 b3 xm h) (u:Upd lp h h') (h1:h0.size≤lp) (h2:b2≠lp) (h3:b3≠lp) (hx:lp ∉ xm):TE h0 b2 b3 xm h' :=
 ⟨T.ext.upd u h1,(u.ne _ h2).trans T.c2,(u.ne _ h3).trans T.c3,fun b hb=>(u.ne b (fun e=>hx (e ▸ hb))).trans (T.df b hb)⟩
end Gx
namespace Gx
open Go
set_option linter.unusedVariables false
set_option linter.unusedSimpArgs false
def KNL (C45:Addr) (C46:Addr) (C47:Addr):(Sl)→M Nat:=fun x=>match x with
 | Xx48=>do
  let Xx51←ixL Xx48 0 4
  let Xx52←ldI .i64 ((Xx51).add 0)
  M.ite (Xx52 != 2) (do
   stV C45 (.string ByteArray.empty)
   stV C46 (.int .i64 21)
   M.pure 1
   ) (do
   let Xx56←ixL Xx48 0 4
   let Xx57←ldL C47
   let Xx58←ldG 4 Xx56
   let y_60←GL 4 1 (#[.int .i64 0,.int .i64 0,.string ByteArray.empty,.slice none 0 0]:Array Value) [(0,.agg (#[.int .i64 0,.int .i64 0,.string ByteArray.empty,.slice none 0 0]:Array Value))]
   let Xx59←bdL KB 1 y_60
   chk (fun h:Heap=>(KN h C47=some ((Xx57:Sl).v))∧(Xx58.size=4∧∀ i,i < 4→KN h (Addr.add Xx56 i)=Xx58[i]?))
   let Xx61←apL KB 4 56 (#[.int .i64 0,.int .i64 0,.string ByteArray.empty,.slice none 0 0]:Array Value) Xx57 Xx59
   let Xx62←ixL Xx61 (Xx57.len:Int) 4
   let y_67←do
    M.both (do
     M.need (Xx58.size=4)
     stG Xx62 Xx58
     stV C47 ((Xx61:Sl).v)
     M.pure ()
     ) (do
     stV C47 ((Xx61:Sl).v)
     M.need (Xx58.size=4)
     stG Xx62 Xx58
     M.pure ()
     )
   M.pure 0
   )
theorem KOn {h0 h:Heap} {b2 b3 b5:Nat} {L:Nat→Prop} {xm:List Nat} {K:List Vl} {x:Sl} {lv:List Vl} {i:Nat} {Q:Nat→Heap→Prop} (B:Blks h0 b2 b3 b5) (T:TJ h0 b2 b3 b5 xm L K h) (hL:∀ i,L i→i < h.size) (hK:K.length≤1048576) (hx:VsRepS (· < h0.size) h x lv) (hi:2 * i < lv.length)
  (H1:∀ h',(lv[2 * i]).k=2→TJ h0 b2 b3 b5 xm L (K++[lv[2 * i]]) h'→h.size≤h'.size→(∀ i,L i→i≠b5→h'[i]?=h[i]?)→Q 0 h')
  (H2:∀ h',¬ (lv[2 * i]).k=2→TE h0 b2 b3 xm h'→(∀ i,i≠b2→i≠b3→h'[i]?=h[i]?)→Q 1 h') :
  (KNL ⟨b2,0,none⟩ ⟨b3,0,none⟩ ⟨b5,0,none⟩ (KFm x i)).wp h Q:=by
 unfold KNL
 have hp:=KJ0 hx hi
 have hl0:0 < (KAV lv i).length:=by simp [KAV]; omega
 have he0:(KAV lv i)[0]=lv[2 * i]:=by simp [KAV]
 obtain ⟨a,cs,ha,hS,hs,hc,hv⟩:=hp.get hl0
 rw [he0] at hv
 have hlen:(KFm x i).len=min 2 (lv.length - 2 * i):=by show min 2 (x.len - 2 * i)=_; rw [hx.len]
 have ha0:∀ {β:Type} {Q':β→Heap→Prop} {f:Addr→M β},(f (a.add 0)).wp h Q'→(ixL (KFm x i) 0 4>>=f).wp h Q':=fun hq=>by
  refine Xl (by decide) (by rw [hlen]; omega) ha ?_
  exact hq
 have hc0:∀ j,j < 4→KN h ((a.add 0).add j)=cs[j]?:=fun j hj=>by
  rw [Addr.add_add,Nat.zero_add]
  have:=hc j hj
  rw [Nat.zero_mul,Nat.zero_add] at this
  exact this
 obtain ⟨kv,hkv⟩:∃ kv,kv=lv[2 * i]:=⟨_,rfl⟩
 rw [← hkv] at hv H1 H2
 obtain ⟨kk,n,s,l2⟩:=kv
 obtain ⟨xs,hcs,k1,n1,s1,r1⟩:=ZK.eq.1 hv
 refine ha0 (Jc (n:=kk) (by rw [hc0 0 (by decide),hcs]; rfl) (Kc (fun hk=>?_) (fun hk=>?_)))
 ·have hk:¬ kk=2:=by simpa using hk
  exact KHd B T (fun h' TEh hne=>KG (H2 h' hk TEh hne))
 ·have hk:kk=2:=by simpa using hk
  refine ha0 ?_
  exact KPa B T hL hK hv ⟨by rw [YH]; exact hS,hc0⟩ (fun h' T' hz hkeep=>H1 h' hk T' hz hkeep)
end Gx
namespace Gx
open Go
set_option linter.unusedVariables false
set_option linter.unusedSimpArgs false
theorem KLY {p:Vl→Bool} {l:List Vl} {i:Nat} (hi:i < l.length):(l.take (i+1)).all p=((l.take i).all p && p l[i]):=by
 rw [List.take_succ_eq_append_getElem hi,List.all_append]; simp
theorem KNM {p:Vl→Bool} {l:List Vl} {i:Nat} (hi:i < l.length) (h:p l[i]=false):l.all p=false:=by
 rw [List.all_eq_false]
 exact ⟨l[i],List.getElem_mem hi,by rw [h]; simp⟩
theorem KJ9 {h0 h:Heap} {b2 b3 b5 a b:Nat} {xm:List Nat} {K:List Vl} {x:Sl} {lv:List Vl} {ta tb:TypeId} {Q:Nat × Nat→Heap→Prop} (B:Blks h0 b2 b3 b5) (T:TJ h0 b2 b3 b5 xm (fun i=>i=a∨i=b) K h) (hx:VsRepS (· < h0.size) h x lv) (hb:lv.length≤1048576) (hK:K.length+(Vf lv).length≤1048576)
  (ha:h[a]?=some (.cells #[x.v] ta (0,0))) (hb':h[b]?=some (.cells #[.int .i64 2] tb (0,0))) (la:b5 < a) (lb:b5 < b)
  (H0:∀ h',(Vf lv).all (fun k=>decide (k.k=2))=true→h.size < h'.size→TJ h0 b2 b3 b5 (h.size::xm) (fun _=>False) (K++Vf lv) h'→Q (0,h.size) h')
  (H1:∀ h',(Vf lv).all (fun k=>decide (k.k=2))=false→TE h0 b2 b3 (h.size::xm) h'→Q (1,h.size) h') :
  (rgF Go.Proofs.Tryz.prog (fun x:Sl=>[x.v]) [.ret] (VK ⟨b2,0,none⟩ ⟨b3,0,none⟩ ⟨b5,0,none⟩) (.func (.func ZX) #[] #[.pointer (some ⟨a,0,none⟩),.pointer (some ⟨b,0,none⟩)])).wp h Q:=by
 have hB:=B.l2; have hB3:=B.l3; have hB5:=B.l5
 have sa:=JX ha
 have sb:=JX hb'
 have hxl:=hx.len
 have hxc:=hx.cap
 obtain ⟨_,_,c5,_,_⟩:=T.c5
 have s5:=JX c5
 have hmem:∀ y ∈ h.size::xm,y < h.size+1:=fun y hy=>by
  rcases List.mem_cons.1 hy with rfl | hy
  ·omega
  ·have:=JX (T.df y hy); omega
 have hnot:(h.size+1) ∉ h.size::xm:=fun hm=>by have:=hmem _ hm; omega
 refine KPR (Yb:=KNL ⟨b2,0,none⟩ ⟨b3,0,none⟩ ⟨b5,0,none⟩) (fun l x=>rfl) (c:=.ret) rfl (fun l hh=>by cases hh) (xs:=KCk x)
  (fun i h1=>TJ h0 b2 b3 b5 (h.size::xm) (fun j=>j=h.size+1∨j=a∨j=b) (K++(Vf lv).take i) h1∧h1[a]?=some (.cells #[x.v] ta (0,0))∧h1[b]?=some (.cells #[.int .i64 2] tb (0,0))∧((Vf lv).take i).all (fun k=>decide (k.k=2))=true∧VsRepS (· < h0.size) h1 x lv∧h.size+1 < h1.size)
  (fun h1=>TE h0 b2 b3 (h.size::xm) h1∧(Vf lv).all (fun k=>decide (k.k=2))=false) ?_ ?_ ?_ ?_ ?_ ?_ ?_
 ·rintro i h1 h2 ⟨j1,j2,j3,j4,j5,j6⟩ u
  exact ⟨j1.upd B u (.inl rfl) (by omega) hnot,(u.ne _ (by omega)).trans j2,(u.ne _ (by omega)).trans j3,j4,j5.same (fun y hy=>u.ne y (by have:=T.ext.size; omega)) (fun _ h=>h),by rw [u.size]; exact j6⟩
 ·rintro h1 h2 ⟨j1,j2⟩ u
  have:=T.ext.size
  exact ⟨j1.upd u (by omega) (by omega) (by omega) hnot,j2⟩
 ·exact KJ1 hxc (by omega) (fun i h1 hj=>⟨Ke hj.2.1,Ke hj.2.2.1⟩)
 ·intro r
  have e1:Ext h ((h.push (.deferred (some []))).push (YG r .ready none)):=(Ext.push _ _).pushed _
  have T1:=T.more e1
  refine ⟨?_,e1.blk ha,e1.blk hb',by simp,hx.same (fun y hy=>e1.same y (Nat.lt_of_lt_of_le hy T.ext.size)) (fun _ h=>h),by simp⟩
  simp only [List.take_zero,List.append_nil]
  have T2:TJ h0 b2 b3 b5 xm (fun j=>j=h.size+1∨j=a∨j=b) K ((h.push (.deferred (some []))).push (YG r .ready none)):=by
   obtain ⟨r0,css,d5,G,off⟩:=T.c5
   refine ⟨T1.ext,T1.c2,T1.c3,⟨r0,css,e1.blk d5,G.same (fun y hy=>e1.same y (G.gw.lt hy).1) (fun y hy=>e1.same y (Nat.lt_of_lt_of_le hy T.ext.size)),fun i hi=>?_⟩,T1.df⟩
   rcases hi with rfl | hi
   ·intro ho; have:=(G.gw.lt ho).1; omega
   ·exact off i hi
  refine T2.xs (fun y hy=>?_)
  rcases List.mem_cons.1 hy with rfl | hy
  ·rw [Vk (by simp)]; exact Ko
  ·exact e1.blk (T.df y hy)
 ·rintro i hi h1 o ⟨j1,j2,j3,j4,j5,j6⟩ hrec
  rw [XK] at hi
  have hi2:2 * i < lv.length:=by omega
  have hie:i < (Vf lv).length:=by rw [Xj]; omega
  have hev:=KCl lv i hi2 hie
  rw [KDn x (by rw [XK]; exact hi)]
  have htk:=KLY (p:=fun k=>decide (k.k=2)) hie
  refine KOn B j1 (fun j hj=>by rcases hj with rfl | rfl | rfl <;> omega) ?_ j5 hi2 (fun h2 hk T2 hz hkeep=>?_) (fun h2 hk T2 hne=>?_)
  ·rw [List.length_append,List.length_take]; omega
  ·refine ⟨by rw [hkeep _ (.inl rfl) (by omega)]; exact hrec,.inl ⟨rfl,?_,(hkeep _ (.inr (.inl rfl)) (by omega)).trans j2,(hkeep _ (.inr (.inr rfl)) (by omega)).trans j3,?_,?_,by omega⟩⟩
   ·rw [List.take_succ_eq_append_getElem hie,← List.append_assoc,hev]; exact T2
   ·rw [htk,j4,hev,decide_eq_true hk]; rfl
   ·exact (hx.same (fun y hy=>(T2.ext.same y hy).trans (T.ext.same y hy).symm) (fun _ h=>h))
  ·refine ⟨by rw [hne _ (by omega) (by omega)]; exact hrec,.inr ⟨rfl,T2,?_⟩⟩
   exact KNM hie (by rw [hev]; exact decide_eq_false hk)
 ·rintro h1 ⟨j1,j2,j3,j4,j5,j6⟩
  rw [XK,show (x.len+1) / 2=(Vf lv).length by rw [Xj,hxl],List.take_length] at j4 j1
  exact H0 h1 j4 (by omega) (j1.lp (fun r css G off i hi=>hi.elim))
 ·rintro h1 ⟨j1,j2⟩
  exact H1 h1 j2 j1
end Gx
namespace Gx
open Go Go.Proofs Go.Shelf Go.RowKit Go.Lib Go.Sort
set_option linter.unusedVariables false
set_option linter.unusedSimpArgs false
set_option maxRecDepth 100000
abbrev EV (S:Nat→Prop) (h:Heap):={ p:Vl × Array Value // ZK S h p.1 p.2 }
instance (S:Nat→Prop) (h:Heap):Inhabited (EV S h):=⟨⟨(vl0,_),zI S h⟩⟩
def KAW {S:Nat→Prop} {h:Heap} (p:EV S h):List Value:=p.1.2.toList
def KIM {S:Nat→Prop} {h:Heap} (p q:EV S h):Int:=cmpV p.1.1 q.1.1
theorem KOo (S:Nat→Prop) (h:Heap):SWO (ltOf (KIM (S:=S) (h:=h))) where
 irrefl x:=by unfold ltOf KIM; rw [Nw]; rfl
 trans x y z h1 h2:=by
  unfold ltOf KIM at *
  exact decide_eq_true (KDm (of_decide_eq_true h1) (of_decide_eq_true h2))
 ntrans x y z h1 h2:=by
  unfold ltOf KIM at *
  have h1:=of_decide_eq_false h1
  have h2:=of_decide_eq_false h2
  refine decide_eq_false (fun h3=>?_)
  have t:=KHb z.1.1 y.1.1 x.1.1
  have a1:=GY x.1.1 y.1.1
  have a2:=GY y.1.1 z.1.1
  have a3:=GY x.1.1 z.1.1
  have hz:=t.z1
  by_cases h4:cmpV z.1.1 y.1.1=0
  ·have:=t.z1 h4; omega
  ·by_cases h5:cmpV y.1.1 x.1.1=0
   ·have:=t.z2 h5; omega
   ·have:=t.tr (by omega) (by omega); omega
theorem KEu {w:World} {blk i:Nat} {f:Array Value→Array Value} (h:i≠blk):(mapBlock w blk f).heap[i]?=w.heap[i]?:=by
 unfold mapBlock
 simp only [Array.getElem?_modify]
 rw [if_neg (fun e=>h e.symm)]
theorem KIN {w:World} {blk:Nat} {f:Array Value→Array Value} {c:Array Value} {t:TypeId} {z:Nat × Nat} (h:w.heap[blk]?=some (.cells c t z)):(mapBlock w blk f).heap[blk]?=some (.cells (f c) t z):=by
 unfold mapBlock
 simp only [Array.getElem?_modify,if_true,h]
 rfl
theorem G9 {w:World} {blk:Nat} {f:Array Value→Array Value}:(mapBlock w blk f).heap.size=w.heap.size:=by
 unfold mapBlock
 simp
theorem KBs {α:Type} [Inhabited α] {enc:α→List Value} {k:Nat} {w:World} {blk off n:Nat} {d:Array α} {os:Array Obj} {i:Nat} (hi:i < w.heap.size) (hne:i≠blk):(sortWorldK enc k w blk off n d os).heap[i]?=w.heap[i]?:=by
 show ((mapBlock (ahead w n) blk (putCells id off (flatK enc k d))).heap++os)[i]?=_
 rw [Array.getElem?_append_left (by rw [G9]; exact hi),KEu hne]
 rfl
theorem KPb {α:Type} [Inhabited α] {enc:α→List Value} {k:Nat} {w:World} {blk off n:Nat} {d:Array α} {os:Array Obj} {c:Array Value} {t:TypeId} {z:Nat × Nat} (h:w.heap[blk]?=some (.cells c t z)):(sortWorldK enc k w blk off n d os).heap[blk]?=some (.cells (putCells id off (flatK enc k d) c) t z):=by
 show ((mapBlock (ahead w n) blk (putCells id off (flatK enc k d))).heap++os)[blk]?=_
 rw [Array.getElem?_append_left (by rw [G9]; exact JX h),KIN (w:=ahead w n) h]
theorem KNN {α:Type} [Inhabited α] {enc:α→List Value} {k:Nat} {w:World} {blk off n:Nat} {d:Array α} {os:Array Obj}:w.heap.size≤(sortWorldK enc k w blk off n d os).heap.size:=by
 show _≤((mapBlock (ahead w n) blk (putCells id off (flatK enc k d))).heap++os).size
 rw [Array.size_append,G9]
 exact Nat.le_add_right _ _
theorem KLZ {w w':World} (e:Ext w.heap w'.heap) (r:Rest w w'):∃ q os',w'=grow (w.drewN q) os':=by
 refine ⟨w'.drawn - w.drawn,w'.heap.extract w.heap.size w'.heap.size,?_⟩
 have h1:w'.heap=w.heap++w'.heap.extract w.heap.size w'.heap.size:=by
  apply Array.ext_getElem?
  intro i
  by_cases hi:i < w.heap.size
  ·rw [Array.getElem?_append_left hi,e.same i hi]
  ·rw [Array.getElem?_append_right (by omega),Array.getElem?_extract]
   have:=e.size
   by_cases h2:i < w'.heap.size
   ·rw [if_pos (by omega)]; congr 1; omega
   ·rw [if_neg (by omega),Array.getElem?_eq_none (by omega)]
 have h2:w'.drawn=w.drawn+(w'.drawn - w.drawn):=by have:=r.drawn; omega
 have h3:=r.os
 have h4:=r.output
 have h5:=r.tape
 cases w'
 simp only [grow,World.drewN,World.mk.injEq] at *
 exact ⟨h1,h5,h2,h3,h4⟩
theorem KNO {S:Nat→Prop} {w:World} {blk off size:Nat} (hS:∀ b,S b→b < w.heap.size∧b≠blk):CmpLays Go.Proofs.Tryz.prog Zp #[] (KAW (S:=S) (h:=w.heap)) 4 KIM blk off size w:=by
 intro m os dk hs x y
 have hx:VRep (sortWorldK KAW 4 w blk off m dk os).heap x.1.1 x.1.2:=(x.2.same (fun b hb=>KBs (hS b hb).1 (hS b hb).2)).to
 have hy:VRep (sortWorldK KAW 4 w blk off m dk os).heap y.1.1 y.1.2:=(y.2.same (fun b hb=>KBs (hS b hb).1 (hS b hb).2)).to
 have h:=XY x.1.2 y.1.2 (sortWorldK KAW 4 w blk off m dk os) (fun r h'=>r=cmpV x.1.1 y.1.1∧Ext (sortWorldK KAW 4 w blk off m dk os).heap h') (XH hx hy (fun h' e=>⟨rfl,e⟩))
 have e1:(#[Value.agg (KAW x).toArray,Value.agg (KAW y).toArray]++(#[]:Array Value))=#[.agg x.1.2,.agg y.1.2]:=by
  unfold KAW
  rw [Array.toArray_toList,Array.toArray_toList]
  rfl
 rw [e1]
 refine h.mono ?_
 rintro e w' ⟨r,rfl,⟨rfl,E⟩,R⟩
 exact ⟨rfl,KLZ E R⟩
theorem KFs {S:Nat→Prop} {h:Heap} (d:Array (EV S h)) {i j:Nat} (hi:i < d.size) (hj:j < 4):(flatK KAW 4 d)[i * 4+j]! = (d[i]'hi).1.2[j]'(by rw [(d[i]'hi).2.size]; exact hj):=by
 rw [get_flatK _ _ _ _ (by omega),show (i * 4+j) / 4=i by omega,show (i * 4+j) % 4=j by omega,getElem!_pos d i hi]
 unfold KAW
 have hs:=(d[i]'hi).2.size
 rw [getElem!_pos _ j (by rw [Array.length_toList]; omega)]
 rfl
def evs {S:Nat→Prop} {h:Heap} {css:List (Array Value)} {l:List Vl} (hl:css.length=l.length) (H:∀ j (h1:j < l.length) (h2:j < css.length),ZK S h l[j] css[j]):Array (EV S h) :=
 Array.ofFn (n:=l.length) fun j=>⟨(l[j.1]'j.2,css[j.1]'(by rw [hl]; exact j.2)),H j.1 j.2 _⟩
theorem KFt {cells:Array Value} {F:Array Value} {i:Nat} (h1:i < cells.size) (h2:i < F.size):(putCells id 0 F cells)[i]?=some F[i]!:=by
 unfold putCells
 rw [Array.getElem?_mapIdx,Array.getElem?_eq_getElem h1]
 simp [h2]
theorem KEv {cells:Array Value} {F:Array Value}:(putCells id 0 F cells).size=cells.size:=by simp [putCells]
theorem KIO {lo:Nat} {S:Nat→Prop} {h:Heap} {Q:Unit→Heap→Prop} {r:Sl} {css:List (Array Value)} {l:List Vl} (G:VGw lo S h r css l) (hS:∀ b,S b→b < h.size∧¬ Sl.on r b) (hm:l.length < 4611686018427387904)
  (H:∀ h' css' l',VGw lo S h' r css' l'→l'.Perm l→l'.Pairwise (fun a b=>¬ cmpV b a < 0)→h.size≤h'.size→(∀ i,i < h.size→¬ Sl.on r i→h'[i]?=h[i]?)→Q () h') :
  (NQ Go.Proofs.Tryz.prog JN #[r.v,.func (.func Zp) #[] #[]] (fun _:Unit=>.tuple #[])).wp h Q:=by
 intro w hw
 subst hw
 have hrl:=G.gw.len4 G.w4
 have hgl:=G.len
 rcases G.gw with ⟨rfl,he⟩ | ⟨b,ty,cells,R⟩
 ·have:css=[]:=by
   have:=Um G.w4
   rw [he] at this
   exact List.length_eq_zero_iff.1 (by simp at this; omega)
  subst this
  have:l=[]:=List.length_eq_zero_iff.1 hgl.symm
  subst this
  refine (AnyF.slices_SortFunc_none KCQ none 0 (.func (.func Zp) #[] #[]) w).mono ?_
  rintro e w' ⟨rfl,rfl⟩
  exact ⟨(),rfl,H _ _ _ G (List.Perm.refl _) List.Pairwise.nil (Nat.le_refl _) (fun i _ _=>rfl),Rest.refl _⟩
 ·have hb:∀ i,Sl.on r i↔i=b:=fun i=>⟨fun ⟨a,ha,hab⟩=>by rw [R.base] at ha; cases ha; exact hab.symm,fun e=>⟨_,R.base,e.symm⟩⟩
  have hS':∀ i,S i→i < w.heap.size∧i≠b:=fun i hi=>⟨(hS i hi).1,fun e=>(hS i hi).2 ((hb i).2 e)⟩
  obtain ⟨d,hd⟩:∃ d,d=evs G.len G.rep:=⟨_,rfl⟩
  have hds:d.size=l.length:=by rw [hd]; simp [evs]
  have hdg:∀ j (h1:j < d.size),(d[j]'h1).1=(l[j]'(by omega),css[j]'(by omega)):=fun j h1=>by subst hd; simp [evs]
  have hcz:=R.size
  have hcap:=R.cap
  have hH:HoldsK KAW 4 w b 0 d:=fun j hj=>by
   rw [size_flatK] at hj
   have hj4:j / 4 * 4+j % 4=j:=by omega
   have h1:j / 4 < d.size:=by omega
   have h2:=KFs d h1 (show j % 4 < 4 by omega)
   rw [hj4] at h2
   have h3:=Nt G.w4 (j / 4) (j % 4) (by omega)
   rw [hj4,List.getElem?_eq_getElem (l:=css) (i:=j / 4) (by omega)] at h3
   have hcs:(d[j / 4]'h1).1.2=css[j / 4]'(by omega):=by rw [hdg _ h1]
   have hsz:(css[j / 4]'(by omega)).size=4:=(G.w4 _ (List.getElem_mem _)).1
   have h4:=R.get j (flatK KAW 4 d)[j]! (by
    rw [h3,h2]
    simp only [hcs]
    exact Array.getElem?_eq_getElem (by rw [hsz]; omega))
   refine ⟨?_,?_⟩
   ·rw [Nat.zero_add,KBH,KS R.blk]
    exact h4
   ·rw [KGt,KV R.blk]
  have hblk:b < w.heap.size:=JX R.blk
  have hcon:=AnyQ.slices_SortFunc KCQ 4 Tryz.isAgg24 Tryz.sizeOf24 KAW (fun x=>by unfold KAW; rw [Array.length_toList]; exact x.2.size) (fun x=>x.2.to.one) KIM (KOo S w.heap) Zp #[] b 0 r.cap d w (enters_of Tryz.func13 (by kernel_rfl) rfl) (KNO hS') hH hblk (by omega)
  have hargs:(#[r.v,.func (.func Zp) #[] #[]]:Array Value)=#[.slice (some ⟨b,0,none⟩) d.size r.cap,.func (.func Zp) #[] #[]]:=by
   have:r.v=.slice (some ⟨b,0,none⟩) d.size r.cap:=by
    have h1:=R.base
    have h2:r.len=d.size:=by omega
    obtain ⟨rb,rl,rc⟩:=r
    simp only at h1 h2
    subst h1; subst h2
    rfl
   rw [this]
  rw [hargs]
  refine hcon.mono ?_
  rintro e w' ⟨rfl,d',n,os,⟨hp1,hp2,hp3⟩,hs,rfl⟩
  refine ⟨(),rfl,?_,⟨rfl,rfl,rfl,Nat.le_add_right _ _⟩⟩
  rw [← hp1,Array.extract_size,hp1,Array.extract_size] at hp3
  have hl':(d'.toList.map (fun p=>p.1.2)).length=(d'.toList.map (fun p=>p.1.1)).length:=by simp
  refine H _ (d'.toList.map (fun p=>p.1.2)) (d'.toList.map (fun p=>p.1.1)) ⟨.inr ⟨b,ty,_,R.base,R.lo,KPb R.blk,by rw [KEv]; exact R.size,R.cap,?_,?_⟩,?_,hl',?_⟩ ?_ ?_ KNN (fun i hi hno=>KBs hi (fun e=>hno ((hb i).2 e)))
  ·have hw4:W4 (d'.toList.map (fun p=>p.1.2)):=fun c hc=>by
    obtain ⟨p,_,rfl⟩:=List.mem_map.1 hc
    exact ⟨p.2.size,p.2.to.one⟩
   rw [Um hw4,List.length_map,Array.length_toList,hp1]; omega
  ·intro j v hj
   have hlt:=(List.getElem?_eq_some_iff.1 hj).1
   have hw4:W4 (d'.toList.map (fun p=>p.1.2)):=fun c hc=>by
    obtain ⟨p,_,rfl⟩:=List.mem_map.1 hc
    exact ⟨p.2.size,p.2.to.one⟩
   rw [Um hw4,List.length_map,Array.length_toList] at hlt
   have hj4:j / 4 * 4+j % 4=j:=by omega
   have h1:j / 4 < d'.size:=by omega
   have h2:=KFs d' h1 (show j % 4 < 4 by omega)
   have h3:=Nt hw4 (j / 4) (j % 4) (by omega)
   rw [hj4] at h2 h3
   rw [h3,List.getElem?_eq_getElem (l:=d'.toList.map (fun p=>p.1.2)) (i:=j / 4) (by simpa using h1)] at hj
   rw [KFt (by omega) (by rw [size_flatK]; omega),h2]
   simp only [List.getElem_map,Array.getElem_toList,Option.bind_some] at hj
   rw [← hj]
   exact (Array.getElem?_eq_getElem _).symm
  ·intro c hc
   obtain ⟨p,_,rfl⟩:=List.mem_map.1 hc
   exact ⟨p.2.size,p.2.to.one⟩
  ·intro j h1 h2
   simp only [List.getElem_map,Array.getElem_toList]
   exact (d'[j]'(by simpa using h1)).2.same (fun b1 hb1=>KBs (hS' b1 hb1).1 (hS' b1 hb1).2)
  ·have h1:=hp3.map (fun p=>p.1.1)
   have h2:d.toList.map (fun p=>p.1.1)=l:=by
    apply List.ext_getElem
    ·simp [hds]
    ·intro i i1 i2
     simp only [List.getElem_map,Array.getElem_toList]
     rw [hdg]
   rwa [h2] at h1
  ·rw [List.pairwise_map,List.pairwise_iff_getElem]
   intro i j i1 j1 hij
   have h1:=hs i j (Nat.zero_le _) hij (by rw [← hp1]; simpa using j1)
   rw [getElem!_pos d' i (by simpa using i1),getElem!_pos d' j (by simpa using j1)] at h1
   exact of_decide_eq_false h1
end Gx
namespace Gx
open Go
set_option linter.unusedVariables false
set_option linter.unusedSimpArgs false
theorem KKA {h:Heap} {k:Vl} {cs:Array Value} {Q:ByteArray→Heap→Prop} (hk:VRep h k cs) (hp:Vt h) (hd:X9 h) (hm:(txV k).length≤1099511627776) (H:∀ h',Ext h h'→Q (bs (txV k)) h'):(VD Go.Proofs.Tryz.prog (fun r:ByteArray=>.string r) (.func (.func Y1) #[] #[]) [.agg cs]).wp h Q :=
 XM zz (KBO cs) (N6 hk hp hd hm H)
theorem KKB {h:Heap} {v k:Vl} {c cs:Array Value} {b:Nat} {t:TypeId} {z:Nat × Nat} {Q:ByteArray→Heap→Prop} (hb:h[b]?=some (.cells c t z)) (hv:VRep h v c) (hk:VRep h k cs) (h5:v.k=5) (hp:Vt h) (hd:X9 h) (hw:wt v≤1048576) (H:∀ h',Ext h h'→Q (bs (Xs v k)) h') :
  (VD Go.Proofs.Tryz.prog (fun r:ByteArray=>.string r) (.func (.func VO) #[] #[.pointer (some ⟨b,0,none⟩)]) [.agg cs]).wp h Q:=by
 refine XM KAk (KBc cs ⟨b,0,none⟩) ?_
 unfold qV
 have KN:=KJ5 (k:=k) hv
 refine ZW (fun h1 e1 z1 g1=>zE (v:=v) (e1.blk hb) hv.size (zE (v:=k) g1 hk.size (KJ (KJV (hv.ext e1) (hk.ext e1) (by omega) (fun h2 c2 e2 hc2=>ZW (fun h3 e3 z3 g3=>?_))))))
 dsimp only
 refine JA hc2.size (stR (vs:=c2) g3 (by rw [hc2.size]; decide) hc2.one (fun h4 u4 g4=>?_))
 rw [ZD (by rw [Array.length_toList,hc2.size]; rfl),Array.toArray_toList] at g4
 have E4:Ext h2 h4:=e3.upd u4 (Nat.le_refl _)
 have E:=(e1.trans e2).trans E4
 obtain ⟨kk,n,s,l⟩:=v
 have hk5:kk=5:=h5
 rw [KJT hk5] at hc2 ⊢
 have hct:Xs (.mk kk n s l) k=match getV k l with | some x=>txV x | none=>[45]:=rfl
 rw [hct] at H KN
 cases hg:getV k l with
 | none =>
  rw [hg] at H
  exact iteF rfl (KG (H _ E))
 | some y =>
  rw [hg] at H KN hc2
  refine iteT rfl (zE (v:=y) g4 hc2.size (KJ (N6 (hc2.ext E4) (hp.ext E) (hd.ext E) ?_ (fun h5 e5=>KG (H _ (E.trans e5))))))
  have h9:(txt 8 y).length≤26 * wt (.mk kk n s l):=KN
  show (txt 8 y).length≤_
  omega
theorem KGn {h:Heap} {Q:ByteArray × Int→Heap→Prop} {x:Sl} {l:List Vl} (hx:VsRep h x l) (hp:Vt h) (hd:X9 h) (hW:wt.wts l≤1048576)
  (H1:∀ h',Ext h h'→Zr l≠0→Q (ByteArray.empty,Zr l) h')
  (H2:∀ h',Ext h h'→Zr l=0→KA9 l=false→Q (ByteArray.empty,21) h')
  (H3:∀ h' C,Ext h h'→Zr l=0→KA9 l=true→Cols l C→Q (bs (tabT C l),0) h'):(Vw x).wp h Q:=by
 have hwl:=Ns l
 have hkl:=KLX l
 have hxl:=hx.len
 unfold Vw
 refine ZW (fun h1 e1 z1 g1=>ZW (fun h2 e2 z2 g2=>?_))
 refine KJ (KCS ((hx.ext e1).ext e2) (fun h3 e3=>?_))
 have E3:=(e1.trans e2).trans e3
 have g1':=(e2.trans e3).blk g1
 have g2':=e3.blk g2
 have hs3:=e3.size
 refine Kc (fun hc=>?_) (fun hc=>?_)
 ·have hc:Zr l≠0:=by simpa using hc
  refine Vj (Ke g1') (KV g1') rfl ?_
  have u1:=Upd.hset h3 h.size 0 (.string ByteArray.empty)
  have d1:=G8 (u:=.string ByteArray.empty) g1'
  generalize hset h3 ⟨h.size,0,none⟩ (.string ByteArray.empty)=h4 at u1 d1 ⊢
  have g2'':h4[h1.size]?=_:=(u1.ne _ (by omega)).trans g2'
  refine Vj (Ke g2'') (KV g2'') rfl ?_
  have u2:=Upd.hset h4 h1.size 0 (.int .i64 (Zr l))
  have d2:=G8 (u:=.int .i64 (Zr l)) g2''
  generalize hset h4 ⟨h1.size,0,none⟩ (.int .i64 (Zr l))=h5 at u2 d2 ⊢
  have d1':h5[h.size]?=_:=(u2.ne _ (by omega)).trans d1
  refine KJ (KG (Gg (n:=ByteArray.empty) (Ke d1') (Jc (n:=Zr l) (Ke d2) (KG (H1 _ ?_ hc)))))
  exact (E3.upd u1 (Nat.le_refl _)).upd u2 (by omega)
 have hc:Zr l=0:=by simpa using hc
 refine ZW (fun h4 e4 z4 g4=>?_)
 have B:Blks h h.size h1.size h3.size:=⟨Nat.le_refl _,by omega,by omega⟩
 have T0:TJ h h.size h1.size h3.size [] (fun _=>False) [] h4:=⟨E3.trans e4,⟨_,e4.blk g1'⟩,⟨_,e4.blk g2'⟩,⟨Sl.nil,[],g4,VGw.nil _ _ _,fun _ h=>h.elim⟩,fun b hb=>by cases hb⟩
 have hvr:∀ v ∈ l,∃ h cs,VRep h v cs:=fun v hv=>by
  obtain ⟨j,hj,rfl⟩:=List.getElem_of_mem hv
  obtain ⟨a,c,_,_,_,hv'⟩:=hx.get hj
  exact ⟨h,c,hv'⟩
 refine M.loop_inv (fun (s:List Nat × Int) hh=>∃ i:Nat,s.2=(i:Int)∧i≤l.length∧TJ h h.size h1.size h3.size s.1 (fun _=>False) (Vg (l.take i)) hh∧KA9 (l.take i)=true∧s.1.Nodup∧∀ b ∈ s.1,h.size≤b) (fun s _=>((l.length:Int) - s.2).toNat) ?_ ⟨0,rfl,Nat.zero_le _,by simpa [Vg] using T0,by simp [KA9],List.nodup_nil,fun b hb=>by cases hb⟩
 rintro ⟨xm,t⟩ hh ⟨i,ht,hi,T,hok,hnd,hge0⟩ self hself
 have ht:t=(i:Int):=ht
 have T:TJ h h.size h1.size h3.size xm (fun _=>False) (Vg (l.take i)) hh:=T
 have hnd:xm.Nodup:=hnd
 have hge0:∀ b ∈ xm,h.size≤b:=hge0
 subst ht
 unfold WQ
 rw [hxl]
 have refused:∀ {ym:List Nat} {hz:Heap},TE h h.size h1.size ym hz→ym.Nodup→(∀ b ∈ ym,h.size≤b)→KA9 l=false→(shut ym>>=fun _=>ldS ⟨h.size,0,none⟩>>=fun r2=>ldI .i64 ⟨h1.size,0,none⟩>>=fun r3=>M.pure (r2,r3)).wp hz Q:=fun {ym hz} TEz nd hge hbad=>by
  refine KJ (KCm nd TEz.df (fun h9 s9 n9=>?_))
  have d2:h9[h.size]?=_:=(n9 _ (fun hm=>by have:=TEz.df _ hm; rw [TEz.c2] at this; cases this)).trans TEz.c2
  have d3:h9[h1.size]?=_:=(n9 _ (fun hm=>by have:=TEz.df _ hm; rw [TEz.c3] at this; cases this)).trans TEz.c3
  refine Gg (n:=ByteArray.empty) (Ke d2) (Jc (n:=21) (Ke d3) (KG (H2 _ ⟨by rw [s9]; exact TEz.ext.size,fun j hj=>?_⟩ hc hbad)))
  exact (n9 j (fun hm=>by have:=hge j hm; omega)).trans (TEz.ext.same j hj)
 refine Kc (fun hlt=>?_) (fun hend=>?_)
 ·have hlt:i < l.length:=by have:=of_decide_eq_true hlt; omega
  have hxS:VsRepS (· < h.size) hh x l:=hx.lt.same (fun b hb=>T.ext.same b hb) (fun _ h=>h)
  obtain ⟨a,cs,ha,hS,hs,hcs,hv⟩:=hxS.get hlt
  refine Xl (by omega) (by omega) ha (UW hs (fun j hj=>by rw [Addr.add_add,show (i:Int).toNat * 4=i * 4 by omega]; exact hcs j hj) (ZW (fun hA eA zA gA=>JA hs (stR (vs:=cs) gA (by rw [hs]; decide) hv.to.one (fun hB uB gB=>?_)))))
  rw [ZD (by rw [Array.length_toList,hs]; rfl),Array.toArray_toList] at gB
  have EB:Ext hh hB:=eA.upd uB (Nat.le_refl _)
  have TB:=T.more EB
  have hvB:ZK (· < h.size) hB l[i] cs:=hv.same (fun b hb=>EB.same b (Nat.lt_of_lt_of_le hb T.ext.size))
  have htk:=KIL hlt
  rw [hok,Bool.true_and] at htk
  have hbad:=KJ8 hlt
  have hkt:=KGm hlt
  have hwi:=zH (List.getElem_mem hlt)
  have hkp:=KDp l (i+1)
  have hkp0:=KDp l i
  generalize hvi:l[i]=vi at *
  obtain ⟨k,n,s,lv⟩:=vi
  obtain ⟨xs,rfl,k1,n1,s1,r1⟩:=ZK.eq.1 hvB
  have c0:KN hB ((⟨hh.size,0,none⟩:Addr).add 0)=some (.int .i64 k):=by rw [Kt gB]; rfl
  have c3:KN hB ((⟨hh.size,0,none⟩:Addr).add 3)=some xs.v:=by rw [Kt gB]; rfl
  refine Jc c0 (Kc (fun hk=>?_) (fun hk=>?_))
  ·have hk:¬ k=5:=by simpa using hk
   refine KHd B TB (fun hC TC hne=>?_)
   exact refused TC hnd hge0 (hbad (by rw [show (Vl.mk k n s lv).k=k from rfl,decide_eq_false hk]; rfl))
  ·have hk:k=5:=by simpa using hk
   refine Jp c3 (KJ ?_)
   unfold Zw
   refine ZW (fun hC eC zC gC=>ZW (fun hD eD zD gD=>?_))
   refine Jc (n:=2) (Ke gD) (iteF (by decide) (KG (KJ ?_)))
   have ED:=eC.trans eD
   have TD:=TB.more ED
   have hsT:=T.ext.size
   have hsB:=EB.size
   have hwt:wt (.mk k n s lv)=1+s.length+wt.wts lv:=by rw [wt]
   have hlv:=Ns lv
   have hevl:=Xj lv
   rw [hkt] at hkp
   have hkl2:((Vg (l.take i))++Vf lv).length≤(Vg l).length:=hkp
   rw [List.length_append] at hkl2
   obtain ⟨_,_,cD5,_,_⟩:=TB.c5
   have s5:=JX cD5
   have TD':TJ h h.size h1.size h3.size xm (fun j=>j=hB.size∨j=hC.size) (Vg (l.take i)) hD:=by
    obtain ⟨r0,css,d5,G,off⟩:=TB.c5
    refine ⟨TD.ext,TD.c2,TD.c3,⟨r0,css,ED.blk d5,G.same (fun y hy=>ED.same y (G.gw.lt hy).1) (fun y hy=>ED.same y (by omega)),fun j hj ho=>?_⟩,TD.df⟩
    have:=(G.gw.lt ho).1
    rcases hj with rfl | rfl
    ·omega
    ·have:=eC.size; omega
   refine KJ9 (a:=hB.size) (b:=hC.size) (lv:=lv) B TD' (r1.same (fun y hy=>ED.same y (by omega)) (fun _ h=>h)) (by omega) (by omega) (eD.blk gC) gD (by omega) (by have:=eC.size; omega) (fun hE hall hsz TE'=>?_) (fun hE hall TE'=>?_)
   ·refine iteF rfl ?_
    rw [w64 (by omega) (by omega)]
    have hsD:=ED.size
    refine hself (_,_) _ ⟨i+1,by simp,by omega,?_,?_,?_,?_⟩ (by dsimp only; omega)
    ·dsimp only
     rw [hkt]; exact TE'
    ·rw [htk]
     show (decide (k=5) && (Vf lv).all _)=true
     rw [decide_eq_true hk,hall]; rfl
    ·refine List.nodup_cons.2 ⟨fun hm=>?_,hnd⟩
     have:=JX (T.df _ hm); omega
    ·intro b hb
     rcases List.mem_cons.1 hb with rfl | hb
     ·omega
     ·exact hge0 b hb
   ·refine iteT rfl ?_
    have hsD:=ED.size
    refine refused TE' (List.nodup_cons.2 ⟨fun hm=>?_,hnd⟩) (fun b hb=>?_) (hbad (by
     show (decide (k=5) && (Vf lv).all _)=false
     rw [hall,Bool.and_false]))
    ·have:=JX (T.df _ hm); omega
    ·rcases List.mem_cons.1 hb with rfl | hb
     ·omega
     ·exact hge0 b hb
 ·have hge:i=l.length:=by have:=of_decide_eq_false hend; omega
  subst hge
  rw [List.take_length] at T hok
  obtain ⟨r,css,c5,G,_⟩:=T.c5
  have s5:=JX c5
  have hsT:=T.ext.size
  have hnr:∀ b,b≤h3.size→¬ Sl.on r b:=fun b hb ho=>by have:=(G.gw.lt ho).2; omega
  refine Jp (Ke c5) (KJ (KIO G (fun b hb=>⟨by omega,hnr b (by omega)⟩) (by omega) (fun hA css1 l1 G1 hperm hpw szA sameA=>?_)))
  have c5A:hA[h3.size]?=_:=(sameA _ s5 (hnr _ (Nat.le_refl _))).trans c5
  have hlen1:l1.length=(Vg l).length:=hperm.length_eq
  refine Jp (Ke c5A) (KJ (KFo G1 (fun b hb=>⟨by omega,hnr b (by omega)⟩) (by omega) (fun hB r2 css2 G2 szB sameB onB=>?_)))
  have c5B:hB[h3.size]?=_:=(sameB _ (by omega) (hnr _ (Nat.le_refl _))).trans c5A
  have hnr2:∀ b,b≤h3.size→¬ Sl.on r2 b:=fun b hb ho=>hnr b hb (onB b ho)
  refine Vj (Ke c5B) (KV c5B) (KAg _) ?_
  have uC:=Upd.hset hB h3.size 0 r2.v
  have c5C:=G8 (u:=r2.v) c5B
  generalize hset hB ⟨h3.size,0,none⟩ r2.v=hC at uC c5C ⊢
  have G3:VGw (h3.size+1) (· < h.size) hC r2 css2 (cpt l1):=G2.same (fun b hb=>uC.ne b (fun e=>hnr2 h3.size (Nat.le_refl _) (e ▸ hb))) (fun b hb=>uC.ne b (by omega))
  have keep:∀ b,b < hh.size→b≠h3.size→¬ Sl.on r b→hC[b]?=hh[b]?:=fun b hb hne hno=>by
   rw [uC.ne b hne,sameB b (by omega) hno,sameA b hb hno]
  have EC:Ext h hC:=⟨by have:=uC.size; omega,fun b hb=>(keep b (by omega) (by omega) (hnr b (by omega))).trans (T.ext.same b hb)⟩
  obtain ⟨sx,c2⟩:=T.c2
  obtain ⟨nx,c3⟩:=T.c3
  have c2C:hC[h.size]?=_:=(keep _ (by omega) (by omega) (hnr _ (by omega))).trans c2
  have c3C:hC[h1.size]?=_:=(keep _ (by omega) (by omega) (hnr _ (by omega))).trans c3
  have dfC:∀ b ∈ xm,hC[b]?=some (.deferred (some [])):=fun b hb=>by
   have hd:=T.df b hb
   refine (keep b (JX hd) (fun e=>by rw [e,c5] at hd; cases hd) (fun ho=>?_)).trans hd
   rcases G.gw with ⟨hn,_⟩ | ⟨g,ty,cells,R⟩
   ·rw [hn] at ho; obtain ⟨a1,ha1,_⟩:=ho; cases ha1
   ·obtain ⟨a1,ha1,ha2⟩:=ho
    rw [R.base] at ha1; cases ha1
    have:b=g:=ha2.symm
    rw [this,R.blk] at hd; cases hd
  have hcols:Cols l (cpt l1):=⟨(KGk l1 hpw).1,fun y=>((KGk l1 hpw).2 y).trans hperm.mem_iff⟩
  have hCl:(cpt l1).length≤wt.wts l:=by have:=KJ2 l1; omega
  have htab:=KNK hvr hCl (fun k hk=>(hcols.2 k).1 hk) hW
  have hCr:VsRep hC r2 (cpt l1):=(G3.rep_ (by omega)).to
  have hpC:=hp.ext EC
  have hdC:=hd.ext EC
  refine ZW (fun hD eD zD gD=>?_)
  have W0:BW hC hC.size h3.size _ hD Sl.nil []:=⟨Bld.new (Nat.le_refl _) gD,eD,eD.blk c5C,fun ⟨a1,ha1,_⟩=>(by cases ha1),by have:=JX c5C; omega⟩
  have hpre:=KGl (C:=cpt l1) (l:=l) 0
  simp only [List.take_zero,List.flatMap_nil,List.append_nil] at hpre
  refine KJ (XM GO (NC (.func (.func Y1) #[] #[]) ⟨h3.size,0,none⟩ ⟨hC.size,0,none⟩) (KFp (T:=(cpt l1).map txV) W0 (Ke c5C) hCr (by simp) (fun j hj hj' hx1 cs Q1 ex1 bx1 hk hq=>?_) (by rw [List.nil_append]; omega) (by omega) (fun hE rrE WE=>?_)))
  ·rw [List.getElem_map] at hq
   refine KKA hk (hpC.ext ex1) (hdC.ext ex1) ?_ hq
   obtain ⟨a1,b1⟩:=KJ7 ((hcols.2 (cpt l1)[j]).1 (List.getElem_mem hj))
   have:=KDo 8 _ hk
   show (txt 8 _).length≤_
   omega
  rw [List.nil_append] at WE
  refine M.loop_inv (fun (s:Int) hz=>∃ m:Nat,s=(m:Int)∧m≤l.length∧∃ rr,BW hC hC.size h3.size (.cells #[r2.v] Zm (0,0)) hz rr (YX ((cpt l1).map txV)++(l.take m).flatMap (fun v=>YX ((cpt l1).map (Xs v))))) (fun s _=>((l.length:Int) - s).toNat) ?_ ⟨0,rfl,Nat.zero_le _,rrE,by simpa using WE⟩
  rintro s hz ⟨m,rfl,hm,rr,W⟩ self3 hself3
  unfold WP
  dsimp only
  have hpm:=KGl (C:=cpt l1) (l:=l) m
  refine Kc (fun hlt=>?_) (fun hend=>?_)
  ·have hlt:m < l.length:=by have:=of_decide_eq_true hlt; omega
   have hpm1:=KGl (C:=cpt l1) (l:=l) (m+1)
   have htk:(l.take (m+1)).flatMap (fun v=>YX ((cpt l1).map (Xs v)))=(l.take m).flatMap (fun v=>YX ((cpt l1).map (Xs v)))++YX ((cpt l1).map (Xs l[m])):=by
    rw [List.take_succ_eq_append_getElem hlt,List.flatMap_append]; simp
   rw [htk,← List.append_assoc] at hpm1
   have Ez:Ext h hz:=EC.trans W.ext
   have hxS:VsRepS (· < h.size) hz x l:=hx.lt.same (fun b hb=>Ez.same b hb) (fun _ h=>h)
   obtain ⟨a,cs,ha,hS,hs,hcs,hv⟩:=hxS.get hlt
   refine Xl (by omega) (by omega) ha (UW hs (fun j hj=>by rw [Addr.add_add,show (m:Int).toNat * 4=m * 4 by omega]; exact hcs j hj) (ZW (fun hF eF zF gF=>JA hs (stR (vs:=cs) gF (by rw [hs]; decide) hv.to.one (fun hG uG gG=>?_)))))
   rw [ZD (by rw [Array.length_toList,hs]; rfl),Array.toArray_toList] at gG
   have EG:Ext hz hG:=eF.upd uG (Nat.le_refl _)
   have WG:=W.more EG
   have hbz:=W.bld.lt
   have WG':BW hC hC.size hz.size (.cells cs KB (0,0)) hG rr (YX ((cpt l1).map txV)++(l.take m).flatMap (fun v=>YX ((cpt l1).map (Xs v)))):=⟨WG.bld,WG.ext,gG,fun ho=>by have:=(W.bld.row.lt ho).1; omega,by omega⟩
   have h5k:l[m].k=5:=by
    have:=hok
    unfold KA9 at this
    rw [List.all_eq_true] at this
    have:=this l[m] (List.getElem_mem hlt)
    rw [Bool.and_eq_true] at this
    exact of_decide_eq_true this.1
   have hwm:=zH (List.getElem_mem hlt)
   refine KJ (XM GO (NC (.func (.func VO) #[] #[.pointer (some ⟨hz.size,0,none⟩)]) ⟨h3.size,0,none⟩ ⟨hC.size,0,none⟩) (KFp (T:=(cpt l1).map (Xs l[m])) WG' (Ke c5C) hCr (by simp) (fun j hj hj' hx1 cs1 Q1 ex1 bx1 hk hq=>?_) (by omega) (by omega) (fun hH rrH WH=>?_)))
   ·rw [List.getElem_map] at hq
    exact KKB bx1 (hv.same (fun b hb=>((EC.trans ex1).same b hb).trans (Ez.same b hb).symm)).to hk h5k (hpC.ext ex1) (hdC.ext ex1) (by omega) hq
   ·rw [w64 (by omega) (by omega)]
    refine hself3 _ _ ⟨m+1,by simp,by omega,rrH,?_⟩ (by omega)
    rw [htk,← List.append_assoc]
    have hb5:=JX c5C
    exact ⟨WH.bld,WH.ext,WH.ext.blk c5C,fun ho=>by have:=(WH.bld.row.lt ho).2; omega,by omega⟩
  ·have hge:m=l.length:=by have:=of_decide_eq_false hend; omega
   subst hge
   rw [List.take_length] at W
   refine KJ (Nv W.bld (by unfold tabT at htab; omega) (fun hI KI szI=>?_))
   have EI:=KI.ext W.ext W.bld (Nat.le_refl _)
   have c2I:=EI.blk c2C
   refine Vj (Ke c2I) (KV c2I) rfl ?_
   have u1:=Upd.hset hI h.size 0 (.string (bs (YX ((cpt l1).map txV)++l.flatMap (fun v=>YX ((cpt l1).map (Xs v))))))
   have d1:=G8 (u:=.string (bs (YX ((cpt l1).map txV)++l.flatMap (fun v=>YX ((cpt l1).map (Xs v)))))) c2I
   generalize hset hI ⟨h.size,0,none⟩ (.string (bs (YX ((cpt l1).map txV)++l.flatMap (fun v=>YX ((cpt l1).map (Xs v))))))=hJ at u1 d1 ⊢
   have c3J:hJ[h1.size]?=_:=(u1.ne _ (by omega)).trans (EI.blk c3C)
   refine Vj (Ke c3J) (KV c3J) rfl ?_
   have u2:=Upd.hset hJ h1.size 0 (.int .i64 0)
   have d2:=G8 (u:=.int .i64 0) c3J
   generalize hset hJ ⟨h1.size,0,none⟩ (.int .i64 0)=hK at u2 d2 ⊢
   have d1':hK[h.size]?=_:=(u2.ne _ (by omega)).trans d1
   have dfK:∀ b ∈ xm,hK[b]?=some (.deferred (some [])):=fun b hb=>by
    have hd:=EI.blk (dfC b hb)
    rw [u2.ne b (fun e=>by rw [e] at hd; rw [EI.blk c3C] at hd; cases hd),u1.ne b (fun e=>by rw [e] at hd; rw [c2I] at hd; cases hd)]
    exact hd
   refine KJ (KCm hnd dfK (fun hL sL nL=>?_))
   have f2:hL[h.size]?=_:=(nL _ (fun hm=>by have:=dfK _ hm; rw [d1'] at this; cases this)).trans d1'
   have f3:hL[h1.size]?=_:=(nL _ (fun hm=>by have:=dfK _ hm; rw [d2] at this; cases this)).trans d2
   refine Gg (Ke f2) (Jc (n:=0) (Ke f3) (KG (H3 hL (cpt l1) ?_ hc hok hcols)))
   have EK:Ext h hK:=((EC.trans EI).upd u1 (Nat.le_refl _)).upd u2 (by omega)
   exact ⟨by rw [sL]; exact EK.size,fun j hj=>(nL j (fun hm=>by have:=hge0 j hm; omega)).trans (EK.same j hj)⟩
end Gx
namespace Gx
open Go
set_option linter.unusedVariables false
set_option linter.unusedSimpArgs false
def Xk (l:List Vl):List UInt8:=l.flatMap (fun v=>txV v++[10])
theorem KFu {l:List Vl} (hr:∀ v ∈ l,∃ h cs,VRep h v cs):(Xk l).length≤26 * wt.wts l:=by
 induction l with
 | nil=>simp [Xk]
 | cons v l ih =>
  have ih:=ih (fun x hx=>hr x (List.mem_cons_of_mem _ hx))
  obtain ⟨h,cs,hv⟩:=hr v (by simp)
  have:=KDo 8 v hv
  unfold Xk at ih ⊢
  rw [List.flatMap_cons,List.length_append,List.length_append,wt.wts]
  show (txt 8 v).length+_+_≤_
  simp only [List.length_cons,List.length_nil]
  omega
theorem KCn {h:Heap} {Q:ByteArray × Int→Heap→Prop} {x:Sl} {l:List Vl} (hx:VsRep h x l) (hp:Vt h) (hd:X9 h) (hT:(Xk l).length≤68719476736) (hwl:l.length≤1099511627776)
  (H1:∀ h',Ext h h'→Zr l≠0→Q (ByteArray.empty,Zr l) h')
  (H3:∀ h',Ext h h'→Zr l=0→Q (bs (Xk l),0) h'):(Ue x).wp h Q:=by
 unfold Ue
 have hxl:=hx.len
 refine KJ (KCS hx (fun h1 e1=>?_))
 refine Kc (fun hc=>KG (H1 _ e1 (by simpa using hc))) (fun hc=>?_)
 have hc:Zr l=0:=by simpa using hc
 refine ZW (fun h2 e2 z2 g2=>?_)
 have E2:=e1.trans e2
 have hpre:∀ i,(Xk (l.take i)).length≤(Xk l).length:=fun i=>by
  unfold Xk
  conv=>rhs; rw [← List.take_append_drop i l,List.flatMap_append,List.length_append]
  omega
 refine M.loop_inv (fun (s:Int) hh=>∃ (i:Nat) (r:Sl),s=(i:Int)∧i≤l.length∧Ext h1 hh∧Bld h1.size hh h1.size r (Xk (l.take i))) (fun s _=>((l.length:Int) - s).toNat) ?_ ⟨0,Sl.nil,rfl,Nat.zero_le _,e2,by simpa [Xk] using Bld.new (Nat.le_refl _) g2⟩
 rintro s hh ⟨i,r,rfl,hi,E,B⟩ self hself
 unfold GB
 rw [hxl]
 have hpi:=hpre i
 refine Kc (fun hlt=>?_) (fun hend=>?_)
 ·have hlt:i < l.length:=by have:=of_decide_eq_true hlt; omega
  have hpi1:=hpre (i+1)
  have htk:Xk (l.take (i+1))=Xk (l.take i)++txV l[i]++[10]:=by
   unfold Xk
   rw [List.take_succ_eq_append_getElem hlt,List.flatMap_append]; simp
  rw [htk,List.length_append,List.length_append] at hpi1
  have E0:=e1.trans E
  refine KBe (hx.ext E0) hlt rfl (fun a cs hs hcs hv=>UW hs hcs (ZW (fun h3 e3 z3 g3=>JA hs (stR (vs:=cs) g3 (by rw [hs]; decide) hv.one (fun h4 u4 g4=>?_)))))
  rw [ZD (by rw [Array.length_toList,hs]; rfl),Array.toArray_toList] at g4
  have E4:Ext hh h4:=e3.upd u4 (Nat.le_refl _)
  refine zE (v:=l[i]) g4 hs (KJ (N6 (hv.ext E4) (hp.ext (E0.trans E4)) (hd.ext (E0.trans E4)) ?_ (fun h5 e5=>?_)))
  ·omega
  ·have B5:=(B.ext E4).ext e5
   have E5:=(E.trans E4).trans e5
   simp only [List.length_cons,List.length_nil] at hpi1
   refine KJ (Ve B5 E5.size (by omega) (fun h6 r6 n6 B6 K6=>?_))
   have E6:=K6.ext E5 B5 (Nat.le_refl _)
   refine KJ (YB (c:=10) B6 E6.size (by rw [List.length_append]; omega) rfl (fun h7 r7 B7 K7=>?_))
   rw [w64 (by omega) (by omega)]
   exact hself _ _ ⟨i+1,r7,by simp,by omega,K7.ext E6 B6 (Nat.le_refl _),by rw [htk]; exact B7⟩ (by omega)
 ·have hge:i=l.length:=by have:=of_decide_eq_false hend; omega
  subst hge
  rw [List.take_length] at B
  exact KJ (Nv B (by omega) (fun h3 K3 _=>KG (H3 _ (e1.trans (K3.ext E B (Nat.le_refl _))) hc)))
theorem KDq {h:Heap} {Q:ByteArray × Int→Heap→Prop} {x:Sl} {l:List Vl} (hx:VsRep h x l) (hp:Vt h) (hd:X9 h) (hW:wt.wts l≤1099511627)
  (H1:∀ h',Ext h h'→Zr l≠0→Q (ByteArray.empty,Zr l) h')
  (H3:∀ h',Ext h h'→Zr l=0→Q (bs (Xk l),0) h'):(Ue x).wp h Q:=by
 have hvr:∀ v ∈ l,∃ h cs,VRep h v cs:=fun v hv=>by
  obtain ⟨j,hj,rfl⟩:=List.getElem_of_mem hv
  obtain ⟨a,c,_,_,_,hv'⟩:=hx.get hj
  exact ⟨h,c,hv'⟩
 have hT:=KFu hvr
 have hwl:=Ns l
 exact KCn hx hp hd (by omega) (by omega) H1 H3
end Gx
namespace Gx
open Go
set_option linter.unusedVariables false
set_option linter.unusedSimpArgs false
def vS (s:List UInt8):Vl:=.mk 2 0 s []
def vI (n:Int):Vl:=.mk 1 n [] []
def vM (l:List Vl):Vl:=.mk 5 0 [] l
def bm1:Vl:=vM [vS [120],vI 1]
def bm2:Vl:=vM [vS [121],vI 2]
theorem KLa:Zr [bm1,bm2]=0:=by
 simp [Zr,ND,bm1,bm2,vM,vS,vI,mayV,KEa,KAP]
theorem KPc:KA9 [bm1,bm2]=true:=by
 simp [KA9,bm1,bm2,vM,vS,vI,Vf,Vl.k,Vl.l]
theorem KNP:Vg [bm1,bm2]=[vS [120],vS [121]]:=by
 simp [Vg,bm1,bm2,vM,vS,vI,Vf,Vl.l]
theorem KPd:cmpV (vS [120]) (vS [121])=-1:=by
 unfold vS
 rw [zL]
 rfl
theorem KNQ:Cols [bm1,bm2] [vS [120],vS [121]]:=by
 refine ⟨?_,fun x=>by rw [KNP]⟩
 unfold Inc
 rw [List.pairwise_cons]
 refine ⟨fun y hy=>?_,List.pairwise_singleton _ _⟩
 simp at hy
 subst hy
 rw [KPd]; decide
theorem KLb (s t:List UInt8):cmpV (vS s) (vS t)=0↔s=t:=by
 rw [KCj]; simp [vS]
theorem KBA:Lib.itoa 1=[49]∧Lib.itoa 2=[50]:=by
 constructor <;> simp [Lib.itoa,Lib.decDigits]
theorem KOp (s:List UInt8):txV (vS s)=VN s:=by simp [txt,vS]
theorem KNR (n:Int):txV (vI n)=Lib.itoa n:=by simp [txt,vI]
theorem KOq:tabT [vS [120],vS [121]] [bm1,bm2]=[39,120,39,32,124,32,39,121,39,10,49,32,124,32,45,10,45,32,124,32,50,10]:=by
 have h1:Xs bm1 (vS [120])=[49]:=by
  show (match getV (vS [120]) [vS [120],vI 1] with | some x=>txV x | none=>[45])=_
  rw [getV,if_pos ((KLb _ _).2 rfl)]
  show txV (vI 1)=_
  rw [KNR,KBA.1]
 have h2:Xs bm1 (vS [121])=[45]:=by
  show (match getV (vS [121]) [vS [120],vI 1] with | some x=>txV x | none=>[45])=_
  rw [getV,if_neg (fun h=>by have:=(KLb _ _).1 h; simp at this)]
  rfl
 have h3:Xs bm2 (vS [120])=[45]:=by
  show (match getV (vS [120]) [vS [121],vI 2] with | some x=>txV x | none=>[45])=_
  rw [getV,if_neg (fun h=>by have:=(KLb _ _).1 h; simp at this)]
  rfl
 have h4:Xs bm2 (vS [121])=[50]:=by
  show (match getV (vS [121]) [vS [121],vI 2] with | some x=>txV x | none=>[45])=_
  rw [getV,if_pos ((KLb _ _).2 rfl)]
  show txV (vI 2)=_
  rw [KNR,KBA.2]
 have q1:VN [120]=[39,120,39]:=by decide
 have q2:VN [121]=[39,121,39]:=by decide
 simp only [tabT,List.map_cons,List.map_nil,List.flatMap_cons,List.flatMap_nil,YX,jn,KOp,h1,h2,h3,h4,q1,q2]
 decide
theorem KKC:Zr [vI 1,vS [97]]=0∧Xk [vI 1,vS [97]]=[49,10,39,97,39,10]:=by
 refine ⟨by simp [Zr,ND,vS,vI,mayV,KEa],?_⟩
 have q:VN [97]=[39,97,39]:=by decide
 simp only [Xk,List.flatMap_cons,List.flatMap_nil,KOp,KNR,KBA.1,q]
 decide
end Gx
namespace Gx
open Go
set_option linter.unusedVariables false
set_option linter.unusedSimpArgs false
theorem KFv {h:Heap} {Q:Bool→Heap→Prop} (hp:Vt h) (hd:X9 h) (H:∀ h',Ext h h'→Q true h'):(UQ).wp h Q:=by
 unfold UQ
 have vm:∀ {S:Nat→Prop} {hh:Heap} {x:Sl} {l:List Vl},VsRepS S hh x l→ZK S hh (vM l) (#[.int .i64 5,.int .i64 0,.string ByteArray.empty,x.v]:Array Value):=fun {S hh x l} hx =>
  ZK.eq.2 ⟨x,rfl,⟨by decide,by decide⟩,⟨by decide,by decide⟩,by decide,hx⟩
 have mone:∀ (x:Sl),∀ v ∈ (#[.int .i64 5,.int .i64 0,.string ByteArray.empty,x.v]:Array Value).toList,one v=true:=fun x v hv=>by
  simp only [List.mem_cons,List.not_mem_nil,or_false] at hv
  rcases hv with rfl | rfl | rfl | rfl <;> first | rfl | exact KAg _
 refine KJ (KCf (s:=[120]) (by decide) (fun h1 c1 e1 r1=>KJ (KCg (n:=1) ⟨by decide,by decide⟩ (fun h2 c2 e2 r2=>?_))))
 have R1:=r1 (fun _=>True) h2
 have R2:=r2 (fun _=>True) h2
 refine KBp R1.size R2.size (KAf ?_)
 have e3:=Ext.push h2 (.cells (c1++c2) KB)
 have g3:(h2.push (.cells (c1++c2) KB))[h2.size]?=some (.cells (c1++c2) KB (0,0)):=Ko
 generalize h2.push (.cells (c1++c2) KB)=h3 at e3 g3 ⊢
 refine ZW (fun h4 e4 z4 g4=>JA rfl (stR (vs:=(#[.int .i64 5,.int .i64 0,.string ByteArray.empty,(⟨some ⟨h2.size,0,none⟩,2,2⟩:Sl).v]:Array Value)) (off:=0) g4 (Nat.le_refl 4) (mone _) (fun h5 u5 g5=>?_)))
 rw [ZD (by rfl)] at g5
 have E5:Ext h3 h5:=e4.upd u5 (Nat.le_refl _)
 refine KJ (KCf (s:=[121]) (by decide) (fun h6 c6 e6 r6=>KJ (KCg (n:=2) ⟨by decide,by decide⟩ (fun h7 c7 e7 r7=>?_))))
 have R6:=r6 (fun _=>True) h7
 have R7:=r7 (fun _=>True) h7
 refine KBp R6.size R7.size (KAf ?_)
 have e8:=Ext.push h7 (.cells (c6++c7) KB)
 have g8:(h7.push (.cells (c6++c7) KB))[h7.size]?=some (.cells (c6++c7) KB (0,0)):=Ko
 generalize h7.push (.cells (c6++c7) KB)=h8 at e8 g8 ⊢
 refine ZW (fun h9 e9 z9 g9=>JA rfl (stR (vs:=(#[.int .i64 5,.int .i64 0,.string ByteArray.empty,(⟨some ⟨h7.size,0,none⟩,2,2⟩:Sl).v]:Array Value)) (off:=0) g9 (Nat.le_refl 4) (mone _) (fun h10 u10 g10=>?_)))
 rw [ZD (by rfl)] at g10
 have E10:Ext h8 h10:=e9.upd u10 (Nat.le_refl _)
 have E510:Ext h5 h10:=((e6.trans e7).trans e8).trans E10
 have g5':=E510.blk g5
 refine UW (cs:=(#[.int .i64 5,.int .i64 0,.string ByteArray.empty,(⟨some ⟨h2.size,0,none⟩,2,2⟩:Sl).v]:Array Value)) rfl (fun j hj=>by rw [Kt g5']) (UW (cs:=(#[.int .i64 5,.int .i64 0,.string ByteArray.empty,(⟨some ⟨h7.size,0,none⟩,2,2⟩:Sl).v]:Array Value)) rfl (fun j hj=>by rw [Kt g10]) ?_)
 have M1:ZK (fun _=>True) h10 bm1 (#[.int .i64 5,.int .i64 0,.string ByteArray.empty,(⟨some ⟨h2.size,0,none⟩,2,2⟩:Sl).v]:Array Value):=vm ((KEp (va:=vS [120]) (vb:=vI 1) ((E5.trans E510).blk g3) (r1 (fun _=>True) h10) (r2 (fun _=>True) h10)).same (fun _ _=>rfl) (fun _ _=>trivial))
 have M2:ZK (fun _=>True) h10 bm2 (#[.int .i64 5,.int .i64 0,.string ByteArray.empty,(⟨some ⟨h7.size,0,none⟩,2,2⟩:Sl).v]:Array Value):=vm ((KEp (va:=vS [121]) (vb:=vI 2) (E10.blk g8) (r6 (fun _=>True) h10) (r7 (fun _=>True) h10)).same (fun _ _=>rfl) (fun _ _=>trivial))
 refine KBp rfl rfl (KAf ?_)
 have e11:=Ext.push h10 (.cells ((#[.int .i64 5,.int .i64 0,.string ByteArray.empty,(⟨some ⟨h2.size,0,none⟩,2,2⟩:Sl).v]:Array Value)++(#[.int .i64 5,.int .i64 0,.string ByteArray.empty,(⟨some ⟨h7.size,0,none⟩,2,2⟩:Sl).v]:Array Value)) KB)
 have g11:(h10.push (.cells ((#[.int .i64 5,.int .i64 0,.string ByteArray.empty,(⟨some ⟨h2.size,0,none⟩,2,2⟩:Sl).v]:Array Value)++(#[.int .i64 5,.int .i64 0,.string ByteArray.empty,(⟨some ⟨h7.size,0,none⟩,2,2⟩:Sl).v]:Array Value)) KB))[h10.size]?=some (.cells ((#[.int .i64 5,.int .i64 0,.string ByteArray.empty,(⟨some ⟨h2.size,0,none⟩,2,2⟩:Sl).v]:Array Value)++(#[.int .i64 5,.int .i64 0,.string ByteArray.empty,(⟨some ⟨h7.size,0,none⟩,2,2⟩:Sl).v]:Array Value)) KB (0,0)):=Ko
 generalize h10.push (.cells ((#[.int .i64 5,.int .i64 0,.string ByteArray.empty,(⟨some ⟨h2.size,0,none⟩,2,2⟩:Sl).v]:Array Value)++(#[.int .i64 5,.int .i64 0,.string ByteArray.empty,(⟨some ⟨h7.size,0,none⟩,2,2⟩:Sl).v]:Array Value)) KB)=h11 at e11 g11 ⊢
 have L11:VsRep h11 ⟨some ⟨h10.size,0,none⟩,2,2⟩ [bm1,bm2]:=(KEp (S:=fun i=>i < h10.size) g11 ((M1.to.lt).same (fun b hb=>e11.same b hb)) ((M2.to.lt).same (fun b hb=>e11.same b hb))).to
 have E11:Ext h h11:=((((e1.trans e2).trans e3).trans E5).trans E510).trans e11
 have hW:wt.wts [bm1,bm2]≤1048576:=by simp [wt.wts,wt,bm1,bm2,vM,vS,vI]
 have rest:∀ {h12:Heap},Ext h11 h12→(do
   let Xx23←JS 1
   let Xx24←JT (⟨#[97]⟩:ByteArray)
   let y_26←GL 4 2 (#[.int .i64 0,.int .i64 0,.string ByteArray.empty,.slice none 0 0]:Array Value) [(0,.agg Xx23),(1,.agg Xx24)]
   let Xx25←bdL KB 2 y_26
   let Xx27←Ue Xx25
   let Xx29←M.ite (sEq (bs (tabT [vS [120],vS [121]] [bm1,bm2]),(0:Int)).1 (⟨#[39,120,39,32,124,32,39,121,39,10,49,32,124,32,45,10,45,32,124,32,50,10]⟩:ByteArray)) (do
    M.pure ((bs (tabT [vS [120],vS [121]] [bm1,bm2]),(0:Int)).2 == 0)
    ) (do
    M.pure false
    )
   let Xx30←M.ite Xx29 (do
    M.pure (sEq Xx27.1 (⟨#[49,10,39,97,39,10]⟩:ByteArray))
    ) (do
    M.pure false
    )
   let Xx31←M.ite Xx30 (do
    M.pure (Xx27.2 == 0)
    ) (do
    M.pure false
    )
   M.pure Xx31:M Bool).wp h12 Q:=fun {h12} e12=>by
  have E12:=E11.trans e12
  refine KJ (KCg (n:=1) ⟨by decide,by decide⟩ (fun h13 c13 e13 r13=>KJ (KCf (s:=[97]) (by decide) (fun h14 c14 e14 r14=>?_))))
  have R13:=r13 (fun i=>i < h14.size) h14
  have R14:=r14 (fun i=>i < h14.size) h14
  refine KBp R13.size R14.size (KAf ?_)
  have e15:=Ext.push h14 (.cells (c13++c14) KB)
  have g15:(h14.push (.cells (c13++c14) KB))[h14.size]?=some (.cells (c13++c14) KB (0,0)):=Ko
  generalize h14.push (.cells (c13++c14) KB)=h15 at e15 g15 ⊢
  have E15:=((E12.trans e13).trans e14).trans e15
  have L15:VsRep h15 ⟨some ⟨h14.size,0,none⟩,2,2⟩ [vI 1,vS [97]]:=(KEp (S:=fun i=>i < h14.size) g15 (r13 _ h15) (r14 _ h15)).to
  refine KJ (KDq L15 (hp.ext E15) (hd.ext E15) (by simp [wt.wts,wt,vS,vI]) (fun h16 e16 hne=>absurd KKC.1 hne) (fun h16 e16 _=>?_))
  rw [KKC.2,KOq]
  have s1:sEq (bs [39,120,39,32,124,32,39,121,39,10,49,32,124,32,45,10,45,32,124,32,50,10]) (⟨#[39,120,39,32,124,32,39,121,39,10,49,32,124,32,45,10,45,32,124,32,50,10]⟩:ByteArray)=true:=by
   show sEq (bs _) (bs [39,120,39,32,124,32,39,121,39,10,49,32,124,32,45,10,45,32,124,32,50,10])=true
   rw [KBR]; decide
  have s2:sEq (bs [49,10,39,97,39,10]) (⟨#[49,10,39,97,39,10]⟩:ByteArray)=true:=by
   show sEq (bs _) (bs [49,10,39,97,39,10])=true
   rw [KBR]; decide
  exact KI1 s1 (Jy (KI1 rfl (Jy (KI1 s2 (Jy (KG (H _ (E15.trans e16))))))))
 refine KJ (KGn L11 (hp.ext E11) (hd.ext E11) hW (fun h12 e12 hne=>absurd KLa hne) (fun h12 e12 _ hbad=>?_) (fun h12 C e12 _ _ hC=>?_))
 ·rw [KPc] at hbad; cases hbad
 ·rw [hC.uniq KNQ]
  exact rest e12
end Gx
namespace Gx
open Go
set_option linter.unusedVariables false
set_option linter.unusedSimpArgs false
def cutL:List UInt8→List UInt8 × List UInt8
 | []=>([],[])
 | c::r=>if c=10 then ([],r) else (c::(cutL r).1,(cutL r).2)
theorem N7:∀ s:List UInt8,s≠[]→(cutL s).2.length < s.length
 | [],h=>absurd rfl h
 | [c],_=>by unfold cutL; split <;> simp [cutL]
 | c::d::r,_=>by
  unfold cutL
  split
  ·simp
  ·have:=N7 (d::r) (by simp)
   simp only [List.length_cons] at this ⊢
   omega
def Kv (s:List UInt8):List (List UInt8):=if h:s=[] then [] else (cutL s).1::Kv (cutL s).2
termination_by s.length
decreasing_by exact N7 s h
theorem Us:Kv []=[]:=by rw [Kv,dif_pos rfl]
theorem YC {s:List UInt8} (h:s≠[]):Kv s=(cutL s).1::Kv (cutL s).2:=by rw [Kv,dif_neg h]
theorem KEw:∀ s:List UInt8,Lib.indexByte s 10=(if (10:UInt8) ∈ s then ((cutL s).1.length:Int) else -1)∧(if (10:UInt8) ∈ s then s=(cutL s).1++10::(cutL s).2 else cutL s=(s,[]))
 | []=>by simp [Lib.indexByte,cutL]
 | c::r=>by
  obtain ⟨h1,h2⟩:=KEw r
  rw [Lib.indexByte,cutL]
  by_cases hc:c=10
  ·subst hc; simp
  ·have hb:(c == 10)=false:=by simpa using hc
   have hm:((10:UInt8) ∈ c::r)↔(10:UInt8) ∈ r:=by
    rw [List.mem_cons]
    exact ⟨fun h=>h.elim (fun e=>absurd e.symm hc) id,.inr⟩
   rw [hb,if_neg hc]
   by_cases hr:(10:UInt8) ∈ r
   ·rw [if_pos hr] at h1 h2
    rw [if_pos (hm.2 hr),if_pos (hm.2 hr),h1]
    refine ⟨?_,?_⟩
    ·have:¬ (((cutL r).1.length:Int) == -1)=true:=by simp
     simp only [Bool.false_eq_true,if_false]
     rw [if_neg this]; simp
    ·rw [List.cons_append,← h2]
   ·rw [if_neg hr] at h1 h2
    rw [if_neg (fun h=>hr (hm.1 h)),if_neg (fun h=>hr (hm.1 h)),h1,h2]
    simp
theorem GZ:∀ (m:Nat) (s:List UInt8),s.length≤m→(Kv s).length≤s.length
 | 0,s,h=>by
  have:s=[]:=List.length_eq_zero_iff.1 (by omega)
  rw [this,Us]; simp
 | m+1,s,h=>by
  by_cases hs:s=[]
  ·rw [hs,Us]; simp
  ·have h1:=N7 s hs
   have:=GZ m (cutL s).2 (by omega)
   rw [YC hs,List.length_cons]; omega
theorem KOr {s:List UInt8} {a b:Nat}:(bs s).extract a b=bs ((s.drop a).take (b - a)):=by
 apply ByteArray.ext
 simp [bs,ByteArray.extract,ByteArray.copySlice]
theorem KHe:∀ {a b:List UInt8},(10:UInt8) ∉ a→cutL (a++10::b)=(a,b)
 | [],b,_=>by simp [cutL]
 | c::a,b,h=>by
  rw [List.mem_cons,not_or] at h
  rw [List.cons_append,cutL,if_neg (fun e=>h.1 e.symm),KHe h.2]
theorem KKD {β:Type} {h:Heap} {Q:β→Heap→Prop} {s:List UInt8} {a b:Nat} {lo hi:Int} {f:ByteArray→M β} (hl:lo=(a:Int)) (hh:hi=(b:Int)) (h1:a≤b) (h2:b≤s.length) (H:(f (bs ((s.drop a).take (b - a)))).wp h Q):(slS (bs s) lo hi>>=f).wp h Q:=by
 subst hl; subst hh
 exact ⟨bs ((s.drop a).take (b - a)),⟨by omega,by omega,by rw [JD]; omega,by rw [show ((a:Int)).toNat=a from rfl,show ((b:Int)).toNat=b from rfl,KOr]⟩,H⟩
end Gx
namespace Gx
open Go
set_option linter.unusedVariables false
set_option linter.unusedSimpArgs false
theorem KKE {s:List UInt8} {h:Heap} {Q:ByteArray × ByteArray × Bool→Heap→Prop} (hs:s.length≤1099511627776) (H:∀ b,Q (bs (cutL s).1,bs (cutL s).2,b) h):(VL (bs s) (⟨#[10]⟩:ByteArray)).wp h Q:=by
 unfold VL ZH
 obtain ⟨h1,h2⟩:=KEw s
 have key:∀ {Q:ByteArray × ByteArray × Bool→Heap→Prop},(∀ b,Q (bs (cutL s).1,bs (cutL s).2,b) h)→(ZH (bs s) (⟨#[10]⟩:ByteArray)).wp h Q:=fun {Q} H=>by
  unfold ZH
  refine KJ ⟨10,rfl,?_⟩
  rw [show (bs s).data.toList=s by simp [bs],h1]
  by_cases hm:(10:UInt8) ∈ s
  ·rw [if_pos hm] at h2 ⊢
   have hl:s.length=(cutL s).1.length+(1+(cutL s).2.length):=by
    have:=congrArg List.length h2
    rw [List.length_append,List.length_cons] at this
    omega
   refine iteT (decide_eq_true (by omega)) ?_
   have hw:IntKind.wrap .i64 (((cutL s).1.length:Int)+((⟨#[10]⟩:ByteArray).size:Int))=(((cutL s).1.length+1:Nat):Int):=by
    rw [show ((⟨#[10]⟩:ByteArray).size:Int)=1 from rfl,w64 (by omega) (by omega)]; simp
   rw [hw]
   refine KKD (a:=0) (b:=(cutL s).1.length) rfl rfl (Nat.zero_le _) (by omega) (KKD (a:=(cutL s).1.length+1) (b:=s.length) rfl (by rw [JD]) (by omega) (Nat.le_refl _) (KG ?_))
   have e1:(s.drop 0).take ((cutL s).1.length - 0)=(cutL s).1:=by
    rw [List.drop_zero,Nat.sub_zero]
    exact (show ∀ p:List UInt8 × List UInt8,s=p.1++10::p.2→s.take p.1.length=p.1 by rintro p rfl; simp) _ h2
   have e2:(s.drop ((cutL s).1.length+1)).take (s.length - ((cutL s).1.length+1))=(cutL s).2:=by
    rw [List.take_of_length_le (by rw [List.length_drop]; omega)]
    exact (show ∀ p:List UInt8 × List UInt8,s=p.1++10::p.2→s.drop (p.1.length+1)=p.2 by rintro p rfl; rw [List.drop_append,List.drop_eq_nil_iff.2 (by omega)]; simp) _ h2
   rw [e1,e2]
   exact H _
  ·rw [if_neg hm] at h2 ⊢
   refine iteF (by decide) (KG ?_)
   have:=H false
   rw [h2] at this
   exact this
 exact KJ (key (fun b=>KG (H b)))
def SeqC (P:Program) {α:Type} (enc:α→List Value) (xs:List α) (g:Value) (b:Nat) (o:Obj):Prop :=
 ∀ (l:Nat) (Inv:Nat→Heap→Prop) (Stop:Heap→Prop) (h:Heap),(∀ i h1 h2,Inv i h1→Upd b h1 h2→Inv i h2)→h[b]?=some o→Inv 0 h →
  (∀ i (hi:i < xs.length) h1,Inv i h1→(VD P (fun b:Bool=>.bool b) (yV l) (enc xs[i])).wp h1 (fun r h2=>h2[b]?=h1[b]?∧(if r=true then Inv (i+1) h2 else Stop h2))) →
  (VD P (fun _:Unit=>.tuple #[]) g [yV l]).wp h (fun _ h1=>Inv xs.length h1∨Stop h1)
theorem KPe {P:Program} {α:Type} {enc:α→List Value} {js:List Code} {Y:Nat→α→M Nat} {Yb:α→M Nat} (hY:∀ l x,Y l x=(beg l>>=fun _=>Yb x)) {c:Code} (hjs:js=[c]) {g:Value} (hg:∀ l,g≠.func (.yield l) #[] #[]) {h:Heap} {Q:Nat × Nat→Heap→Prop} {xs:List α} {b:Nat} {o0:Obj}
  (J:Nat→Heap→Prop) (E:Heap→Prop) (hJ:∀ i h1 h2,J i h1→Upd (h.size+1) h1 h2→J i h2) (hE:∀ h1 h2,E h1→Upd (h.size+1) h1 h2→E h2) (hJb:∀ i h1 h2,J i h1→Upd b h1 h2→J i h2)
  (hb:h[b]?=some o0) (hseq:SeqC P enc xs g b o0) (h0:∀ r:Loop,J 0 ((h.push (.deferred (some []))).push (YG r .ready none)))
  (hbody:∀ i (hi:i < xs.length) h1 o,J i h1→h1[h.size+1]?=some o→(Yb xs[i]).wp h1 (fun j h2=>h2[h.size+1]?=some o∧h2[b]?=h1[b]?∧(j=0∧J (i+1) h2∨j=1∧E h2)))
  (hq0:∀ h1,J xs.length h1→Q (0,h.size) h1) (hq1:∀ h1,E h1→Q (1,h.size) h1):(rgF P enc js Y g).wp h Q:=by
 refine ⟨hg,fun r hr=>?_⟩
 have hbl:=JX hb
 have hrec:((h.push (.deferred (some []))).push (YG r .ready none))[h.size+1]?=some (YG r .ready none):=by
  have:h.size+1=(h.push (.deferred (some []))).size:=by simp
  rw [this]; exact Ko
 refine (VD P _ _ _).mono ?_ (hseq (h.size+1) (fun i h1=>J i h1∧h1[h.size+1]?=some (YG r .ready none)) (fun h1=>E h1∧h1[h.size+1]?=some (YG r .done (some c))) _ (fun i h1 h2 hh u=>⟨hJb i h1 h2 hh.1 u,(u.ne _ (by omega)).trans hh.2⟩)
  (by rw [Vk (by simp; omega),Vk hbl]; exact hb) ⟨h0 r,hrec⟩ (fun i hi h1 hh=>?_))
 ·rintro _ h1 (⟨h2,h3⟩ | ⟨h2,h3⟩)
  ·exact ⟨.ready,0,by decide,h3,hq0 _ (hJ _ _ _ h2 (Upd.set_ _ _ _))⟩
  ·subst hjs
   exact ⟨.done,1,by decide,h3,hq1 _ (hE _ _ h2 (Upd.set_ _ _ _))⟩
 ·refine (VD P _ _ _).mono ?_ (KHC (hY _) hr hjs (J:=fun h2=>J i h2∧h2[b]?=h1[b]?) (J':=fun h2=>J (i+1) h2∧h2[b]?=h1[b]?) (E:=fun h2=>E h2∧h2[b]?=h1[b]?) (fun h2 h3 hj u=>⟨hJ _ _ _ hj.1 u,(u.ne _ (by omega)).trans hj.2⟩) (fun h2 h3 hj u=>⟨hJ _ _ _ hj.1 u,(u.ne _ (by omega)).trans hj.2⟩) (fun h2 h3 hj u=>⟨hE _ _ hj.1 u,(u.ne _ (by omega)).trans hj.2⟩) (fun h2 o hj ho=>?_) ⟨hh.1,rfl⟩ hh.2)
  ·rintro r' h2 hr'
   split at hr'
   ·rename_i hT; subst hT; exact ⟨hr'.1.2,by rw [if_pos rfl]; exact ⟨hr'.1.1,hr'.2⟩⟩
   ·rename_i hF; exact ⟨hr'.1.2,by rw [if_neg hF]; exact ⟨hr'.1.1,hr'.2⟩⟩
  ·refine (Yb xs[i]).mono ?_ (hbody i hi h2 o hj.1 ho)
   rintro j h3 ⟨h4,h5,h6⟩
   refine ⟨h4,h6.imp (fun h6=>⟨h6.1,h6.2,h5.trans hj.2⟩) (fun h6=>⟨h6.1,h6.2,h5.trans hj.2⟩)⟩
def lnP (n:Nat) (ls:List (List UInt8)):List (Int × ByteArray):=(ls.zipIdx n).map fun p=>((p.2:Int),bs p.1)
theorem zM (n:Nat) (ls:List (List UInt8)):(lnP n ls).length=ls.length:=by simp [lnP]
theorem KKF {n:Nat} {ls:List (List UInt8)} {i:Nat} (hi:i < (lnP n ls).length):(lnP n ls)[i]=(((n+i:Nat):Int),bs (ls[i]'(by rw [zM] at hi; exact hi))):=by simp [lnP]
theorem GI {h:Heap} {b:Nat} {v u:Value} {t:TypeId} (hb:h[b]?=some (.cells #[v] t (0,0))):(hset h ⟨b,0,none⟩ u)[b]?=some (.cells #[u] t (0,0)):=by
 rw [V5 hb]; rfl
def X4 (s:List UInt8):Nat→List UInt8
 | 0=>s
 | i+1=>(cutL (X4 s i)).2
theorem KDr (s:List UInt8):∀ i,(X4 s i).length≤s.length
 | 0=>Nat.le_refl _
 | i+1=>by
  have:=KDr s i
  unfold X4
  by_cases h:X4 s i=[]
  ·rw [h]; simp [cutL]
  ·have:=N7 _ h; omega
theorem KBU (s:List UInt8):∀ i,Kv (X4 s i)=(Kv s).drop i
 | 0=>rfl
 | i+1=>by
  have ih:=KBU s i
  unfold X4
  by_cases h:X4 s i=[]
  ·rw [h,Us] at ih
   rw [h]
   show Kv (cutL []).2=_
   rw [show (cutL []).2=[] from rfl,Us,← List.drop_drop,← ih]; rfl
  ·rw [YC h] at ih
   rw [← List.drop_drop,← ih]; rfl
theorem KIP {s:List UInt8} {b:Nat} {t:TypeId} (hs:s.length≤1099511627776):SeqC Go.Proofs.Tryz.prog (fun x:Int × ByteArray=>[.int .i64 x.1,.string x.2]) (lnP 1 (Kv s)) (.func (.func GN) #[] #[.pointer (some ⟨b,0,none⟩)]) b (.cells #[.string (bs s)] t (0,0)):=by
 intro l Inv Stop h hU hb h0 hround
 refine XM KAj (KBb (yV l) ⟨b,0,none⟩) ?_
 unfold qU
 have hll:=GZ _ s (Nat.le_refl _)
 rw [zM]
 refine M.loop_inv (fun (n:Int) h'=>∃ i:Nat,n=((1+i:Nat):Int)∧i≤(Kv s).length∧Inv i h'∧h'[b]?=some (.cells #[.string (bs (X4 s i))] t (0,0))) (fun n _=>((Kv s).length+2 - n.toNat)) ?_ ⟨0,rfl,Nat.zero_le _,h0,hb⟩
 rintro n h' ⟨i,rfl,hi,hI,hc⟩ self hself
 unfold Ww
 have hbl:=KBU s i
 have hbn:=KDr s i
 refine Gg (Ke hc) ?_
 have he:sEq (bs (X4 s i)) ByteArray.empty=decide (X4 s i=[]):=by
  show sEq (bs (X4 s i)) (bs [])=_
  rw [KBR]
 rw [he]
 refine Kc (fun hne=>?_) (fun hz=>?_)
 ·have hne:X4 s i≠[]:=by simpa using hne
  rw [YC hne] at hbl
  have hlt:i < (Kv s).length:=by
   rcases Nat.lt_or_ge i (Kv s).length with h | h
   ·exact h
   ·rw [List.drop_eq_nil_iff.2 h] at hbl; cases hbl
  rw [List.drop_eq_getElem_cons hlt] at hbl
  have hli:(Kv s)[i]=(cutL (X4 s i)).1:=(List.cons.inj hbl).1.symm
  refine Gg (Ke hc) (KJ (KKE (by omega) (fun bb=>?_)))
  have hr:=hround i (by rw [zM]; exact hlt) h' hI
  rw [KKF (by rw [zM]; exact hlt),hli] at hr
  refine KJ ((VD _ _ _ _).mono ?_ hr)
  rintro r h2 ⟨hkb,hr2⟩
  cases r with
  | true =>
   rw [if_pos rfl] at hr2
   have hc2:=hkb.trans hc
   refine iteF rfl (Vj (Ke hc2) (KV hc2) rfl ?_)
   rw [w64 (by omega) (by omega)]
   refine hself _ _ ⟨i+1,by omega,by omega,hU _ _ _ hr2 (Upd.hset _ _ _ _),GI hc2⟩ (by omega)
  | false =>
   rw [if_neg (by simp)] at hr2
   exact iteT rfl (KG (.inr hr2))
 ·have hz:X4 s i=[]:=by simpa using hz
  rw [hz,Us] at hbl
  have:(Kv s).length≤i:=List.drop_eq_nil_iff.1 hbl.symm
  rw [show (Kv s).length=i by omega]
  exact KG (.inl hI)
end Gx
namespace Gx
open Go Go.Proofs Go.Shelf Go.RowKit Go.Lib
set_option linter.unusedVariables false
set_option linter.unusedSimpArgs false
set_option maxRecDepth 100000
end Gx
namespace Gx
open Go Go.Proofs Go.Shelf Go.RowKit Go.Lib
set_option linter.unusedVariables false
set_option linter.unusedSimpArgs false
set_option maxRecDepth 100000
structure Rgd (h:Heap) (b:Nat) (s:List UInt8) (i:Nat):Prop where
 blk:h[b]?=some (.cells #[.string (bs s),.int .i64 (i:Int),.int .i64 (-1)] YL (0,0))
 le:i≤s.length
 small:s.length≤1099511627776
def Rx (h:Heap) (b:Nat) (s:List UInt8) (e:Nat):Prop:=∃ i:Nat,i≤s.length∧s.length≤1099511627776∧h[b]?=some (.cells #[.string (bs s),.int .i64 (i:Int),.int .i64 (e:Int)] YL (0,0))
theorem Rgd.ext {h h':Heap} {b:Nat} {s:List UInt8} {i:Nat} (R:Rgd h b s i) (e:Ext h h'):Rgd h' b s i:=⟨e.blk R.blk,R.le,R.small⟩
theorem Rgd.lt {h:Heap} {b:Nat} {s:List UInt8} {i:Nat} (R:Rgd h b s i):b < h.size:=JX R.blk
theorem Rgd.upd {h h':Heap} {b g:Nat} {s:List UInt8} {i:Nat} (R:Rgd h b s i) (u:Upd g h h') (hg:b≠g):Rgd h' b s i:=⟨(u.ne b hg).trans R.blk,R.le,R.small⟩
theorem Rx.ext {h h':Heap} {b:Nat} {s:List UInt8} {i:Nat} (R:Rx h b s i) (e:Ext h h'):Rx h' b s i:=let ⟨k,h1,h2,h3⟩:=R; ⟨k,h1,h2,e.blk h3⟩
theorem Rx.upd {h h':Heap} {b g:Nat} {s:List UInt8} {i:Nat} (R:Rx h b s i) (u:Upd g h h') (hg:b≠g):Rx h' b s i:=let ⟨k,h1,h2,h3⟩:=R; ⟨k,h1,h2,(u.ne b hg).trans h3⟩
theorem Rx.lt {h:Heap} {b:Nat} {s:List UInt8} {i:Nat} (R:Rx h b s i):b < h.size:=let ⟨k,h1,h2,h3⟩:=R; JX h3
section
variable {β:Type} {h:Heap} {Q:β→Heap→Prop} {b i e:Nat} {s:List UInt8}
end
section
variable {h:Heap} {b i e:Nat} {s:List UInt8}
end
end Gx
namespace Gx
open Go Go.Proofs Go.Shelf Go.RowKit Go.Lib
set_option linter.unusedVariables false
set_option linter.unusedSimpArgs false
set_option maxRecDepth 100000
end Gx
namespace Gx
open Go Go.Proofs Go.Shelf Go.RowKit Go.Lib
set_option linter.unusedVariables false
set_option linter.unusedSimpArgs false
set_option maxRecDepth 100000
end Gx
namespace Gx
open Go
set_option linter.unusedVariables false
set_option linter.unusedSimpArgs false
def Ga (s:List UInt8):Bool:=decide (s=[]∨s.getLast?=some 10)
theorem KIQ {s:List UInt8} {h:Heap} {Q:Bool→Heap→Prop} (hs:s.length≤1099511627776) (H:Q (decide (s.getLast?=some 10)) h):(VP (bs s) (⟨#[10]⟩:ByteArray)).wp h Q:=by
 unfold VP
 refine KJ ?_
 unfold Zg
 rw [JD,show ((⟨#[10]⟩:ByteArray).size:Int)=1 from rfl]
 refine KJ (Kc (fun hc=>?_) (fun hc=>KG (KG (KG ?_))))
 ·have hc:1≤s.length:=by have:=of_decide_eq_true hc; omega
  rw [w64 (by omega) (by omega)]
  refine KKD (a:=s.length - 1) (b:=s.length) (by omega) rfl (by omega) (Nat.le_refl _) (KG (KG (KG ?_)))
  have hl:(s.drop (s.length - 1)).take (s.length - (s.length - 1))=[s[s.length - 1]]:=by
   rw [show s.length - (s.length - 1)=1 by omega,List.drop_eq_getElem_cons (by omega)]
   rfl
  rw [hl,show (⟨#[10]⟩:ByteArray)=bs [10] from rfl,KBR]
  rw [List.getLast?_eq_getElem?,List.getElem?_eq_getElem (by omega)] at H
  rw [show decide ([s[s.length - 1]]=[(10:UInt8)])=decide (some s[s.length - 1]=some (10:UInt8)) from decide_eq_decide.2 ⟨fun h=>congrArg some (List.cons.inj h).1,fun h=>congrArg (fun x=>[x]) (Option.some.inj h)⟩]
  exact H
 ·have hc:s=[]:=List.length_eq_zero_iff.1 (by have:=of_decide_eq_false hc; omega)
  subst hc
  exact H
def KMH (c3 c4 c5 c6:Addr):(Int × ByteArray)→M Nat:=fun x=>match x with
 | (x11,x12)=>do
  let x13←ldV c3
  let x15←VD Go.Proofs.Tryz.prog (fun r:Bool=>.bool r) x13 [.string x12]
  M.ite (!x15) (do
   stV c4 (.int .i64 x11)
   stV c5 (.int .i64 230)
   M.pure 1
   ) (do
   stV c6 (.int .i64 x11)
   M.pure 0
   )
structure RdJ (h0:Heap) (one:Value) (n:Nat) (h:Heap):Prop where
 size:h0.size+7≤h.size
 c0:h[h0.size]?=some (.cells #[one] KJA (0,0))
 c1:∃ v,h[h0.size+1]?=some (.cells #[v] WB (0,0))
 c2:∃ v,h[h0.size+2]?=some (.cells #[v] Jn (0,0))
 c3:h[h0.size+3]?=some (.cells #[.int .i64 (n:Int)] WB (0,0))
 df:h[h0.size+5]?=some (.deferred (some []))
structure RdE (h0:Heap) (n:Nat) (h:Heap):Prop where
 size:h0.size+7≤h.size
 c1:h[h0.size+1]?=some (.cells #[.int .i64 (n:Int)] WB (0,0))
 c2:h[h0.size+2]?=some (.cells #[.int .i64 230] Jn (0,0))
 df:h[h0.size+5]?=some (.deferred (some []))
theorem KCo {s:List UInt8} {one:Value} {ok:Nat→Bool} {I:Nat→Heap→Prop} {E:Heap→Prop} {h:Heap} {Q:Int × Int→Heap→Prop} (hs:s.length≤1073741824) (hone1:Gx.one one=true)
  (hI:∀ i h1 h2 k,I i h1→Upd k h1 h2→h.size≤k→k < h.size+7→I i h2) (hE:∀ h1 h2 k,E h1→Upd k h1 h2→h.size≤k→k < h.size+7→E h2)
  (h0:∀ h1,Ext h h1→h1.size=h.size+7→I 0 h1)
  (hone:∀ i (hi:i < (Kv s).length) h1,h.size+7≤h1.size→I i h1→(VD Go.Proofs.Tryz.prog (fun r:Bool=>.bool r) one [.string (bs (Kv s)[i])]).wp h1 (fun r h2=>h1.size≤h2.size∧(∀ k,h.size≤k→k < h.size+7→h2[k]?=h1[k]?)∧r=ok i∧(ok i=true→I (i+1) h2)∧(ok i=false→E h2)))
  (H0:(∀ i,i < (Kv s).length→ok i=true)→∀ h',h.size+7≤h'.size→I (Kv s).length h'→Q (if Ga s=true then (0,0) else (((Kv s).length:Int),230)) h')
  (H1:∀ i,i < (Kv s).length→(∀ k,k < i→ok k=true)→ok i=false→∀ h',h.size+7≤h'.size→E h'→Q (((i+1:Nat):Int),230) h'):(Vp (bs s) one).wp h Q:=by
 unfold Vp
 have hll:=GZ _ s (Nat.le_refl _)
 rw [show Value.cells one=#[one] by cases one <;> first | rfl | cases hone1]
 refine ZW (fun h1 e1 s1 g1=>ZW (fun h2 e2 s2 g2=>ZW (fun h3 e3 s3 g3=>ZW (fun h4 e4 s4 g4=>?_))))
 rw [show h1.size=h.size+1 from s1] at g2 ⊢
 rw [show h2.size=h.size+2 by omega] at g3 ⊢
 rw [show h3.size=h.size+3 by omega] at g4 ⊢
 refine Vj (Ke g4) (KV g4) rfl ?_
 have u5:=Upd.hset h4 (h.size+3) 0 (.int .i64 0)
 have g5:(hset h4 ⟨h.size+3,0,none⟩ (.int .i64 0))[h.size+3]?=some (.cells #[.int .i64 0] WB (0,0)):=GI g4
 generalize hset h4 ⟨h.size+3,0,none⟩ (.int .i64 0)=h5 at u5 g5 ⊢
 have hu5:=u5.size
 have g1':h5[h.size]?=some (.cells #[one] KJA (0,0)):=(u5.ne _ (by omega)).trans ((e2.trans (e3.trans e4)).blk g1)
 have g2':h5[h.size+1]?=some (.cells #[.int .i64 0] WB (0,0)):=(u5.ne _ (by omega)).trans ((e3.trans e4).blk g2)
 have g3':h5[h.size+2]?=some (.cells #[.int .i64 0] Jn (0,0)):=(u5.ne _ (by omega)).trans (e4.blk g3)
 unfold Nk
 refine Jb (ZW (fun hA e6 s6 g6=>Jy ?_))
 have hz6:hA.size=h.size+5:=by omega
 rw [show h5.size=h.size+4 by omega] at g6 ⊢
 have EA:Ext h hA:=((e1.trans (e2.trans (e3.trans e4))).upd u5 (by omega)).trans e6
 have hkeep:∀ k,k < h.size+4→hA[k]?=h5[k]?:=fun k hk=>e6.same k (by omega)
 have fin:∀ (h7:Heap) (P:Int × Int→Prop) (c:Nat × Nat) (v1 v2:Int),h7[h.size+1]?=some (.cells #[.int .i64 v1] WB (0,0))→h7[h.size+2]?=some (.cells #[.int .i64 v2] Jn (0,0))→h7[h.size+5]?=some (.deferred (some []))→c.2=h.size+5 →
   (∀ h8,Upd (h.size+5) h7 h8→Q (v1,v2) h8)→(shut (c.2::[])>>=fun _=>ldI .i64 ⟨h.size+1,0,none⟩>>=fun r4=>ldI .i64 ⟨h.size+2,0,none⟩>>=fun r5=>(M.pure (r4,r5):M (Int × Int))).wp h7 Q:=by
  intro h7 P c v1 v2 q1 q2 q5 hc hq
  rw [hc]
  have u8:=Upd.set_ h7 (h.size+5) (.deferred none)
  refine ⟨q5,?_⟩
  exact Jc (Ke ((u8.ne _ (by omega)).trans q1)) (Jc (Ke ((u8.ne _ (by omega)).trans q2)) (KG (hq _ u8)))
 have hupd:∀ {k:Nat} {h1 h2:Heap} {n:Nat},RdJ h one n h1→Upd k h1 h2→(k=h.size+4∨k=h.size+6)→RdJ h one n h2:=by
  intro k h1 h2 n J u hk
  obtain ⟨v1,c1⟩:=J.c1
  obtain ⟨v2,c2⟩:=J.c2
  exact ⟨by rw [u.size]; exact J.size,(u.ne _ (by omega)).trans J.c0,⟨v1,(u.ne _ (by omega)).trans c1⟩,⟨v2,(u.ne _ (by omega)).trans c2⟩,(u.ne _ (by omega)).trans J.c3,(u.ne _ (by omega)).trans J.df⟩
 have hupE:∀ {k:Nat} {h1 h2:Heap} {n:Nat},RdE h n h1→Upd k h1 h2→(k=h.size+4∨k=h.size+6)→RdE h n h2:=by
  intro k h1 h2 n J u hk
  exact ⟨by rw [u.size]; exact J.size,(u.ne _ (by omega)).trans J.c1,(u.ne _ (by omega)).trans J.c2,(u.ne _ (by omega)).trans J.df⟩
 refine KJ (KPe (Yb:=KMH ⟨h.size,0,none⟩ ⟨h.size+1,0,none⟩ ⟨h.size+2,0,none⟩ ⟨h.size+3,0,none⟩) (fun l x=>rfl) (c:=.ret) rfl (fun l hh=>by cases hh) (xs:=lnP 1 (Kv s)) (b:=h.size+4)
  (fun i h7=>(∀ k,k < i→ok k=true)∧RdJ h one i h7∧I i h7)
  (fun h7=>∃ i,i < (Kv s).length∧(∀ k,k < i→ok k=true)∧ok i=false∧RdE h (i+1) h7∧E h7) ?_ ?_ ?_ g6 (KIP (by omega)) ?_ ?_ ?_ ?_)
 ·rw [hz6]
  exact fun i h7 h8 hj u=>⟨hj.1,hupd hj.2.1 u (.inr rfl),hI _ _ _ _ hj.2.2 u (by omega) (by omega)⟩
 ·rw [hz6]
  rintro h7 h8 ⟨i,a1,a2,a3,a4,a5⟩ u
  exact ⟨i,a1,a2,a3,hupE a4 u (.inr rfl),hE _ _ _ a5 u (by omega) (by omega)⟩
 ·exact fun i h7 h8 hj u=>⟨hj.1,hupd hj.2.1 u (.inl rfl),hI _ _ _ _ hj.2.2 u (by omega) (by omega)⟩
 ·intro r
  have e7:Ext hA ((hA.push (.deferred (some []))).push (YG r .ready none)):=(Ext.push _ _).pushed _
  have hk:∀ k,k < h.size+4→((hA.push (.deferred (some []))).push (YG r .ready none))[k]?=h5[k]?:=fun k hk=>(e7.same k (by omega)).trans (hkeep k hk)
  refine ⟨fun k hk=>absurd hk (Nat.not_lt_zero _),⟨by simp; omega,(hk _ (by omega)).trans g1',⟨_,(hk _ (by omega)).trans g2'⟩,⟨_,(hk _ (by omega)).trans g3'⟩,(hk _ (by omega)).trans g5,?_⟩,h0 _ (EA.trans e7) (by simp; omega)⟩
  rw [Vk (by simp; omega),← hz6]; exact Ko
 ·rintro i hi h7 o ⟨hok,J,hIi⟩ ho
  rw [zM] at hi
  rw [KKF (by rw [zM]; exact hi)]
  unfold KMH
  dsimp only
  refine ⟨one,Ke J.c0,KJ ((VD _ _ _ _).mono ?_ (hone i hi h7 J.size hIi))⟩
  rintro r h8 ⟨hs8,hk8,rfl,ht,hf⟩
  have k8:∀ {k:Nat} {o:Obj},h7[k]?=some o→h.size≤k→k < h.size+7→h8[k]?=some o:=fun hq ha hb=>(hk8 _ ha hb).trans hq
  obtain ⟨v1,c1⟩:=J.c1
  obtain ⟨v2,c2⟩:=J.c2
  have hz:=J.size
  have hz6':h.size+6=hA.size+1:=by omega
  cases hoi:ok i with
  | true =>
   refine iteF rfl ?_
   have c3:=k8 J.c3 (by omega) (by omega)
   refine Vj (Ke c3) (KV c3) rfl (KG ?_)
   have u9:=Upd.hset h8 (h.size+3) 0 (.int .i64 ((1+i:Nat):Int))
   have g9:=GI (u:=.int .i64 ((1+i:Nat):Int)) c3
   rw [show 1+i=i+1 by omega] at u9 g9 ⊢
   refine ⟨(u9.ne _ (by omega)).trans (k8 ho (by omega) (by omega)),(u9.ne _ (by omega)).trans (hk8 _ (by omega) (by omega)),.inl ⟨rfl,fun k hk=>?_,⟨by rw [u9.size]; omega,(u9.ne _ (by omega)).trans (k8 J.c0 (by omega) (by omega)),⟨v1,(u9.ne _ (by omega)).trans (k8 c1 (by omega) (by omega))⟩,⟨v2,(u9.ne _ (by omega)).trans (k8 c2 (by omega) (by omega))⟩,g9,(u9.ne _ (by omega)).trans (k8 J.df (by omega) (by omega))⟩,hI _ _ _ _ (ht hoi) u9 (by omega) (by omega)⟩⟩
   rcases Nat.lt_or_ge k i with h' | h'
   ·exact hok k h'
   ·have:k=i:=by omega
    subst this; exact hoi
  | false =>
   refine iteT rfl ?_
   have c1':=k8 c1 (by omega) (by omega)
   refine Vj (Ke c1') (KV c1') rfl ?_
   have u9:=Upd.hset h8 (h.size+1) 0 (.int .i64 ((1+i:Nat):Int))
   have g9:=GI (u:=.int .i64 ((1+i:Nat):Int)) c1'
   generalize hset h8 ⟨h.size+1,0,none⟩ (.int .i64 ((1+i:Nat):Int))=h9 at u9 g9 ⊢
   have c2':h9[h.size+2]?=some (.cells #[v2] Jn (0,0)):=(u9.ne _ (by omega)).trans (k8 c2 (by omega) (by omega))
   refine Vj (Ke c2') (KV c2') rfl (KG ?_)
   have uA:=Upd.hset h9 (h.size+2) 0 (.int .i64 230)
   have gA:=GI (u:=.int .i64 230) c2'
   rw [show 1+i=i+1 by omega] at g9
   have hz9:=u9.size
   refine ⟨(uA.ne _ (by omega)).trans ((u9.ne _ (by omega)).trans (k8 ho (by omega) (by omega))),(uA.ne _ (by omega)).trans ((u9.ne _ (by omega)).trans (hk8 _ (by omega) (by omega))),.inr ⟨rfl,i,hi,hok,hoi,⟨by rw [uA.size]; omega,(uA.ne _ (by omega)).trans g9,gA,(uA.ne _ (by omega)).trans ((u9.ne _ (by omega)).trans (k8 J.df (by omega) (by omega)))⟩,?_⟩⟩
   exact hE _ _ _ (hE _ _ _ (hf hoi) u9 (by omega) (by omega)) uA (by omega) (by omega)
 ·rintro h7 ⟨hok,J,hIn⟩
  rw [zM] at hok J hIn
  refine iteF rfl ?_
  obtain ⟨v1,c1⟩:=J.c1
  obtain ⟨v2,c2⟩:=J.c2
  have hz:=J.size
  rw [show (ByteArray.empty:ByteArray)=bs [] from rfl,KBR]
  refine Nr (c:=!decide (s.getLast?=some 10)) (fun _ Q' hq=>KJ (KIQ (by omega) (KG hq))) ?_
  rw [show (!decide (s=[]) && !decide (s.getLast?=some 10))=!Ga s by unfold Ga; rw [Bool.decide_or,Bool.not_or]]
  have hstep:∀ (x1 x2:Int),(∀ h8,h.size+7≤h8.size→I (Kv s).length h8→Q (x1,x2) h8)→(stV ⟨h.size+1,0,none⟩ (.int .i64 x1)>>=fun _=>stV ⟨h.size+2,0,none⟩ (.int .i64 x2)>>=fun _=>shut (((0:Nat),hA.size).2::[])>>=fun _=>ldI .i64 ⟨h.size+1,0,none⟩>>=fun r4=>ldI .i64 ⟨h.size+2,0,none⟩>>=fun r5=>(M.pure (r4,r5):M (Int × Int))).wp h7 Q:=by
   intro x1 x2 hq
   refine Vj (Ke c1) (KV c1) rfl ?_
   have u8:=Upd.hset h7 (h.size+1) 0 (.int .i64 x1)
   have g8:=GI (u:=.int .i64 x1) c1
   generalize hset h7 ⟨h.size+1,0,none⟩ (.int .i64 x1)=h8 at u8 g8 ⊢
   have c2':h8[h.size+2]?=some (.cells #[v2] Jn (0,0)):=(u8.ne _ (by omega)).trans c2
   refine Vj (Ke c2') (KV c2') rfl ?_
   have u9:=Upd.hset h8 (h.size+2) 0 (.int .i64 x2)
   have g9:=GI (u:=.int .i64 x2) c2'
   generalize hset h8 ⟨h.size+2,0,none⟩ (.int .i64 x2)=h9 at u9 g9 ⊢
   have hz8:=u8.size
   have hz9:=u9.size
   refine fin h9 (fun _=>True) (0,hA.size) x1 x2 ((u9.ne _ (by omega)).trans g8) g9 ((u9.ne _ (by omega)).trans ((u8.ne _ (by omega)).trans J.df)) hz6 (fun hB uB=>hq hB (by rw [uB.size]; omega) ?_)
   exact hI _ _ _ _ (hI _ _ _ _ (hI _ _ _ _ hIn u8 (by omega) (by omega)) u9 (by omega) (by omega)) uB (by omega) (by omega)
  refine Kc (fun hb=>?_) (fun hb=>?_)
  ·have hb:Ga s=false:=by simpa using hb
   rw [hb] at H0
   refine Jc (Ke J.c3) ?_
   exact hstep _ _ (fun h8 hz8 hI8=>H0 hok h8 hz8 hI8)
  ·have hb:Ga s=true:=by simpa using hb
   rw [hb] at H0
   exact hstep _ _ (fun h8 hz8 hI8=>H0 hok h8 hz8 hI8)
 ·rintro h7 ⟨i,hi,hok,hoi,J,hEi⟩
  refine iteT rfl ?_
  have hz:=J.size
  refine fin h7 (fun _=>True) (1,hA.size) _ _ J.c1 J.c2 J.df hz6 (fun h8 u8=>H1 i hi hok hoi h8 (by rw [u8.size]; omega) (hE _ _ _ hEi u8 (by omega) (by omega)))
end Gx
namespace Gx
open Go
set_option linter.unusedVariables false
set_option linter.unusedSimpArgs false
theorem ErrV.lt5 {h:Heap} (he:ErrV h):5 < h.size:=by
 obtain ⟨t,p,hc⟩:=he
 exact N3 hc
theorem KNS:∀ s:List UInt8,(cutL s).1.length≤s.length∧(cutL s).2.length≤s.length:=fun s=>by
 obtain ⟨_,h2⟩:=KEw s
 by_cases hm:(10:UInt8) ∈ s
 ·rw [if_pos hm] at h2
  have:=congrArg List.length h2
  rw [List.length_append,List.length_cons] at this
  omega
 ·rw [if_neg hm] at h2
  rw [h2]
  simp
theorem KHf (s:List UInt8):∀ i (hi:i < (Kv s).length),(Kv s)[i].length≤s.length:=by
 have key:∀ (m:Nat) (s:List UInt8),s.length≤m→∀ t ∈ Kv s,t.length≤s.length:=by
  intro m
  induction m with
  | zero =>
   intro s hs t ht
   have:s=[]:=List.length_eq_zero_iff.1 (by omega)
   subst this
   rw [Us] at ht
   cases ht
  | succ m ih =>
   intro s hs t ht
   by_cases h:s=[]
   ·subst h; rw [Us] at ht; cases ht
   ·rw [YC h] at ht
    have h1:=KNS s
    have h2:=N7 s h
    rcases List.mem_cons.1 ht with rfl | ht
    ·exact h1.1
    ·have:=ih _ (by omega) t ht
     omega
 exact fun i hi=>key _ s (Nat.le_refl _) _ (List.getElem_mem hi)
theorem KKG {lo:Nat} {h:Heap} {r:Sl} {css:List (Array Value)} {i:Nat} {c:Array Value} (G:Gw lo h r 4 (Zx css)) (hw:W4 css) (hi:i < css.length) (hc:c.size=4) (h1:∀ u ∈ c.toList,one u=true) :
  ∃ b,r.base=some ⟨b,0,none⟩∧Sl.on r b∧∀ {β:Type} {Q:β→Heap→Prop} {f:Unit→M β},(∀ h',Upd b h h'→Gw lo h' r 4 (Zx (css.set i c))→(f ()).wp h' Q)→(stG ((⟨b,0,none⟩:Addr).add (i * 4)) c>>=f).wp h Q:=by
 obtain ⟨b,hb,hon,_⟩:=G.row4 hw hi
 refine ⟨b,hb,hon,fun {β Q f} H=>?_⟩
 obtain ⟨a,⟨_,_,b',hb',ha⟩,_,H2⟩:=KHH (f:=f) (Q:=Q) G hw hi (t:=(i:Int)) rfl hc h1 (fun b2 h' hb2 u G'=>by
  rw [hb] at hb2
  cases hb2
  exact H h' u G')
 rw [hb] at hb'
 cases hb'
 rw [ha,show (i:Int).toNat=i from rfl] at H2
 exact H2
abbrev OwnS (lo:Nat) (h:Heap) (r:Sl):Nat→Prop:=fun k=>lo≤k∧k < h.size∧¬ Sl.on r k
theorem KLc {β:Type} {lo p:Nat} {tp:TypeId} {h:Heap} {Q:β→Heap→Prop} {r:Sl} {css:List (Array Value)} {l:List Vl} {v:Vl} {c:Array Value} {chkp:Heap→Prop} {f:Unit→M β} (G:VGw lo (OwnS lo h r) h r css l) (hv:ZK (OwnS lo h r) h v c) (hlo:lo≤h.size) (hp:h[p]?=some (.cells #[r.v] tp (0,0))) (hpl:p < lo) (hm:l.length≤1099511627776)
  (hck:∀ h',Ext h h'→chkp h')
  (H:∀ h' r' css',VGw lo (OwnS lo h' r') h' r' css' (l++[v])→h.size≤h'.size→(∀ k,k < lo→k≠p→h'[k]?=h[k]?)→h'[p]?=some (.cells #[r'.v] tp (0,0))→(f ()).wp h' Q) :
  (GL 4 1 (#[.int .i64 0,.int .i64 0,.string ByteArray.empty,.slice none 0 0]:Array Value) [(0,.agg (#[.int .i64 0,.int .i64 0,.string ByteArray.empty,.slice none 0 0]:Array Value))]>>=fun y=>bdL KB 1 y>>=fun x16=>chk chkp>>=fun _ =>
   apL KB 4 56 (#[.int .i64 0,.int .i64 0,.string ByteArray.empty,.slice none 0 0]:Array Value) r x16>>=fun x17=>ixL x17 (r.len:Int) 4>>=fun x18 =>
   (M.both (M.need (c.size=4)>>=fun _=>stG x18 c>>=fun _=>stV ⟨p,0,none⟩ ((x17:Sl).v)>>=fun _=>M.pure ()) (stV ⟨p,0,none⟩ ((x17:Sl).v)>>=fun _=>M.need (c.size=4)>>=fun _=>stG x18 c>>=fun _=>M.pure ()))>>=f).wp h Q:=by
 have hrl:=G.gw.len4 G.w4
 have hgl:=G.len
 have hps:=JX hp
 refine KBi rfl (KAf ?_)
 have e1:=Ext.push h (.cells vz KB)
 have g1:(h.push (.cells vz KB))[h.size]?=some (.cells vz KB (0,0)):=Ko
 generalize h.push (.cells vz KB)=h1 at e1 g1 ⊢
 have hs1:=e1.size
 refine KCy (hck h1 e1) ?_
 have G1:VGw lo (OwnS lo h r) h1 r css l:=G.same (fun k hk=>e1.same k (G.gw.lt hk).1) (fun k hk=>e1.same k hk.2.1)
 refine KJ (KBm (l':=[vl0]) (css':=[vz]) G1 (by omega) (fun k hk=>⟨by have:=hk.2.1; omega,hk.2.2⟩) (fun x hx=>by simp at hx; subst hx; exact ⟨rfl,(UV 0 0 [] Sl.nil)⟩) rfl rfl (.inr ⟨_,rfl,fun j u hj=>?_⟩) (fun j h1 h2=>?_) (by simp only [List.length_cons,List.length_nil]; omega) (fun h2 r2 G2 hs2 same2 on2=>?_))
 ·rw [Kg,Nat.zero_add,KS g1]
  have:Zx [vz]=(vz:Array Value).toList:=by simp [Zx]
  rw [this,Array.getElem?_toList] at hj
  exact hj
 ·have hj0:j=0:=by simp only [List.length_cons,List.length_nil] at h1; omega
  subst hj0
  exact zI _ _
 ·have hlen2:l.length < (css++[vz]).length:=by rw [List.length_append,hgl]; simp
  have hr2l:=G2.gw.len4 G2.w4
  obtain ⟨b,hb,hon,hst⟩:=KKG (c:=c) G2.gw G2.w4 hlen2 hv.size hv.to.one
  have hr2n:l.length < r2.len:=by rw [hr2l]; exact hlen2
  refine Xl (by omega) (by omega) hb ?_
  rw [show ((r.len:Nat):Int).toNat * 4=l.length * 4 by rw [hrl,hgl]; rfl]
  have hbp:¬ p=b:=fun e=>by subst e; have:=(G2.gw.lt hon).2; omega
  have hp2:h2[p]?=some (.cells #[r.v] tp (0,0)):=(same2 p (by omega) (fun ho=>by have:=(G.gw.lt ho).2; omega)).trans (e1.blk hp)
  have hsetE:(css++[vz]).set l.length c=css++[c]:=by rw [← hgl,List.set_append_right _ _ (Nat.le_refl _),Nat.sub_self]; rfl
  have hbl:b < h2.size∧lo≤b:=G2.gw.lt hon
  have fin:∀ h4:Heap,h4.size=h2.size→(∀ k,k≠b→k≠p→h4[k]?=h2[k]?)→h4[p]?=some (.cells #[r2.v] tp (0,0))→Gw lo h4 r2 4 (Zx (css++[c]))→(f ()).wp h4 Q:=by
   intro h4 hs4 same4 hp4 G4
   refine H h4 r2 (css++[c]) ⟨G4,G.w4.append (fun x hx=>by simp at hx; subst hx; exact ⟨hv.size,hv.to.one⟩),by simp [hgl],fun j j1 j2=>?_⟩ (by omega) (fun k hk hkp=>?_) hp4
   ·have keep:∀ k,OwnS lo h r k→h4[k]?=h[k]?:=fun k hk=>by
     have hnb:k≠b:=fun e=>by
      subst e
      rcases on2 k hon with h | h
      ·exact hk.2.2 h
      ·have:=hk.2.1; omega
     rw [same4 k hnb (by have:=hk.1; omega),same2 k (by have:=hk.2.1; omega) hk.2.2,e1.same k hk.2.1]
    have up:∀ k,OwnS lo h r k→OwnS lo h4 r2 k:=fun k hk=>⟨hk.1,by have:=hk.2.1; omega,fun ho=>(on2 k ho).elim hk.2.2 (fun h=>by have:=hk.2.1; omega)⟩
    by_cases hj:j < l.length
    ·rw [List.getElem_append_left hj,List.getElem_append_left (by omega)]
     exact ((G.rep j hj (by omega)).same keep).mono up
    ·have hj':j=l.length:=by simp at j1; omega
     subst hj'
     rw [List.getElem_append_right (Nat.le_refl _),List.getElem_append_right (by omega)]
     have h0:l.length - css.length=0:=by omega
     simp only [Nat.sub_self,h0,List.getElem_cons_zero]
     exact (hv.same keep).mono up
   ·rw [same4 k (fun e=>by subst e; have:=hbl.2; omega) hkp,same2 k (by omega) (fun ho=>by have:=(G.gw.lt ho).2; omega),e1.same k (by omega)]
  refine KN9 ?_ ?_
  ·refine Jb (JA hv.size (Jb (hst (fun h3 u3 G3=>Jb ?_))))
   rw [hsetE] at G3
   have hp3:h3[p]?=some (.cells #[r.v] tp (0,0)):=(u3.ne p hbp).trans hp2
   refine Vj (Ke hp3) (KV hp3) (KAg _) (Jy ?_)
   have u4:=Upd.hset h3 p 0 r2.v
   exact fin _ (by rw [u4.size,u3.size]) (fun k hkb hkp=>(u4.ne k hkp).trans (u3.ne k hkb)) (GI hp3) (G3.same (fun k hk=>u4.ne k (fun e=>by have:=(G3.lt hk).2; omega)))
  ·refine Jb (Vj (Ke hp2) (KV hp2) (KAg _) (Jb (JA hv.size (Jb ?_))))
   have u3:=Upd.hset h2 p 0 r2.v
   have hp3:=GI (u:=r2.v) hp2
   generalize hset h2 ⟨p,0,none⟩ r2.v=h3 at u3 hp3 ⊢
   have G3:Gw lo h3 r2 4 (Zx (css++[vz])):=G2.gw.same (fun k hk=>u3.ne k (fun e=>by have:=(G2.gw.lt hk).2; omega))
   obtain ⟨b3,hb3,_,hst3⟩:=KKG (c:=c) G3 G2.w4 hlen2 hv.size hv.to.one
   rw [hb] at hb3
   cases hb3
   refine hst3 (fun h4 u4 G4=>Jy ?_)
   rw [hsetE] at G4
   exact fin _ (by rw [u4.size,u3.size]) (fun k hkb hkp=>(u4.ne k hkb).trans (u3.ne k hkp)) ((u4.ne p hbp).trans hp3) G4
theorem KGo {t:List UInt8} {p lo:Nat} {h:Heap} {Q:Bool→Heap→Prop} {r:Sl} {css:List (Array Value)} {l:List Vl} (ht:t.length≤1099511627776) (he:ErrV h) (hp:h[p]?=some (.cells #[r.v] Zm (0,0))) (G:VGw lo (OwnS lo h r) h r css l) (hpl:p < lo) (hlo:lo≤h.size) (hm:l.length≤1099511627776)
  (H:∀ h' r' css',h.size≤h'.size→(∀ k,k < lo→k≠p→h'[k]?=h[k]?)→h'[p]?=some (.cells #[r'.v] Zm (0,0))→VGw lo (OwnS lo h' r') h' r' css' (l++[(UE t).1])→Q (decide ((UE t).2.2=0)) h'):(U3 (bs t) ⟨p,0,none⟩).wp h Q:=by
 unfold U3
 refine KJ (KCZ ht he (fun h2 c e2 V2=>?_))
 refine ZW (fun h3 e3 s3 g3=>JA V2.size (stR g3 (by rw [V2.size]; exact Nat.le_refl 4) V2.to.one (fun h4 u4 g4=>?_)))
 rw [ZD (cs:=vz) (vs:=c.toList) (by rw [Array.length_toList,V2.size]; rfl),Array.toArray_toList] at g4
 have e4:Ext h h4:=(e2.trans e3).upd u4 e2.size
 have hs2:=e2.size
 have hu4:=u4.size
 have hp4:=e4.blk hp
 refine Jp (Ke hp4) (ldR g4 V2.size ?_)
 have G4:VGw lo (OwnS lo h4 r) h4 r css l:=(G.same (fun k hk=>e4.same k (G.gw.lt hk).1) (fun k hk=>e4.same k hk.2.1)).mono (fun k hk=>⟨hk.1,by have:=hk.2.1; omega,hk.2.2⟩)
 have V4:ZK (OwnS lo h4 r) h4 (UE t).1 c:=((V2.lt2).same (fun k hk=>(u4.ne k (by have:=hk.2; omega)).trans (e3.same k hk.2))).mono (fun k hk=>⟨by have:=hk.1; omega,by have:=hk.2; omega,fun ho=>by have:=(G.gw.lt ho).1; have:=hk.1; omega⟩)
 refine KLc G4 V4 (by omega) hp4 hpl hm (fun h5 e5=>⟨Ke (e5.blk hp4),V2.size,fun i hi=>?_⟩) (fun h6 r6 css6 G6 hs6 same6 hp6=>KG ?_)
 ·rw [Kt (e5.blk g4)]
 ·rw [eqI]
  exact H h6 r6 css6 (by omega) (fun k hk hkp=>(same6 k hk hkp).trans (e4.same k (by omega))) hp6 G6
def KDP (ls:List (List UInt8)):List Vl:=ls.map (fun t=>(UE t).1)
def okL (ls:List (List UInt8)) (i:Nat):Bool:=decide ((UE (ls.getD i [])).2.2=0)
def KFw (ok:Nat→Bool) (n:Nat):Option Nat:=(List.range n).find? (fun i=>!ok i)
theorem N8 {ok:Nat→Bool} {n:Nat} (h:∀ i,i < n→ok i=true):KFw ok n=none:=by
 unfold KFw
 rw [List.find?_eq_none]
 intro i hi
 rw [h i (List.mem_range.1 hi)]
 decide
theorem KDs {ok:Nat→Bool} {n i:Nat} (hi:i < n) (h:∀ k,k < i→ok k=true) (hf:ok i=false):KFw ok n=some i:=by
 unfold KFw
 rw [List.find?_eq_some_iff_append]
 refine ⟨by rw [hf]; rfl,List.range i,List.range' (i+1) (n - (i+1)),?_,fun k hk=>by rw [h k (List.mem_range.1 hk)]; rfl⟩
 rw [List.range_eq_range',List.range_eq_range',show n=i+(1+(n - (i+1))) by omega,← List.range'_append_1,Nat.zero_add]
 congr 1
 rw [show i+(1+(n - (i+1))) - (i+1)=n - (i+1) by omega,Nat.add_comm 1,List.range'_succ]
def KDQ (s:List UInt8):Option (List Vl) × Int:=match KFw (okL (Kv s)) (Kv s).length with
 | some i=>(none,((i+1:Nat):Int))
 | none=>if Ga s=true then (some (KDP (Kv s)),0) else (none,((Kv s).length:Int))
theorem qY {s:List UInt8} {h:Heap} {Q:Sl × Int × Int→Heap→Prop} (hs:s.length≤1073741824) (he:ErrV h)
  (H1:∀ h' n,KDQ s=(none,n)→Ext h h'→Q (Sl.nil,n,230) h')
  (H2:∀ h' r l,KDQ s=(some l,0)→Ext h h'→VsRepS (h.size≤·) h' r l→Q (r,0,0) h'):(J5 (bs s)).wp h Q:=by
 unfold J5
 have hll:=GZ _ s (Nat.le_refl _)
 refine ZW (fun h1 e1 s1 g1=>?_)
 have hlen:∀ i (hi:i < (Kv s).length),(Kv s)[i].length≤s.length:=KHf s
 refine KJ (KCo (ok:=okL (Kv s)) (I:=fun i h2=>ErrV h2∧h1.size+7≤h2.size∧(∀ k,k < h.size→h2[k]?=h[k]?)∧∃ r css,h2[h.size]?=some (.cells #[r.v] Zm (0,0))∧VGw (h1.size+7) (OwnS (h1.size+7) h2 r) h2 r css (KDP ((Kv s).take i)))
  (E:=fun h2=>h1.size+7≤h2.size∧∀ k,k < h.size→h2[k]?=h[k]?) hs rfl ?_ ?_ ?_ ?_ ?_ ?_)
 ·rintro i h2 h3 k ⟨a1,a2,a3,r,css,a4,G⟩ u k1 k2
  have hu:=u.size
  refine ⟨?_,by omega,fun j hj=>(u.ne j (by omega)).trans (a3 j hj),r,css,(u.ne _ (by omega)).trans a4,(G.same (fun j hj=>u.ne j (by have:=(G.gw.lt hj).2; omega)) (fun j hj=>u.ne j (by have:=hj.1; omega))).mono (fun j hj=>⟨hj.1,by rw [hu]; exact hj.2.1,hj.2.2⟩)⟩
  have h5:=he.lt5
  exact ErrV.km a1 (b:=k) (Km.upd u rfl) (by omega)
 ·rintro h2 h3 k ⟨a1,a2⟩ u k1 k2
  exact ⟨by rw [u.size]; exact a1,fun j hj=>(u.ne j (by omega)).trans (a2 j hj)⟩
 ·intro h2 e2 hs2
  exact ⟨(he.ext e1).ext e2,by omega,fun k hk=>(e2.same k (by omega)).trans (e1.same k hk),Sl.nil,[],e2.blk g1,VGw.nil _ _ _⟩
 ·rintro i hi h2 hz ⟨a1,a2,a3,r,css,a4,G⟩
  refine XM Nb (qK _ _) ?_
  refine KGo (by have:=hlen i hi; omega) a1 a4 G (by omega) (by omega) (by unfold KDP; rw [List.length_map,List.length_take]; omega) (fun h3 r3 css3 hs3 same3 hp3 G3=>?_)
  have hget:(Kv s).getD i []=(Kv s)[i]:=by rw [List.getD_eq_getElem?_getD,List.getElem?_eq_getElem hi]; rfl
  have he3:ErrV h3:=by
   obtain ⟨t,q,hq⟩:=a1
   refine ⟨t,q,?_⟩
   have h5:=he.lt5
   unfold KN at hq ⊢
   rw [same3 5 (by omega) (by omega)]
   exact hq
  refine ⟨hs3,fun k k1 k2=>same3 k (by omega) (by omega),by unfold okL; rw [hget],fun _=>⟨he3,by omega,fun k hk=>(same3 k (by omega) (by omega)).trans (a3 k hk),r3,css3,hp3,?_⟩,fun _=>⟨by omega,fun k hk=>(same3 k (by omega) (by omega)).trans (a3 k hk)⟩⟩
  have:KDP ((Kv s).take (i+1))=KDP ((Kv s).take i)++[(UE (Kv s)[i]).1]:=by
   unfold KDP
   rw [List.take_succ_eq_append_getElem hi,List.map_append]; rfl
  rw [this]
  exact G3
 ·rintro hok h2 hz ⟨a1,a2,a3,r,css,a4,G⟩
  have hb:=N8 hok
  have E2:Ext h h2:=⟨by omega,a3⟩
  cases hend:Ga s with
  | true =>
   rw [if_pos rfl]
   refine iteF rfl (Jp (Ke a4) (KG (H2 h2 r _ (by unfold KDQ; rw [hb,hend]; rfl) E2 ?_)))
   rw [List.take_length] at G
   refine (G.rep_ (by unfold KDP; rw [List.length_map]; omega)).same (fun _ _=>rfl) (fun k hk=>?_)
   rcases hk with hk | hk
   ·have:=hk.1; omega
   ·have:=(G.gw.lt hk).2; omega
  | false =>
   rw [if_neg (by decide)]
   exact iteT rfl (KG (H1 h2 _ (by unfold KDQ; rw [hb,hend]; rfl) E2))
 ·rintro i hi hok hf h2 hz ⟨a1,a2⟩
  exact iteT rfl (KG (H1 h2 _ (by unfold KDQ; rw [KDs hi hok hf]) ⟨by omega,a2⟩))
end Gx
namespace Gx
open Go
set_option linter.unusedVariables false
set_option linter.unusedSimpArgs false
theorem KEx {h:Heap} {Q:Bool→Heap→Prop} {x y:Sl} {l:List Vl} (hx:VsRep h x l) (hy:VsRep h y l) (H:∀ h',Ext h h'→Q true h'):(Jt x y).wp h Q:=by
 unfold Jt
 have hxl:=hx.len
 have hyl:=hy.len
 have hxb:=hx.big
 rw [hxl,hyl]
 refine iteF (by simp) ?_
 refine M.loop_inv (fun (t:Int) h'=>Ext h h'∧∃ i:Nat,t=(i:Int)∧i≤l.length) (fun t _=>((l.length:Int) - t).toNat) ?_ ⟨Ext.refl h,0,rfl,Nat.zero_le _⟩
 rintro t h' ⟨E,i,rfl,hi⟩ self hself
 unfold Uz
 rw [hxl]
 refine Kc (fun hc=>?_) (fun hc=>KG (H _ E))
 have hlt:i < l.length:=by have:=of_decide_eq_true hc; omega
 refine KBe (hx.ext E) hlt rfl (fun a c hs hcs hv=>KBe (hy.ext E) hlt rfl (fun a2 c2 hs2 hcs2 hv2=>UW hs hcs (UW hs2 hcs2 (KJ (KDf hv hv2 (fun h3 e3=>?_))))))
 rw [Nw]
 refine iteF rfl ?_
 rw [w64 (by omega) (by omega)]
 exact hself _ _ ⟨E.trans e3,i+1,by simp,hlt⟩ (by omega)
end Gx
namespace Gx
open Go
set_option linter.unusedVariables false
set_option linter.unusedSimpArgs false
abbrev Ct:=Vl × Int
structure CsRep (h:Heap) (x:Sl) (l:List Ct):Prop where
 len:x.len=l.length
 cap:x.len≤x.cap
 big:x.len≤9223372036854775807
 at_:∀ j (hj:j < l.length),∃ a c,x.base=some a∧c.size=4∧(∀ m,m < 4→KN h (a.add (j * 5+m))=c[m]?)∧KN h (a.add (j * 5+4))=some (.int .i64 l[j].2)∧I64 l[j].2∧VRep h l[j].1 c
theorem CsRep.ext {h h':Heap} {x:Sl} {l:List Ct} (H:CsRep h x l) (e:Ext h h'):CsRep h' x l :=
 ⟨H.len,H.cap,H.big,fun j hj=>by
  obtain ⟨a,c,h1,h2,h3,h4,h5,h6⟩:=H.at_ j hj
  exact ⟨a,c,h1,h2,e.row h2 h3,e.cell h4,h5,h6.ext e⟩⟩
theorem CsRep.nil (h:Heap):CsRep h Sl.nil []:=⟨rfl,Nat.le_refl _,by decide,fun j hj=>by cases hj⟩
theorem KGp {β:Type} {h:Heap} {Q:β→Heap→Prop} {x:Sl} {l:List Ct} {i:Nat} {t:Int} {f:Addr→M β} (H:CsRep h x l) (hi:i < l.length) (ht:t=(i:Int))
  (hq:∀ a c,c.size=4→(∀ m,m < 4→KN h (a.add m)=c[m]?)→KN h (a.add 4)=some (.int .i64 l[i].2)→I64 l[i].2→VRep h l[i].1 c→(f a).wp h Q):(ixL x t 5>>=f).wp h Q:=by
 obtain ⟨a,c,ha,hs,hcs,hn,hI,hv⟩:=H.at_ i hi
 have:=H.len
 subst ht
 refine Xl (by omega) (by omega) ha (hq _ c hs (fun m hm=>?_) ?_ hI hv)
 ·rw [Addr.add_add,show (i:Int).toNat * 5=i * 5 by omega]
  exact hcs m hm
 ·rw [Addr.add_add,show (i:Int).toNat * 5=i * 5 by omega]
  exact hn
theorem Ext.row0 {h h':Heap} (e:Ext h h') {a:Addr} {cs:Array Value} {n:Nat} (hs:cs.size=n) (H:∀ m,m < n→KN h (a.add m)=cs[m]?):∀ m,m < n→KN h' (a.add m)=cs[m]?:=fun m hm=>by
 have:=e.row (i:=0) hs (fun m hm=>by rw [Nat.zero_add]; exact H m hm) m hm
 rwa [Nat.zero_add] at this
def crow (c:Array Value) (n:Int):Array Value:=c.push (.int .i64 n)
theorem Vh {c:Array Value} {n:Int} (hc:c.size=4):(crow c n).size=5:=by simp [crow,hc]
theorem KHg {h:Heap} {a:Addr} {c:Array Value} {n:Int} (hc:c.size=4) (hcs:∀ m,m < 4→KN h (a.add m)=c[m]?) (hn:KN h (a.add 4)=some (.int .i64 n)):∀ m,m < 5→KN h (a.add m)=(crow c n)[m]?:=fun m hm=>by
 unfold crow
 by_cases h4:m < 4
 ·rw [Array.getElem?_push,if_neg (by omega)]; exact hcs m h4
 ·have:m=4:=by omega
  subst this
  rw [Array.getElem?_push,if_pos hc.symm]; exact hn
theorem KEy {h:Heap} {v:Vl} {c:Array Value} {n:Int} (hv:VRep h v c):∀ u ∈ (crow c n).toList,one u=true:=fun u hu=>by
 unfold crow at hu
 rw [Array.toList_push,List.mem_append] at hu
 rcases hu with hu | hu
 ·exact hv.one u hu
 ·simp at hu; subst hu; rfl
theorem KLd {c:Array Value} {n:Int} (hc:c.size=4):∀ m,m < 4→(crow c n)[m]?=c[m]?:=fun m hm=>by
 unfold crow
 rw [Array.getElem?_push,if_neg (by omega)]
theorem KLe {c:Array Value} {n:Int} (hc:c.size=4):(crow c n)[4]?=some (.int .i64 n):=by
 unfold crow
 rw [Array.getElem?_push,if_pos hc.symm]
def bagI:Int→Option Vl→List Ct→Bool
 | _,_,[]=>true
 | left,p,(v,n)::r=>(decide (1≤n) && decide (n≤left)) && (mayV 8 v && ((p.all fun q=>decide (cmpV q v < 0)) && bagI (left - n) (some v) r))
def KAX (l:List Ct):Bool:=bagI 9007199254740992 none l
def bagE (l:List Ct):Int:=if KAX l=true then 0 else 210
def KFx (l:List Ct) (i:Nat):Option Vl:=if i=0 then none else (l[i - 1]?).map (·.1)
theorem KKH {left:Int} {l:List Ct} {i:Nat} (hi:i < l.length):bagI left (KFx l i) (l.drop i)=((decide (1≤l[i].2) && decide (l[i].2≤left)) && (mayV 8 l[i].1 && (((KFx l i).all fun q=>decide (cmpV q l[i].1 < 0)) && bagI (left - l[i].2) (KFx l (i+1)) (l.drop (i+1))))):=by
 rw [List.drop_eq_getElem_cons hi,bagI]
 have:KFx l (i+1)=some l[i].1:=by
  unfold KFx
  rw [if_neg (by omega),Nat.add_sub_cancel,List.getElem?_eq_getElem hi]; rfl
 rw [this]
theorem KKI (v:Vl):(ND v != 0)=!mayV 8 v:=by
 unfold ND
 cases mayV 8 v <;> rfl
theorem KCp {h:Heap} {Q:Int→Heap→Prop} {x:Sl} {l:List Ct} (hx:CsRep h x l) (H:∀ h',Ext h h'→Q (bagE l) h'):(Uq x).wp h Q:=by
 unfold Uq
 have hxl:=hx.len
 have hxb:=hx.big
 refine M.loop_inv (fun (z:Int × Int) hh=>∃ i:Nat,z.2=(i:Int)∧i≤l.length∧Ext h hh∧0≤z.1∧z.1≤9007199254740992∧KAX l=bagI z.1 (KFx l i) (l.drop i)) (fun z _=>((l.length:Int) - z.2).toNat) ?_ ⟨0,rfl,Nat.zero_le _,Ext.refl _,by decide,by decide,rfl⟩
 rintro ⟨left,z⟩ hh ⟨i,hz,hi,E,l0,l1,hb⟩ self hself
 dsimp only at hz l0 l1 hb
 subst hz
 unfold Ws
 dsimp only
 rw [hxl]
 refine Kc (fun hlt=>?_) (fun hge=>?_)
 ·have hlt:i < l.length:=by have:=of_decide_eq_true hlt; omega
  rw [KKH hlt] at hb
  have bad:∀ {h2:Heap},Ext h h2→KAX l=false→Q 210 h2:=fun {h2} e2 h0=>by
   have:=H _ e2
   unfold bagE at this
   rw [h0] at this
   exact this
  refine KGp (hx.ext E) hlt rfl (fun a c hs hcs hn hI hv=>UW (Vh hs) (KHg hs hcs hn) (ZW (fun h3 e3 z3 g3=>JA (Vh hs) (stR g3 (by rw [Vh hs]; decide) (KEy hv) (fun h4 u4 g4=>?_)))))
  rw [ZD (by rw [Array.length_toList,Vh hs]; rfl),Array.toArray_toList] at g4
  have E4:Ext hh h4:=e3.upd u4 (Nat.le_refl _)
  have hv4:VRep h4 l[i].1 c:=hv.ext E4
  have cN:KN h4 ((⟨hh.size,0,none⟩:Addr).add 4)=some (.int .i64 l[i].2):=by
   rw [Kg,KS g4]; exact KLe hs
  have cV:∀ m,m < 4→KN h4 (((⟨hh.size,0,none⟩:Addr).add 0).add m)=c[m]?:=fun m hm=>by
   rw [add_zero,Kg,KS g4,Nat.zero_add]; exact KLd hs m hm
  refine Jc cN ?_
  refine or_b (c:=decide (l[i].2 > left)) (fun _ Q' hq=>Jc cN (KG hq)) ?_
  refine Kc (fun hc=>KG (bad (E.trans E4) ?_)) (fun hc=>?_)
  ·rw [hb]
   rw [Bool.or_eq_true,decide_eq_true_iff,decide_eq_true_iff] at hc
   rcases hc with hc | hc
   ·rw [decide_eq_false (by omega)]; rfl
   ·rw [decide_eq_false (p:=l[i].2≤left) (by omega),Bool.and_false]; rfl
  rw [Bool.or_eq_false_iff,decide_eq_false_iff_not,decide_eq_false_iff_not] at hc
  rw [decide_eq_true (show 1≤l[i].2 by omega),decide_eq_true (show l[i].2≤left by omega),Bool.true_and,Bool.true_and] at hb
  refine UW hs cV (KJ (zG hv4 (fun h5 e5=>?_)))
  rw [KKI]
  refine Kc (fun hc2=>KG (bad ((E.trans E4).trans e5) ?_)) (fun hc2=>?_)
  ·rw [hb,show mayV 8 l[i].1=false by simpa using hc2]; rfl
  rw [show mayV 8 l[i].1=true by simpa using hc2,Bool.true_and] at hb
  have fin:∀ {h6:Heap} {t:Bool},Ext h5 h6→((KFx l i).all fun q=>decide (cmpV q l[i].1 < 0))=!t→(UR self left ⟨hh.size,0,none⟩ (i:Int) t).wp h6 Q:=fun {h6 t} e6 ht=>by
   unfold UR
   rw [ht] at hb
   refine Kc (fun h0=>KG (bad (((E.trans E4).trans e5).trans e6) ?_)) (fun h0=>?_)
   ·subst h0; rw [hb]; rfl
   ·subst h0
    refine Jc ((e5.trans e6).cell cN) ?_
    rw [w64 (by omega) (by omega),w64 (by omega) (by omega)]
    refine hself _ _ ⟨i+1,by dsimp only; omega,hlt,((E.trans E4).trans e5).trans e6,by dsimp only; omega,by dsimp only; omega,?_⟩ (by dsimp only; omega)
    rw [hb]; rfl
  refine Kc (fun h0=>?_) (fun h0=>?_)
  ·have h0:0 < i:=by have:=of_decide_eq_true h0; omega
   rw [w64 (by omega) (by omega)]
   refine KGp (i:=i - 1) (hx.ext ((E.trans E4).trans e5)) (by omega) (by omega) (fun a2 c2 hs2 hcs2 hn2 hI2 hv2=>UW hs2 (fun m hm=>by rw [add_zero]; exact hcs2 m hm) (UW hs (e5.row0 hs cV) (KJ (XH hv2 (hv4.ext e5) (fun h6 e6=>fin e6 ?_)))))
   unfold KFx
   rw [if_neg (by omega),List.getElem?_eq_getElem (show i - 1 < l.length by omega)]
   show decide (cmpV l[i - 1].1 l[i].1 < 0)=_
   rw [← decide_not]
   exact decide_eq_decide.2 (by omega)
  ·have h0:i=0:=by have:=of_decide_eq_false h0; omega
   subst h0
   exact fin (Ext.refl _) rfl
 ·have hge:i=l.length:=by have:=of_decide_eq_false hge; omega
  subst hge
  rw [List.drop_length] at hb
  refine KG ?_
  have:=H _ E
  unfold bagE at this
  rw [hb] at this
  exact this
end Gx
namespace Gx
open Go
set_option linter.unusedVariables false
set_option linter.unusedSimpArgs false
def ctT (c:Ct):List UInt8:=Lib.itoa c.2++[32]++txV c.1++[10]
def bagT (l:List Ct):List UInt8:=l.flatMap ctT
def bagW:List Ct→Nat
 | []=>0
 | (v,_)::r=>wt v+8+bagW r
theorem KHh:∀ l:List Ct,l.length≤bagW l
 | []=>Nat.zero_le _
 | (v,n)::r=>by have:=KHh r; rw [bagW,List.length_cons]; omega
theorem KNT {h:Heap} {c:Ct} {cs:Array Value} (hv:VRep h c.1 cs) (hn:I64 c.2):(ctT c).length≤26 * wt c.1+21:=by
 have h1:=KEi hn
 have h2:=KDo 8 _ hv
 have:(txV c.1).length+2≤26 * wt c.1:=h2
 unfold ctT
 simp only [List.length_append,List.length_cons,List.length_nil]
 omega
theorem KEz:∀ {l:List Ct},(∀ c ∈ l,I64 c.2∧∃ h cs,VRep h c.1 cs)→(bagT l).length≤26 * bagW l
 | [],_=>Nat.zero_le _
 | (v,n)::r,H=>by
  obtain ⟨hn,h,cs,hv⟩:=H (v,n) (by simp)
  have h1:=KNT (c:=(v,n)) hv hn
  have h2:=KEz (l:=r) (fun c hc=>H c (List.mem_cons_of_mem _ hc))
  unfold bagT at h2 ⊢
  rw [List.flatMap_cons,List.length_append,bagW]
  dsimp only at h1
  omega
theorem CsRep.all {h:Heap} {x:Sl} {l:List Ct} (hx:CsRep h x l):∀ c ∈ l,I64 c.2∧∃ h cs,VRep h c.1 cs:=fun c hc=>by
 obtain ⟨j,hj,rfl⟩:=List.getElem_of_mem hc
 obtain ⟨a,cs,_,_,_,_,hI,hv⟩:=hx.at_ j hj
 exact ⟨hI,h,cs,hv⟩
theorem KFy {l:List Ct} {i:Nat} (hi:i < l.length):bagT (l.take (i+1))=bagT (l.take i)++ctT l[i]:=by
 unfold bagT
 rw [List.take_succ_eq_append_getElem hi,List.flatMap_append]; simp
theorem KHi (l:List Ct) (i:Nat):(bagT (l.take i)).length≤(bagT l).length:=by
 unfold bagT
 conv=>rhs; rw [← List.take_append_drop i l,List.flatMap_append,List.length_append]
 omega
theorem KIR (l:List Ct):(bagE l=0∧KAX l=true)∨(bagE l=210∧KAX l=false):=by
 unfold bagE
 cases KAX l
 ·exact .inr ⟨rfl,rfl⟩
 ·exact .inl ⟨rfl,rfl⟩
theorem KDt {h:Heap} {Q:ByteArray × Int→Heap→Prop} {x:Sl} {l:List Ct} (hx:CsRep h x l) (hp:Vt h) (hd:X9 h) (hT:(bagT l).length≤68719476736) (hwl:l.length≤1099511627776)
  (H1:∀ h',Ext h h'→bagE l≠0→Q (ByteArray.empty,bagE l) h')
  (H3:∀ h',Ext h h'→bagE l=0→Q (bs (bagT l),0) h'):(Wt x).wp h Q:=by
 unfold Wt
 have hxl:=hx.len
 refine KJ (KCp hx (fun h1 e1=>?_))
 refine Kc (fun hc=>KG (H1 _ e1 (by simpa using hc))) (fun hc=>?_)
 have hc:bagE l=0:=by simpa using hc
 refine ZW (fun h2 e2 z2 g2=>?_)
 refine M.loop_inv (fun (s:Int) hh=>∃ (i:Nat) (r:Sl),s=(i:Int)∧i≤l.length∧Ext h1 hh∧Bld h1.size hh h1.size r (bagT (l.take i))) (fun s _=>((l.length:Int) - s).toNat) ?_ ⟨0,Sl.nil,rfl,Nat.zero_le _,e2,by simpa [bagT] using Bld.new (Nat.le_refl _) g2⟩
 rintro s hh ⟨i,r,rfl,hi,E,B⟩ self hself
 unfold Gy
 rw [hxl]
 have hpi:=KHi l i
 refine Kc (fun hlt=>?_) (fun hend=>?_)
 ·have hlt:i < l.length:=by have:=of_decide_eq_true hlt; omega
  have hpi1:=KHi l (i+1)
  rw [KFy hlt,List.length_append] at hpi1
  have E0:=e1.trans E
  refine KGp (hx.ext E0) hlt rfl (fun a c hs hcs hn hI hv=>UW (Vh hs) (KHg hs hcs hn) (ZW (fun h3 e3 z3 g3=>JA (Vh hs) (stR g3 (by rw [Vh hs]; decide) (KEy hv) (fun h4 u4 g4=>?_)))))
  rw [ZD (by rw [Array.length_toList,Vh hs]; rfl),Array.toArray_toList] at g4
  have E4:Ext hh h4:=e3.upd u4 (Nat.le_refl _)
  have hv4:VRep h4 l[i].1 c:=hv.ext E4
  have cN:KN h4 ((⟨hh.size,0,none⟩:Addr).add 4)=some (.int .i64 l[i].2):=by
   rw [Kg,KS g4]; exact KLe hs
  have cV:∀ m,m < 4→KN h4 (((⟨hh.size,0,none⟩:Addr).add 0).add m)=c[m]?:=fun m hm=>by
   rw [add_zero,Kg,KS g4,Nat.zero_add]; exact KLd hs m hm
  have hcl:(ctT l[i]).length=(Lib.itoa l[i].2).length+1+(txV l[i].1).length+1:=by
   unfold ctT; simp only [List.length_append,List.length_cons,List.length_nil]
  refine Jc cN (UW hs cV (KJ (N5 hI (hp.ext (E0.trans E4)) (fun h5 e5=>?_))))
  refine KCy ⟨e5.cell cN,hs,e5.row0 hs cV⟩ ?_
  refine KCc (y:=[32]) (by simp only [List.length_cons,List.length_nil]; omega) ?_
  have E5:=E4.trans e5
  refine KJ (N6 (hv4.ext e5) (hp.ext (E0.trans E5)) (hd.ext (E0.trans E5)) (by omega) (fun h6 e6=>?_))
  have E6:=E5.trans e6
  refine KCc (by rw [List.length_append,List.length_cons,List.length_nil]; omega) (KCc (y:=[10]) (by simp only [List.length_append,List.length_cons,List.length_nil]; omega) ?_)
  have E6':=E.trans E6
  refine KJ (Ve (B.ext E6) E6'.size (by simp only [List.length_append,List.length_cons,List.length_nil]; omega) (fun h7 r7 n7 B7 K7=>?_))
  have E7:=K7.ext E6' (B.ext E6) (Nat.le_refl _)
  rw [w64 (by omega) (by omega)]
  exact hself _ _ ⟨i+1,r7,by simp,by omega,E7,by rw [KFy hlt]; exact B7⟩ (by omega)
 ·have hge:i=l.length:=by have:=of_decide_eq_false hend; omega
  subst hge
  rw [List.take_length] at B
  exact KJ (Nv B (by omega) (fun h3 K3 _=>KG (H3 _ (e1.trans (K3.ext E B (Nat.le_refl _))) hc)))
theorem KKJ {h:Heap} {Q:ByteArray × Int→Heap→Prop} {x:Sl} {l:List Ct} (hx:CsRep h x l) (hp:Vt h) (hd:X9 h) (hW:bagW l≤1099511627)
  (H1:∀ h',Ext h h'→bagE l≠0→Q (ByteArray.empty,bagE l) h')
  (H3:∀ h',Ext h h'→bagE l=0→Q (bs (bagT l),0) h'):(Wt x).wp h Q:=by
 have hwl:=KHh l
 have hT:=KEz hx.all
 exact KDt hx hp hd (by omega) (by omega) H1 H3
theorem KFz {h:Heap} {Q:Bool→Heap→Prop} {x y:Sl} {l:List Ct} (hx:CsRep h x l) (hy:CsRep h y l) (H:∀ h',Ext h h'→Q true h'):(Uj x y).wp h Q:=by
 unfold Uj
 have hxl:=hx.len
 have hyl:=hy.len
 have hxb:=hx.big
 rw [hxl,hyl]
 refine iteF (by simp) ?_
 refine M.loop_inv (fun (t:Int) h'=>Ext h h'∧∃ i:Nat,t=(i:Int)∧i≤l.length) (fun t _=>((l.length:Int) - t).toNat) ?_ ⟨Ext.refl h,0,rfl,Nat.zero_le _⟩
 rintro t h' ⟨E,i,rfl,hi⟩ self hself
 unfold Vq
 rw [hxl]
 refine Kc (fun hc=>?_) (fun hc=>KG (H _ E))
 have hlt:i < l.length:=by have:=of_decide_eq_true hc; omega
 refine KGp (hx.ext E) hlt rfl (fun a c hs hcs hn hI hv=>KGp (hy.ext E) hlt rfl (fun a2 c2 hs2 hcs2 hn2 _ hv2=>Jc hn (Jc hn2 (iteF (by simp) ?_))))
 refine KGp (hx.ext E) hlt rfl (fun a3 c3 hs3 hcs3 hn3 _ hv3=>KGp (hy.ext E) hlt rfl (fun a4 c4 hs4 hcs4 hn4 _ hv4=>UW hs3 (fun m hm=>by rw [add_zero]; exact hcs3 m hm) (UW hs4 (fun m hm=>by rw [add_zero]; exact hcs4 m hm) (KJ (KDf hv3 hv4 (fun h3 e3=>?_))))))
 rw [Nw]
 unfold Uf
 refine iteF rfl ?_
 rw [w64 (by omega) (by omega)]
 exact hself _ _ ⟨E.trans e3,i+1,by simp,hlt⟩ (by omega)
end Gx
