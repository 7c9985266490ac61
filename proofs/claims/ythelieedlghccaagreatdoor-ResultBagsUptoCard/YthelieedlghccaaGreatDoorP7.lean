/- Own proofs: what those Lean programs compute. No condition. -/
import Derived.Test.YthelieedlghccaaGreatDoorP0
import Derived.Test.YthelieedlghccaaGreatDoorP1
import Derived.Test.YthelieedlghccaaGreatDoorP2
import Derived.Test.YthelieedlghccaaGreatDoorP3
import Derived.Test.YthelieedlghccaaGreatDoorP4
import Derived.Test.YthelieedlghccaaGreatDoorP5
import Derived.Test.YthelieedlghccaaGreatDoorP6
import Derived.Shelf.SlSortCmp.NoneTotal
set_option linter.unusedVariables false
set_option linter.unusedSimpArgs false
namespace Gx
open Go
set_option linter.unusedVariables false
set_option linter.unusedSimpArgs false
def jn (sep:List UInt8):List (List UInt8)→List UInt8
 | []=>[]
 | [a]=>a
 | a::b::r=>a++(sep++jn sep (b::r))
def sv (s:List UInt8):Value:=.string (bs s)
theorem KFJ (sep a:List UInt8) (l:List (List UInt8)):jn sep (a::l)=a++l.flatMap (fun s=>sep++s):=by
 induction l generalizing a with
 | nil=>simp [jn]
 | cons b r ih=>rw [jn,ih]; simp
theorem KKg {lo:Nat} {h:Heap} {b:Nat} {n:Int} {Q:Unit→Heap→Prop} (B:Bld lo h b Sl.nil []) (hlo:lo≤h.size) (h0:0≤n) (hn:n≤140737488355328)
  (H:∀ h' r',Bld lo h' b r' []→BKeep b Sl.nil r' h h'→Q () h'):(UE (some ⟨b,0,none⟩) n).wp h Q:=by
 unfold UE
 refine KB2 B (fun h1 B1 u1=>iteF (by simp; omega) ?_)
 obtain ⟨p,q1,q2⟩:=B1.ptr
 have c1:KO h1 ((⟨b,0,none⟩:Addr).add 1)=some Sl.nil.v:=by rw [Kg,KU q1]; rfl
 refine ZD (ZD (Jw (n:=Sl.nil) c1 (Jw (n:=Sl.nil) c1 ?_)))
 have hK1:BKeep b Sl.nil Sl.nil h h1:=⟨by rw [u1.size]; exact Nat.le_refl _,fun i hi hne _=>u1.ne i hne,fun i hi=>.inl hi⟩
 refine KP (fun hc=>?_) (fun hc=>KC (H _ _ B1 hK1))
 have hpos:0 < n:=of_decide_eq_true hc
 refine KE ?_
 unfold U3
 refine ZD (ZD (Jw (n:=Sl.nil) c1 (Jw (n:=Sl.nil) c1 ?_)))
 have hw:IntKind.wrap .i64 ((IntKind.wrap .i64 (2 * ((Sl.nil:Sl).cap:Int)))+n)=n:=by
  rw [show IntKind.wrap .i64 (2 * ((Sl.nil:Sl).cap:Int))=0 by decide,w64 (by omega) (by omega)]; omega
 rw [hw]
 refine ⟨h0,by omega,fun cs hle hmax=>?_⟩
 have e2:=Ext.push h1 (.cells cs KY)
 have g2:(h1.push (.cells cs KY))[h1.size]?=some (.cells cs KY (0,0)):=Kf
 generalize h1.push (.cells cs KY)=h2 at e2 g2 ⊢
 have c2:=e2.cell c1
 refine KEn ⟨c2,c2⟩ (KKP (by decide) (by decide) (by dsimp only [Sl.nil]; omega) (ZD (Jw (n:=Sl.nil) c2 ?_)))
 have hcs:cs.size≠0:=by omega
 rw [if_neg (show ¬ cs.size=(0:Int).toNat by simpa using hcs)]
 have hbz:(Option.map (fun x:Addr=>x.add ((0:Int).toNat * 1)) (some ⟨h1.size,0,none⟩))=some ⟨h1.size,0,none⟩:=by simp [Kg]
 have hr:(⟨Option.map (fun x:Addr=>x.add ((0:Int).toNat * 1)) (some ⟨h1.size,0,none⟩),((Sl.nil:Sl).len:Int).toNat - (0:Int).toNat,cs.size - (0:Int).toNat⟩:Sl)=⟨some ⟨h1.size,0,none⟩,0,cs.size⟩:=by
  rw [hbz]; simp [Sl.nil]
 dsimp only
 rw [hr]
 refine ⟨[],by simp [Sl.nil],.inl rfl,fun a ha j hj=>by simp at hj,by simp,ZD ?_⟩
 rw [show GD h2 (⟨some ⟨h1.size,0,none⟩,0,cs.size⟩:Sl).base 0 []=h2 from rfl]
 obtain ⟨p',q1',q2'⟩:=(B1.ext e2).ptr
 refine Wl (x:=Sl.nil.v) c2 (by rw [Kg,KZ q1']) (KEo _) (KC (KC ?_))
 rw [Kg,Nat.zero_add]
 have hlt:=B1.lt
 have R:Gw lo h2 ⟨some ⟨h1.size,0,none⟩,0,cs.size⟩ 1 (([]:List UInt8).map bv):=.inr ⟨h1.size,_,_,rfl,by have:=u1.size; omega,g2,by simp,by simp,by simp,fun j v hj=>by simp at hj⟩
 obtain ⟨B3,K3⟩:=KI5 (h:=h1) (h':=h2) (l':=[]) B1 (Upd.refl _ _) e2.size (fun i hi _=>e2.same i hi) (fun i hi=>by obtain ⟨a,ha,rfl⟩:=hi; cases ha; exact .inr (Nat.le_refl _)) R (fun h=>absurd h hcs) (fun g hg=>by cases hg; exact ⟨_,_,g2⟩)
 exact H _ _ B3 (hK1.trans K3 B.lt)
def SsAt (h:Heap) (x:Sl) (ps:List (List UInt8)):Prop:=x.len=ps.length∧x.len≤x.cap∧ze h x.base (ps.map sv)
theorem SsAt.ext {h h':Heap} {x:Sl} {ps:List (List UInt8)} (S:SsAt h x ps) (e:Ext h h'):SsAt h' x ps:=⟨S.1,S.2.1,e.reads S.2.2⟩
theorem SsAt.get {h:Heap} {x:Sl} {ps:List (List UInt8)} (S:SsAt h x ps) {i:Nat} (hi:i < ps.length):∃ a,x.base=some a∧KO h (a.add i)=some (.string (bs ps[i])):=by
 obtain ⟨_,_,R | ⟨a,ha,R⟩⟩:=S
 ·have:ps=[]:=by simpa using R
  subst this; simp at hi
 ·exact ⟨a,ha,R i _ (by simp [hi,sv])⟩
theorem KHG {ps:List (List UInt8)} {i:Nat} (hi:i < ps.length):((ps.take (i+1)).map List.length).sum=((ps.take i).map List.length).sum+ps[i].length:=by
 rw [List.take_succ_eq_append_getElem hi,List.map_append,List.sum_append]; simp only [List.map_cons,List.map_nil,List.sum_cons,List.sum_nil,Nat.add_zero]
theorem KI9 (ps:List (List UInt8)) (i:Nat):((ps.take i).map List.length).sum≤(ps.map List.length).sum:=by
 conv=>rhs; rw [← List.take_append_drop i ps,List.map_append,List.sum_append]
 omega
theorem KJA (sep:List UInt8):∀ (l:List (List UInt8)) (h:0 < l.length),jn sep l=l[0]++(l.drop 1).flatMap (fun s=>sep++s)
 | [],h=>by simp at h
 | a::r,h=>by rw [KFJ]; rfl
theorem KMG (sep:List UInt8):∀ ps:List (List UInt8),ps≠[]→(jn sep ps).length=(ps.map List.length).sum+sep.length * (ps.length - 1)
 | [],h=>absurd rfl h
 | [a],_=>by simp [jn]
 | a::b::r,_=>by
  rw [jn,List.length_append,List.length_append,KMG sep (b::r) (by simp)]
  simp only [List.map_cons,List.sum_cons,List.length_cons]
  rw [show r.length+1+1 - 1=(r.length+1 - 1)+1 by omega,Nat.mul_add]
  omega
theorem KMH {h:Heap} {x:Sl} {ps:List (List UInt8)} {sep:List UInt8} {Q:ByteArray→Heap→Prop} (S:SsAt h x ps) (hs1:1≤sep.length) (hs:sep.length≤16) (hp:ps.length≤1099511627776) (hm:(jn sep ps).length≤70368744177664)
  (H:∀ h',Ext h h'→Q (bs (jn sep ps)) h'):(XU x (bs sep)).wp h Q:=by
 unfold XU
 rw [S.1]
 match hps:ps with
 | []=>exact iteT rfl (KC (H _ (Ext.refl _)))
 | [a] =>
  obtain ⟨b,hb,hcell'⟩:=S.get (i:=0) (by simp)
  exact iteF rfl (iteT rfl (Xi (by decide) (by rw [S.1]; simp) hb (Yx (n:=bs a) hcell' (KC (H _ (Ext.refl _))))))
 | a::b0::r0 =>
  rw [← hps] at S hp hm H ⊢
  have hne:ps≠[]:=by rw [hps]; simp
  have hl2:2≤ps.length:=by rw [hps]; simp
  have hjl:=KMG sep ps hne
  rw [ZO]
  refine iteF (by rw [beq_eq_false_iff_ne]; omega) (iteF (by rw [beq_eq_false_iff_ne]; omega) (iteT (by simp; omega) ?_))
  have hw1:IntKind.wrap .i64 ((ps.length:Int) - 1)=((ps.length - 1:Nat):Int):=by rw [w64 (by omega) (by omega)]; omega
  rw [hw1]
  refine ⟨IntKind.wrap .i64 ((9223372036854775807:Int).tdiv ((ps.length - 1:Nat):Int)),⟨by omega,rfl⟩,?_⟩
  have hq:(sep.length:Int) < IntKind.wrap .i64 ((9223372036854775807:Int).tdiv ((ps.length - 1:Nat):Int)):=by
   rw [Int.tdiv_eq_ediv_of_nonneg (by decide)]
   have h1:(17:Int)≤9223372036854775807 / ((ps.length - 1:Nat):Int):=by
    rw [Int.le_ediv_iff_mul_le (by omega)]; omega
   have h2:9223372036854775807 / ((ps.length - 1:Nat):Int)≤9223372036854775807:=Int.ediv_le_self _ (by decide)
   rw [w64 (by omega) (by omega)]; omega
  have hsm:sep.length * (ps.length - 1)≤70368744177664:=by omega
  have hcast:(sep.length:Int) * ((ps.length - 1:Nat):Int)=((sep.length * (ps.length - 1):Nat):Int):=by simp
  refine iteF (by simp; omega) ?_
  unfold YU
  rw [hcast,w64n (n:=sep.length * (ps.length - 1)) (by omega),Int.zero_add,w64n (n:=sep.length * (ps.length - 1)) (by omega)]
  refine M.loop_inv (fun (t:Int × Int) h'=>h'=h∧∃ i:Nat,t.2=(i:Int)∧i≤ps.length∧t.1=((sep.length * (ps.length - 1)+((ps.take i).map List.length).sum:Nat):Int)) (fun t _=>((ps.length:Int) - t.2).toNat) ?_ ⟨rfl,0,rfl,Nat.zero_le _,by simp⟩
  rintro ⟨m,t⟩ h' ⟨rfl,i,ht,hi,hmm⟩ self hself
  have ht:t=(i:Int):=ht
  have hmm:m=_:=hmm
  subst ht; subst hmm
  unfold G8
  rw [S.1]
  have hpi:=KI9 ps i
  refine KP (fun hc=>?_) (fun hc=>?_)
  ·have hlt:i < ps.length:=by have:=of_decide_eq_true hc; omega
   have hpj:=KI9 ps (i+1)
   rw [KHG hlt] at hpj
   obtain ⟨b,hb,hcell'⟩:=S.get hlt
   refine Xi (by omega) (by rw [S.1]; omega) hb (Yx (n:=bs ps[i]) (by rw [show (i:Int).toNat * 1=i by omega]; exact hcell') ?_)
   rw [ZO]
   refine iteF (by rw [w64 (by omega) (by omega),decide_eq_false_iff_not]; omega) ?_
   refine hself (_,_) _ ⟨rfl,i+1,by dsimp only; rw [w64 (by omega) (by omega)]; simp,by omega,?_⟩ (by dsimp only; rw [w64 (by omega) (by omega)]; omega)
   dsimp only
   rw [w64 (by omega) (by omega),KHG hlt]; omega
  ·have hge:i=ps.length:=by have:=of_decide_eq_false hc; omega
   subst hge
   rw [List.take_length]
   refine ZU (fun h1 e1 z1 g1=>?_)
   have B1:=Bld.new (Nat.le_refl _) g1
   refine KE (KKg B1 (by omega) (by omega) (by omega) (fun h2 r2 B2 K2=>?_))
   have E2:=K2.ext e1 B1 (Nat.le_refl _)
   obtain ⟨b,hb,hcell'⟩:=(S.ext E2).get (i:=0) (by omega)
   have h0l:=KI9 ps 1
   rw [KHG (i:=0) (by omega)] at h0l
   refine Xi (by decide) (by rw [S.1]; omega) hb (Yx (n:=bs ps[0]) hcell' ?_)
   refine KE (Ws B2 E2.size (by rw [List.length_nil]; omega) (fun h3 r3 n3 B3 K3=>?_))
   have E3:=K3.ext E2 B2 (Nat.le_refl _)
   have hcap:=S.2.1
   have hSl:=S.1
   refine KKP (by decide) (by omega) (by omega) ?_
   have hx:(⟨if x.cap=(1:Int).toNat then x.base else x.base.map (fun a=>a.add ((1:Int).toNat * 1)),(ps.length:Int).toNat - (1:Int).toNat,x.cap - (1:Int).toNat⟩:Sl)=⟨some (b.add 1),ps.length - 1,x.cap - 1⟩:=by
    have hl:=S.1
    rw [if_neg (show ¬ x.cap=(1:Int).toNat by have:(1:Int).toNat=1:=rfl; omega),hb]
    rfl
   rw [hx]
   have hj0:jn sep ps=ps[0]++(ps.drop 1).flatMap (fun s=>sep++s):=KJA sep ps (by omega)
   have hpre:∀ k,(ps[0]++((ps.drop 1).take k).flatMap (fun s=>sep++s)).length≤(jn sep ps).length:=fun k=>by
    rw [hj0,List.length_append,List.length_append]
    conv=>rhs; rw [← List.take_append_drop k (ps.drop 1),List.flatMap_append,List.length_append]
    omega
   refine M.loop_inv (fun (t:Int) hx=>∃ k:Nat,t=(k:Int)∧k≤ps.length - 1∧Ext h' hx∧∃ r,Bld h'.size hx h'.size r (ps[0]++((ps.drop 1).take k).flatMap (fun s=>sep++s))) (fun t _=>((ps.length:Int) - t).toNat) ?_ ⟨0,rfl,Nat.zero_le _,E3,r3,by simpa using B3⟩
   rintro t h4 ⟨k,rfl,hk,E4,r4,B4⟩ self2 hself2
   unfold G0
   dsimp only
   have hpk:=hpre k
   refine KP (fun hc=>?_) (fun hc=>?_)
   ·have hlt:k < ps.length - 1:=by have:=of_decide_eq_true hc; omega
    have hlt':1+k < ps.length:=by omega
    have hpk1:=hpre (k+1)
    have htk:((ps.drop 1).take (k+1)).flatMap (fun s=>sep++s)=((ps.drop 1).take k).flatMap (fun s=>sep++s)++(sep++ps[1+k]):=by
     rw [List.take_succ_eq_append_getElem (by simpa using hlt),List.flatMap_append]
     simp only [List.getElem_drop,List.flatMap_cons,List.flatMap_nil,List.append_nil]
    rw [htk,← List.append_assoc,← List.append_assoc,List.length_append,List.length_append] at hpk1
    obtain ⟨b',hb',hcell2⟩:=(S.ext E4).get hlt'
    rw [hb] at hb'
    cases hb'
    refine Xi (by omega) (by dsimp only; omega) rfl (Yx (n:=bs ps[1+k]) (by rw [Addr.add_add,show 1+(k:Int).toNat * 1=1+k by omega]; exact hcell2) ?_)
    refine KE (Ws B4 E4.size (by omega) (fun h5 r5 n5 B5 K5=>?_))
    have E5:=K5.ext E4 B4 (Nat.le_refl _)
    refine KE (Ws B5 E5.size (by rw [List.length_append]; omega) (fun h6 r6 n6 B6 K6=>?_))
    have E6:=K6.ext E5 B5 (Nat.le_refl _)
    rw [w64 (by omega) (by omega)]
    refine hself2 _ _ ⟨k+1,by simp,by omega,E6,r6,?_⟩ (by omega)
    rw [htk,← List.append_assoc,← List.append_assoc]
    exact B6
   ·have hge:k=ps.length - 1:=by have:=of_decide_eq_false hc; omega
    subst hge
    rw [List.take_of_length_le (by simp),← hj0] at B4
    refine KE (KAC B4 (by omega) (fun h5 K5 _=>KC (H _ (K5.ext E4 B4 (Nat.le_refl _)))))
end Gx
namespace Gx
open Go
set_option linter.unusedVariables false
set_option linter.unusedSimpArgs false
def shw (ev od:List UInt8):List (List UInt8)→List UInt8
 | []=>[]
 | [a]=>a
 | a::b::r=>a++(ev++shw od ev (b::r))
def prs:List (List UInt8)→List (List UInt8)
 | []=>[]
 | [a]=>[a]
 | a::b::r=>(a++([58,32]++b))::prs r
theorem KMI (sep:List UInt8):∀ l,jn sep l=shw sep sep l
 | []=>rfl
 | [a]=>rfl
 | a::b::r=>by rw [jn,shw,KMI sep (b::r)]
theorem KMJ:∀ l:List (List UInt8),jn [44,32] (prs l)=shw [58,32] [44,32] l
 | []=>rfl
 | [a]=>rfl
 | [a,b]=>by simp [prs,jn,shw]
 | a::b::c::r=>by
  have ih:=KMJ (c::r)
  rw [prs,KFJ]
  rw [shw,shw,← ih]
  match hp:prs (c::r) with
  | []=>cases r <;> simp [prs] at hp
  | p::ps=>rw [KFJ,List.flatMap_cons]; simp
theorem KHH:∀ (l:List (List UInt8)) (a:List UInt8),l.length % 2=0→prs (l++[a])=prs l++[a]
 | [],a,_=>rfl
 | [x],a,h=>by simp at h
 | x::y::r,a,h=>by
  rw [List.cons_append,List.cons_append,prs,prs,KHH r a (by simp at h; omega)]; rfl
theorem KMK:∀ (l:List (List UInt8)) (a b:List UInt8),l.length % 2=0→prs (l++[a,b])=prs l++[a++([58,32]++b)]
 | [],a,b,_=>rfl
 | [x],a,b,h=>by simp at h
 | x::y::r,a,b,h=>by
  rw [List.cons_append,List.cons_append,prs,prs,KMK r a b (by simp at h; omega)]; rfl
theorem KJB:∀ l:List (List UInt8),(prs l).length≤l.length
 | []=>by simp [prs]
 | [a]=>by simp [prs]
 | a::b::r=>by have:=KJB r; simp [prs]; omega
theorem KDm:∀ (ev od:List UInt8) (l:List (List UInt8)),(l.map List.length).sum≤(shw ev od l).length
 | _,_,[]=>by simp [shw]
 | _,_,[a]=>by simp [shw]
 | ev,od,a::b::r=>by
  have:=KDm od ev (b::r)
  rw [shw,List.length_append,List.length_append,List.map_cons,List.sum_cons]
  omega
theorem KHI {l:List (List UInt8)} {a:List UInt8} (h:a ∈ l):a.length≤(l.map List.length).sum:=by
 induction l with
 | nil=>cases h
 | cons x l ih =>
  rw [List.map_cons,List.sum_cons]
  rcases List.mem_cons.1 h with rfl | h
  ·omega
  ·have:=ih h; omega
theorem KML {l:List (List UInt8)} (h:∀ a ∈ l,1≤a.length):l.length≤(l.map List.length).sum:=by
 induction l with
 | nil=>simp
 | cons x l ih =>
  rw [List.map_cons,List.sum_cons,List.length_cons]
  have:=ih (fun a ha=>h a (List.mem_cons_of_mem _ ha))
  have:=h x (by simp)
  omega
def txt:Nat→Vl→List UInt8
 | 0,_=>[63]
 | d+1,.mk k n s l =>
  if k=1 then Lib.itoa n else if k=2 then NS s else if k=3 then (if n=1 then [116,114,117,101] else [102,97,108,115,101])
  else if k=6 then [118,91]++Lib.itoa n++[93] else if k=7 then [101,91]++Lib.itoa n++[93]
  else if k=4 then [91]++shw [44,32] [44,32] (l.map (txt d))++[93] else if k=5 then [123]++shw [58,32] [44,32] (l.map (txt d))++[125] else [63]
theorem KNn (n:Int):1≤(Lib.itoa n).length:=by
 have:∀ u,1≤(Lib.decDigits u).length:=fun u=>by unfold Lib.decDigits; split <;> simp
 unfold Lib.itoa
 split
 ·simp
 ·exact this _
theorem KMM:∀ (d:Nat) (v:Vl),1≤(txt d v).length
 | 0,_=>by simp [txt]
 | d+1,.mk k n s l=>by
  unfold txt
  repeat' split
  all_goals first | exact KNn n | (simp [NS]; done) | (simp; omega)
theorem Gw.set {lo:Nat} {h:Heap} {r:Sl} {vs:List Value} {b j:Nat} {v:Value} (H:Gw lo h r 1 vs) (hb:r.base=some ⟨b,0,none⟩) (hj:j < vs.length):Gw lo (hset h ⟨b,j,none⟩ v) r 1 (vs.set j v):=by
 rcases H with ⟨rfl,rfl⟩ | ⟨g,ty,cells,H⟩
 ·cases hb
 ·rw [H.base] at hb
  cases hb
  refine .inr ⟨b,ty,_,H.base,H.lo,V8 H.blk,by rw [Array.size_setIfInBounds]; exact H.size,H.cap,by rw [List.length_set]; exact H.len,fun i x hx=>?_⟩
  rw [List.getElem?_set] at hx
  rw [Array.getElem?_setIfInBounds]
  split at hx
  ·rename_i hi
   subst hi
   cases hx
   have hc:=H.len
   have:=H.size
   have hcap:=H.cap
   rw [if_pos rfl,if_pos (by omega)]
  ·rename_i hi
   rw [if_neg hi]
   exact H.get i x hx
theorem ixS2 {β:Type} {lo:Nat} {h:Heap} {Q:β→Heap→Prop} {r:Sl} {ps:List (List UInt8)} {i:Nat} {t:Int} {f:Addr→M β} (G:Gw lo h r 1 (ps.map sv)) (hi:i < ps.length) (ht:t=(i:Int))
  (H:∀ b,r.base=some ⟨b,0,none⟩→KO h ⟨b,i,none⟩=some (.string (bs ps[i]))→Vn h ⟨b,i,none⟩=false→(f ⟨b,i,none⟩).wp h Q):(ixL r t 1>>=f).wp h Q:=by
 subst ht
 have hl:=G.len
 simp at hl
 obtain ⟨b,hb,hc⟩:=G.cell (j:=i) (v:=sv ps[i]) (by simp [hi])
 refine Xi (by omega) (by omega) hb ?_
 rw [Kg,show 0+(i:Int).toNat * 1=i by omega]
 refine H b hb hc ?_
 rcases G with ⟨rfl,_⟩ | ⟨g,ty,cells,R⟩
 ·cases hb
 ·rw [R.base] at hb; cases hb
  exact KZ R.blk
theorem KIG {β:Type} {h:Heap} {Q:β→Heap→Prop} {a c:List UInt8} {x:List UInt8} {f:ByteArray→M β} (hm:a.length+x.length+c.length≤9223372036854775807) (H:(f (bs (a++x++c))).wp h Q):(sCat (bs a) (bs x)>>=fun y=>sCat y (bs c)>>=f).wp h Q :=
 NT (by omega) (NT (by simp only [List.length_append]; omega) H)
def prt (k:Int) (l:List (List UInt8)):List (List UInt8):=if k=5 then prs l else l
theorem KKh:∀ (d:Nat) (v:Vl) {h:Heap} {Q:ByteArray→Heap→Prop} {x:Array Value},d≤8→VRep h v x→Gu h→KAx h→(txt d v).length≤1099511627776→(∀ h',Ext h h'→Q (bs (txt d v)) h')→(Gh x ((9 - d:Nat):Int)).wp h Q:=by
 intro d
 induction d with
 | zero =>
  rintro v h Q x _ hx _ _ _ H
  unfold Gh
  exact ZU (fun h1 e1 z1 g1=>iteT rfl (KC (H _ e1)))
 | succ d ih =>
  rintro ⟨k,n,s,l⟩ h Q x hd hx hp hdb hm H
  obtain ⟨xs,rfl,k1,n1,s1,r1⟩:=VRep.eq.1 hx
  unfold Gh
  refine ZU (fun h1 E z1 g1=>?_)
  have c0:KO h1 ((⟨h.size,0,none⟩:Addr).add 0)=some (.int .i64 k):=by rw [Kl g1]; rfl
  have c1:KO h1 ((⟨h.size,0,none⟩:Addr).add 1)=some (.int .i64 n):=by rw [Kl g1]; rfl
  have c2:KO h1 ((⟨h.size,0,none⟩:Addr).add 2)=some (.string (bs s)):=by rw [Kl g1]; rfl
  have c3:KO h1 ((⟨h.size,0,none⟩:Addr).add 3)=some xs.v:=by rw [Kl g1]; rfl
  have hpE:=hp.ext E
  have hdE:=hdb.ext E
  have hil:=KES n1
  refine iteF (by simp; omega) (Zm c0 (KP (fun h1k=>?_) (fun h1k=>?_)))
  ·have h1k:k=1:=by simpa using h1k
   unfold txt at H
   rw [if_pos h1k] at H
   exact Zm c1 (KE (KAP n1 hpE (fun h2 e2=>KC (H _ (E.trans e2)))))
  have h1k:¬ k=1:=by simpa using h1k
  unfold txt at H hm
  rw [if_neg h1k] at H hm
  refine KP (fun h2k=>?_) (fun h2k=>?_)
  ·have h2k:k=2:=by simpa using h2k
   rw [if_pos h2k] at H hm
   exact Yx c2 (KE (KI6 (by omega) hdE (fun h2 e2=>KC (H _ (E.trans e2)))))
  have h2k:¬ k=2:=by simpa using h2k
  rw [if_neg h2k] at H hm
  refine KP (fun h3k=>?_) (fun h3k=>?_)
  ·have h3k:k=3:=by simpa using h3k
   rw [if_pos h3k] at H
   refine Zm c1 (KP (fun hn=>?_) (fun hn=>?_))
   ·have hn:n=1:=by simpa using hn
    rw [if_pos hn] at H
    exact KC (H _ E)
   ·have hn:¬ n=1:=by simpa using hn
    rw [if_neg hn] at H
    exact KC (H _ E)
  have h3k:¬ k=3:=by simpa using h3k
  rw [if_neg h3k] at H hm
  refine KP (fun h6k=>?_) (fun h6k=>?_)
  ·have h6k:k=6:=by simpa using h6k
   rw [if_pos h6k] at H
   exact Zm c1 (KE (KAP n1 hpE (fun h2 e2=>KIG (a:=[118,91]) (c:=[93]) (by simp; omega) (KC (H _ (E.trans e2))))))
  have h6k:¬ k=6:=by simpa using h6k
  rw [if_neg h6k] at H hm
  refine KP (fun h7k=>?_) (fun h7k=>?_)
  ·have h7k:k=7:=by simpa using h7k
   rw [if_pos h7k] at H
   exact Zm c1 (KE (KAP n1 hpE (fun h2 e2=>KIG (a:=[101,91]) (c:=[93]) (by simp; omega) (KC (H _ (E.trans e2))))))
  have h7k:¬ k=7:=by simpa using h7k
  rw [if_neg h7k] at H hm
  have j1:(YW ((9 - (d+1):Nat):Int) ⟨h.size,0,none⟩ (decide (k=4∨k=5))).wp h1 Q:=by
   unfold YW
   refine KP (fun h45=>?_) (fun h45=>?_)
   ·have h45:k=4∨k=5:=by simpa using h45
    have hform:∃ a c,(∀ h',Ext h h'→Q (bs (a++jn [44,32] (prt k (l.map (txt d)))++c)) h')∧a.length=1∧c.length=1∧(jn [44,32] (prt k (l.map (txt d)))).length≤1099511627776∧((l.map (txt d)).map List.length).sum≤1099511627776∧(k=5→a=[123]∧c=[125])∧(¬ k=5→a=[91]∧c=[93]):=by
     rcases h45 with h4 | h5
     ·rw [if_pos h4] at H hm
      have h5:¬ k=5:=by omega
      have hs:=KDm [44,32] [44,32] (l.map (txt d))
      simp only [List.length_append,List.length_cons,List.length_nil] at hm
      refine ⟨[91],[93],?_,rfl,rfl,?_,by omega,fun h=>absurd h h5,fun _=>⟨rfl,rfl⟩⟩
      ·unfold prt; rw [if_neg h5,KMI]; exact H
      ·unfold prt; rw [if_neg h5,KMI]; omega
     ·have h4:¬ k=4:=by omega
      rw [if_neg h4,if_pos h5] at H hm
      have hs:=KDm [58,32] [44,32] (l.map (txt d))
      simp only [List.length_append,List.length_cons,List.length_nil] at hm
      refine ⟨[123],[125],?_,rfl,rfl,?_,by omega,fun _=>⟨rfl,rfl⟩,fun h=>absurd h5 h⟩
      ·unfold prt; rw [if_pos h5,KMJ]; exact H
      ·unfold prt; rw [if_pos h5,KMJ]; omega
    obtain ⟨a,c,HQ,ha,hc,hjm,hsum,h5a,h5b⟩:=hform
    have hcnt:l.length≤1099511627776:=by
     have:=KML (l:=l.map (txt d)) (fun a ha=>by obtain ⟨y,_,rfl⟩:=List.mem_map.1 ha; exact KMM d y)
     rw [List.length_map] at this
     omega
    have hel:∀ i (hi:i < l.length),(txt d l[i]).length≤1099511627776:=fun i hi=>by
     have:=KHI (l:=l.map (txt d)) (a:=txt d l[i]) (List.mem_map.2 ⟨_,List.getElem_mem hi,rfl⟩)
     omega
    refine Jw c3 ?_
    have hxl:=r1.len
    refine M.loop_inv (fun (t:Sl × Int) h2=>∃ i:Nat,t.2=(i:Int)∧i≤l.length∧Ext h1 h2∧Gw h1.size h2 t.1 1 ((prt k ((l.take i).map (txt d))).map sv)) (fun t _=>((l.length:Int) - t.2).toNat) ?_ ⟨0,rfl,Nat.zero_le _,Ext.refl _,by rw [show prt k (((l.take 0).map (txt d)))=[] by unfold prt; split <;> simp [prs]]; exact Gw.nil _ _ _⟩
    rintro ⟨r,t⟩ h2 ⟨i,hti,hi,E2,G⟩ self hself
    have hti:t=(i:Int):=hti
    subst hti
    have G:Gw h1.size h2 r 1 ((prt k ((l.take i).map (txt d))).map sv):=G
    unfold q6
    rw [hxl]
    have hrl:=G.len
    rw [List.length_map,Nat.mul_one] at hrl
    have hrl2:r.len≤i:=by
     have:(prt k ((l.take i).map (txt d))).length≤i:=by
      unfold prt
      split
      ·have:=KJB ((l.take i).map (txt d)); rw [List.length_map,List.length_take] at this; omega
      ·rw [List.length_map,List.length_take]; omega
     omega
    refine KP (fun hlt=>?_) (fun hge=>?_)
    ·have hlt:i < l.length:=by have:=of_decide_eq_true hlt; omega
     refine KC6 (r1.ext (E.trans E2)) hlt rfl (fun b cs hs hcs hv=>Uc hs hcs (ZU (fun h3 e3 z3 g3=>Z0 hs (stR (vs:=cs) g3 (by rw [hs]; decide) hv.one (fun h4 u4 g4=>?_)))))
     rw [K0 (by rw [Array.length_toList,hs]; rfl),Array.toArray_toList] at g4
     have E4:Ext h2 h4:=e3.upd u4 (Nat.le_refl _)
     refine z6 (v:=l[i]) g4 hs ?_
     rw [show IntKind.wrap .i64 (((9 - (d+1):Nat):Int)+1)=((9 - d:Nat):Int) by rw [w64 (by omega) (by omega)]; omega]
     have E24:=E2.trans E4
     refine KE (WX (KD3 _ _) (ih l[i] (by omega) (hv.ext E4) (hpE.ext E24) (hdE.ext E24) (hel i hlt) (fun h5 e5=>?_)))
     have E5:=E24.trans e5
     refine Zm (E5.cell c0) ?_
     have hr5:IntKind.wrap .i64 ((i:Int)+1)=((i+1:Nat):Int):=by rw [w64 (by omega) (by omega)]; simp
     have G5:=G.ext (E4.trans e5)
     have htk:(l.take (i+1)).map (txt d)=(l.take i).map (txt d)++[txt d l[i]]:=by
      rw [List.take_succ_eq_append_getElem hlt,List.map_append]; rfl
     refine U1 (c:=decide (i % 2=1)) (fun _ Q' hq=>KC (by rw [show ((Int.tmod (i:Int) 2) == 1)=decide (i % 2=1) by rw [Int.tmod_eq_emod_of_nonneg (by omega),Bool.eq_iff_iff]; simp; omega]; exact hq)) ?_
     refine KP (fun hodd=>?_) (fun heven=>?_)
     ·obtain ⟨h5k,hodd⟩:k=5∧i % 2=1:=by simpa using hodd
      obtain ⟨i',rfl⟩:∃ i',i=i'+1:=⟨i - 1,by omega⟩
      have hti':(l.take (i'+1)).map (txt d)=(l.take i').map (txt d)++[txt d l[i']]:=by
       rw [List.take_succ_eq_append_getElem (by omega),List.map_append]; rfl
      have hlen':((l.take i').map (txt d)).length % 2=0:=by simp; omega
      have hp1:prt k ((l.take (i'+1)).map (txt d))=prs ((l.take i').map (txt d))++[txt d l[i']]:=by
       unfold prt; rw [if_pos h5k,hti',KHH _ _ hlen']
      have hp2:prt k ((l.take (i'+1+1)).map (txt d))=prs ((l.take i').map (txt d))++[txt d l[i']++([58,32]++txt d l[i'+1])]:=by
       unfold prt; rw [if_pos h5k,htk,hti',List.append_assoc]; exact KMK _ _ _ hlen'
      rw [hp1] at G5 hrl
      have hlast:r.len=(prs ((l.take i').map (txt d))).length+1:=by rw [← G5.len.trans (Nat.mul_one _)]; simp
      have hidx:IntKind.wrap .i64 ((r.len:Int) - 1)=(((prs ((l.take i').map (txt d))).length:Nat):Int):=by rw [w64 (by omega) (by omega)]; omega
      rw [hidx]
      have hle0:=hel i' (by omega)
      have hle1:=hel (i'+1) hlt
      refine ixS2 (i:=(prs ((l.take i').map (txt d))).length) G5 (by simp) rfl (fun b' hb' hc' hf'=>Yx hc' ?_)
      have hget:(prs ((l.take i').map (txt d))++[txt d l[i']])[(prs ((l.take i').map (txt d))).length]'(by simp)=txt d l[i']:=by simp
      rw [hget] at hc' ⊢
      refine NT (x:=[58,32]) (by simp; omega) (NT (by simp; omega) ?_)
      refine ixS2 (i:=(prs ((l.take i').map (txt d))).length) G5 (by simp) rfl (fun b2 hb2 hc2 hf2=>Wl hc2 hf2 rfl ?_)
      rw [hb2] at hb'
      cases hb'
      unfold YV
      rw [hr5]
      refine hself (_,_) _ ⟨i'+1+1,rfl,by omega,?_,?_⟩ (by dsimp only; omega)
      ·have hb3:h1.size≤b':=(G5.lt ⟨_,hb2,rfl⟩).2
       exact ⟨by rw [qL]; exact E5.size,fun j hj=>by rw [Gj (by show j≠b'; omega)]; exact E5.same j hj⟩
      ·have:=G5.set (v:=sv (txt d l[i']++([58,32]++txt d l[i'+1]))) (j:=(prs ((l.take i').map (txt d))).length) hb2 (by simp)
       dsimp only
       rw [hp2]
       rw [List.map_append,List.set_append_right _ _ (by simp)] at this
       simpa [sv] using this
     ·have heven:¬ (k=5∧i % 2=1):=by simpa using heven
      have hp2:prt k ((l.take (i+1)).map (txt d))=prt k ((l.take i).map (txt d))++[txt d l[i]]:=by
       unfold prt
       by_cases h5k:k=5
       ·rw [if_pos h5k,if_pos h5k,htk,KHH _ _ (by simp; omega)]
       ·rw [if_neg h5k,if_neg h5k,htk]
      refine qK ?_
      have e6:=Ext.push h5 (.cells #[.string (bs (txt d l[i]))] JD)
      have g6:(h5.push (.cells #[.string (bs (txt d l[i]))] JD))[h5.size]?=some (.cells #[.string (bs (txt d l[i]))] JD (0,0)):=Kf
      generalize h5.push (.cells #[.string (bs (txt d l[i]))] JD)=h6 at e6 g6 ⊢
      have E6:=E5.trans e6
      have G6:=G5.ext e6
      refine KBH (vs:=(prt k ((l.take i).map (txt d))).map sv) (news:=[sv (txt d l[i])]) rfl G6 rfl (.inr ⟨_,rfl,fun j v hj=>?_⟩) (fun v hv=>by simp at hv; subst hv; rfl) (by dsimp only; omega) (by dsimp only; omega) E6.size (fun h7 r7 G7 hlen7 hs7 same7 on7=>?_)
      ·rw [Kg,Nat.zero_add,KU g6]
       rw [show (#[.string (bs (txt d l[i]))]:Array Value)=[sv (txt d l[i])].toArray from rfl]
       simpa using hj
      ·unfold YV
       rw [hr5]
       refine hself (_,_) _ ⟨i+1,rfl,by omega,?_,?_⟩ (by dsimp only; omega)
       ·exact ⟨Nat.le_trans E6.size hs7,fun j hj=>(same7 j (Nat.lt_of_lt_of_le hj E6.size) (fun ho=>by have:=(G6.lt ho).2; omega)).trans (E6.same j hj)⟩
       ·dsimp only
        rw [hp2,List.map_append]
        exact G7
    ·have hge:i=l.length:=by have:=of_decide_eq_false hge; omega
     subst hge
     rw [List.take_length] at G
     have S:SsAt h2 r (prt k (l.map (txt d))):=⟨by have:=G.len; rw [List.length_map,Nat.mul_one] at this; exact this.symm,G.cap,G.reads⟩
     have hpl:(prt k (l.map (txt d))).length≤l.length:=by
      unfold prt
      split
      ·have:=KJB (l.map (txt d)); simp at this; exact this
      ·simp
     refine KE (KMH (sep:=[44,32]) S (by simp) (by simp) (by omega) (by omega) (fun h3 e3=>?_))
     refine Zm ((E2.trans e3).cell c0) (KP (fun h5k=>?_) (fun h5k=>?_))
     ·have h5k:k=5:=by simpa using h5k
      obtain ⟨rfl,rfl⟩:=h5a h5k
      exact KIG (a:=[123]) (c:=[125]) (by simp; omega) (KC (HQ _ ((E.trans E2).trans e3)))
     ·have h5k:¬ k=5:=by simpa using h5k
      obtain ⟨rfl,rfl⟩:=h5b h5k
      exact KIG (a:=[91]) (c:=[93]) (by simp; omega) (KC (HQ _ ((E.trans E2).trans e3)))
   ·have h45:¬ (k=4∨k=5):=by simpa using h45
    rw [if_neg (fun h=>h45 (.inl h)),if_neg (fun h=>h45 (.inr h))] at H
    exact KC (H _ E)
  refine KP (fun h4k=>?_) (fun h4k=>?_)
  ·have h4k:k=4:=by simpa using h4k
   have e:(k == 4)=decide (k=4∨k=5):=by subst h4k; rfl
   rw [e]
   exact j1
  ·have h4k:¬ k=4:=by simpa using h4k
   have e:(k == 5)=decide (k=4∨k=5):=by rw [eqI,Bool.eq_iff_iff]; simp [h4k]
   rw [e]
   exact j1
end Gx
namespace Gx
open Go
set_option linter.unusedVariables false
set_option linter.unusedSimpArgs false
abbrev txV (v:Vl):List UInt8:=txt 8 v
theorem KAQ {v:Vl} {h:Heap} {Q:ByteArray→Heap→Prop} {x:Array Value} (hx:VRep h v x) (hp:Gu h) (hd:KAx h) (hm:(txV v).length≤1099511627776) (H:∀ h',Ext h h'→Q (bs (txV v)) h'):(Y3 x).wp h Q:=by
 unfold Y3
 exact ZU (fun h1 e1 z1 g1=>z6 (v:=v) g1 hx.size (KE (KKh 8 v (Nat.le_refl _) (hx.ext e1) (hp.ext e1) (hd.ext e1) hm (fun h2 e2=>KC (H _ (e1.trans e2))))))
def KEK (i:Nat) (ev od:List UInt8):List UInt8:=if i % 2=0 then ev else od
theorem KJy (ev od a:List UInt8) (r:List (List UInt8)):shw ev od (a::r)=if r=[] then a else a++(ev++shw od ev r):=by
 cases r with
 | nil=>rfl
 | cons b r=>rw [if_neg (by simp)]; rfl
theorem KFK {d:Nat} (hd:d≤7) {l:List Vl} {h:Heap} {Q:ByteArray→Heap→Prop} {x:Sl} {ev od:List UInt8} (hx:VsRep h x l) (he:ev.length=2) (ho:od.length=2) (hm:(shw ev od (l.map (txt d))).length≤1099511627776)
  (hg:∀ j (hj:j < l.length) h1 c (Q1:ByteArray→Heap→Prop),Ext h h1→VRep h1 l[j] c→(∀ h2,Ext h1 h2→Q1 (bs (txt d l[j])) h2)→(J9 c ((8 - d:Nat):Int)).wp h1 Q1)
  (H:∀ h',Ext h h'→Q (bs (shw ev od (l.map (txt d)))) h'):(XB x ((8 - (d+1):Nat):Int) (bs ev) (bs od)).wp h Q:=by
 unfold XB
 have hxl:=hx.len
 have hxb:=hx.big
 have hxc:=hx.cap
 have hsum:=KDm ev od (l.map (txt d))
 have hcnt:l.length≤1099511627776:=by
  have:=KML (l:=l.map (txt d)) (fun a ha=>by obtain ⟨y,_,rfl⟩:=List.mem_map.1 ha; exact KMM d y)
  rw [List.length_map] at this
  omega
 refine M.loop_inv (fun (t:ByteArray × Int) h'=>Ext h h'∧∃ (i:Nat) (s:List UInt8),t=(bs s,(i:Int))∧i≤l.length∧s++shw (KEK i ev od) (KEK (i+1) ev od) ((l.drop i).map (txt d))=shw ev od (l.map (txt d))) (fun t _=>((l.length:Int) - t.2).toNat) ?_ ⟨Ext.refl h,0,[],rfl,Nat.zero_le _,by simp [KEK]⟩
 rintro t h' ⟨E,i,s,rfl,hi,hs⟩ self hself
 unfold Wk
 rw [hxl]
 have hls:s.length≤1099511627776:=by rw [← hs,List.length_append] at hm; omega
 refine KP (fun hc=>?_) (fun hc=>?_)
 ·have hlt:i < l.length:=by have:=of_decide_eq_true hc; omega
  have hti:(txt d l[i]).length≤1099511627776:=by
   have:=KHI (l:=l.map (txt d)) (a:=txt d l[i]) (List.mem_map.2 ⟨_,List.getElem_mem hlt,rfl⟩)
   omega
  rw [List.drop_eq_getElem_cons hlt,List.map_cons,KJy] at hs
  refine KC6 (hx.ext E) hlt rfl (fun a c hs' hcs hv=>Uc hs' hcs ?_)
  rw [show IntKind.wrap .i64 (((8 - (d+1):Nat):Int)+1)=((8 - d:Nat):Int) by rw [w64 (by omega) (by omega)]; omega]
  refine KE (WX (Nx _ _) (hg i hlt h' c _ E hv (fun h2 e2=>?_)))
  refine NT (by omega) ?_
  rw [show IntKind.wrap .i64 ((i:Int)+1)=((i+1:Nat):Int) by rw [w64 (by omega) (by omega)]; simp]
  have hnext:∀ s',s'++shw (KEK (i+1) ev od) (KEK (i+1+1) ev od) ((l.drop (i+1)).map (txt d))=shw ev od (l.map (txt d))→(JY self (i:Int) (bs s')).wp h2 Q:=fun s' h'=>by
   unfold JY
   rw [show IntKind.wrap .i64 ((i:Int)+1)=((i+1:Nat):Int) by rw [w64 (by omega) (by omega)]; simp]
   exact hself _ _ ⟨E.trans e2,i+1,s',rfl,by omega,h'⟩ (by dsimp only; omega)
  have hpk:KEK (i+1+1) ev od=KEK i ev od:=by unfold KEK; rw [show (i+1+1) % 2=i % 2 by omega]
  rw [hpk] at hnext
  refine U1 (c:=decide (i % 2=0)) (fun _ Q' hq=>KC (by rw [show ((Int.tmod (i:Int) 2) == 0)=decide (i % 2=0) by rw [Int.tmod_eq_emod_of_nonneg (by omega),Bool.eq_iff_iff]; simp; omega]; exact hq)) ?_
  by_cases hmore:i+1 < l.length
  ·have hne:(l.drop (i+1)).map (txt d)≠[]:=by
    intro h0
    have:(l.drop (i+1)).length=0:=by simpa using congrArg List.length h0
    simp at this; omega
   rw [if_neg hne] at hs
   refine KP (fun hev=>?_) (fun hev=>?_)
   ·have hev:i % 2=0:=by have:=hev; simp at this; exact this.2
    refine NT (by simp; omega) (hnext _ ?_)
    rw [← hs]
    have:KEK i ev od=ev:=by unfold KEK; rw [if_pos hev]
    rw [this]; simp
   ·have hev:¬ i % 2=0:=by
     intro h0
     have h1:decide (((i+1:Nat):Int) < (l.length:Int))=true:=by simp; omega
     rw [h1,decide_eq_true h0] at hev
     cases hev
    refine iteT (by simp; omega) (NT (by simp; omega) (hnext _ ?_))
    rw [← hs]
    have:KEK i ev od=od:=by unfold KEK; rw [if_neg hev]
    rw [this]; simp
  ·have h0:(l.drop (i+1)).map (txt d)=[]:=by rw [List.drop_eq_nil_iff.2 (by omega)]; rfl
   rw [if_pos h0] at hs
   have hf:decide (((i+1:Nat):Int) < (l.length:Int))=false:=by simp; omega
   rw [hf]
   refine iteF rfl (iteF rfl (hnext _ ?_))
   rw [h0,← hs]; simp [shw]
 ·have hge:i=l.length:=by have:=of_decide_eq_false hc; omega
  subst hge
  rw [List.drop_length] at hs
  have:=H _ E
  rw [← hs] at this
  exact KC (by simpa [shw] using this)
theorem KKi:∀ (d:Nat) (v:Vl) {h:Heap} {Q:ByteArray→Heap→Prop} {x:Array Value},d≤8→VRep h v x→(txt d v).length≤1099511627776→(∀ h',Ext h h'→Q (bs (txt d v)) h')→(J9 x ((8 - d:Nat):Int)).wp h Q:=by
 intro d
 induction d with
 | zero =>
  rintro v h Q x _ hx _ H
  unfold J9
  exact ZU (fun h1 e1 z1 g1=>iteT rfl (KC (H _ e1)))
 | succ d ih =>
  rintro ⟨k,n,s,l⟩ h Q x hd hx hm H
  obtain ⟨xs,rfl,k1,n1,s1,r1⟩:=VRep.eq.1 hx
  unfold J9
  refine ZU (fun h1 E z1 g1=>?_)
  have c0:KO h1 ((⟨h.size,0,none⟩:Addr).add 0)=some (.int .i64 k):=by rw [Kl g1]; rfl
  have c1:KO h1 ((⟨h.size,0,none⟩:Addr).add 1)=some (.int .i64 n):=by rw [Kl g1]; rfl
  have c2:KO h1 ((⟨h.size,0,none⟩:Addr).add 2)=some (.string (bs s)):=by rw [Kl g1]; rfl
  have c3:KO h1 ((⟨h.size,0,none⟩:Addr).add 3)=some xs.v:=by rw [Kl g1]; rfl
  have hil:=KES n1
  refine iteF (by simp; omega) (Zm c0 (KP (fun h1k=>?_) (fun h1k=>?_)))
  ·have h1k:k=1:=by simpa using h1k
   unfold txt at H
   rw [if_pos h1k] at H
   exact Zm c1 (KE (zG n1 (fun h2 e2=>KC (H _ (E.trans e2)))))
  have h1k:¬ k=1:=by simpa using h1k
  unfold txt at H hm
  rw [if_neg h1k] at H hm
  refine KP (fun h2k=>?_) (fun h2k=>?_)
  ·have h2k:k=2:=by simpa using h2k
   rw [if_pos h2k] at H hm
   exact Yx c2 (KE (KI7 (by omega) (fun h2 e2=>KC (H _ (E.trans e2)))))
  have h2k:¬ k=2:=by simpa using h2k
  rw [if_neg h2k] at H hm
  refine KP (fun h3k=>?_) (fun h3k=>?_)
  ·have h3k:k=3:=by simpa using h3k
   rw [if_pos h3k] at H
   refine Zm c1 (KP (fun hn=>?_) (fun hn=>?_))
   ·have hn:n=1:=by simpa using hn
    rw [if_pos hn] at H
    exact KC (H _ E)
   ·have hn:¬ n=1:=by simpa using hn
    rw [if_neg hn] at H
    exact KC (H _ E)
  have h3k:¬ k=3:=by simpa using h3k
  rw [if_neg h3k] at H hm
  refine KP (fun h6k=>?_) (fun h6k=>?_)
  ·have h6k:k=6:=by simpa using h6k
   rw [if_pos h6k] at H
   exact Zm c1 (KE (zG n1 (fun h2 e2=>KIG (a:=[118,91]) (c:=[93]) (by simp; omega) (KC (H _ (E.trans e2))))))
  have h6k:¬ k=6:=by simpa using h6k
  rw [if_neg h6k] at H hm
  refine KP (fun h7k=>?_) (fun h7k=>?_)
  ·have h7k:k=7:=by simpa using h7k
   rw [if_pos h7k] at H
   exact Zm c1 (KE (zG n1 (fun h2 e2=>KIG (a:=[101,91]) (c:=[93]) (by simp; omega) (KC (H _ (E.trans e2))))))
  have h7k:¬ k=7:=by simpa using h7k
  rw [if_neg h7k] at H hm
  refine KP (fun h4k=>?_) (fun h4k=>?_)
  ·have h4k:k=4:=by simpa using h4k
   rw [if_pos h4k] at H hm
   simp only [List.length_append,List.length_cons,List.length_nil] at hm
   exact Jw c3 (KE (WX (NN _ _ _ _) (KFK (d:=d) (by omega) (ev:=[44,32]) (od:=[44,32]) (r1.ext E) rfl rfl (by omega) (fun j hj h4 c Q1 e4 hv hq=>ih _ (by omega) hv (by have:=KHI (l:=l.map (txt d)) (a:=txt d l[j]) (List.mem_map.2 ⟨_,List.getElem_mem hj,rfl⟩); have:=KDm [44,32] [44,32] (l.map (txt d)); omega) hq) (fun h2 e2=>KIG (a:=[91]) (c:=[93]) (by simp; omega) (KC (H _ (E.trans e2)))))))
  have h4k:¬ k=4:=by simpa using h4k
  rw [if_neg h4k] at H hm
  refine KP (fun h5k=>?_) (fun h5k=>?_)
  ·have h5k:k=5:=by simpa using h5k
   rw [if_pos h5k] at H hm
   simp only [List.length_append,List.length_cons,List.length_nil] at hm
   exact Jw c3 (KE (WX (NN _ _ _ _) (KFK (d:=d) (by omega) (ev:=[58,32]) (od:=[44,32]) (r1.ext E) rfl rfl (by omega) (fun j hj h4 c Q1 e4 hv hq=>ih _ (by omega) hv (by have:=KHI (l:=l.map (txt d)) (a:=txt d l[j]) (List.mem_map.2 ⟨_,List.getElem_mem hj,rfl⟩); have:=KDm [58,32] [44,32] (l.map (txt d)); omega) hq) (fun h2 e2=>KIG (a:=[123]) (c:=[125]) (by simp; omega) (KC (H _ (E.trans e2)))))))
  ·have h5k:¬ k=5:=by simpa using h5k
   rw [if_neg h5k] at H
   exact KC (H _ E)
theorem KKj {v:Vl} {h:Heap} {Q:ByteArray→Heap→Prop} {x:Array Value} (hx:VRep h v x) (hm:(txV v).length≤1099511627776) (H:∀ h',Ext h h'→Q (bs (txV v)) h'):(Va x).wp h Q:=by
 unfold Va
 exact ZU (fun h1 e1 z1 g1=>z6 (v:=v) g1 hx.size (KE (KKi 8 v (Nat.le_refl _) (hx.ext e1) hm (fun h2 e2=>KC (H _ (e1.trans e2))))))
end Gx
namespace Gx
open Go
set_option linter.unusedVariables false
set_option linter.unusedSimpArgs false
def Wt:List Vl→List Vl
 | []=>[]
 | [a]=>[a]
 | a::_::r=>a::Wt r
theorem NU:∀ l:List Vl,(Wt l).length=(l.length+1) / 2
 | []=>by simp [Wt]
 | [a]=>by simp [Wt]
 | a::b::r=>by rw [Wt,List.length_cons,NU r,List.length_cons,List.length_cons]; omega
theorem KFL:∀ (l:List Vl) (i:Nat) (h:2 * i < l.length) (h':i < (Wt l).length),(Wt l)[i]=l[2 * i]
 | [],i,h,_=>by simp at h
 | [a],i,h,h'=>by
  have:i=0:=by simp at h; omega
  subst this; simp [Wt]
 | a::b::r,0,h,h'=>by simp [Wt]
 | a::b::r,i+1,h,h'=>by
  have h2:2 * i < r.length:=by simp at h; omega
  have ih:=KFL r i h2 (by rw [NU]; omega)
  simp only [Wt,List.getElem_cons_succ]
  rw [ih]
  simp only [show 2 * (i+1)=2 * i+1+1 by omega,List.getElem_cons_succ]
theorem KMN {l:List Vl} {v:Vl} (h:v ∈ Wt l):v ∈ l:=by
 obtain ⟨i,hi,rfl⟩:=List.getElem_of_mem h
 rw [KFL l i (by rw [NU] at hi; omega) hi]
 exact List.getElem_mem _
def Inc (l:List Vl):Prop:=l.Pairwise (fun a b=>cmpV a b < 0)
theorem KJC:∀ l:List Vl,l.Pairwise (fun a b=>¬ cmpV b a < 0)→Inc (cpt l)∧∀ x,x ∈ cpt l↔x ∈ l
 | [],_=>⟨List.Pairwise.nil,fun x=>Iff.rfl⟩
 | [a],_=>⟨List.pairwise_singleton _ _,fun x=>Iff.rfl⟩
 | a::b::r,h=>by
  rw [List.pairwise_cons] at h
  obtain ⟨i1,i2⟩:=KJC (b::r) h.2
  rw [cpt]
  by_cases hc:cmpV b a=0
  ·have:=(KFF b a).1 hc
   subst this
   rw [if_pos hc]
   exact ⟨i1,fun x=>by rw [i2]; simp⟩
  ·rw [if_neg hc]
   refine ⟨List.pairwise_cons.2 ⟨fun x hx=>?_,i1⟩,fun x=>by rw [List.mem_cons,i2,List.mem_cons (a:=x) (b:=a)]⟩
   have hx:=(i2 x).1 hx
   have hb:cmpV a b < 0:=by
    have:=h.1 b (by simp)
    have:=qe a b
    omega
   rcases List.mem_cons.1 hx with rfl | hx'
   ·exact hb
   ·have h2:=(List.pairwise_cons.1 h.2).1 x hx'
    have h3:=qe b x
    by_cases h4:cmpV b x=0
    ·rw [← (KFF b x).1 h4]; exact hb
    ·exact KGI hb (by omega)
theorem Inc.head {a b:Vl} {l:List Vl} (h:Inc (a::l)) (hb:b ∈ l):cmpV a b < 0:=(List.pairwise_cons.1 h).1 b hb
theorem Inc.uniq:∀ {a b:List Vl},Inc a→Inc b→(∀ x,x ∈ a↔x ∈ b)→a=b
 | [],[],_,_,_=>rfl
 | [],y::b,_,_,h=>by have:=(h y).2 (by simp); cases this
 | x::a,[],_,_,h=>by have:=(h x).1 (by simp); cases this
 | x::a,y::b,ha,hb,h=>by
  have hxy:x=y:=by
   rcases List.mem_cons.1 ((h x).1 (by simp)) with e | e
   ·exact e
   ·rcases List.mem_cons.1 ((h y).2 (by simp)) with e' | e'
    ·exact e'.symm
    ·have h1:=hb.head e
     have h2:=ha.head e'
     have:=qe x y
     omega
  subst hxy
  have:a=b:=Inc.uniq (List.pairwise_cons.1 ha).2 (List.pairwise_cons.1 hb).2 (fun z=>by
   constructor
   ·intro hz
    rcases List.mem_cons.1 ((h z).1 (List.mem_cons_of_mem _ hz)) with e | e
    ·subst e
     have:=ha.head hz
     rw [KC7] at this; omega
    ·exact e
   ·intro hz
    rcases List.mem_cons.1 ((h z).2 (List.mem_cons_of_mem _ hz)) with e | e
    ·subst e
     have:=hb.head hz
     rw [KC7] at this; omega
    ·exact e)
  rw [this]
def Wu (l:List Vl):List Vl:=l.flatMap (fun v=>Wt v.l)
def KDn (l:List Vl):Bool:=l.all (fun v=>decide (v.k=5) && (Wt v.l).all (fun k=>decide (k.k=2)))
def Xc (ps:List (List UInt8)):List UInt8:=jn [32,124,32] ps++[10]
def No (v k:Vl):List UInt8:=match getV k v.l with | some x=>txV x | none=>[45]
def tabT (C l:List Vl):List UInt8:=Xc (C.map txV)++l.flatMap (fun v=>Xc (C.map (No v)))
def Cols (l C:List Vl):Prop:=Inc C∧∀ x,x ∈ C↔x ∈ Wu l
theorem Cols.uniq {l C C':List Vl} (h:Cols l C) (h':Cols l C'):C=C':=Inc.uniq h.1 h'.1 (fun x=>(h.2 x).trans (h'.2 x).symm)
end Gx
namespace Gx
open Go
set_option linter.unusedVariables false
set_option linter.unusedSimpArgs false
theorem KFM:∀ {xm:List Nat} {h:Heap} {Q:Unit→Heap→Prop},xm.Nodup→(∀ b ∈ xm,h[b]?=some (.deferred (some [])))→(∀ h',h'.size=h.size→(∀ i,i ∉ xm→h'[i]?=h[i]?)→Q () h')→(shut xm).wp h Q
 | [],h,Q,_,_,H=>H h rfl (fun i _=>rfl)
 | b::r,h,Q,nd,hd,H=>by
  rw [List.nodup_cons] at nd
  refine ⟨hd b (by simp),KFM nd.2 (fun c hc=>?_) (fun h' hs he=>H h' (by rw [hs]; simp) (fun i hi=>?_))⟩
  ·rw [Array.getElem?_setIfInBounds,if_neg (fun e=>nd.1 (by rw [e]; exact hc))]
   exact hd c (List.mem_cons_of_mem _ hc)
  ·rw [he i (fun h=>hi (List.mem_cons_of_mem _ h)),Array.getElem?_setIfInBounds,if_neg (fun e=>hi (by rw [e]; simp))]
structure TJ (h0:Heap) (b2 b3 b5:Nat) (xm:List Nat) (L:Nat→Prop) (K:List Vl) (h:Heap):Prop where
 ext:Ext h0 h
 c2:∃ s,h[b2]?=some (.cells #[.string s] JD (0,0))
 c3:∃ n,h[b3]?=some (.cells #[.int .i64 n] UP (0,0))
 c5:∃ r css,h[b5]?=some (.cells #[r.v] VA (0,0))∧VGw (b5+1) (· < h0.size) h r css K∧∀ i,L i→¬ Sl.on r i
 df:∀ b ∈ xm,h[b]?=some (.deferred (some []))
structure Blks (h0:Heap) (b2 b3 b5:Nat):Prop where
 l2:h0.size≤b2
 l3:b2 < b3
 l5:b3 < b5
theorem TJ.more {h0 h h':Heap} {b2 b3 b5:Nat} {L:Nat→Prop} {xm:List Nat} {K:List Vl} (T:TJ h0 b2 b3 b5 xm L K h) (e:Ext h h'):TJ h0 b2 b3 b5 xm L K h':=by
 obtain ⟨s,c2⟩:=T.c2
 obtain ⟨n,c3⟩:=T.c3
 obtain ⟨r,css,c5,G,off⟩:=T.c5
 exact ⟨T.ext.trans e,⟨s,e.blk c2⟩,⟨n,e.blk c3⟩,⟨r,css,e.blk c5,G.same (fun b hb=>e.same b (G.gw.lt hb).1) (fun b hb=>e.same b (Nat.lt_of_lt_of_le hb T.ext.size)),off⟩,fun b hb=>e.blk (T.df b hb)⟩
theorem TJ.upd {h0 h h':Heap} {b2 b3 b5 lp:Nat} {L:Nat→Prop} {xm:List Nat} {K:List Vl} (B:Blks h0 b2 b3 b5) (T:TJ h0 b2 b3 b5 xm L K h) (u:Upd lp h h') (hL:L lp) (hlp:b5 < lp) (hx:lp ∉ xm):TJ h0 b2 b3 b5 xm L K h':=by
 obtain ⟨s,c2⟩:=T.c2
 obtain ⟨n,c3⟩:=T.c3
 obtain ⟨r,css,c5,G,off⟩:=T.c5
 have:=B.l2; have:=B.l3; have:=B.l5
 exact ⟨T.ext.upd u (by omega),⟨s,(u.ne _ (by omega)).trans c2⟩,⟨n,(u.ne _ (by omega)).trans c3⟩,⟨r,css,(u.ne _ (by omega)).trans c5,G.same (fun b hb=>u.ne b (fun e=>off lp hL (e ▸ hb))) (fun b hb=>u.ne b (by omega)),off⟩,fun b hb=>(u.ne b (fun e=>hx (e ▸ hb))).trans (T.df b hb)⟩
theorem TJ.lp {h0 h:Heap} {b2 b3 b5:Nat} {L L':Nat→Prop} {xm:List Nat} {K:List Vl} (T:TJ h0 b2 b3 b5 xm L K h) (h1:∀ r css,VGw (b5+1) (· < h0.size) h r css K→(∀ i,L i→¬ Sl.on r i)→∀ i,L' i→¬ Sl.on r i):TJ h0 b2 b3 b5 xm L' K h:=by
 obtain ⟨r,css,c5,G,off⟩:=T.c5
 exact ⟨T.ext,T.c2,T.c3,⟨r,css,c5,G,h1 r css G off⟩,T.df⟩
theorem TJ.xs {h0 h:Heap} {b2 b3 b5:Nat} {L:Nat→Prop} {xm xm':List Nat} {K:List Vl} (T:TJ h0 b2 b3 b5 xm L K h) (h1:∀ b ∈ xm',h[b]?=some (.deferred (some []))):TJ h0 b2 b3 b5 xm' L K h :=
 ⟨T.ext,T.c2,T.c3,T.c5,h1⟩
theorem ZA {h:Heap} {b:Nat} {v:Value} {t:TypeId} {z:Nat × Nat} (hb:h[b]?=some (.cells #[v] t z)):KO h ⟨b,0,none⟩=some v:=by rw [KU hb]; rfl
theorem zH {h:Heap} {b:Nat} {v u:Value} {t:TypeId} (hb:h[b]?=some (.cells #[v] t (0,0))):(hset h ⟨b,0,none⟩ u)[b]?=some (.cells #[u] t (0,0)):=by rw [V8 hb]; rfl
structure TE (h0:Heap) (b2 b3:Nat) (xm:List Nat) (h:Heap):Prop where
 ext:Ext h0 h
 c2:h[b2]?=some (.cells #[.string ByteArray.empty] JD (0,0))
 c3:h[b3]?=some (.cells #[.int .i64 21] UP (0,0))
 df:∀ b ∈ xm,h[b]?=some (.deferred (some []))
theorem KJz {β:Type} {h0 h:Heap} {b2 b3 b5:Nat} {L:Nat→Prop} {xm:List Nat} {K:List Vl} {Q:β→Heap→Prop} {f:Unit→M β} (B:Blks h0 b2 b3 b5) (T:TJ h0 b2 b3 b5 xm L K h)
  (H:∀ h',TE h0 b2 b3 xm h'→(∀ i,i≠b2→i≠b3→h'[i]?=h[i]?)→(f ()).wp h' Q):(stV ⟨b2,0,none⟩ (.string ByteArray.empty)>>=fun _=>stV ⟨b3,0,none⟩ (.int .i64 21)>>=f).wp h Q:=by
 obtain ⟨s,c2⟩:=T.c2
 obtain ⟨n,c3⟩:=T.c3
 have:=B.l2; have:=B.l3
 refine Wl (ZA c2) (KZ c2) rfl ?_
 have u1:=Upd.hset h b2 0 (.string ByteArray.empty)
 have d2:=zH (u:=.string ByteArray.empty) c2
 generalize hset h ⟨b2,0,none⟩ (.string ByteArray.empty)=h1 at u1 d2 ⊢
 have c3':h1[b3]?=_:=(u1.ne _ (by omega)).trans c3
 refine Wl (ZA c3') (KZ c3') rfl ?_
 have u2:=Upd.hset h1 b3 0 (.int .i64 21)
 have d3:=zH (u:=.int .i64 21) c3'
 generalize hset h1 ⟨b3,0,none⟩ (.int .i64 21)=h2 at u2 d3 ⊢
 have hne:∀ i,i≠b2→i≠b3→h2[i]?=h[i]?:=fun i i2 i3=>(u2.ne i i3).trans (u1.ne i i2)
 refine H h2 ⟨(T.ext.upd u1 (by omega)).upd u2 (by omega),(u2.ne _ (by omega)).trans d2,d3,fun b hb=>?_⟩ hne
 have hd:=T.df b hb
 rw [hne b (fun e=>by rw [e,c2] at hd; cases hd) (fun e=>by rw [e,c3] at hd; cases hd)]
 exact hd
theorem KQs {β:Type} {lo:Nat} {h:Heap} {Q:β→Heap→Prop} {r:Sl} {css:List (Array Value)} {i b:Nat} {c:Array Value} {f:Unit→M β} (G:Gw lo h r 4 (Jq css)) (hw:W4 css) (hi:i < css.length) (hb:r.base=some ⟨b,0,none⟩) (hc:c.size=4) (h1:∀ u ∈ c.toList,one u=true)
  (H:∀ h',Upd b h h'→Gw lo h' r 4 (Jq (css.set i c))→(f ()).wp h' Q):(stG ⟨b,i * 4,none⟩ c>>=f).wp h Q:=by
 have hl:=G.len4 hw
 have key:(stG ⟨b,i * 4,none⟩ c>>=f).wp h Q:=by
  obtain ⟨b',hb',hon,_⟩:=G.row4 hw hi
  rw [hb] at hb'; cases hb'
  obtain ⟨a,⟨h0,h2,b2,hb2,rfl⟩,H2⟩:=KL1 (Q:=Q) (f:=f) (t:=(i:Int)) G hw hi rfl hc h1 (fun b3 h' hb3 u G'=>by rw [hb] at hb3; cases hb3; exact H h' u G')
  rw [hb] at hb2; cases hb2
  rw [Kg,show 0+(i:Int).toNat * 4=i * 4 by omega] at H2
  exact H2.2
 exact key
theorem VGw.set {lo:Nat} {S:Nat→Prop} {h h':Heap} {r:Sl} {css:List (Array Value)} {l:List Vl} {i:Nat} {c:Array Value} {k:Vl} (G:VGw lo S h r css l) (G':Gw lo h' r 4 (Jq (css.set i c))) (hc:ZK S h' k c) (e:∀ b,S b→h'[b]?=h[b]?):VGw lo S h' r (css.set i c) (l.set i k) :=
 ⟨G',G.w4.set hc.size hc.to.one,by rw [List.length_set,List.length_set]; exact G.len,fun j h1 h2=>by
  by_cases hij:i=j
  ·subst hij
   rw [List.getElem_set_self,List.getElem_set_self]; exact hc
  ·rw [List.getElem_set_ne hij,List.getElem_set_ne hij]
   exact (G.rep j (by simpa using h1) (by simpa using h2)).same e⟩
theorem KRs {h0 h:Heap} {b2 b3 b5:Nat} {L:Nat→Prop} {xm:List Nat} {K:List Vl} {k:Vl} {c:Array Value} {a:Addr} {Q:Nat→Heap→Prop} (B:Blks h0 b2 b3 b5) (T:TJ h0 b2 b3 b5 xm L K h) (hL:∀ i,L i→i < h.size) (hK:K.length≤1048576) (hc:ZK (· < h0.size) h k c) (ha:a.block < h0.size∧∀ j,j < 4→KO h (a.add j)=c[j]?)
  (H:∀ h',TJ h0 b2 b3 b5 xm L (K++[k]) h'→h.size≤h'.size→(∀ i,L i→i≠b5→h'[i]?=h[i]?)→Q 0 h') :
  ((do
   let Xx57←ldL ⟨b5,0,none⟩
   let Xx58←ldG 4 a
   let y_60←NY 4 1 (#[.int .i64 0,.int .i64 0,.string ByteArray.empty,.slice none 0 0]:Array Value) [(0,.agg (#[.int .i64 0,.int .i64 0,.string ByteArray.empty,.slice none 0 0]:Array Value))]
   let Xx59←bdL KB 1 y_60
   chk (fun h:Heap=>(KO h ⟨b5,0,none⟩=some ((Xx57:Sl).v))∧(Xx58.size=4∧∀ i,i < 4→KO h (Addr.add a i)=Xx58[i]?))
   let Xx61←apL KB 4 56 (#[.int .i64 0,.int .i64 0,.string ByteArray.empty,.slice none 0 0]:Array Value) Xx57 Xx59
   let Xx62←ixL Xx61 (Xx57.len:Int) 4
   let y_67←do
    M.both (do
     M.need (Xx58.size=4)
     stG Xx62 Xx58
     stV ⟨b5,0,none⟩ ((Xx61:Sl).v)
     M.pure ()
     ) (do
     stV ⟨b5,0,none⟩ ((Xx61:Sl).v)
     M.need (Xx58.size=4)
     stG Xx62 Xx58
     M.pure ()
     )
   M.pure 0):M Nat).wp h Q:=by
 obtain ⟨r,css,c5,G,off⟩:=T.c5
 have hB:=B.l2; have hB3:=B.l3; have hB5:=B.l5
 refine Jw (ZA c5) (Uc hc.size ha.2 (KGd rfl (qK ?_)))
 have e1:=Ext.push h (.cells (#[.int .i64 0,.int .i64 0,.string ByteArray.empty,.slice none 0 0]:Array Value) KB)
 have g1:(h.push (.cells (#[.int .i64 0,.int .i64 0,.string ByteArray.empty,.slice none 0 0]:Array Value) KB))[h.size]?=some (.cells (#[.int .i64 0,.int .i64 0,.string ByteArray.empty,.slice none 0 0]:Array Value) KB (0,0)):=Kf
 have s1:(h.push (.cells (#[.int .i64 0,.int .i64 0,.string ByteArray.empty,.slice none 0 0]:Array Value) KB)).size=h.size+1:=by simp
 generalize h.push (.cells (#[.int .i64 0,.int .i64 0,.string ByteArray.empty,.slice none 0 0]:Array Value) KB)=h1 at e1 g1 s1 ⊢
 have c51:=e1.blk c5
 have hlt5:=UD c5
 have hac:∀ j,j < 4→KO h1 (a.add j)=c[j]?:=fun j hj=>by
  have h2:=ha.2 j hj
  have h3:c[j]?=some (c[j]'(by rw [hc.size]; exact hj)):=Array.getElem?_eq_getElem _
  rw [h3] at h2 ⊢
  exact e1.cell h2
 refine KEn ⟨ZA c51,hc.size,hac⟩ ?_
 have hrl:=G.gw.len4 G.w4
 have hgl:=G.len
 have hons:∀ b,Sl.on r b→b5+1≤b∧b < h.size:=fun b hb=>⟨(G.gw.lt hb).2,(G.gw.lt hb).1⟩
 have hES:∀ b,b < h0.size→b < h.size:=fun b hb=>Nat.lt_of_lt_of_le hb T.ext.size
 have G1:VGw (b5+1) (· < h0.size) h1 r css K:=G.same (fun b hb=>e1.same b (G.gw.lt hb).1) (fun b hb=>e1.same b (hES b hb))
 refine KE (KG9 (l':=[vl0]) (css':=[(#[.int .i64 0,.int .i64 0,.string ByteArray.empty,.slice none 0 0]:Array Value)]) G1 (by omega) (fun b hb=>⟨by have:=hES b hb; omega,fun ho=>by have:=(hons b ho).1; omega⟩) (fun c' hc'=>by simp at hc'; subst hc'; exact ⟨rfl,fun u hu=>by simp at hu; rcases hu with rfl | rfl | rfl | rfl <;> rfl⟩) rfl rfl (.inr ⟨_,rfl,fun j v hj=>?_⟩) (fun j j1 j2=>by
   have:j=0:=by simp at j1; exact j1
   subst this
   exact KAB _ _) (by simp; omega) (fun h2 r2 G2 hs same on_=>?_))
 ·rw [Kg,Nat.zero_add,KU g1]
  simpa [Jq] using hj
 have hrl2:=G2.gw.len4 G2.w4
 rw [List.length_append] at hrl2
 have hi2:css.length < (css++[(#[.int .i64 0,.int .i64 0,.string ByteArray.empty,.slice none 0 0]:Array Value)]).length:=by simp
 obtain ⟨b,hb,hon,_⟩:=G2.gw.row4 G2.w4 hi2
 refine Xi (by omega) (by rw [hrl2,hrl]; simp; omega) hb ?_
 rw [hrl,Kg,show 0+((css.length:Nat):Int).toNat * 4=css.length * 4 by omega]
 have hbne:b≠b5∧b5+1≤b:=by have:=(G2.gw.lt hon).2; omega
 have hnlp:∀ i,L i→¬ Sl.on r2 i:=fun i hi ho=>(on_ i ho).elim (off i hi) (fun h=>by have:=hL i hi; omega)
 have E2:Ext h0 h2:=⟨by have:=T.ext.size; omega,fun i hi=>(same i (by have:=hES i hi; omega) (fun ho=>by have:=(hons i ho).1; omega)).trans ((e1.same i (hES i hi)).trans (T.ext.same i hi))⟩
 have c52:h2[b5]?=some (.cells #[r.v] VA (0,0)):=by rw [same b5 (by omega) (fun ho=>by have:=(hons b5 ho).1; omega)]; exact c51
 have fin:∀ h' ,h'.size=h2.size→(∀ i,i≠b→i≠b5→h'[i]?=h2[i]?)→h'[b5]?=some (.cells #[r2.v] VA (0,0))→Gw (b5+1) h' r2 4 (Jq ((css++[(#[.int .i64 0,.int .i64 0,.string ByteArray.empty,.slice none 0 0]:Array Value)]).set css.length c))→Q 0 h':=fun h' z1 z2 z3 z4=>by
  have hcc:ZK (· < h0.size) h' k c:=hc.same (fun i hi=>(z2 i (by have:=hbne.2; omega) (by omega)).trans ((same i (by have:=hES i hi; omega) (fun ho=>by have:=(hons i ho).1; omega)).trans (e1.same i (hES i hi))))
  have GG:=G2.set (i:=css.length) (k:=k) z4 hcc (fun i hi=>z2 i (by have:=hbne.2; omega) (by omega))
  rw [List.set_append_right _ _ (Nat.le_refl _),Nat.sub_self,hgl,List.set_append_right _ _ (Nat.le_refl _),Nat.sub_self] at GG
  obtain ⟨sx,c2⟩:=T.c2
  obtain ⟨n,c3⟩:=T.c3
  have hkeep:∀ i,i < h.size→i≠b5→¬ Sl.on r i→h'[i]?=h[i]?:=fun i hi hi5 hno=>by
   have:i≠b:=fun e=>(on_ i (e ▸ hon)).elim hno (fun h=>by omega)
   rw [z2 i this hi5,same i (by omega) hno,e1.same i hi]
  have l2:=UD c2
  have l3:=UD c3
  refine H h' ⟨⟨by have:=E2.size; omega,fun i hi=>(z2 i (by have:=hbne.2; omega) (by omega)).trans (E2.same i hi)⟩,⟨sx,(hkeep b2 l2 (by omega) (fun ho=>by have:=(hons _ ho).1; omega)).trans c2⟩,⟨n,(hkeep b3 l3 (by omega) (fun ho=>by have:=(hons _ ho).1; omega)).trans c3⟩,⟨r2,_,z3,GG,hnlp⟩,fun x hx=>?_⟩ (by omega) (fun i hi hi5=>hkeep i (hL i hi) hi5 (off i hi))
  have hd:=T.df x hx
  refine (hkeep x (UD hd) (fun e=>by rw [e,c5] at hd; cases hd) (fun ho=>?_)).trans hd
  rcases G.gw with ⟨hn,_⟩ | ⟨g,ty,cells,R⟩
  ·rw [hn] at ho; obtain ⟨a1,ha1,_⟩:=ho; cases ha1
  ·obtain ⟨a1,ha1,ha2⟩:=ho
   rw [R.base] at ha1; cases ha1
   have:x=g:=ha2.symm
   rw [this,R.blk] at hd; cases hd
 refine KE (KQS ?_ ?_)
 ·refine Z0 hc.size (KQs G2.gw G2.w4 hi2 hb hc.size hc.to.one (fun h3 u3 G3=>?_))
  have c53:h3[b5]?=_:=(u3.ne _ (fun e=>hbne.1 e.symm)).trans c52
  refine Wl (ZA c53) (KZ c53) (KEo _) (KC (KC ?_))
  refine fin _ (by rw [qL,u3.size]) (fun i i1 i2=>(Gj i2).trans (u3.ne i i1)) (zH c53) (G3.same (fun i hi=>Gj (fun e=>?_)))
  have e:i=b5:=e
  obtain ⟨a1,ha1,ha2⟩:=hi
  rw [hb] at ha1; cases ha1
  exact hbne.1 (by show b=b5; rw [← e]; exact ha2)
 ·refine Wl (ZA c52) (KZ c52) (KEo _) ?_
  have u3:=Upd.hset h2 b5 0 r2.v
  have c53:=zH (u:=r2.v) c52
  generalize hset h2 ⟨b5,0,none⟩ r2.v=h3 at u3 c53 ⊢
  have G3:Gw (b5+1) h3 r2 4 (Jq (css++[(#[.int .i64 0,.int .i64 0,.string ByteArray.empty,.slice none 0 0]:Array Value)])):=G2.gw.same (fun i hi=>u3.ne i (fun e=>by
   obtain ⟨a1,ha1,ha2⟩:=hi
   rw [hb] at ha1; cases ha1
   exact hbne.1 (by show b=b5; rw [← e]; exact ha2)))
  refine Z0 hc.size (KQs G3 G2.w4 hi2 hb hc.size hc.to.one (fun h4 u4 G4=>KC (KC ?_)))
  exact fin _ (by rw [u4.size,u3.size]) (fun i i1 i2=>(u4.ne i i1).trans (u3.ne i i2)) ((u4.ne _ (fun e=>hbne.1 e.symm)).trans c53) G4
end Gx
namespace Gx
open Go
set_option linter.unusedVariables false
set_option linter.unusedSimpArgs false
theorem KPS (sep a:List UInt8):∀ l:List (List UInt8),jn sep (l++[a])=if l=[] then a else jn sep l++(sep++a)
 | []=>rfl
 | x::l=>by
  rw [if_neg (by simp),List.cons_append,KFJ,KFJ,List.flatMap_append]
  simp
theorem KPT {sep:List UInt8} {T:List (List UInt8)} {i:Nat} (hi:i < T.length):jn sep (T.take (i+1))=if i=0 then T[i] else jn sep (T.take i)++(sep++T[i]):=by
 rw [List.take_succ_eq_append_getElem hi,KPS]
 by_cases h0:i=0
 ·subst h0; simp
 ·rw [if_neg h0,if_neg]
  intro h
  have:=congrArg List.length h
  rw [List.length_take,List.length_nil] at this
  omega
theorem KOX (sep:List UInt8) (T:List (List UInt8)):∀ i,i≤T.length→(jn sep (T.take i)).length≤(jn sep T).length:=by
 intro i hi
 by_cases h0:i=0
 ·subst h0; simp [jn]
 ·have hne:0 < T.length:=by omega
  rw [KJA sep (T.take i) (by rw [List.length_take]; omega),KJA sep T hne]
  rw [List.length_append,List.length_append]
  have e1:(T.take i)[0]'(by rw [List.length_take]; omega)=T[0]:=by simp
  have e2:(T.drop 1).flatMap (fun s=>sep++s)=((T.take i).drop 1).flatMap (fun s=>sep++s)++((T.drop i)).flatMap (fun s=>sep++s):=by
   rw [← List.flatMap_append]
   congr 1
   rw [List.drop_take]
   conv=>lhs; rw [← List.take_append_drop (i - 1) (T.drop 1)]
   rw [List.drop_drop]
   congr 2; omega
  rw [e1,e2,List.length_append]
  omega
theorem KIH {hb0 h:Heap} {b c:Nat} {o:Obj} {rr:Sl} {t:List UInt8} {x:Sl} {x1:Nat} {C:List Vl} {T:List (List UInt8)} {g:Value} {Q:Unit→Heap→Prop} (W:BW hb0 b c o h rr t) (cx:KO hb0 ⟨x1,0,none⟩=some x.v) (hC:VsRep hb0 x C) (hT:T.length=C.length)
  (hg:∀ j (hj:j < C.length) (hj':j < T.length) h1 cs (Q1:ByteArray→Heap→Prop),Ext hb0 h1→h1[c]?=some o→VRep h1 C[j] cs→(∀ h2,Ext h1 h2→Q1 (bs T[j]) h2)→(V7 Go.Proofs.Tryz.prog (fun r:ByteArray=>.string r) g [.agg cs]).wp h1 Q1)
  (hbd:(t++Xc T).length≤140737488355328) (hcnt:C.length≤1099511627776)
  (H:∀ h' rr',BW hb0 b c o h' rr' (t++Xc T)→Q () h'):(qE g ⟨x1,0,none⟩ ⟨b,0,none⟩).wp h Q:=by
 unfold qE
 have hxl:=hC.len
 have hlt2:(Xc T).length=(jn [32,124,32] T).length+1:=by simp [Xc]
 rw [List.length_append,hlt2] at hbd
 refine Jw (W.ext.cell cx) ?_
 rw [hxl]
 refine M.loop_inv (fun (s:Int) h'=>∃ i:Nat,s=(i:Int)∧i≤C.length∧∃ r',BW hb0 b c o h' r' (t++jn [32,124,32] (T.take i))) (fun s _=>((C.length:Int) - s).toNat) ?_ ⟨0,rfl,Nat.zero_le _,rr,by simpa [jn] using W⟩
 rintro s h' ⟨i,rfl,hi,r',W1⟩ self hself
 unfold Y9
 refine KP (fun hc=>?_) (fun hc=>?_)
 ·have hlt:i < C.length:=by have:=of_decide_eq_true hc; omega
  have hltT:i < T.length:=by omega
  have hjp:=KOX [32,124,32] T i (by omega)
  have hjp1:=KOX [32,124,32] T (i+1) (by omega)
  have hjt:=KPT (sep:=[32,124,32]) hltT
  have hCS:VsRepS (· < hb0.size) h' x C:=hC.lt.same (fun b hb=>W1.ext.same b hb) (fun _ h=>h)
  obtain ⟨a,cs,ha,hS,hs,hcs,hvS⟩:=hCS.get hlt
  have hv:=hvS.to
  refine Xi (by omega) (by omega) ha (Uc hs (fun j hj=>by rw [Addr.add_add,show (i:Int).toNat * 4=i * 4 by omega]; exact hcs j hj) (ZU (fun h2 e2 z2 g2=>Z0 hs (stR (vs:=cs) g2 (by rw [hs]; decide) hv.one (fun h3 u3 g3=>?_)))))
  rw [K0 (by rw [Array.length_toList,hs]; rfl),Array.toArray_toList] at g3
  have E3:Ext h' h3:=e2.upd u3 (Nat.le_refl _)
  have W3:=W1.more E3
  have hv3:=hv.ext E3
  have tail:∀ {h4:Heap} {r4:Sl} {pre:List UInt8},BW hb0 b c o h4 r4 pre→pre++T[i]=t++jn [32,124,32] (T.take (i+1))→h4[h'.size]?=some (.cells cs KB (0,0))→VRep h4 C[i] cs→(VJ self g ⟨b,0,none⟩ ⟨h'.size,0,none⟩ (i:Int)).wp h4 Q:=fun {h4 r4 pre} W4 he g4 hv4=>by
   unfold VJ
   refine z6 (v:=C[i]) g4 hs (KE (hg i hlt hltT h4 cs _ W4.ext W4.blk hv4 (fun h5 e5=>?_)))
   have W5:=W4.more e5
   have hlen:=congrArg List.length he
   rw [List.length_append,List.length_append] at hlen
   refine KE (Ws W5.bld W5.ext.size (by omega) (fun h6 r6 n6 B6 K6=>?_))
   have W6:=W5.keep B6 K6
   rw [he] at W6
   rw [w64 (by omega) (by omega)]
   exact hself _ _ ⟨i+1,by simp,by omega,r6,W6⟩ (by omega)
  refine KP (fun hp=>?_) (fun hp=>?_)
  ·have hp:¬ i=0:=by have:=of_decide_eq_true hp; omega
   rw [if_neg hp] at hjt
   have hl2:=congrArg List.length hjt
   rw [List.length_append,List.length_append] at hl2
   refine KE (Ws (s:=[32,124,32]) W3.bld W3.ext.size (by rw [List.length_append]; omega) (fun h4 r4 n4 B4 K4=>?_))
   have W4:=W3.keep B4 K4
   have hlt3:=UD g3
   have hold:∀ i1,i1 < hb0.size→h4[i1]?=h3[i1]?:=fun i1 hi1=>(W4.ext.same i1 hi1).trans (W3.ext.same i1 hi1).symm
   have hne:h'.size≠b:=by have:=W1.bld.lt; omega
   have hno:¬ Sl.on r' h'.size:=fun ho=>by have:=(W1.bld.row.lt ho).1; omega
   refine tail W4 (by rw [hjt]; simp) ((K4.same _ hlt3 hne hno).trans g3) ?_
   exact (hvS.same (fun b1 hb1=>(W4.ext.same b1 hb1).trans (W1.ext.same b1 hb1).symm)).to
  ·have hp:i=0:=by have:=of_decide_eq_false hp; omega
   refine tail W3 (by rw [hjt,if_pos hp]; subst hp; simp [jn]) g3 hv3
 ·have hge:i=T.length:=by have:=of_decide_eq_false hc; omega
  subst hge
  rw [List.take_length] at W1
  refine KE (XG (c:=10) W1.bld W1.ext.size (by rw [List.length_append]; omega) rfl (fun h4 r4 B4 K4=>KC (H h4 r4 ?_)))
  have W4:=W1.keep B4 K4
  unfold Xc
  rw [← List.append_assoc]
  exact W4
theorem KFN:∀ (d:Nat) (v:Vl) {h:Heap} {cs:Array Value},VRep h v cs→(txt d v).length+2≤26 * wt v
 | 0,v,h,cs,_=>by have:=KLz v; simp [txt]; omega
 | d+1,.mk k n s l,h,cs,H=>by
  obtain ⟨x,rfl,k1,n1,s1,r1⟩:=VRep.eq.1 H
  have hi:=KES n1
  have hq:(NS s).length≤4 * s.length+2:=by
   rw [KIE]
   have:(s.flatMap qc).length≤4 * s.length:=by
    clear s1 H
    induction s with
    | nil=>simp
    | cons a s ih=>rw [List.flatMap_cons,List.length_append,List.length_cons]; have:=KRr a; omega
   omega
  have hs:∀ (ev od:List UInt8),ev.length=2→od.length=2→(shw ev od (l.map (txt d))).length≤26 * wt.wts l:=by
   have hel:∀ v ∈ l,(txt d v).length+2≤26 * wt v:=fun v hv=>by
    obtain ⟨j,hj,rfl⟩:=List.getElem_of_mem hv
    obtain ⟨a,c,_,_,_,hv'⟩:=r1.get hj
    exact KFN d _ hv'
   clear r1 H
   induction l with
   | nil=>intro ev od _ _; simp [shw]
   | cons a r ih =>
    intro ev od h1 h2
    have ha:=hel a (by simp)
    have ihr:=ih (fun v hv=>hel v (List.mem_cons_of_mem _ hv)) od ev h2 h1
    rw [List.map_cons,KJy,wt.wts]
    split
    ·omega
    ·rw [List.length_append,List.length_append]; omega
  have h4:=hs [44,32] [44,32] rfl rfl
  have h5:=hs [58,32] [44,32] rfl rfl
  rw [wt]
  unfold txt
  repeat' split
  all_goals (try simp only [List.length_append,List.length_cons,List.length_nil])
  all_goals omega
theorem KD7 (k:Vl) (l:List Vl):∀ (l':List Vl),(∀ y ∈ l',y ∈ l)→∀ x,getV k l'=some x→x ∈ l
 | [],_,x,hx=>by cases hx
 | [_],_,x,hx=>by cases hx
 | a::b::r,hm,x,hx=>by
  rw [getV] at hx
  split at hx
  ·cases hx; exact hm b (by simp)
  ·exact KD7 k l r (fun y hy=>hm y (by simp [hy])) x hx
theorem KMO {v k:Vl} {h:Heap} {cs:Array Value} (H:VRep h v cs):(No v k).length≤26 * wt v:=by
 obtain ⟨kk,n,s,l⟩:=v
 obtain ⟨x,rfl,k1,n1,s1,r1⟩:=VRep.eq.1 H
 have hw:1≤wt (.mk kk n s l):=KLz _
 unfold No
 split
 ·rename_i y hy
  have hy':=KD7 k l l (fun y hy=>hy) y hy
  obtain ⟨j,hj,rfl⟩:=List.getElem_of_mem hy'
  obtain ⟨a,c,_,_,_,hv'⟩:=r1.get hj
  have:=KFN 8 _ hv'
  have:=z8 hy'
  rw [wt]
  show (txt 8 l[j]).length≤_
  omega
 ·simp; omega
end Gx
namespace Gx
open Go
set_option linter.unusedVariables false
set_option linter.unusedSimpArgs false
theorem KII (T:List (List UInt8)):(Xc T).length≤(T.map List.length).sum+3 * T.length+1:=by
 unfold Xc
 rw [List.length_append]
 by_cases h:T=[]
 ·subst h; simp [jn]
 ·rw [KMG _ _ h]
  simp only [List.length_cons,List.length_nil]
  omega
theorem KMP {α:Type} {f:α→List UInt8} {m:Nat}:∀ {C:List α},(∀ k ∈ C,(f k).length≤m)→((C.map f).map List.length).sum≤C.length * m
 | [],_=>by simp
 | k::C,h=>by
  have ih:=KMP (C:=C) (fun x hx=>h x (List.mem_cons_of_mem _ hx))
  have:=h k (by simp)
  rw [List.map_cons,List.map_cons,List.sum_cons,List.length_cons,Nat.add_mul]
  omega
theorem KIJ (C:List Vl):∀ (l:List Vl),(∀ v ∈ l,∃ h cs,VRep h v cs)→(l.flatMap (fun v=>Xc (C.map (No v)))).length≤C.length * (26 * wt.wts l)+(3 * C.length+1) * l.length
 | [],_=>by simp
 | v::l,h=>by
  have ih:=KIJ C l (fun x hx=>h x (List.mem_cons_of_mem _ hx))
  obtain ⟨hh,cs,hv⟩:=h v (by simp)
  have h1:=KII (C.map (No v))
  have h2:=KMP (C:=C) (f:=No v) (m:=26 * wt v) (fun k _=>KMO hv)
  rw [List.length_map] at h1
  rw [List.flatMap_cons,List.length_append,wt.wts,List.length_cons,Nat.mul_add 26,Nat.mul_add,Nat.mul_add]
  omega
theorem KMQ {l:List Vl} {k:Vl} (h:k ∈ Wu l):wt k≤wt.wts l∧((∀ v ∈ l,∃ h cs,VRep h v cs)→∃ h cs,VRep h k cs):=by
 obtain ⟨v,hv,hk⟩:=List.mem_flatMap.1 h
 have hm:=KMN hk
 obtain ⟨kk,n,s,lv⟩:=v
 have h1:=z8 hv
 have h2:=z8 (show k ∈ lv from hm)
 rw [wt] at h1
 refine ⟨by omega,fun H=>?_⟩
 obtain ⟨hh,cs,hr⟩:=H _ hv
 obtain ⟨x,rfl,_,_,_,r1⟩:=VRep.eq.1 hr
 obtain ⟨j,hj,rfl⟩:=List.getElem_of_mem (show k ∈ lv from hm)
 obtain ⟨a,c,_,_,_,hv'⟩:=r1.get hj
 exact ⟨hh,c,hv'⟩
theorem KNo (l:List Vl):(Wu l).length≤wt.wts l:=by
 induction l with
 | nil=>simp [Wu]
 | cons v l ih =>
  obtain ⟨kk,n,s,lv⟩:=v
  have:(Wt lv).length≤wt.wts lv:=by
   rw [NU]
   have:=z7 lv
   omega
  unfold Wu at ih ⊢
  rw [List.flatMap_cons,List.length_append,wt.wts,wt]
  show (Wt lv).length+_≤_
  omega
theorem KPU {C l:List Vl} (hr:∀ v ∈ l,∃ h cs,VRep h v cs) (hC:C.length≤wt.wts l) (hm:∀ k ∈ C,k ∈ Wu l) (hW:wt.wts l≤1048576):(tabT C l).length≤70368744177664:=by
 have h1:=KII (C.map txV)
 rw [List.length_map] at h1
 have h2:=KMP (C:=C) (f:=txV) (m:=26 * wt.wts l) (fun k hk=>by
  obtain ⟨a,b⟩:=KMQ (hm k hk)
  obtain ⟨h,cs,hv⟩:=b hr
  have:=KFN 8 k hv
  show (txt 8 k).length≤_
  omega)
 have h3:=KIJ C l hr
 have h4:=z7 l
 unfold tabT
 rw [List.length_append]
 have m1:C.length * (26 * wt.wts l)≤1048576 * (26 * 1048576):=Nat.mul_le_mul (by omega) (by omega)
 have m2:(3 * C.length+1) * l.length≤3145729 * 1048576:=Nat.mul_le_mul (by omega) (by omega)
 omega
theorem KJD {C l:List Vl} (i:Nat):(Xc (C.map txV)++(l.take i).flatMap (fun v=>Xc (C.map (No v)))).length≤(tabT C l).length:=by
 unfold tabT
 rw [List.length_append,List.length_append]
 conv=>rhs; rw [← List.take_append_drop i l,List.flatMap_append,List.length_append]
 omega
theorem KJE {l:List Vl} {i:Nat} (hi:i < l.length):Wu (l.take (i+1))=Wu (l.take i)++Wt l[i].l:=by
 unfold Wu
 rw [List.take_succ_eq_append_getElem hi,List.flatMap_append]
 simp
theorem KKk {l:List Vl} {i:Nat} (hi:i < l.length):KDn (l.take (i+1))=(KDn (l.take i) && (decide (l[i].k=5) && (Wt l[i].l).all (fun k=>decide (k.k=2)))):=by
 unfold KDn
 rw [List.take_succ_eq_append_getElem hi,List.all_append]
 simp
theorem KMR {l:List Vl} {i:Nat} (hi:i < l.length) (h:(decide (l[i].k=5) && (Wt l[i].l).all (fun k=>decide (k.k=2)))=false):KDn l=false:=by
 unfold KDn
 rw [List.all_eq_false]
 exact ⟨l[i],List.getElem_mem hi,by rw [h]; simp⟩
theorem KGK (l:List Vl) (i:Nat):(Wu (l.take i)).length≤(Wu l).length:=by
 unfold Wu
 conv=>rhs; rw [← List.take_append_drop i l,List.flatMap_append,List.length_append]
 omega
theorem TE.upd {h0 h h':Heap} {b2 b3 lp:Nat} {xm:List Nat} (T:TE h0 b2 b3 xm h) (u:Upd lp h h') (h1:h0.size≤lp) (h2:b2≠lp) (h3:b3≠lp) (hx:lp ∉ xm):TE h0 b2 b3 xm h' :=
 ⟨T.ext.upd u h1,(u.ne _ h2).trans T.c2,(u.ne _ h3).trans T.c3,fun b hb=>(u.ne b (fun e=>hx (e ▸ hb))).trans (T.df b hb)⟩
end Gx
namespace Gx
open Go
set_option linter.unusedVariables false
set_option linter.unusedSimpArgs false
def KPV (C45:Addr) (C46:Addr) (C47:Addr):(Sl)→M Nat:=fun x=>match x with
 | Xx48=>do
  let Xx51←ixL Xx48 0 4
  let Xx52←ldI .i64 ((Xx51).add 0)
  M.ite (Xx52 != 2) (do
   stV C45 (.string ByteArray.empty)
   stV C46 (.int .i64 21)
   M.pure 1
   ) (do
   let Xx56←ixL Xx48 0 4
   let Xx57←ldL C47
   let Xx58←ldG 4 Xx56
   let y_60←NY 4 1 (#[.int .i64 0,.int .i64 0,.string ByteArray.empty,.slice none 0 0]:Array Value) [(0,.agg (#[.int .i64 0,.int .i64 0,.string ByteArray.empty,.slice none 0 0]:Array Value))]
   let Xx59←bdL KB 1 y_60
   chk (fun h:Heap=>(KO h C47=some ((Xx57:Sl).v))∧(Xx58.size=4∧∀ i,i < 4→KO h (Addr.add Xx56 i)=Xx58[i]?))
   let Xx61←apL KB 4 56 (#[.int .i64 0,.int .i64 0,.string ByteArray.empty,.slice none 0 0]:Array Value) Xx57 Xx59
   let Xx62←ixL Xx61 (Xx57.len:Int) 4
   let y_67←do
    M.both (do
     M.need (Xx58.size=4)
     stG Xx62 Xx58
     stV C47 ((Xx61:Sl).v)
     M.pure ()
     ) (do
     stV C47 ((Xx61:Sl).v)
     M.need (Xx58.size=4)
     stG Xx62 Xx58
     M.pure ()
     )
   M.pure 0
   )
theorem KQt {h0 h:Heap} {b2 b3 b5:Nat} {L:Nat→Prop} {xm:List Nat} {K:List Vl} {x:Sl} {lv:List Vl} {i:Nat} {Q:Nat→Heap→Prop} (B:Blks h0 b2 b3 b5) (T:TJ h0 b2 b3 b5 xm L K h) (hL:∀ i,L i→i < h.size) (hK:K.length≤1048576) (hx:VsRepS (· < h0.size) h x lv) (hi:2 * i < lv.length)
  (H1:∀ h',(lv[2 * i]).k=2→TJ h0 b2 b3 b5 xm L (K++[lv[2 * i]]) h'→h.size≤h'.size→(∀ i,L i→i≠b5→h'[i]?=h[i]?)→Q 0 h')
  (H2:∀ h',¬ (lv[2 * i]).k=2→TE h0 b2 b3 xm h'→(∀ i,i≠b2→i≠b3→h'[i]?=h[i]?)→Q 1 h') :
  (KPV ⟨b2,0,none⟩ ⟨b3,0,none⟩ ⟨b5,0,none⟩ (KH8 x i)).wp h Q:=by
 unfold KPV
 have hp:=KMA hx hi
 have hl0:0 < (KC8 lv i).length:=by simp [KC8]; omega
 have he0:(KC8 lv i)[0]=lv[2 * i]:=by simp [KC8]
 obtain ⟨a,cs,ha,hS,hs,hc,hv⟩:=hp.get hl0
 rw [he0] at hv
 have hlen:(KH8 x i).len=min 2 (lv.length - 2 * i):=by show min 2 (x.len - 2 * i)=_; rw [hx.len]
 have ha0:∀ {β:Type} {Q':β→Heap→Prop} {f:Addr→M β},(f (a.add 0)).wp h Q'→(ixL (KH8 x i) 0 4>>=f).wp h Q':=fun hq=>by
  refine Xi (by decide) (by rw [hlen]; omega) ha ?_
  exact hq
 have hc0:∀ j,j < 4→KO h ((a.add 0).add j)=cs[j]?:=fun j hj=>by
  rw [Addr.add_add,Nat.zero_add]
  have:=hc j hj
  rw [Nat.zero_mul,Nat.zero_add] at this
  exact this
 obtain ⟨kv,hkv⟩:∃ kv,kv=lv[2 * i]:=⟨_,rfl⟩
 rw [← hkv] at hv H1 H2
 obtain ⟨kk,n,s,l2⟩:=kv
 obtain ⟨xs,hcs,k1,n1,s1,r1⟩:=ZK.eq.1 hv
 refine ha0 (Zm (n:=kk) (by rw [hc0 0 (by decide),hcs]; rfl) (KP (fun hk=>?_) (fun hk=>?_)))
 ·have hk:¬ kk=2:=by simpa using hk
  exact KJz B T (fun h' TEh hne=>KC (H2 h' hk TEh hne))
 ·have hk:kk=2:=by simpa using hk
  refine ha0 ?_
  exact KRs B T hL hK hv ⟨by rw [XO]; exact hS,hc0⟩ (fun h' T' hz hkeep=>H1 h' hk T' hz hkeep)
end Gx
namespace Gx
open Go
set_option linter.unusedVariables false
set_option linter.unusedSimpArgs false
theorem KNp {p:Vl→Bool} {l:List Vl} {i:Nat} (hi:i < l.length):(l.take (i+1)).all p=((l.take i).all p && p l[i]):=by
 rw [List.take_succ_eq_append_getElem hi,List.all_append]; simp
theorem KPW {p:Vl→Bool} {l:List Vl} {i:Nat} (hi:i < l.length) (h:p l[i]=false):l.all p=false:=by
 rw [List.all_eq_false]
 exact ⟨l[i],List.getElem_mem hi,by rw [h]; simp⟩
theorem KMS {h0 h:Heap} {b2 b3 b5 a b:Nat} {xm:List Nat} {K:List Vl} {x:Sl} {lv:List Vl} {ta tb:TypeId} {Q:Nat × Nat→Heap→Prop} (B:Blks h0 b2 b3 b5) (T:TJ h0 b2 b3 b5 xm (fun i=>i=a∨i=b) K h) (hx:VsRepS (· < h0.size) h x lv) (hb:lv.length≤1048576) (hK:K.length+(Wt lv).length≤1048576)
  (ha:h[a]?=some (.cells #[x.v] ta (0,0))) (hb':h[b]?=some (.cells #[.int .i64 2] tb (0,0))) (la:b5 < a) (lb:b5 < b)
  (H0:∀ h',(Wt lv).all (fun k=>decide (k.k=2))=true→h.size < h'.size→TJ h0 b2 b3 b5 (h.size::xm) (fun _=>False) (K++Wt lv) h'→Q (0,h.size) h')
  (H1:∀ h',(Wt lv).all (fun k=>decide (k.k=2))=false→TE h0 b2 b3 (h.size::xm) h'→Q (1,h.size) h') :
  (rgF Go.Proofs.Tryz.prog (fun x:Sl=>[x.v]) [.ret] (WL ⟨b2,0,none⟩ ⟨b3,0,none⟩ ⟨b5,0,none⟩) (.func (.func Zp) #[] #[.pointer (some ⟨a,0,none⟩),.pointer (some ⟨b,0,none⟩)])).wp h Q:=by
 have hB:=B.l2; have hB3:=B.l3; have hB5:=B.l5
 have sa:=UD ha
 have sb:=UD hb'
 have hxl:=hx.len
 have hxc:=hx.cap
 obtain ⟨_,_,c5,_,_⟩:=T.c5
 have s5:=UD c5
 have hmem:∀ y ∈ h.size::xm,y < h.size+1:=fun y hy=>by
  rcases List.mem_cons.1 hy with rfl | hy
  ·omega
  ·have:=UD (T.df y hy); omega
 have hnot:(h.size+1) ∉ h.size::xm:=fun hm=>by have:=hmem _ hm; omega
 refine KRk (Yb:=KPV ⟨b2,0,none⟩ ⟨b3,0,none⟩ ⟨b5,0,none⟩) (fun l x=>rfl) (c:=.ret) rfl (fun l hh=>by cases hh) (xs:=KFG x)
  (fun i h1=>TJ h0 b2 b3 b5 (h.size::xm) (fun j=>j=h.size+1∨j=a∨j=b) (K++(Wt lv).take i) h1∧h1[a]?=some (.cells #[x.v] ta (0,0))∧h1[b]?=some (.cells #[.int .i64 2] tb (0,0))∧((Wt lv).take i).all (fun k=>decide (k.k=2))=true∧VsRepS (· < h0.size) h1 x lv∧h.size+1 < h1.size)
  (fun h1=>TE h0 b2 b3 (h.size::xm) h1∧(Wt lv).all (fun k=>decide (k.k=2))=false) ?_ ?_ ?_ ?_ ?_ ?_ ?_
 ·rintro i h1 h2 ⟨j1,j2,j3,j4,j5,j6⟩ u
  exact ⟨j1.upd B u (.inl rfl) (by omega) hnot,(u.ne _ (by omega)).trans j2,(u.ne _ (by omega)).trans j3,j4,j5.same (fun y hy=>u.ne y (by have:=T.ext.size; omega)) (fun _ h=>h),by rw [u.size]; exact j6⟩
 ·rintro h1 h2 ⟨j1,j2⟩ u
  have:=T.ext.size
  exact ⟨j1.upd u (by omega) (by omega) (by omega) hnot,j2⟩
 ·exact KMB hxc (by omega) (fun i h1 hj=>⟨ZA hj.2.1,ZA hj.2.2.1⟩)
 ·intro r
  have e1:Ext h ((h.push (.deferred (some []))).push (XN r .ready none)):=(Ext.push _ _).pushed _
  have T1:=T.more e1
  refine ⟨?_,e1.blk ha,e1.blk hb',by simp,hx.same (fun y hy=>e1.same y (Nat.lt_of_lt_of_le hy T.ext.size)) (fun _ h=>h),by simp⟩
  simp only [List.take_zero,List.append_nil]
  have T2:TJ h0 b2 b3 b5 xm (fun j=>j=h.size+1∨j=a∨j=b) K ((h.push (.deferred (some []))).push (XN r .ready none)):=by
   obtain ⟨r0,css,d5,G,off⟩:=T.c5
   refine ⟨T1.ext,T1.c2,T1.c3,⟨r0,css,e1.blk d5,G.same (fun y hy=>e1.same y (G.gw.lt hy).1) (fun y hy=>e1.same y (Nat.lt_of_lt_of_le hy T.ext.size)),fun i hi=>?_⟩,T1.df⟩
   rcases hi with rfl | hi
   ·intro ho; have:=(G.gw.lt ho).1; omega
   ·exact off i hi
  refine T2.xs (fun y hy=>?_)
  rcases List.mem_cons.1 hy with rfl | hy
  ·rw [Wy (by simp)]; exact Kf
  ·exact e1.blk (T.df y hy)
 ·rintro i hi h1 o ⟨j1,j2,j3,j4,j5,j6⟩ hrec
  rw [Gi] at hi
  have hi2:2 * i < lv.length:=by omega
  have hie:i < (Wt lv).length:=by rw [NU]; omega
  have hev:=KFL lv i hi2 hie
  rw [KGJ x (by rw [Gi]; exact hi)]
  have htk:=KNp (p:=fun k=>decide (k.k=2)) hie
  refine KQt B j1 (fun j hj=>by rcases hj with rfl | rfl | rfl <;> omega) ?_ j5 hi2 (fun h2 hk T2 hz hkeep=>?_) (fun h2 hk T2 hne=>?_)
  ·rw [List.length_append,List.length_take]; omega
  ·refine ⟨by rw [hkeep _ (.inl rfl) (by omega)]; exact hrec,.inl ⟨rfl,?_,(hkeep _ (.inr (.inl rfl)) (by omega)).trans j2,(hkeep _ (.inr (.inr rfl)) (by omega)).trans j3,?_,?_,by omega⟩⟩
   ·rw [List.take_succ_eq_append_getElem hie,← List.append_assoc,hev]; exact T2
   ·rw [htk,j4,hev,decide_eq_true hk]; rfl
   ·exact (hx.same (fun y hy=>(T2.ext.same y hy).trans (T.ext.same y hy).symm) (fun _ h=>h))
  ·refine ⟨by rw [hne _ (by omega) (by omega)]; exact hrec,.inr ⟨rfl,T2,?_⟩⟩
   exact KPW hie (by rw [hev]; exact decide_eq_false hk)
 ·rintro h1 ⟨j1,j2,j3,j4,j5,j6⟩
  rw [Gi,show (x.len+1) / 2=(Wt lv).length by rw [NU,hxl],List.take_length] at j4 j1
  exact H0 h1 j4 (by omega) (j1.lp (fun r css G off i hi=>hi.elim))
 ·rintro h1 ⟨j1,j2⟩
  exact H1 h1 j2 j1
end Gx
namespace Gx
open Go Go.Proofs Go.Shelf Go.RowKit Go.Lib Go.Sort
set_option linter.unusedVariables false
set_option linter.unusedSimpArgs false
set_option maxRecDepth 100000
abbrev EV (S:Nat→Prop) (h:Heap):={ p:Vl × Array Value // ZK S h p.1 p.2 }
instance (S:Nat→Prop) (h:Heap):Inhabited (EV S h):=⟨⟨(vl0,_),KAB S h⟩⟩
def KC9 {S:Nat→Prop} {h:Heap} (p:EV S h):List Value:=p.1.2.toList
def KKl {S:Nat→Prop} {h:Heap} (p q:EV S h):Int:=cmpV p.1.1 q.1.1
theorem KQu (S:Nat→Prop) (h:Heap):SWO (ltOf (KKl (S:=S) (h:=h))) where
 irrefl x:=by unfold ltOf KKl; rw [KC7]; rfl
 trans x y z h1 h2:=by
  unfold ltOf KKl at *
  exact decide_eq_true (KGI (of_decide_eq_true h1) (of_decide_eq_true h2))
 ntrans x y z h1 h2:=by
  unfold ltOf KKl at *
  have h1:=of_decide_eq_false h1
  have h2:=of_decide_eq_false h2
  refine decide_eq_false (fun h3=>?_)
  have t:=KJv z.1.1 y.1.1 x.1.1
  have a1:=qe x.1.1 y.1.1
  have a2:=qe y.1.1 z.1.1
  have a3:=qe x.1.1 z.1.1
  have hz:=t.z1
  by_cases h4:cmpV z.1.1 y.1.1=0
  ·have:=t.z1 h4; omega
  ·by_cases h5:cmpV y.1.1 x.1.1=0
   ·have:=t.z2 h5; omega
   ·have:=t.tr (by omega) (by omega); omega
theorem KHJ {w:World} {blk i:Nat} {f:Array Value→Array Value} (h:i≠blk):(mapBlock w blk f).heap[i]?=w.heap[i]?:=by
 unfold mapBlock
 simp only [Array.getElem?_modify]
 rw [if_neg (fun e=>h e.symm)]
theorem KKm {w:World} {blk:Nat} {f:Array Value→Array Value} {c:Array Value} {t:TypeId} {z:Nat × Nat} (h:w.heap[blk]?=some (.cells c t z)):(mapBlock w blk f).heap[blk]?=some (.cells (f c) t z):=by
 unfold mapBlock
 simp only [Array.getElem?_modify,if_true,h]
 rfl
theorem zI {w:World} {blk:Nat} {f:Array Value→Array Value}:(mapBlock w blk f).heap.size=w.heap.size:=by
 unfold mapBlock
 simp
theorem KET {α:Type} [Inhabited α] {enc:α→List Value} {k:Nat} {w:World} {blk off n:Nat} {d:Array α} {os:Array Obj} {i:Nat} (hi:i < w.heap.size) (hne:i≠blk):(sortWorldK enc k w blk off n d os).heap[i]?=w.heap[i]?:=by
 show ((mapBlock (ahead w n) blk (putCells id off (flatK enc k d))).heap++os)[i]?=_
 rw [Array.getElem?_append_left (by rw [zI]; exact hi),KHJ hne]
 rfl
theorem KRt {α:Type} [Inhabited α] {enc:α→List Value} {k:Nat} {w:World} {blk off n:Nat} {d:Array α} {os:Array Obj} {c:Array Value} {t:TypeId} {z:Nat × Nat} (h:w.heap[blk]?=some (.cells c t z)):(sortWorldK enc k w blk off n d os).heap[blk]?=some (.cells (putCells id off (flatK enc k d) c) t z):=by
 show ((mapBlock (ahead w n) blk (putCells id off (flatK enc k d))).heap++os)[blk]?=_
 rw [Array.getElem?_append_left (by rw [zI]; exact UD h),KKm (w:=ahead w n) h]
theorem KPX {α:Type} [Inhabited α] {enc:α→List Value} {k:Nat} {w:World} {blk off n:Nat} {d:Array α} {os:Array Obj}:w.heap.size≤(sortWorldK enc k w blk off n d os).heap.size:=by
 show _≤((mapBlock (ahead w n) blk (putCells id off (flatK enc k d))).heap++os).size
 rw [Array.size_append,zI]
 exact Nat.le_add_right _ _
theorem KNq {w w':World} (e:Ext w.heap w'.heap) (r:Rest w w'):∃ q os',w'=grow (w.drewN q) os':=by
 refine ⟨w'.drawn - w.drawn,w'.heap.extract w.heap.size w'.heap.size,?_⟩
 have h1:w'.heap=w.heap++w'.heap.extract w.heap.size w'.heap.size:=by
  apply Array.ext_getElem?
  intro i
  by_cases hi:i < w.heap.size
  ·rw [Array.getElem?_append_left hi,e.same i hi]
  ·rw [Array.getElem?_append_right (by omega),Array.getElem?_extract]
   have:=e.size
   by_cases h2:i < w'.heap.size
   ·rw [if_pos (by omega)]; congr 1; omega
   ·rw [if_neg (by omega),Array.getElem?_eq_none (by omega)]
 have h2:w'.drawn=w.drawn+(w'.drawn - w.drawn):=by have:=r.drawn; omega
 have h3:=r.os
 have h4:=r.output
 have h5:=r.tape
 cases w'
 simp only [grow,World.drewN,World.mk.injEq] at *
 exact ⟨h1,h5,h2,h3,h4⟩
theorem KPY {S:Nat→Prop} {w:World} {blk off size:Nat} (hS:∀ b,S b→b < w.heap.size∧b≠blk):CmpLays Go.Proofs.Tryz.prog JB #[] (KC9 (S:=S) (h:=w.heap)) 4 KKl blk off size w:=by
 intro m os dk hs x y
 have hx:VRep (sortWorldK KC9 4 w blk off m dk os).heap x.1.1 x.1.2:=(x.2.same (fun b hb=>KET (hS b hb).1 (hS b hb).2)).to
 have hy:VRep (sortWorldK KC9 4 w blk off m dk os).heap y.1.1 y.1.2:=(y.2.same (fun b hb=>KET (hS b hb).1 (hS b hb).2)).to
 have h:=G9 x.1.2 y.1.2 (sortWorldK KC9 4 w blk off m dk os) (fun r h'=>r=cmpV x.1.1 y.1.1∧Ext (sortWorldK KC9 4 w blk off m dk os).heap h') (Gf hx hy (fun h' e=>⟨rfl,e⟩))
 have e1:(#[Value.agg (KC9 x).toArray,Value.agg (KC9 y).toArray]++(#[]:Array Value))=#[.agg x.1.2,.agg y.1.2]:=by
  unfold KC9
  rw [Array.toArray_toList,Array.toArray_toList]
  rfl
 rw [e1]
 refine h.mono ?_
 rintro e w' ⟨r,rfl,⟨rfl,E⟩,R⟩
 exact ⟨rfl,KNq E R⟩
theorem KIK {S:Nat→Prop} {h:Heap} (d:Array (EV S h)) {i j:Nat} (hi:i < d.size) (hj:j < 4):(flatK KC9 4 d)[i * 4+j]! = (d[i]'hi).1.2[j]'(by rw [(d[i]'hi).2.size]; exact hj):=by
 rw [get_flatK _ _ _ _ (by omega),show (i * 4+j) / 4=i by omega,show (i * 4+j) % 4=j by omega,getElem!_pos d i hi]
 unfold KC9
 have hs:=(d[i]'hi).2.size
 rw [getElem!_pos _ j (by rw [Array.length_toList]; omega)]
 rfl
def evs {S:Nat→Prop} {h:Heap} {css:List (Array Value)} {l:List Vl} (hl:css.length=l.length) (H:∀ j (h1:j < l.length) (h2:j < css.length),ZK S h l[j] css[j]):Array (EV S h) :=
 Array.ofFn (n:=l.length) fun j=>⟨(l[j.1]'j.2,css[j.1]'(by rw [hl]; exact j.2)),H j.1 j.2 _⟩
theorem KIL {cells:Array Value} {F:Array Value} {i:Nat} (h1:i < cells.size) (h2:i < F.size):(putCells id 0 F cells)[i]?=some F[i]!:=by
 unfold putCells
 rw [Array.getElem?_mapIdx,Array.getElem?_eq_getElem h1]
 simp [h2]
theorem KHK {cells:Array Value} {F:Array Value}:(putCells id 0 F cells).size=cells.size:=by simp [putCells]
theorem KKn {lo:Nat} {S:Nat→Prop} {h:Heap} {Q:Unit→Heap→Prop} {r:Sl} {css:List (Array Value)} {l:List Vl} (G:VGw lo S h r css l) (hS:∀ b,S b→b < h.size∧¬ Sl.on r b) (hm:l.length < 4611686018427387904)
  (H:∀ h' css' l',VGw lo S h' r css' l'→l'.Perm l→l'.Pairwise (fun a b=>¬ cmpV b a < 0)→h.size≤h'.size→(∀ i,i < h.size→¬ Sl.on r i→h'[i]?=h[i]?)→Q () h') :
  (WP Go.Proofs.Tryz.prog Jt #[r.v,.func (.func JB) #[] #[]] (fun _:Unit=>.tuple #[])).wp h Q:=by
 intro w hw
 subst hw
 have hrl:=G.gw.len4 G.w4
 have hgl:=G.len
 rcases G.gw with ⟨rfl,he⟩ | ⟨b,ty,cells,R⟩
 ·have:css=[]:=by
   have:=Vg G.w4
   rw [he] at this
   exact List.length_eq_zero_iff.1 (by simp at this; omega)
  subst this
  have:l=[]:=List.length_eq_zero_iff.1 hgl.symm
  subst this
  refine (AnyF.slices_SortFunc_none KE7 none 0 (.func (.func JB) #[] #[]) w).mono ?_
  rintro e w' ⟨rfl,rfl⟩
  exact ⟨(),rfl,H _ _ _ G (List.Perm.refl _) List.Pairwise.nil (Nat.le_refl _) (fun i _ _=>rfl),Rest.refl _⟩
 ·have hb:∀ i,Sl.on r i↔i=b:=fun i=>⟨fun ⟨a,ha,hab⟩=>by rw [R.base] at ha; cases ha; exact hab.symm,fun e=>⟨_,R.base,e.symm⟩⟩
  have hS':∀ i,S i→i < w.heap.size∧i≠b:=fun i hi=>⟨(hS i hi).1,fun e=>(hS i hi).2 ((hb i).2 e)⟩
  obtain ⟨d,hd⟩:∃ d,d=evs G.len G.rep:=⟨_,rfl⟩
  have hds:d.size=l.length:=by rw [hd]; simp [evs]
  have hdg:∀ j (h1:j < d.size),(d[j]'h1).1=(l[j]'(by omega),css[j]'(by omega)):=fun j h1=>by subst hd; simp [evs]
  have hcz:=R.size
  have hcap:=R.cap
  have hH:HoldsK KC9 4 w b 0 d:=fun j hj=>by
   rw [size_flatK] at hj
   have hj4:j / 4 * 4+j % 4=j:=by omega
   have h1:j / 4 < d.size:=by omega
   have h2:=KIK d h1 (show j % 4 < 4 by omega)
   rw [hj4] at h2
   have h3:=KAA G.w4 (j / 4) (j % 4) (by omega)
   rw [hj4,List.getElem?_eq_getElem (l:=css) (i:=j / 4) (by omega)] at h3
   have hcs:(d[j / 4]'h1).1.2=css[j / 4]'(by omega):=by rw [hdg _ h1]
   have hsz:(css[j / 4]'(by omega)).size=4:=(G.w4 _ (List.getElem_mem _)).1
   have h4:=R.get j (flatK KC9 4 d)[j]! (by
    rw [h3,h2]
    simp only [hcs]
    exact Array.getElem?_eq_getElem (by rw [hsz]; omega))
   refine ⟨?_,?_⟩
   ·rw [Nat.zero_add,KDw,KU R.blk]
    exact h4
   ·rw [KJT,KZ R.blk]
  have hblk:b < w.heap.size:=UD R.blk
  have hcon:=AnyQ.slices_SortFunc KE7 4 Tryz.isAgg24 Tryz.sizeOf24 KC9 (fun x=>by unfold KC9; rw [Array.length_toList]; exact x.2.size) (fun x=>x.2.to.one) KKl (KQu S w.heap) JB #[] b 0 r.cap d w (enters_of Tryz.func13 (by kernel_rfl) rfl) (KPY hS') hH hblk (by omega)
  have hargs:(#[r.v,.func (.func JB) #[] #[]]:Array Value)=#[.slice (some ⟨b,0,none⟩) d.size r.cap,.func (.func JB) #[] #[]]:=by
   have:r.v=.slice (some ⟨b,0,none⟩) d.size r.cap:=by
    have h1:=R.base
    have h2:r.len=d.size:=by omega
    obtain ⟨rb,rl,rc⟩:=r
    simp only at h1 h2
    subst h1; subst h2
    rfl
   rw [this]
  rw [hargs]
  refine hcon.mono ?_
  rintro e w' ⟨rfl,d',n,os,⟨hp1,hp2,hp3⟩,hs,rfl⟩
  refine ⟨(),rfl,?_,⟨rfl,rfl,rfl,Nat.le_add_right _ _⟩⟩
  rw [← hp1,Array.extract_size,hp1,Array.extract_size] at hp3
  have hl':(d'.toList.map (fun p=>p.1.2)).length=(d'.toList.map (fun p=>p.1.1)).length:=by simp
  refine H _ (d'.toList.map (fun p=>p.1.2)) (d'.toList.map (fun p=>p.1.1)) ⟨.inr ⟨b,ty,_,R.base,R.lo,KRt R.blk,by rw [KHK]; exact R.size,R.cap,?_,?_⟩,?_,hl',?_⟩ ?_ ?_ KPX (fun i hi hno=>KET hi (fun e=>hno ((hb i).2 e)))
  ·have hw4:W4 (d'.toList.map (fun p=>p.1.2)):=fun c hc=>by
    obtain ⟨p,_,rfl⟩:=List.mem_map.1 hc
    exact ⟨p.2.size,p.2.to.one⟩
   rw [Vg hw4,List.length_map,Array.length_toList,hp1]; omega
  ·intro j v hj
   have hlt:=(List.getElem?_eq_some_iff.1 hj).1
   have hw4:W4 (d'.toList.map (fun p=>p.1.2)):=fun c hc=>by
    obtain ⟨p,_,rfl⟩:=List.mem_map.1 hc
    exact ⟨p.2.size,p.2.to.one⟩
   rw [Vg hw4,List.length_map,Array.length_toList] at hlt
   have hj4:j / 4 * 4+j % 4=j:=by omega
   have h1:j / 4 < d'.size:=by omega
   have h2:=KIK d' h1 (show j % 4 < 4 by omega)
   have h3:=KAA hw4 (j / 4) (j % 4) (by omega)
   rw [hj4] at h2 h3
   rw [h3,List.getElem?_eq_getElem (l:=d'.toList.map (fun p=>p.1.2)) (i:=j / 4) (by simpa using h1)] at hj
   rw [KIL (by omega) (by rw [size_flatK]; omega),h2]
   simp only [List.getElem_map,Array.getElem_toList,Option.bind_some] at hj
   rw [← hj]
   exact (Array.getElem?_eq_getElem _).symm
  ·intro c hc
   obtain ⟨p,_,rfl⟩:=List.mem_map.1 hc
   exact ⟨p.2.size,p.2.to.one⟩
  ·intro j h1 h2
   simp only [List.getElem_map,Array.getElem_toList]
   exact (d'[j]'(by simpa using h1)).2.same (fun b1 hb1=>KET (hS' b1 hb1).1 (hS' b1 hb1).2)
  ·have h1:=hp3.map (fun p=>p.1.1)
   have h2:d.toList.map (fun p=>p.1.1)=l:=by
    apply List.ext_getElem
    ·simp [hds]
    ·intro i i1 i2
     simp only [List.getElem_map,Array.getElem_toList]
     rw [hdg]
   rwa [h2] at h1
  ·rw [List.pairwise_map,List.pairwise_iff_getElem]
   intro i j i1 j1 hij
   have h1:=hs i j (Nat.zero_le _) hij (by rw [← hp1]; simpa using j1)
   rw [getElem!_pos d' i (by simpa using i1),getElem!_pos d' j (by simpa using j1)] at h1
   exact of_decide_eq_false h1
end Gx
namespace Gx
open Go
set_option linter.unusedVariables false
set_option linter.unusedSimpArgs false
theorem KMT {h:Heap} {k:Vl} {cs:Array Value} {Q:ByteArray→Heap→Prop} (hk:VRep h k cs) (hp:Gu h) (hd:KAx h) (hm:(txV k).length≤1099511627776) (H:∀ h',Ext h h'→Q (bs (txV k)) h'):(V7 Go.Proofs.Tryz.prog (fun r:ByteArray=>.string r) (.func (.func GL) #[] #[]) [.agg cs]).wp h Q :=
 N1 KCh (KD4 cs) (KAQ hk hp hd hm H)
theorem KMU {h:Heap} {v k:Vl} {c cs:Array Value} {b:Nat} {t:TypeId} {z:Nat × Nat} {Q:ByteArray→Heap→Prop} (hb:h[b]?=some (.cells c t z)) (hv:VRep h v c) (hk:VRep h k cs) (h5:v.k=5) (hp:Gu h) (hd:KAx h) (hw:wt v≤1048576) (H:∀ h',Ext h h'→Q (bs (No v k)) h') :
  (V7 Go.Proofs.Tryz.prog (fun r:ByteArray=>.string r) (.func (.func WQ) #[] #[.pointer (some ⟨b,0,none⟩)]) [.agg cs]).wp h Q:=by
 refine N1 KDO (KEI cs ⟨b,0,none⟩) ?_
 unfold KBB
 have KO:=KMO (k:=k) hv
 refine ZU (fun h1 e1 z1 g1=>z6 (v:=v) (e1.blk hb) hv.size (z6 (v:=k) g1 hk.size (KE (KL5 (hv.ext e1) (hk.ext e1) (by omega) (fun h2 c2 e2 hc2=>ZU (fun h3 e3 z3 g3=>?_))))))
 dsimp only
 refine Z0 hc2.size (stR (vs:=c2) g3 (by rw [hc2.size]; decide) hc2.one (fun h4 u4 g4=>?_))
 rw [K0 (by rw [Array.length_toList,hc2.size]; rfl),Array.toArray_toList] at g4
 have E4:Ext h2 h4:=e3.upd u4 (Nat.le_refl _)
 have E:=(e1.trans e2).trans E4
 obtain ⟨kk,n,s,l⟩:=v
 have hk5:kk=5:=h5
 rw [KL3 hk5] at hc2 ⊢
 have hct:No (.mk kk n s l) k=match getV k l with | some x=>txV x | none=>[45]:=rfl
 rw [hct] at H KO
 cases hg:getV k l with
 | none =>
  rw [hg] at H
  exact iteF rfl (KC (H _ E))
 | some y =>
  rw [hg] at H KO hc2
  refine iteT rfl (z6 (v:=y) g4 hc2.size (KE (KAQ (hc2.ext E4) (hp.ext E) (hd.ext E) ?_ (fun h5 e5=>KC (H _ (E.trans e5))))))
  have h9:(txt 8 y).length≤26 * wt (.mk kk n s l):=KO
  show (txt 8 y).length≤_
  omega
theorem KJF {h:Heap} {Q:ByteArray × Int→Heap→Prop} {x:Sl} {l:List Vl} (hx:VsRep h x l) (hp:Gu h) (hd:KAx h) (hW:wt.wts l≤1048576)
  (H1:∀ h',Ext h h'→UZ l≠0→Q (ByteArray.empty,UZ l) h')
  (H2:∀ h',Ext h h'→UZ l=0→KDn l=false→Q (ByteArray.empty,21) h')
  (H3:∀ h' C,Ext h h'→UZ l=0→KDn l=true→Cols l C→Q (bs (tabT C l),0) h'):(YI x).wp h Q:=by
 have hwl:=z7 l
 have hkl:=KNo l
 have hxl:=hx.len
 unfold YI
 refine ZU (fun h1 e1 z1 g1=>ZU (fun h2 e2 z2 g2=>?_))
 refine KE (KFA ((hx.ext e1).ext e2) (fun h3 e3=>?_))
 have E3:=(e1.trans e2).trans e3
 have g1':=(e2.trans e3).blk g1
 have g2':=e3.blk g2
 have hs3:=e3.size
 refine KP (fun hc=>?_) (fun hc=>?_)
 ·have hc:UZ l≠0:=by simpa using hc
  refine Wl (ZA g1') (KZ g1') rfl ?_
  have u1:=Upd.hset h3 h.size 0 (.string ByteArray.empty)
  have d1:=zH (u:=.string ByteArray.empty) g1'
  generalize hset h3 ⟨h.size,0,none⟩ (.string ByteArray.empty)=h4 at u1 d1 ⊢
  have g2'':h4[h1.size]?=_:=(u1.ne _ (by omega)).trans g2'
  refine Wl (ZA g2'') (KZ g2'') rfl ?_
  have u2:=Upd.hset h4 h1.size 0 (.int .i64 (UZ l))
  have d2:=zH (u:=.int .i64 (UZ l)) g2''
  generalize hset h4 ⟨h1.size,0,none⟩ (.int .i64 (UZ l))=h5 at u2 d2 ⊢
  have d1':h5[h.size]?=_:=(u2.ne _ (by omega)).trans d1
  refine KE (KC (Yx (n:=ByteArray.empty) (ZA d1') (Zm (n:=UZ l) (ZA d2) (KC (H1 _ ?_ hc)))))
  exact (E3.upd u1 (Nat.le_refl _)).upd u2 (by omega)
 have hc:UZ l=0:=by simpa using hc
 refine ZU (fun h4 e4 z4 g4=>?_)
 have B:Blks h h.size h1.size h3.size:=⟨Nat.le_refl _,by omega,by omega⟩
 have T0:TJ h h.size h1.size h3.size [] (fun _=>False) [] h4:=⟨E3.trans e4,⟨_,e4.blk g1'⟩,⟨_,e4.blk g2'⟩,⟨Sl.nil,[],g4,VGw.nil _ _ _,fun _ h=>h.elim⟩,fun b hb=>by cases hb⟩
 have hvr:∀ v ∈ l,∃ h cs,VRep h v cs:=fun v hv=>by
  obtain ⟨j,hj,rfl⟩:=List.getElem_of_mem hv
  obtain ⟨a,c,_,_,_,hv'⟩:=hx.get hj
  exact ⟨h,c,hv'⟩
 refine M.loop_inv (fun (s:List Nat × Int) hh=>∃ i:Nat,s.2=(i:Int)∧i≤l.length∧TJ h h.size h1.size h3.size s.1 (fun _=>False) (Wu (l.take i)) hh∧KDn (l.take i)=true∧s.1.Nodup∧∀ b ∈ s.1,h.size≤b) (fun s _=>((l.length:Int) - s.2).toNat) ?_ ⟨0,rfl,Nat.zero_le _,by simpa [Wu] using T0,by simp [KDn],List.nodup_nil,fun b hb=>by cases hb⟩
 rintro ⟨xm,t⟩ hh ⟨i,ht,hi,T,hok,hnd,hge0⟩ self hself
 have ht:t=(i:Int):=ht
 have T:TJ h h.size h1.size h3.size xm (fun _=>False) (Wu (l.take i)) hh:=T
 have hnd:xm.Nodup:=hnd
 have hge0:∀ b ∈ xm,h.size≤b:=hge0
 subst ht
 unfold Ya
 rw [hxl]
 have refused:∀ {ym:List Nat} {hz:Heap},TE h h.size h1.size ym hz→ym.Nodup→(∀ b ∈ ym,h.size≤b)→KDn l=false→(shut ym>>=fun _=>ldS ⟨h.size,0,none⟩>>=fun r2=>ldI .i64 ⟨h1.size,0,none⟩>>=fun r3=>M.pure (r2,r3)).wp hz Q:=fun {ym hz} TEz nd hge hbad=>by
  refine KE (KFM nd TEz.df (fun h9 s9 n9=>?_))
  have d2:h9[h.size]?=_:=(n9 _ (fun hm=>by have:=TEz.df _ hm; rw [TEz.c2] at this; cases this)).trans TEz.c2
  have d3:h9[h1.size]?=_:=(n9 _ (fun hm=>by have:=TEz.df _ hm; rw [TEz.c3] at this; cases this)).trans TEz.c3
  refine Yx (n:=ByteArray.empty) (ZA d2) (Zm (n:=21) (ZA d3) (KC (H2 _ ⟨by rw [s9]; exact TEz.ext.size,fun j hj=>?_⟩ hc hbad)))
  exact (n9 j (fun hm=>by have:=hge j hm; omega)).trans (TEz.ext.same j hj)
 refine KP (fun hlt=>?_) (fun hend=>?_)
 ·have hlt:i < l.length:=by have:=of_decide_eq_true hlt; omega
  have hxS:VsRepS (· < h.size) hh x l:=hx.lt.same (fun b hb=>T.ext.same b hb) (fun _ h=>h)
  obtain ⟨a,cs,ha,hS,hs,hcs,hv⟩:=hxS.get hlt
  refine Xi (by omega) (by omega) ha (Uc hs (fun j hj=>by rw [Addr.add_add,show (i:Int).toNat * 4=i * 4 by omega]; exact hcs j hj) (ZU (fun hA eA zA gA=>Z0 hs (stR (vs:=cs) gA (by rw [hs]; decide) hv.to.one (fun hB uB gB=>?_)))))
  rw [K0 (by rw [Array.length_toList,hs]; rfl),Array.toArray_toList] at gB
  have EB:Ext hh hB:=eA.upd uB (Nat.le_refl _)
  have TB:=T.more EB
  have hvB:ZK (· < h.size) hB l[i] cs:=hv.same (fun b hb=>EB.same b (Nat.lt_of_lt_of_le hb T.ext.size))
  have htk:=KKk hlt
  rw [hok,Bool.true_and] at htk
  have hbad:=KMR hlt
  have hkt:=KJE hlt
  have hwi:=z8 (List.getElem_mem hlt)
  have hkp:=KGK l (i+1)
  have hkp0:=KGK l i
  generalize hvi:l[i]=vi at *
  obtain ⟨k,n,s,lv⟩:=vi
  obtain ⟨xs,rfl,k1,n1,s1,r1⟩:=ZK.eq.1 hvB
  have c0:KO hB ((⟨hh.size,0,none⟩:Addr).add 0)=some (.int .i64 k):=by rw [Kl gB]; rfl
  have c3:KO hB ((⟨hh.size,0,none⟩:Addr).add 3)=some xs.v:=by rw [Kl gB]; rfl
  refine Zm c0 (KP (fun hk=>?_) (fun hk=>?_))
  ·have hk:¬ k=5:=by simpa using hk
   refine KJz B TB (fun hC TC hne=>?_)
   exact refused TC hnd hge0 (hbad (by rw [show (Vl.mk k n s lv).k=k from rfl,decide_eq_false hk]; rfl))
  ·have hk:k=5:=by simpa using hk
   refine Jw c3 (KE ?_)
   unfold JJ
   refine ZU (fun hC eC zC gC=>ZU (fun hD eD zD gD=>?_))
   refine Zm (n:=2) (ZA gD) (iteF (by decide) (KC (KE ?_)))
   have ED:=eC.trans eD
   have TD:=TB.more ED
   have hsT:=T.ext.size
   have hsB:=EB.size
   have hwt:wt (.mk k n s lv)=1+s.length+wt.wts lv:=by rw [wt]
   have hlv:=z7 lv
   have hevl:=NU lv
   rw [hkt] at hkp
   have hkl2:((Wu (l.take i))++Wt lv).length≤(Wu l).length:=hkp
   rw [List.length_append] at hkl2
   obtain ⟨_,_,cD5,_,_⟩:=TB.c5
   have s5:=UD cD5
   have TD':TJ h h.size h1.size h3.size xm (fun j=>j=hB.size∨j=hC.size) (Wu (l.take i)) hD:=by
    obtain ⟨r0,css,d5,G,off⟩:=TB.c5
    refine ⟨TD.ext,TD.c2,TD.c3,⟨r0,css,ED.blk d5,G.same (fun y hy=>ED.same y (G.gw.lt hy).1) (fun y hy=>ED.same y (by omega)),fun j hj ho=>?_⟩,TD.df⟩
    have:=(G.gw.lt ho).1
    rcases hj with rfl | rfl
    ·omega
    ·have:=eC.size; omega
   refine KMS (a:=hB.size) (b:=hC.size) (lv:=lv) B TD' (r1.same (fun y hy=>ED.same y (by omega)) (fun _ h=>h)) (by omega) (by omega) (eD.blk gC) gD (by omega) (by have:=eC.size; omega) (fun hE hall hsz TE'=>?_) (fun hE hall TE'=>?_)
   ·refine iteF rfl ?_
    rw [w64 (by omega) (by omega)]
    have hsD:=ED.size
    refine hself (_,_) _ ⟨i+1,by simp,by omega,?_,?_,?_,?_⟩ (by dsimp only; omega)
    ·dsimp only
     rw [hkt]; exact TE'
    ·rw [htk]
     show (decide (k=5) && (Wt lv).all _)=true
     rw [decide_eq_true hk,hall]; rfl
    ·refine List.nodup_cons.2 ⟨fun hm=>?_,hnd⟩
     have:=UD (T.df _ hm); omega
    ·intro b hb
     rcases List.mem_cons.1 hb with rfl | hb
     ·omega
     ·exact hge0 b hb
   ·refine iteT rfl ?_
    have hsD:=ED.size
    refine refused TE' (List.nodup_cons.2 ⟨fun hm=>?_,hnd⟩) (fun b hb=>?_) (hbad (by
     show (decide (k=5) && (Wt lv).all _)=false
     rw [hall,Bool.and_false]))
    ·have:=UD (T.df _ hm); omega
    ·rcases List.mem_cons.1 hb with rfl | hb
     ·omega
     ·exact hge0 b hb
 ·have hge:i=l.length:=by have:=of_decide_eq_false hend; omega
  subst hge
  rw [List.take_length] at T hok
  obtain ⟨r,css,c5,G,_⟩:=T.c5
  have s5:=UD c5
  have hsT:=T.ext.size
  have hnr:∀ b,b≤h3.size→¬ Sl.on r b:=fun b hb ho=>by have:=(G.gw.lt ho).2; omega
  refine Jw (ZA c5) (KE (KKn G (fun b hb=>⟨by omega,hnr b (by omega)⟩) (by omega) (fun hA css1 l1 G1 hperm hpw szA sameA=>?_)))
  have c5A:hA[h3.size]?=_:=(sameA _ s5 (hnr _ (Nat.le_refl _))).trans c5
  have hlen1:l1.length=(Wu l).length:=hperm.length_eq
  refine Jw (ZA c5A) (KE (KIA G1 (fun b hb=>⟨by omega,hnr b (by omega)⟩) (by omega) (fun hB r2 css2 G2 szB sameB onB=>?_)))
  have c5B:hB[h3.size]?=_:=(sameB _ (by omega) (hnr _ (Nat.le_refl _))).trans c5A
  have hnr2:∀ b,b≤h3.size→¬ Sl.on r2 b:=fun b hb ho=>hnr b hb (onB b ho)
  refine Wl (ZA c5B) (KZ c5B) (KEo _) ?_
  have uC:=Upd.hset hB h3.size 0 r2.v
  have c5C:=zH (u:=r2.v) c5B
  generalize hset hB ⟨h3.size,0,none⟩ r2.v=hC at uC c5C ⊢
  have G3:VGw (h3.size+1) (· < h.size) hC r2 css2 (cpt l1):=G2.same (fun b hb=>uC.ne b (fun e=>hnr2 h3.size (Nat.le_refl _) (e ▸ hb))) (fun b hb=>uC.ne b (by omega))
  have keep:∀ b,b < hh.size→b≠h3.size→¬ Sl.on r b→hC[b]?=hh[b]?:=fun b hb hne hno=>by
   rw [uC.ne b hne,sameB b (by omega) hno,sameA b hb hno]
  have EC:Ext h hC:=⟨by have:=uC.size; omega,fun b hb=>(keep b (by omega) (by omega) (hnr b (by omega))).trans (T.ext.same b hb)⟩
  obtain ⟨sx,c2⟩:=T.c2
  obtain ⟨nx,c3⟩:=T.c3
  have c2C:hC[h.size]?=_:=(keep _ (by omega) (by omega) (hnr _ (by omega))).trans c2
  have c3C:hC[h1.size]?=_:=(keep _ (by omega) (by omega) (hnr _ (by omega))).trans c3
  have dfC:∀ b ∈ xm,hC[b]?=some (.deferred (some [])):=fun b hb=>by
   have hd:=T.df b hb
   refine (keep b (UD hd) (fun e=>by rw [e,c5] at hd; cases hd) (fun ho=>?_)).trans hd
   rcases G.gw with ⟨hn,_⟩ | ⟨g,ty,cells,R⟩
   ·rw [hn] at ho; obtain ⟨a1,ha1,_⟩:=ho; cases ha1
   ·obtain ⟨a1,ha1,ha2⟩:=ho
    rw [R.base] at ha1; cases ha1
    have:b=g:=ha2.symm
    rw [this,R.blk] at hd; cases hd
  have hcols:Cols l (cpt l1):=⟨(KJC l1 hpw).1,fun y=>((KJC l1 hpw).2 y).trans hperm.mem_iff⟩
  have hCl:(cpt l1).length≤wt.wts l:=by have:=KMC l1; omega
  have htab:=KPU hvr hCl (fun k hk=>(hcols.2 k).1 hk) hW
  have hCr:VsRep hC r2 (cpt l1):=(G3.rep_ (by omega)).to
  have hpC:=hp.ext EC
  have hdC:=hd.ext EC
  refine ZU (fun hD eD zD gD=>?_)
  have W0:BW hC hC.size h3.size _ hD Sl.nil []:=⟨Bld.new (Nat.le_refl _) gD,eD,eD.blk c5C,fun ⟨a1,ha1,_⟩=>(by cases ha1),by have:=UD c5C; omega⟩
  have hpre:=KJD (C:=cpt l1) (l:=l) 0
  simp only [List.take_zero,List.flatMap_nil,List.append_nil] at hpre
  refine KE (N1 qN (zM (.func (.func GL) #[] #[]) ⟨h3.size,0,none⟩ ⟨hC.size,0,none⟩) (KIH (T:=(cpt l1).map txV) W0 (ZA c5C) hCr (by simp) (fun j hj hj' hx1 cs Q1 ex1 bx1 hk hq=>?_) (by rw [List.nil_append]; omega) (by omega) (fun hE rrE WE=>?_)))
  ·rw [List.getElem_map] at hq
   refine KMT hk (hpC.ext ex1) (hdC.ext ex1) ?_ hq
   obtain ⟨a1,b1⟩:=KMQ ((hcols.2 (cpt l1)[j]).1 (List.getElem_mem hj))
   have:=KFN 8 _ hk
   show (txt 8 _).length≤_
   omega
  rw [List.nil_append] at WE
  refine M.loop_inv (fun (s:Int) hz=>∃ m:Nat,s=(m:Int)∧m≤l.length∧∃ rr,BW hC hC.size h3.size (.cells #[r2.v] VA (0,0)) hz rr (Xc ((cpt l1).map txV)++(l.take m).flatMap (fun v=>Xc ((cpt l1).map (No v))))) (fun s _=>((l.length:Int) - s).toNat) ?_ ⟨0,rfl,Nat.zero_le _,rrE,by simpa using WE⟩
  rintro s hz ⟨m,rfl,hm,rr,W⟩ self3 hself3
  unfold YZ
  dsimp only
  have hpm:=KJD (C:=cpt l1) (l:=l) m
  refine KP (fun hlt=>?_) (fun hend=>?_)
  ·have hlt:m < l.length:=by have:=of_decide_eq_true hlt; omega
   have hpm1:=KJD (C:=cpt l1) (l:=l) (m+1)
   have htk:(l.take (m+1)).flatMap (fun v=>Xc ((cpt l1).map (No v)))=(l.take m).flatMap (fun v=>Xc ((cpt l1).map (No v)))++Xc ((cpt l1).map (No l[m])):=by
    rw [List.take_succ_eq_append_getElem hlt,List.flatMap_append]; simp
   rw [htk,← List.append_assoc] at hpm1
   have Ez:Ext h hz:=EC.trans W.ext
   have hxS:VsRepS (· < h.size) hz x l:=hx.lt.same (fun b hb=>Ez.same b hb) (fun _ h=>h)
   obtain ⟨a,cs,ha,hS,hs,hcs,hv⟩:=hxS.get hlt
   refine Xi (by omega) (by omega) ha (Uc hs (fun j hj=>by rw [Addr.add_add,show (m:Int).toNat * 4=m * 4 by omega]; exact hcs j hj) (ZU (fun hF eF zF gF=>Z0 hs (stR (vs:=cs) gF (by rw [hs]; decide) hv.to.one (fun hG uG gG=>?_)))))
   rw [K0 (by rw [Array.length_toList,hs]; rfl),Array.toArray_toList] at gG
   have EG:Ext hz hG:=eF.upd uG (Nat.le_refl _)
   have WG:=W.more EG
   have hbz:=W.bld.lt
   have WG':BW hC hC.size hz.size (.cells cs KB (0,0)) hG rr (Xc ((cpt l1).map txV)++(l.take m).flatMap (fun v=>Xc ((cpt l1).map (No v)))):=⟨WG.bld,WG.ext,gG,fun ho=>by have:=(W.bld.row.lt ho).1; omega,by omega⟩
   have h5k:l[m].k=5:=by
    have:=hok
    unfold KDn at this
    rw [List.all_eq_true] at this
    have:=this l[m] (List.getElem_mem hlt)
    rw [Bool.and_eq_true] at this
    exact of_decide_eq_true this.1
   have hwm:=z8 (List.getElem_mem hlt)
   refine KE (N1 qN (zM (.func (.func WQ) #[] #[.pointer (some ⟨hz.size,0,none⟩)]) ⟨h3.size,0,none⟩ ⟨hC.size,0,none⟩) (KIH (T:=(cpt l1).map (No l[m])) WG' (ZA c5C) hCr (by simp) (fun j hj hj' hx1 cs1 Q1 ex1 bx1 hk hq=>?_) (by omega) (by omega) (fun hH rrH WH=>?_)))
   ·rw [List.getElem_map] at hq
    exact KMU bx1 (hv.same (fun b hb=>((EC.trans ex1).same b hb).trans (Ez.same b hb).symm)).to hk h5k (hpC.ext ex1) (hdC.ext ex1) (by omega) hq
   ·rw [w64 (by omega) (by omega)]
    refine hself3 _ _ ⟨m+1,by simp,by omega,rrH,?_⟩ (by omega)
    rw [htk,← List.append_assoc]
    have hb5:=UD c5C
    exact ⟨WH.bld,WH.ext,WH.ext.blk c5C,fun ho=>by have:=(WH.bld.row.lt ho).2; omega,by omega⟩
  ·have hge:m=l.length:=by have:=of_decide_eq_false hend; omega
   subst hge
   rw [List.take_length] at W
   refine KE (KAC W.bld (by unfold tabT at htab; omega) (fun hI KI szI=>?_))
   have EI:=KI.ext W.ext W.bld (Nat.le_refl _)
   have c2I:=EI.blk c2C
   refine Wl (ZA c2I) (KZ c2I) rfl ?_
   have u1:=Upd.hset hI h.size 0 (.string (bs (Xc ((cpt l1).map txV)++l.flatMap (fun v=>Xc ((cpt l1).map (No v))))))
   have d1:=zH (u:=.string (bs (Xc ((cpt l1).map txV)++l.flatMap (fun v=>Xc ((cpt l1).map (No v)))))) c2I
   generalize hset hI ⟨h.size,0,none⟩ (.string (bs (Xc ((cpt l1).map txV)++l.flatMap (fun v=>Xc ((cpt l1).map (No v))))))=hJ at u1 d1 ⊢
   have c3J:hJ[h1.size]?=_:=(u1.ne _ (by omega)).trans (EI.blk c3C)
   refine Wl (ZA c3J) (KZ c3J) rfl ?_
   have u2:=Upd.hset hJ h1.size 0 (.int .i64 0)
   have d2:=zH (u:=.int .i64 0) c3J
   generalize hset hJ ⟨h1.size,0,none⟩ (.int .i64 0)=hK at u2 d2 ⊢
   have d1':hK[h.size]?=_:=(u2.ne _ (by omega)).trans d1
   have dfK:∀ b ∈ xm,hK[b]?=some (.deferred (some [])):=fun b hb=>by
    have hd:=EI.blk (dfC b hb)
    rw [u2.ne b (fun e=>by rw [e] at hd; rw [EI.blk c3C] at hd; cases hd),u1.ne b (fun e=>by rw [e] at hd; rw [c2I] at hd; cases hd)]
    exact hd
   refine KE (KFM hnd dfK (fun hL sL nL=>?_))
   have f2:hL[h.size]?=_:=(nL _ (fun hm=>by have:=dfK _ hm; rw [d1'] at this; cases this)).trans d1'
   have f3:hL[h1.size]?=_:=(nL _ (fun hm=>by have:=dfK _ hm; rw [d2] at this; cases this)).trans d2
   refine Yx (ZA f2) (Zm (n:=0) (ZA f3) (KC (H3 hL (cpt l1) ?_ hc hok hcols)))
   have EK:Ext h hK:=((EC.trans EI).upd u1 (Nat.le_refl _)).upd u2 (by omega)
   exact ⟨by rw [sL]; exact EK.size,fun j hj=>(nL j (fun hm=>by have:=hge0 j hm; omega)).trans (EK.same j hj)⟩
end Gx
namespace Gx
open Go
set_option linter.unusedVariables false
set_option linter.unusedSimpArgs false
def KDA (l:List Vl):List UInt8:=l.flatMap (fun v=>txV v++[10])
theorem KMV {l:List Vl} (hr:∀ v ∈ l,∃ h cs,VRep h v cs):(KDA l).length≤26 * wt.wts l:=by
 induction l with
 | nil=>simp [KDA]
 | cons v l ih =>
  have ih:=ih (fun x hx=>hr x (List.mem_cons_of_mem _ hx))
  obtain ⟨h,cs,hv⟩:=hr v (by simp)
  have:=KFN 8 v hv
  unfold KDA at ih ⊢
  rw [List.flatMap_cons,List.length_append,List.length_append,wt.wts]
  show (txt 8 v).length+_+_≤_
  simp only [List.length_cons,List.length_nil]
  omega
theorem KKo {h:Heap} {Q:ByteArray × Int→Heap→Prop} {x:Sl} {l:List Vl} (hx:VsRep h x l) (hp:Gu h) (hd:KAx h) (hW:wt.wts l≤1099511627)
  (H1:∀ h',Ext h h'→UZ l≠0→Q (ByteArray.empty,UZ l) h')
  (H3:∀ h',Ext h h'→UZ l=0→Q (bs (KDA l),0) h'):(Y4 x).wp h Q:=by
 unfold Y4
 have hxl:=hx.len
 have hwl:=z7 l
 have hvr:∀ v ∈ l,∃ h cs,VRep h v cs:=fun v hv=>by
  obtain ⟨j,hj,rfl⟩:=List.getElem_of_mem hv
  obtain ⟨a,c,_,_,_,hv'⟩:=hx.get hj
  exact ⟨h,c,hv'⟩
 refine KE (KFA hx (fun h1 e1=>?_))
 refine KP (fun hc=>KC (H1 _ e1 (by simpa using hc))) (fun hc=>?_)
 have hc:UZ l=0:=by simpa using hc
 refine ZU (fun h2 e2 z2 g2=>?_)
 have E2:=e1.trans e2
 have hT:=KMV hvr
 have hpre:∀ i,(KDA (l.take i)).length≤(KDA l).length:=fun i=>by
  unfold KDA
  conv=>rhs; rw [← List.take_append_drop i l,List.flatMap_append,List.length_append]
  omega
 refine M.loop_inv (fun (s:Int) hh=>∃ (i:Nat) (r:Sl),s=(i:Int)∧i≤l.length∧Ext h1 hh∧Bld h1.size hh h1.size r (KDA (l.take i))) (fun s _=>((l.length:Int) - s).toNat) ?_ ⟨0,Sl.nil,rfl,Nat.zero_le _,e2,by simpa [KDA] using Bld.new (Nat.le_refl _) g2⟩
 rintro s hh ⟨i,r,rfl,hi,E,B⟩ self hself
 unfold N9
 rw [hxl]
 have hpi:=hpre i
 refine KP (fun hlt=>?_) (fun hend=>?_)
 ·have hlt:i < l.length:=by have:=of_decide_eq_true hlt; omega
  have hpi1:=hpre (i+1)
  have htk:KDA (l.take (i+1))=KDA (l.take i)++txV l[i]++[10]:=by
   unfold KDA
   rw [List.take_succ_eq_append_getElem hlt,List.flatMap_append]; simp
  rw [htk,List.length_append,List.length_append] at hpi1
  have E0:=e1.trans E
  refine KC6 (hx.ext E0) hlt rfl (fun a cs hs hcs hv=>Uc hs hcs (ZU (fun h3 e3 z3 g3=>Z0 hs (stR (vs:=cs) g3 (by rw [hs]; decide) hv.one (fun h4 u4 g4=>?_)))))
  rw [K0 (by rw [Array.length_toList,hs]; rfl),Array.toArray_toList] at g4
  have E4:Ext hh h4:=e3.upd u4 (Nat.le_refl _)
  have hw:=z8 (List.getElem_mem hlt)
  refine z6 (v:=l[i]) g4 hs (KE (KAQ (hv.ext E4) (hp.ext (E0.trans E4)) (hd.ext (E0.trans E4)) ?_ (fun h5 e5=>?_)))
  ·have:=KFN 8 _ hv
   show (txt 8 l[i]).length≤_
   omega
  ·have B5:=(B.ext E4).ext e5
   have E5:=(E.trans E4).trans e5
   simp only [List.length_cons,List.length_nil] at hpi1
   refine KE (Ws B5 E5.size (by omega) (fun h6 r6 n6 B6 K6=>?_))
   have E6:=K6.ext E5 B5 (Nat.le_refl _)
   refine KE (XG (c:=10) B6 E6.size (by rw [List.length_append]; omega) rfl (fun h7 r7 B7 K7=>?_))
   rw [w64 (by omega) (by omega)]
   exact hself _ _ ⟨i+1,r7,by simp,by omega,K7.ext E6 B6 (Nat.le_refl _),by rw [htk]; exact B7⟩ (by omega)
 ·have hge:i=l.length:=by have:=of_decide_eq_false hend; omega
  subst hge
  rw [List.take_length] at B
  exact KE (KAC B (by omega) (fun h3 K3 _=>KC (H3 _ (e1.trans (K3.ext E B (Nat.le_refl _))) hc)))
end Gx
namespace Gx
open Go
set_option linter.unusedVariables false
set_option linter.unusedSimpArgs false
def vS (s:List UInt8):Vl:=.mk 2 0 s []
def vI (n:Int):Vl:=.mk 1 n [] []
def vM (l:List Vl):Vl:=.mk 5 0 [] l
def bm1:Vl:=vM [vS [120],vI 1]
def bm2:Vl:=vM [vS [121],vI 2]
theorem KNr:UZ [bm1,bm2]=0:=by
 simp [UZ,Nz,bm1,bm2,vM,vS,vI,mayV,KH5,zN]
theorem KRu:KDn [bm1,bm2]=true:=by
 simp [KDn,bm1,bm2,vM,vS,vI,Wt,Vl.k,Vl.l]
theorem KPZ:Wu [bm1,bm2]=[vS [120],vS [121]]:=by
 simp [Wu,bm1,bm2,vM,vS,vI,Wt,Vl.l]
theorem KRv:cmpV (vS [120]) (vS [121])=-1:=by
 unfold vS
 rw [KB1]
 rfl
theorem KPa:Cols [bm1,bm2] [vS [120],vS [121]]:=by
 refine ⟨?_,fun x=>by rw [KPZ]⟩
 unfold Inc
 rw [List.pairwise_cons]
 refine ⟨fun y hy=>?_,List.pairwise_singleton _ _⟩
 simp at hy
 subst hy
 rw [KRv]; decide
theorem KNs (s t:List UInt8):cmpV (vS s) (vS t)=0↔s=t:=by
 rw [KFF]; simp [vS]
theorem KDo:Lib.itoa 1=[49]∧Lib.itoa 2=[50]:=by
 constructor <;> simp [Lib.itoa,Lib.decDigits]
theorem KQv (s:List UInt8):txV (vS s)=NS s:=by simp [txt,vS]
theorem KPb (n:Int):txV (vI n)=Lib.itoa n:=by simp [txt,vI]
theorem KQw:tabT [vS [120],vS [121]] [bm1,bm2]=[39,120,39,32,124,32,39,121,39,10,49,32,124,32,45,10,45,32,124,32,50,10]:=by
 have h1:No bm1 (vS [120])=[49]:=by
  show (match getV (vS [120]) [vS [120],vI 1] with | some x=>txV x | none=>[45])=_
  rw [getV,if_pos ((KNs _ _).2 rfl)]
  show txV (vI 1)=_
  rw [KPb,KDo.1]
 have h2:No bm1 (vS [121])=[45]:=by
  show (match getV (vS [121]) [vS [120],vI 1] with | some x=>txV x | none=>[45])=_
  rw [getV,if_neg (fun h=>by have:=(KNs _ _).1 h; simp at this)]
  rfl
 have h3:No bm2 (vS [120])=[45]:=by
  show (match getV (vS [120]) [vS [121],vI 2] with | some x=>txV x | none=>[45])=_
  rw [getV,if_neg (fun h=>by have:=(KNs _ _).1 h; simp at this)]
  rfl
 have h4:No bm2 (vS [121])=[50]:=by
  show (match getV (vS [121]) [vS [121],vI 2] with | some x=>txV x | none=>[45])=_
  rw [getV,if_pos ((KNs _ _).2 rfl)]
  show txV (vI 2)=_
  rw [KPb,KDo.2]
 have q1:NS [120]=[39,120,39]:=by decide
 have q2:NS [121]=[39,121,39]:=by decide
 simp only [tabT,List.map_cons,List.map_nil,List.flatMap_cons,List.flatMap_nil,Xc,jn,KQv,h1,h2,h3,h4,q1,q2]
 decide
theorem KMW:UZ [vI 1,vS [97]]=0∧KDA [vI 1,vS [97]]=[49,10,39,97,39,10]:=by
 refine ⟨by simp [UZ,Nz,vS,vI,mayV,KH5],?_⟩
 have q:NS [97]=[39,97,39]:=by decide
 simp only [KDA,List.flatMap_cons,List.flatMap_nil,KQv,KPb,KDo.1,q]
 decide
end Gx
namespace Gx
open Go
set_option linter.unusedVariables false
set_option linter.unusedSimpArgs false
theorem KIM {h:Heap} {Q:Bool→Heap→Prop} (hp:Gu h) (hd:KAx h) (H:∀ h',Ext h h'→Q true h'):(Jm).wp h Q:=by
 unfold Jm
 have vm:∀ {S:Nat→Prop} {hh:Heap} {x:Sl} {l:List Vl},VsRepS S hh x l→ZK S hh (vM l) (#[.int .i64 5,.int .i64 0,.string ByteArray.empty,x.v]:Array Value):=fun {S hh x l} hx =>
  ZK.eq.2 ⟨x,rfl,⟨by decide,by decide⟩,⟨by decide,by decide⟩,by decide,hx⟩
 have mone:∀ (x:Sl),∀ v ∈ (#[.int .i64 5,.int .i64 0,.string ByteArray.empty,x.v]:Array Value).toList,one v=true:=fun x v hv=>by
  simp only [List.mem_cons,List.not_mem_nil,or_false] at hv
  rcases hv with rfl | rfl | rfl | rfl <;> first | rfl | exact KEo _
 refine KE (KFB (s:=[120]) (by decide) (fun h1 c1 e1 r1=>KE (KFC (n:=1) ⟨by decide,by decide⟩ (fun h2 c2 e2 r2=>?_))))
 have R1:=r1 (fun _=>True) h2
 have R2:=r2 (fun _=>True) h2
 refine KEP R1.size R2.size (qK ?_)
 have e3:=Ext.push h2 (.cells (c1++c2) KB)
 have g3:(h2.push (.cells (c1++c2) KB))[h2.size]?=some (.cells (c1++c2) KB (0,0)):=Kf
 generalize h2.push (.cells (c1++c2) KB)=h3 at e3 g3 ⊢
 refine ZU (fun h4 e4 z4 g4=>Z0 rfl (stR (vs:=(#[.int .i64 5,.int .i64 0,.string ByteArray.empty,(⟨some ⟨h2.size,0,none⟩,2,2⟩:Sl).v]:Array Value)) (off:=0) g4 (Nat.le_refl 4) (mone _) (fun h5 u5 g5=>?_)))
 rw [K0 (by rfl)] at g5
 have E5:Ext h3 h5:=e4.upd u5 (Nat.le_refl _)
 refine KE (KFB (s:=[121]) (by decide) (fun h6 c6 e6 r6=>KE (KFC (n:=2) ⟨by decide,by decide⟩ (fun h7 c7 e7 r7=>?_))))
 have R6:=r6 (fun _=>True) h7
 have R7:=r7 (fun _=>True) h7
 refine KEP R6.size R7.size (qK ?_)
 have e8:=Ext.push h7 (.cells (c6++c7) KB)
 have g8:(h7.push (.cells (c6++c7) KB))[h7.size]?=some (.cells (c6++c7) KB (0,0)):=Kf
 generalize h7.push (.cells (c6++c7) KB)=h8 at e8 g8 ⊢
 refine ZU (fun h9 e9 z9 g9=>Z0 rfl (stR (vs:=(#[.int .i64 5,.int .i64 0,.string ByteArray.empty,(⟨some ⟨h7.size,0,none⟩,2,2⟩:Sl).v]:Array Value)) (off:=0) g9 (Nat.le_refl 4) (mone _) (fun h10 u10 g10=>?_)))
 rw [K0 (by rfl)] at g10
 have E10:Ext h8 h10:=e9.upd u10 (Nat.le_refl _)
 have E510:Ext h5 h10:=((e6.trans e7).trans e8).trans E10
 have g5':=E510.blk g5
 refine Uc (cs:=(#[.int .i64 5,.int .i64 0,.string ByteArray.empty,(⟨some ⟨h2.size,0,none⟩,2,2⟩:Sl).v]:Array Value)) rfl (fun j hj=>by rw [Kl g5']) (Uc (cs:=(#[.int .i64 5,.int .i64 0,.string ByteArray.empty,(⟨some ⟨h7.size,0,none⟩,2,2⟩:Sl).v]:Array Value)) rfl (fun j hj=>by rw [Kl g10]) ?_)
 have M1:ZK (fun _=>True) h10 bm1 (#[.int .i64 5,.int .i64 0,.string ByteArray.empty,(⟨some ⟨h2.size,0,none⟩,2,2⟩:Sl).v]:Array Value):=vm ((KHB (va:=vS [120]) (vb:=vI 1) ((E5.trans E510).blk g3) (r1 (fun _=>True) h10) (r2 (fun _=>True) h10)).same (fun _ _=>rfl) (fun _ _=>trivial))
 have M2:ZK (fun _=>True) h10 bm2 (#[.int .i64 5,.int .i64 0,.string ByteArray.empty,(⟨some ⟨h7.size,0,none⟩,2,2⟩:Sl).v]:Array Value):=vm ((KHB (va:=vS [121]) (vb:=vI 2) (E10.blk g8) (r6 (fun _=>True) h10) (r7 (fun _=>True) h10)).same (fun _ _=>rfl) (fun _ _=>trivial))
 refine KEP rfl rfl (qK ?_)
 have e11:=Ext.push h10 (.cells ((#[.int .i64 5,.int .i64 0,.string ByteArray.empty,(⟨some ⟨h2.size,0,none⟩,2,2⟩:Sl).v]:Array Value)++(#[.int .i64 5,.int .i64 0,.string ByteArray.empty,(⟨some ⟨h7.size,0,none⟩,2,2⟩:Sl).v]:Array Value)) KB)
 have g11:(h10.push (.cells ((#[.int .i64 5,.int .i64 0,.string ByteArray.empty,(⟨some ⟨h2.size,0,none⟩,2,2⟩:Sl).v]:Array Value)++(#[.int .i64 5,.int .i64 0,.string ByteArray.empty,(⟨some ⟨h7.size,0,none⟩,2,2⟩:Sl).v]:Array Value)) KB))[h10.size]?=some (.cells ((#[.int .i64 5,.int .i64 0,.string ByteArray.empty,(⟨some ⟨h2.size,0,none⟩,2,2⟩:Sl).v]:Array Value)++(#[.int .i64 5,.int .i64 0,.string ByteArray.empty,(⟨some ⟨h7.size,0,none⟩,2,2⟩:Sl).v]:Array Value)) KB (0,0)):=Kf
 generalize h10.push (.cells ((#[.int .i64 5,.int .i64 0,.string ByteArray.empty,(⟨some ⟨h2.size,0,none⟩,2,2⟩:Sl).v]:Array Value)++(#[.int .i64 5,.int .i64 0,.string ByteArray.empty,(⟨some ⟨h7.size,0,none⟩,2,2⟩:Sl).v]:Array Value)) KB)=h11 at e11 g11 ⊢
 have L11:VsRep h11 ⟨some ⟨h10.size,0,none⟩,2,2⟩ [bm1,bm2]:=(KHB (S:=fun i=>i < h10.size) g11 ((M1.to.lt).same (fun b hb=>e11.same b hb)) ((M2.to.lt).same (fun b hb=>e11.same b hb))).to
 have E11:Ext h h11:=((((e1.trans e2).trans e3).trans E5).trans E510).trans e11
 have hW:wt.wts [bm1,bm2]≤1048576:=by simp [wt.wts,wt,bm1,bm2,vM,vS,vI]
 have rest:∀ {h12:Heap},Ext h11 h12→(do
   let Xx23←Z9 1
   let Xx24←JA (⟨#[97]⟩:ByteArray)
   let y_26←NY 4 2 (#[.int .i64 0,.int .i64 0,.string ByteArray.empty,.slice none 0 0]:Array Value) [(0,.agg Xx23),(1,.agg Xx24)]
   let Xx25←bdL KB 2 y_26
   let Xx27←Y4 Xx25
   let Xx29←M.ite (sEq (bs (tabT [vS [120],vS [121]] [bm1,bm2]),(0:Int)).1 (⟨#[39,120,39,32,124,32,39,121,39,10,49,32,124,32,45,10,45,32,124,32,50,10]⟩:ByteArray)) (do
    M.pure ((bs (tabT [vS [120],vS [121]] [bm1,bm2]),(0:Int)).2 == 0)
    ) (do
    M.pure false
    )
   let Xx30←M.ite Xx29 (do
    M.pure (sEq Xx27.1 (⟨#[49,10,39,97,39,10]⟩:ByteArray))
    ) (do
    M.pure false
    )
   let Xx31←M.ite Xx30 (do
    M.pure (Xx27.2 == 0)
    ) (do
    M.pure false
    )
   M.pure Xx31:M Bool).wp h12 Q:=fun {h12} e12=>by
  have E12:=E11.trans e12
  refine KE (KFC (n:=1) ⟨by decide,by decide⟩ (fun h13 c13 e13 r13=>KE (KFB (s:=[97]) (by decide) (fun h14 c14 e14 r14=>?_))))
  have R13:=r13 (fun i=>i < h14.size) h14
  have R14:=r14 (fun i=>i < h14.size) h14
  refine KEP R13.size R14.size (qK ?_)
  have e15:=Ext.push h14 (.cells (c13++c14) KB)
  have g15:(h14.push (.cells (c13++c14) KB))[h14.size]?=some (.cells (c13++c14) KB (0,0)):=Kf
  generalize h14.push (.cells (c13++c14) KB)=h15 at e15 g15 ⊢
  have E15:=((E12.trans e13).trans e14).trans e15
  have L15:VsRep h15 ⟨some ⟨h14.size,0,none⟩,2,2⟩ [vI 1,vS [97]]:=(KHB (S:=fun i=>i < h14.size) g15 (r13 _ h15) (r14 _ h15)).to
  refine KE (KKo L15 (hp.ext E15) (hd.ext E15) (by simp [wt.wts,wt,vS,vI]) (fun h16 e16 hne=>absurd KMW.1 hne) (fun h16 e16 _=>?_))
  rw [KMW.2,KQw]
  have s1:sEq (bs [39,120,39,32,124,32,39,121,39,10,49,32,124,32,45,10,45,32,124,32,50,10]) (⟨#[39,120,39,32,124,32,39,121,39,10,49,32,124,32,45,10,45,32,124,32,50,10]⟩:ByteArray)=true:=by
   show sEq (bs _) (bs [39,120,39,32,124,32,39,121,39,10,49,32,124,32,45,10,45,32,124,32,50,10])=true
   rw [zy]; decide
  have s2:sEq (bs [49,10,39,97,39,10]) (⟨#[49,10,39,97,39,10]⟩:ByteArray)=true:=by
   show sEq (bs _) (bs [49,10,39,97,39,10])=true
   rw [zy]; decide
  exact KD0 s1 (Jr (KD0 rfl (Jr (KD0 s2 (Jr (KC (H _ (E15.trans e16))))))))
 refine KE (KJF L11 (hp.ext E11) (hd.ext E11) hW (fun h12 e12 hne=>absurd KNr hne) (fun h12 e12 _ hbad=>?_) (fun h12 C e12 _ _ hC=>?_))
 ·rw [KRu] at hbad; cases hbad
 ·rw [hC.uniq KPa]
  exact rest e12
end Gx
namespace Gx
open Go
set_option linter.unusedVariables false
set_option linter.unusedSimpArgs false
def cutL:List UInt8→List UInt8 × List UInt8
 | []=>([],[])
 | c::r=>if c=10 then ([],r) else (c::(cutL r).1,(cutL r).2)
theorem KDB:∀ s:List UInt8,s≠[]→(cutL s).2.length < s.length
 | [],h=>absurd rfl h
 | [c],_=>by unfold cutL; split <;> simp [cutL]
 | c::d::r,_=>by
  unfold cutL
  split
  ·simp
  ·have:=KDB (d::r) (by simp)
   simp only [List.length_cons] at this ⊢
   omega
def Ko (s:List UInt8):List (List UInt8):=if h:s=[] then [] else (cutL s).1::Ko (cutL s).2
termination_by s.length
decreasing_by exact KDB s h
theorem WU:Ko []=[]:=by rw [Ko,dif_pos rfl]
theorem YD {s:List UInt8} (h:s≠[]):Ko s=(cutL s).1::Ko (cutL s).2:=by rw [Ko,dif_neg h]
theorem KJG:∀ s:List UInt8,Lib.indexByte s 10=(if (10:UInt8) ∈ s then ((cutL s).1.length:Int) else -1)∧(if (10:UInt8) ∈ s then s=(cutL s).1++10::(cutL s).2 else cutL s=(s,[]))
 | []=>by simp [Lib.indexByte,cutL]
 | c::r=>by
  obtain ⟨h1,h2⟩:=KJG r
  rw [Lib.indexByte,cutL]
  by_cases hc:c=10
  ·subst hc; simp
  ·have hb:(c == 10)=false:=by simpa using hc
   have hm:((10:UInt8) ∈ c::r)↔(10:UInt8) ∈ r:=by
    rw [List.mem_cons]
    exact ⟨fun h=>h.elim (fun e=>absurd e.symm hc) id,.inr⟩
   rw [hb,if_neg hc]
   by_cases hr:(10:UInt8) ∈ r
   ·rw [if_pos hr] at h1 h2
    rw [if_pos (hm.2 hr),if_pos (hm.2 hr),h1]
    refine ⟨?_,?_⟩
    ·have:¬ (((cutL r).1.length:Int) == -1)=true:=by simp
     simp only [Bool.false_eq_true,if_false]
     rw [if_neg this]; simp
    ·rw [List.cons_append,← h2]
   ·rw [if_neg hr] at h1 h2
    rw [if_neg (fun h=>hr (hm.1 h)),if_neg (fun h=>hr (hm.1 h)),h1,h2]
    simp
theorem qf:∀ (m:Nat) (s:List UInt8),s.length≤m→(Ko s).length≤s.length
 | 0,s,h=>by
  have:s=[]:=List.length_eq_zero_iff.1 (by omega)
  rw [this,WU]; simp
 | m+1,s,h=>by
  by_cases hs:s=[]
  ·rw [hs,WU]; simp
  ·have h1:=KDB s hs
   have:=qf m (cutL s).2 (by omega)
   rw [YD hs,List.length_cons]; omega
theorem KQx {s:List UInt8} {a b:Nat}:(bs s).extract a b=bs ((s.drop a).take (b - a)):=by
 apply ByteArray.ext
 simp [bs,ByteArray.extract,ByteArray.copySlice]
theorem KJ0:∀ {a b:List UInt8},(10:UInt8) ∉ a→cutL (a++10::b)=(a,b)
 | [],b,_=>by simp [cutL]
 | c::a,b,h=>by
  rw [List.mem_cons,not_or] at h
  rw [List.cons_append,cutL,if_neg (fun e=>h.1 e.symm),KJ0 h.2]
theorem KIN:∀ {a:List UInt8},(10:UInt8) ∉ a→cutL a=(a,[])
 | [],_=>rfl
 | c::a,h=>by
  rw [List.mem_cons,not_or] at h
  rw [cutL,if_neg (fun e=>h.1 e.symm),KIN h.2]
theorem KHL {β:Type} {h:Heap} {Q:β→Heap→Prop} {s:List UInt8} {a b:Nat} {lo hi:Int} {f:ByteArray→M β} (hl:lo=(a:Int)) (hh:hi=(b:Int)) (h1:a≤b) (h2:b≤s.length) (H:(f (bs ((s.drop a).take (b - a)))).wp h Q):(slS (bs s) lo hi>>=f).wp h Q:=by
 subst hl; subst hh
 exact ⟨bs ((s.drop a).take (b - a)),⟨by omega,by omega,by rw [ZO]; omega,by rw [show ((a:Int)).toNat=a from rfl,show ((b:Int)).toNat=b from rfl,KQx]⟩,H⟩
theorem KMX {β:Type} {h0 h:Heap} {Q:β→Heap→Prop} {r:Sl} {ps:List (List UInt8)} {p:List UInt8} {f:Sl→M β} (G:Gw h0.size h r 1 (ps.map sv)) (e:Ext h0 h) (hm:ps.length≤1099511627776)
  (H:∀ h' r',Gw h0.size h' r' 1 ((ps++[p]).map sv)→Ext h0 h'→(f r').wp h' Q):(bdL JD 1 #[.string (bs p)]>>=fun x=>apL JD 1 16 (#[.string ByteArray.empty]:Array Value) r x>>=f).wp h Q:=by
 refine qK ?_
 have e6:=Ext.push h (.cells #[.string (bs p)] JD)
 have g6:(h.push (.cells #[.string (bs p)] JD))[h.size]?=some (.cells #[.string (bs p)] JD (0,0)):=Kf
 generalize h.push (.cells #[.string (bs p)] JD)=h6 at e6 g6 ⊢
 have E6:=e.trans e6
 have G6:=G.ext e6
 have hrl:=G6.len
 rw [List.length_map,Nat.mul_one] at hrl
 refine KBH (vs:=ps.map sv) (news:=[sv p]) rfl G6 rfl (.inr ⟨_,rfl,fun j v hj=>?_⟩) (fun v hv=>by simp at hv; subst hv; rfl) (by dsimp only; omega) (by dsimp only; omega) E6.size (fun h7 r7 G7 hlen7 hs7 same7 on7=>?_)
 ·rw [Kg,Nat.zero_add,KU g6]
  rw [show (#[.string (bs p)]:Array Value)=[sv p].toArray from rfl]
  simpa using hj
 ·refine H h7 r7 (by rw [List.map_append]; exact G7) ⟨Nat.le_trans E6.size hs7,fun j hj=>(same7 j (Nat.lt_of_lt_of_le hj E6.size) (fun ho=>by have:=(G6.lt ho).2; omega)).trans (E6.same j hj)⟩
theorem KJH {s:List UInt8} {h:Heap} {Q:Sl→Heap→Prop} (hs:s.length≤1048576) (H:∀ h' r,Ext h h'→Gw h.size h' r 1 ((Ko s).map sv)→Q r h'):(VE (bs s)).wp h Q:=by
 unfold VE
 refine M.loop_inv (fun (t:Sl × Int × Int) hh=>∃ (a i:Nat) (ps:List (List UInt8)),t.2=((a:Int),(i:Int))∧a≤i∧i≤s.length∧Ext h hh∧Gw h.size hh t.1 1 (ps.map sv)∧ps++Ko (s.drop a)=Ko s∧(10:UInt8) ∉ (s.drop a).take (i - a)∧ps.length≤i) (fun t _=>((s.length:Int) - t.2.2).toNat) ?_ ⟨0,0,[],rfl,Nat.le_refl _,Nat.zero_le _,Ext.refl _,Gw.nil _ _ _,by simp,by simp,Nat.le_refl _⟩
 rintro ⟨r,t⟩ hh ⟨a,i,ps,ht,hai,hi,E,G,hps,hno,hpl⟩ self hself
 have ht:t=((a:Int),(i:Int)):=ht
 subst ht
 have G:Gw h.size hh r 1 (ps.map sv):=G
 unfold Wf
 dsimp only
 rw [ZO]
 refine KP (fun hlt=>?_) (fun hend=>?_)
 ·have hlt:i < s.length:=by have:=of_decide_eq_true hlt; omega
  refine Nn rfl hlt ?_
  have c10:((s[i].toNat:Int) == 10)=decide (s[i]=10):=by
   rw [Bool.eq_iff_iff]; simp only [beq_iff_eq,decide_eq_true_eq]
   exact ⟨fun e=>UInt8.toNat_inj.1 (by simpa using (by omega:s[i].toNat=10)),fun e=>by rw [e]; rfl⟩
  rw [c10]
  have hw:IntKind.wrap .i64 ((i:Int)+1)=((i+1:Nat):Int):=by rw [w64 (by omega) (by omega)]; simp
  have hsp:s.drop a=(s.drop a).take (i - a)++s[i]::s.drop (i+1):=by
   conv=>lhs; rw [← List.take_append_drop (i - a) (s.drop a),List.drop_drop,show a+(i - a)=i by omega,List.drop_eq_getElem_cons hlt]
  refine KP (fun h10=>?_) (fun h10=>?_)
  ·have h10:s[i]=10:=of_decide_eq_true h10
   rw [h10] at hsp
   refine KHL rfl rfl hai hi (KMX G E (by omega) (fun h2 r2 G2 E2=>?_))
   unfold UF
   rw [hw]
   refine hself (_,_,_) _ ⟨i+1,i+1,ps++[(s.drop a).take (i - a)],rfl,Nat.le_refl _,by omega,E2,G2,?_,by simp,by simp; omega⟩ (by dsimp only; omega)
   rw [← hps]
   have hne:s.drop a≠[]:=by rw [hsp]; simp
   have hcut:cutL (s.drop a)=((s.drop a).take (i - a),s.drop (i+1)):=(congrArg cutL hsp).trans (KJ0 hno)
   rw [YD hne,hcut]
   simp
  ·have h10:¬ s[i]=10:=of_decide_eq_false h10
   unfold UF
   rw [hw]
   refine hself (_,_,_) _ ⟨a,i+1,ps,rfl,by omega,by omega,E,G,hps,?_,by omega⟩ (by dsimp only; omega)
   have:(s.drop a).take (i+1 - a)=(s.drop a).take (i - a)++[s[i]]:=by
    rw [show i+1 - a=(i - a)+1 by omega,List.take_succ_eq_append_getElem (by rw [List.length_drop]; omega)]
    congr 2
    rw [List.getElem_drop]; congr 1; omega
   rw [this,List.mem_append,List.mem_singleton,not_or]
   exact ⟨hno,fun e=>h10 e.symm⟩
 ·have hge:i=s.length:=by have:=of_decide_eq_false hend; omega
  subst hge
  rw [List.take_of_length_le (by rw [List.length_drop]; omega)] at hno
  refine KP (fun hal=>?_) (fun hal=>?_)
  ·have hal:a < s.length:=by have:=of_decide_eq_true hal; omega
   refine KHL rfl rfl (by omega) (Nat.le_refl _) (KMX G E (by omega) (fun h2 r2 G2 E2=>?_))
   unfold UG
   refine KC (H _ _ E2 ?_)
   have hne:s.drop a≠[]:=by intro e; have:=congrArg List.length e; rw [List.length_drop] at this; simp at this; omega
   rw [← hps,YD hne,KIN hno,WU]
   rw [List.take_of_length_le (by rw [List.length_drop]; omega)] at G2
   exact G2
  ·have hal:a=s.length:=by have:=of_decide_eq_false hal; omega
   subst hal
   unfold UG
   rw [List.drop_length,WU,List.append_nil] at hps
   rw [hps] at G
   exact KC (H _ _ E G)
end Gx
namespace Gx
open Go
set_option linter.unusedVariables false
set_option linter.unusedSimpArgs false
theorem KMY {s:List UInt8} {h:Heap} {Q:ByteArray × ByteArray × Bool→Heap→Prop} (hs:s.length≤1099511627776) (H:∀ b,Q (bs (cutL s).1,bs (cutL s).2,b) h):(WN (bs s) (⟨#[10]⟩:ByteArray)).wp h Q:=by
 unfold WN ZX
 obtain ⟨h1,h2⟩:=KJG s
 have key:∀ {Q:ByteArray × ByteArray × Bool→Heap→Prop},(∀ b,Q (bs (cutL s).1,bs (cutL s).2,b) h)→(ZX (bs s) (⟨#[10]⟩:ByteArray)).wp h Q:=fun {Q} H=>by
  unfold ZX
  refine KE ⟨10,rfl,?_⟩
  rw [show (bs s).data.toList=s by simp [bs],h1]
  by_cases hm:(10:UInt8) ∈ s
  ·rw [if_pos hm] at h2 ⊢
   have hl:s.length=(cutL s).1.length+(1+(cutL s).2.length):=by
    have:=congrArg List.length h2
    rw [List.length_append,List.length_cons] at this
    omega
   refine iteT (decide_eq_true (by omega)) ?_
   have hw:IntKind.wrap .i64 (((cutL s).1.length:Int)+((⟨#[10]⟩:ByteArray).size:Int))=(((cutL s).1.length+1:Nat):Int):=by
    rw [show ((⟨#[10]⟩:ByteArray).size:Int)=1 from rfl,w64 (by omega) (by omega)]; simp
   rw [hw]
   refine KHL (a:=0) (b:=(cutL s).1.length) rfl rfl (Nat.zero_le _) (by omega) (KHL (a:=(cutL s).1.length+1) (b:=s.length) rfl (by rw [ZO]) (by omega) (Nat.le_refl _) (KC ?_))
   have e1:(s.drop 0).take ((cutL s).1.length - 0)=(cutL s).1:=by
    rw [List.drop_zero,Nat.sub_zero]
    exact (show ∀ p:List UInt8 × List UInt8,s=p.1++10::p.2→s.take p.1.length=p.1 by rintro p rfl; simp) _ h2
   have e2:(s.drop ((cutL s).1.length+1)).take (s.length - ((cutL s).1.length+1))=(cutL s).2:=by
    rw [List.take_of_length_le (by rw [List.length_drop]; omega)]
    exact (show ∀ p:List UInt8 × List UInt8,s=p.1++10::p.2→s.drop (p.1.length+1)=p.2 by rintro p rfl; rw [List.drop_append,List.drop_eq_nil_iff.2 (by omega)]; simp) _ h2
   rw [e1,e2]
   exact H _
  ·rw [if_neg hm] at h2 ⊢
   refine iteF (by decide) (KC ?_)
   have:=H false
   rw [h2] at this
   exact this
 exact KE (key (fun b=>KC (H b)))
def SeqC (P:Program) {α:Type} (enc:α→List Value) (xs:List α) (g:Value) (b:Nat) (o:Obj):Prop :=
 ∀ (l:Nat) (Inv:Nat→Heap→Prop) (Stop:Heap→Prop) (h:Heap),(∀ i h1 h2,Inv i h1→Upd b h1 h2→Inv i h2)→h[b]?=some o→Inv 0 h →
  (∀ i (hi:i < xs.length) h1,Inv i h1→(V7 P (fun b:Bool=>.bool b) (yV l) (enc xs[i])).wp h1 (fun r h2=>h2[b]?=h1[b]?∧(if r=true then Inv (i+1) h2 else Stop h2))) →
  (V7 P (fun _:Unit=>.tuple #[]) g [yV l]).wp h (fun _ h1=>Inv xs.length h1∨Stop h1)
theorem KRw {P:Program} {α:Type} {enc:α→List Value} {js:List Code} {Y:Nat→α→M Nat} {Yb:α→M Nat} (hY:∀ l x,Y l x=(beg l>>=fun _=>Yb x)) {c:Code} (hjs:js=[c]) {g:Value} (hg:∀ l,g≠.func (.yield l) #[] #[]) {h:Heap} {Q:Nat × Nat→Heap→Prop} {xs:List α} {b:Nat} {o0:Obj}
  (J:Nat→Heap→Prop) (E:Heap→Prop) (hJ:∀ i h1 h2,J i h1→Upd (h.size+1) h1 h2→J i h2) (hE:∀ h1 h2,E h1→Upd (h.size+1) h1 h2→E h2) (hJb:∀ i h1 h2,J i h1→Upd b h1 h2→J i h2)
  (hb:h[b]?=some o0) (hseq:SeqC P enc xs g b o0) (h0:∀ r:Loop,J 0 ((h.push (.deferred (some []))).push (XN r .ready none)))
  (hbody:∀ i (hi:i < xs.length) h1 o,J i h1→h1[h.size+1]?=some o→(Yb xs[i]).wp h1 (fun j h2=>h2[h.size+1]?=some o∧h2[b]?=h1[b]?∧(j=0∧J (i+1) h2∨j=1∧E h2)))
  (hq0:∀ h1,J xs.length h1→Q (0,h.size) h1) (hq1:∀ h1,E h1→Q (1,h.size) h1):(rgF P enc js Y g).wp h Q:=by
 refine ⟨hg,fun r hr=>?_⟩
 have hbl:=UD hb
 have hrec:((h.push (.deferred (some []))).push (XN r .ready none))[h.size+1]?=some (XN r .ready none):=by
  have:h.size+1=(h.push (.deferred (some []))).size:=by simp
  rw [this]; exact Kf
 refine (V7 P _ _ _).mono ?_ (hseq (h.size+1) (fun i h1=>J i h1∧h1[h.size+1]?=some (XN r .ready none)) (fun h1=>E h1∧h1[h.size+1]?=some (XN r .done (some c))) _ (fun i h1 h2 hh u=>⟨hJb i h1 h2 hh.1 u,(u.ne _ (by omega)).trans hh.2⟩)
  (by rw [Wy (by simp; omega),Wy hbl]; exact hb) ⟨h0 r,hrec⟩ (fun i hi h1 hh=>?_))
 ·rintro _ h1 (⟨h2,h3⟩ | ⟨h2,h3⟩)
  ·exact ⟨.ready,0,by decide,h3,hq0 _ (hJ _ _ _ h2 (Upd.set_ _ _ _))⟩
  ·subst hjs
   exact ⟨.done,1,by decide,h3,hq1 _ (hE _ _ h2 (Upd.set_ _ _ _))⟩
 ·refine (V7 P _ _ _).mono ?_ (KJn (hY _) hr hjs (J:=fun h2=>J i h2∧h2[b]?=h1[b]?) (J':=fun h2=>J (i+1) h2∧h2[b]?=h1[b]?) (E:=fun h2=>E h2∧h2[b]?=h1[b]?) (fun h2 h3 hj u=>⟨hJ _ _ _ hj.1 u,(u.ne _ (by omega)).trans hj.2⟩) (fun h2 h3 hj u=>⟨hJ _ _ _ hj.1 u,(u.ne _ (by omega)).trans hj.2⟩) (fun h2 h3 hj u=>⟨hE _ _ hj.1 u,(u.ne _ (by omega)).trans hj.2⟩) (fun h2 o hj ho=>?_) ⟨hh.1,rfl⟩ hh.2)
  ·rintro r' h2 hr'
   split at hr'
   ·rename_i hT; subst hT; exact ⟨hr'.1.2,by rw [if_pos rfl]; exact ⟨hr'.1.1,hr'.2⟩⟩
   ·rename_i hF; exact ⟨hr'.1.2,by rw [if_neg hF]; exact ⟨hr'.1.1,hr'.2⟩⟩
  ·refine (Yb xs[i]).mono ?_ (hbody i hi h2 o hj.1 ho)
   rintro j h3 ⟨h4,h5,h6⟩
   refine ⟨h4,h6.imp (fun h6=>⟨h6.1,h6.2,h5.trans hj.2⟩) (fun h6=>⟨h6.1,h6.2,h5.trans hj.2⟩)⟩
def lnP (n:Nat) (ls:List (List UInt8)):List (Int × ByteArray):=(ls.zipIdx n).map fun p=>((p.2:Int),bs p.1)
theorem KB3 (n:Nat) (ls:List (List UInt8)):(lnP n ls).length=ls.length:=by simp [lnP]
theorem KMZ {n:Nat} {ls:List (List UInt8)} {i:Nat} (hi:i < (lnP n ls).length):(lnP n ls)[i]=(((n+i:Nat):Int),bs (ls[i]'(by rw [KB3] at hi; exact hi))):=by simp [lnP]
theorem KAD {h:Heap} {b:Nat} {v u:Value} {t:TypeId} (hb:h[b]?=some (.cells #[v] t (0,0))):(hset h ⟨b,0,none⟩ u)[b]?=some (.cells #[u] t (0,0)):=by
 rw [V8 hb]; rfl
def N0 (s:List UInt8):Nat→List UInt8
 | 0=>s
 | i+1=>(cutL (N0 s i)).2
theorem KGL (s:List UInt8):∀ i,(N0 s i).length≤s.length
 | 0=>Nat.le_refl _
 | i+1=>by
  have:=KGL s i
  unfold N0
  by_cases h:N0 s i=[]
  ·rw [h]; simp [cutL]
  ·have:=KDB _ h; omega
theorem KD8 (s:List UInt8):∀ i,Ko (N0 s i)=(Ko s).drop i
 | 0=>rfl
 | i+1=>by
  have ih:=KD8 s i
  unfold N0
  by_cases h:N0 s i=[]
  ·rw [h,WU] at ih
   rw [h]
   show Ko (cutL []).2=_
   rw [show (cutL []).2=[] from rfl,WU,← List.drop_drop,← ih]; rfl
  ·rw [YD h] at ih
   rw [← List.drop_drop,← ih]; rfl
theorem KKp {s:List UInt8} {b:Nat} {t:TypeId} (hs:s.length≤1099511627776):SeqC Go.Proofs.Tryz.prog (fun x:Int × ByteArray=>[.int .i64 x.1,.string x.2]) (lnP 1 (Ko s)) (.func (.func qM) #[] #[.pointer (some ⟨b,0,none⟩)]) b (.cells #[.string (bs s)] t (0,0)):=by
 intro l Inv Stop h hU hb h0 hround
 refine N1 KDN (KEH (yV l) ⟨b,0,none⟩) ?_
 unfold KBA
 have hll:=qf _ s (Nat.le_refl _)
 rw [KB3]
 refine M.loop_inv (fun (n:Int) h'=>∃ i:Nat,n=((1+i:Nat):Int)∧i≤(Ko s).length∧Inv i h'∧h'[b]?=some (.cells #[.string (bs (N0 s i))] t (0,0))) (fun n _=>((Ko s).length+2 - n.toNat)) ?_ ⟨0,rfl,Nat.zero_le _,h0,hb⟩
 rintro n h' ⟨i,rfl,hi,hI,hc⟩ self hself
 unfold Y8
 have hbl:=KD8 s i
 have hbn:=KGL s i
 refine Yx (ZA hc) ?_
 have he:sEq (bs (N0 s i)) ByteArray.empty=decide (N0 s i=[]):=by
  show sEq (bs (N0 s i)) (bs [])=_
  rw [zy]
 rw [he]
 refine KP (fun hne=>?_) (fun hz=>?_)
 ·have hne:N0 s i≠[]:=by simpa using hne
  rw [YD hne] at hbl
  have hlt:i < (Ko s).length:=by
   rcases Nat.lt_or_ge i (Ko s).length with h | h
   ·exact h
   ·rw [List.drop_eq_nil_iff.2 h] at hbl; cases hbl
  rw [List.drop_eq_getElem_cons hlt] at hbl
  have hli:(Ko s)[i]=(cutL (N0 s i)).1:=(List.cons.inj hbl).1.symm
  refine Yx (ZA hc) (KE (KMY (by omega) (fun bb=>?_)))
  have hr:=hround i (by rw [KB3]; exact hlt) h' hI
  rw [KMZ (by rw [KB3]; exact hlt),hli] at hr
  refine KE ((V7 _ _ _ _).mono ?_ hr)
  rintro r h2 ⟨hkb,hr2⟩
  cases r with
  | true =>
   rw [if_pos rfl] at hr2
   have hc2:=hkb.trans hc
   refine iteF rfl (Wl (ZA hc2) (KZ hc2) rfl ?_)
   rw [w64 (by omega) (by omega)]
   refine hself _ _ ⟨i+1,by omega,by omega,hU _ _ _ hr2 (Upd.hset _ _ _ _),KAD hc2⟩ (by omega)
  | false =>
   rw [if_neg (by simp)] at hr2
   exact iteT rfl (KC (.inr hr2))
 ·have hz:N0 s i=[]:=by simpa using hz
  rw [hz,WU] at hbl
  have:(Ko s).length≤i:=List.drop_eq_nil_iff.1 hbl.symm
  rw [show (Ko s).length=i by omega]
  exact KC (.inl hI)
end Gx
namespace Gx
open Go Go.Proofs Go.Shelf Go.RowKit Go.Lib
set_option linter.unusedVariables false
set_option linter.unusedSimpArgs false
set_option maxRecDepth 100000
theorem KPc {s:List UInt8} {a b:Nat}:(bs s).extract a b=bs ((s.drop a).take (b - a)):=by
 apply ByteArray.ext
 simp [bs,ByteArray.extract,ByteArray.copySlice]
theorem KKq (l:List UInt8):JO (bs l)=l.map bv:=rfl
theorem KIO {β:Type} {h:Heap} {Q:β→Heap→Prop} {s:List UInt8} {a b:Nat} {lo hi:Int} {f:ByteArray→M β} (hl:lo=(a:Int)) (hh:hi=(b:Int)) (h1:a≤b) (h2:b≤s.length) (H:(f (bs ((s.drop a).take (b - a)))).wp h Q):(slS (bs s) lo hi>>=f).wp h Q:=by
 subst hl; subst hh
 refine ⟨_,⟨by omega,by omega,by rw [ZO]; omega,rfl⟩,?_⟩
 rw [Int.toNat_natCast,Int.toNat_natCast,KPc]
 exact H
theorem KF3 {h:Heap} {Q:Bool→Heap→Prop} {x:Sl} {l:List UInt8} {g:Value} {p:UInt8→Bool} (hx:Bys h x l) (hl:l.length≤4611686018427387904)
  (hg:∀ (c:UInt8) (Q1:Bool→Heap→Prop),Q1 (p c) h→(V7 Go.Proofs.Tryz.prog (fun r:Bool=>.bool r) g [.int .u8 (c.toNat:Int)]).wp h Q1)
  (H:Q (l.any p) h):(ZY x g).wp h Q:=by
 unfold ZY JG
 have hxl:=hx.len
 refine KE (M.loop_inv (fun (t:Int) h'=>h'=h∧∃ i:Nat,t=(i:Int)∧i≤l.length∧(l.drop i).any p=l.any p) (fun t _=>((l.length:Int) - t).toNat) ?_ ⟨rfl,0,rfl,Nat.zero_le _,by simp⟩)
 rintro t h' ⟨rfl,i,rfl,hi,hd⟩ self hself
 unfold Jn
 refine KP (fun hc=>?_) (fun hc=>?_)
 ·have hlt:i < l.length:=by have:=of_decide_eq_true hc; omega
  rw [List.drop_eq_getElem_cons hlt,List.any_cons] at hd
  obtain ⟨b,hb,KO⟩:=hx.get hlt
  refine Xi (by omega) (by omega) hb (Zm (n:=(l[i].toNat:Int)) ?_ (KE (hg l[i] _ ?_)))
  ·rw [show (i:Int).toNat * 1=i by omega]; exact KO
  refine KP (fun ht=>KC (KC ?_)) (fun hf=>?_)
  ·rw [ht] at hd
   rw [show decide ((i:Int) ≥ 0)=l.any p by rw [← hd]; simp]
   exact H
  ·rw [hf,Bool.false_or] at hd
   rw [w64 (by omega) (by omega)]
   exact hself _ _ ⟨rfl,i+1,by simp,by omega,hd⟩ (by omega)
 ·have hge:i=l.length:=by have:=of_decide_eq_false hc; omega
  subst hge
  rw [List.drop_length] at hd
  refine KC (KC ?_)
  rw [show decide ((-1:Int) ≥ 0)=l.any p by rw [← hd]; rfl]
  exact H
def digB (c:UInt8):Bool:=decide (48≤c.toNat) && decide (c.toNat≤57)
theorem KKr {c:UInt8} {h:Heap} {Q:Bool→Heap→Prop} (H:Q (!digB c) h):(KBz (c.toNat:Int)).wp h Q:=by
 unfold KBz
 refine or_b (c:=decide ((c.toNat:Int) > 57)) (fun _ Q' hq=>KC hq) (KC ?_)
 rw [show (decide ((c.toNat:Int) < 48) || decide ((c.toNat:Int) > 57))=!digB c by
  unfold digB
  by_cases h1:c.toNat < 48
  ·simp [show ((c.toNat:Int) < 48) by omega,show ¬ 48≤c.toNat by omega]
  ·by_cases h2:c.toNat > 57
   ·simp [show ((c.toNat:Int) > 57) by omega,show ¬ c.toNat≤57 by omega]
   ·simp [show ¬ ((c.toNat:Int) < 48) by omega,show ¬ ((c.toNat:Int) > 57) by omega,show 48≤c.toNat by omega,show c.toNat≤57 by omega]]
 exact H
def ErrV (h:Heap):Prop:=∃ t p,KO h ⟨5,0,none⟩=some (.iface t p)
theorem ErrV.ext {h h':Heap} (H:ErrV h) (e:Ext h h'):ErrV h':=by obtain ⟨t,p,hc⟩:=H; exact ⟨t,p,e.cell hc⟩
theorem KKs {t:List UInt8} {h:Heap} {Q:ByteArray→Heap→Prop} (ht:t.length≤281474976710656) (H:∀ h',Ext h h'→Q (bs t) h'):(Zy (bs t)).wp h Q:=by
 unfold Zy
 rw [ZO]
 refine KP (fun h0=>?_) (fun h0=>?_)
 ·have:t=[]:=by have:=eq_of_beq h0; exact List.length_eq_zero_iff.1 (by omega)
  subst this
  exact KC (H _ (Ext.refl _))
 ·have hne:t≠[]:=fun e=>by subst e; exact absurd h0 (by decide)
  have hpos:0 < t.length:=List.length_pos_iff.2 hne
  refine ⟨by omega,by omega,by omega,by omega,?_⟩
  rw [Int.toNat_natCast,Nat.mul_one]
  have e1:=Ext.push h (.cells (zRow #[.int .u8 0] t.length) KY)
  have g1:(h.push (.cells (zRow #[.int .u8 0] t.length) KY))[h.size]?=some (.cells (zRow #[.int .u8 0] t.length) KY (0,0)):=Kf
  have s1:(h.push (.cells (zRow #[.int .u8 0] t.length) KY)).size=h.size+1:=Array.size_push _
  generalize h.push (.cells (zRow #[.int .u8 0] t.length) KY)=h1 at e1 g1 s1 ⊢
  have hz:(zRow #[.int .u8 0] t.length).size=t.length:=zh _ _
  refine ⟨by rw [ZO]; exact Nat.le_refl _,?_,?_⟩
  ·intro a ha j hj
   cases ha
   rw [ZO] at hj
   rw [Kg,Nat.zero_add]
   refine ⟨⟨(zRow #[.int .u8 0] t.length)[j]'(by omega),?_⟩,KZ g1⟩
   rw [KU g1]; exact Array.getElem?_eq_getElem (by omega)
  show M.wp _ (hsetL h1 ((⟨h.size,0,none⟩:Addr).add 0) (JO (bs t)) 0) Q
  rw [Kg,Nat.zero_add]
  have g2:=KAL (o:=0) (JO (bs t)) h1 0 _ g1
  have e2:Ext h (hsetL h1 ⟨h.size,0,none⟩ (JO (bs t)) 0):=e1.hsetL (Nat.le_refl _)
  have s2:=Gg (a:=⟨h.size,0,none⟩) (JO (bs t)) h1 0
  have hlen:(JO (bs t)).length=(zRow #[.int .u8 0] t.length).size:=by rw [hz]; simp [JO,bs]
  rw [Nat.add_zero,K0 hlen] at g2
  generalize hsetL h1 ⟨h.size,0,none⟩ (JO (bs t)) 0=h2 at g2 e2 s2 ⊢
  refine Xi (b:=⟨h.size,0,none⟩) (by decide) (by show (0:Int) < ((t.length:Nat):Int); omega) rfl (.inr ⟨h.size,_,_,t,?_,rfl,hne,?_,by omega,g2,?_,?_⟩)
  ·rw [Kg]; rfl
  ·rw [List.size_toArray,hlen,hz]; exact Nat.le_refl _
  ·intro j x hx
   rw [List.getElem?_toArray]
   simp [JO,bs,hx]
  ·intro h3 hs3 same3
   refine KC (H _ ⟨by have:=e2.size; omega,fun i hi=>?_⟩)
   rw [same3 i (by omega)]
   exact e2.same i hi
theorem KHM {fn t:List UInt8} {h:Heap} {Q:Option Addr→Heap→Prop} (ht:t.length≤281474976710656) (hv:ErrV h) (H:∀ h' a,Ext h h'→Q (some a) h'):(Uv (bs fn) (bs t)).wp h Q:=by
 obtain ⟨ty,p,hc⟩:=hv
 unfold Uv
 refine ⟨_,hc,KE (KKs ht (fun h1 e1=>KEn (e1.cell hc) ?_))⟩
 refine ⟨_,rfl,KNR (KC (H _ _ (e1.pushed _)))⟩
theorem KKt {fn t:List UInt8} {h:Heap} {Q:Value→Heap→Prop} (ht:t.length≤281474976710656) (hv:ErrV h) (H:∀ h' u x,Ext h h'→Q (.iface u x) h'):(WO (bs fn) (bs t) 10 64 (.iface Kx (.int .i64 1))).wp h Q:=by
 unfold WO
 refine ⟨false,⟨_,_,_,rfl,rfl,rfl⟩,iteF rfl ⟨true,⟨_,_,_,rfl,rfl,rfl⟩,iteT rfl (KE (KHM ht hv (fun h1 a e1=>KC (H _ _ _ e1))))⟩⟩
def numD (t:List UInt8):List UInt8:=if t.head?=some 45 then t.tail else t
def numP (t:List UInt8):Int × Int :=
 if numD t=[] then (0,10) else if (numD t).all digB=false then (0,10) else if (numD t).head?=some 48∧t≠[48] then (0,10)
 else match Lib.parseIntB 64 t with | .ok n=>(n,0) | _=>(0,7)
def KQy {α:Type}:Lib.NumEnd α→Bool
 | .ok _=>true
 | .range=>true
 | _=>false
theorem KDp (M:Nat):∀ (r:List UInt8) (acc:Nat),r.all digB=true→KQy (parseUintM M acc r)=true
 | [],acc,_=>by rw [parseUintM]; rfl
 | c::r,acc,h=>by
  rw [List.all_cons,Bool.and_eq_true] at h
  have h1:=h.1
  unfold digB at h1
  rw [Bool.and_eq_true,decide_eq_true_iff,decide_eq_true_iff] at h1
  rw [parseUintM,if_pos h1]
  split
  ·rfl
  ·split
   ·rfl
   ·exact KDp M r _ h.2
theorem KMa {c:UInt8}:((c.toNat:Int) == 45)=decide (some c=some (45:UInt8)):=by
 rw [eqI]
 refine decide_eq_decide.2 ⟨fun h=>?_,fun h=>by cases h; rfl⟩
 have:c=45:=UInt8.toNat_inj.1 (by show c.toNat=45; omega)
 rw [this]
theorem KMb {c:UInt8}:((c.toNat:Int) == 48)=decide (some c=some (48:UInt8)):=by
 rw [eqI]
 refine decide_eq_decide.2 ⟨fun h=>?_,fun h=>by cases h; rfl⟩
 have:c=48:=UInt8.toNat_inj.1 (by show c.toNat=48; omega)
 rw [this]
theorem KKu {t:List UInt8} (h1:numD t≠[]) (h2:(numD t).all digB=true):KQy (Lib.parseIntB 64 t)=true:=by
 cases t with
 | nil=>exact absurd rfl h1
 | cons c r =>
  have hd:numD (c::r)=(if c.toNat=43∨c.toNat=45 then r else c::r):=by
   unfold numD
   rw [List.head?_cons,List.tail_cons]
   by_cases h45:c=45
   ·subst h45; rfl
   ·have hn:c.toNat≠45:=fun e=>h45 (UInt8.toNat_inj.1 (by rw [e]; rfl))
    rw [if_neg (by simpa using h45)]
    by_cases h43:c.toNat=43
    ·exfalso
     unfold numD at h2
     rw [List.head?_cons,if_neg (by simpa using h45),List.all_cons,Bool.and_eq_true] at h2
     have:=h2.1
     unfold digB at this
     rw [Bool.and_eq_true,decide_eq_true_iff,decide_eq_true_iff] at this
     omega
    ·rw [if_neg (by omega)]
  rw [hd] at h1 h2
  unfold parseIntB
  dsimp only
  unfold parseUintB
  rw [if_neg h1]
  have:=KDp (2 ^ 64 - 1) _ 0 h2
  split
  ·rename_i hh; rw [hh] at this; cases this
  ·rfl
  ·split
   ·rfl
   ·split <;> rfl
theorem KFO {t:List UInt8} {h:Heap} {Q:Int × Int→Heap→Prop} (ht:t.length≤281474976710656) (hv:ErrV h) (H:∀ h',Ext h h'→Q (numP t) h'):(Xa (bs t) (bs (numD t))).wp h Q:=by
 have hdl:(numD t).length≤t.length:=by unfold numD; split <;> simp
 have hdl2:t.length≤(numD t).length+1:=by unfold numD; split <;> simp <;> omega
 unfold Xa
 refine Ud ?_
 have fin:∀ (b:Bool) (h1:Heap),Ext h h1→b=(decide (numD t=[]) || !(numD t).all digB)→(M.wp (M.ite b (M.pure true) (do
  let Xx11←ixS (bs (numD t)) 0
  let Xx12←M.ite (Xx11 == 48) (do
   M.pure (!(sEq (bs t) (⟨#[48]⟩:ByteArray)))
   ) (do
   M.pure false
   )
  M.pure Xx12
  )>>=fun Xx10=>M.ite Xx10 (do
  M.pure (0,10)
  ) (do
  let Xx15←Ve (bs t) 10 64
  let Xx17←isNI Xx15.2
  let Xx18←KAN Xx15.1 Xx17
  M.pure (Xx18.1,Xx18.2)
  )) h1 Q):=by
  intro b h1 e1 hb
  refine KNQ (fun hbt=>?_) (fun hbf=>?_)
  ·refine Jr (iteT rfl (KC ?_))
   have:numP t=(0,10):=by
    unfold numP
    rw [hb,Bool.or_eq_true,decide_eq_true_iff,Bool.not_eq_true'] at hbt
    by_cases h0:numD t=[]
    ·rw [if_pos h0]
    ·rw [if_neg h0,if_pos (hbt.resolve_left h0)]
   rw [← this]
   exact H _ e1
  ·rw [hb,Bool.or_eq_false_iff,decide_eq_false_iff_not,Bool.not_eq_false'] at hbf
   obtain ⟨hd0,hda⟩:=hbf
   have hpos:0 < (numD t).length:=List.length_pos_iff.2 hd0
   refine Nn (i:=0) rfl hpos ?_
   have hhead:(numD t).head?=some ((numD t)[0]'hpos):=by rw [List.head?_eq_getElem?]; exact List.getElem?_eq_getElem hpos
   refine Ud (U1 (c:=decide (t≠[48])) (fun _ Q' hq=>KC ?_) (Jr ?_))
   ·rw [show (⟨#[48]⟩:ByteArray)=bs [48] from rfl,zy]
    rw [show (!decide (t=[48]))=decide (t≠[48]) by simp]
    exact hq
   rw [KMb]
   have hnp:∀ X,numP t=(if (numD t).head?=some 48∧t≠[48] then (0,10) else X)↔numP t=(if (numD t).head?=some 48∧t≠[48] then (0,10) else X):=fun _=>Iff.rfl
   refine KP (fun hz=>KC ?_) (fun hz=>?_)
   ·rw [Bool.and_eq_true,decide_eq_true_iff,decide_eq_true_iff,← hhead] at hz
    have:numP t=(0,10):=by
     unfold numP
     rw [if_neg hd0,if_neg (by rw [hda]; decide),if_pos hz]
    rw [← this]
    exact H _ e1
   ·have hz':¬ ((numD t).head?=some 48∧t≠[48]):=fun hh=>by
     rw [hhead] at hh
     rw [decide_eq_true hh.1,decide_eq_true hh.2] at hz
     cases hz
    have hres:numP t=(match Lib.parseIntB 64 t with | .ok n=>(n,0) | _=>(0,7)):=by
     unfold numP
     rw [if_neg hd0,if_neg (by rw [hda]; decide),if_neg hz']
    have hns:=KKu hd0 hda
    refine KE ?_
    unfold Ve
    refine KE ⟨rfl,rfl,by rw [ZO]; omega,fun h2 s2 same2=>?_⟩
    have e2:Ext h h2:=e1.trans ⟨s2,same2⟩
    rw [show (bs t).data.toList=t from rfl]
    cases hp:Lib.parseIntB 64 t with
    | ok n =>
     rw [hp] at hres
     refine ⟨true,.inl ⟨rfl,rfl⟩,iteF rfl (KC ⟨true,.inl ⟨rfl,rfl⟩,KE ?_⟩)⟩
     unfold KAN
     refine iteF rfl (KC (KC ?_))
     show Q (n,0) h2
     rw [show (n,(0:Int))=numP t from hres.symm]
     exact H _ e2
    | range =>
     rw [hp] at hres
     refine ⟨false,.inr ⟨⟨_,_,rfl⟩,rfl⟩,iteT rfl (KE (KKt (fn:=[80,97,114,115,101,73,110,116]) ht (hv.ext e2) (fun h3 u x e3=>KC ⟨false,.inr ⟨⟨_,_,rfl⟩,rfl⟩,KE ?_⟩)))⟩
     unfold KAN
     refine iteT rfl (KC (KC ?_))
     show Q (0,7) h3
     rw [show ((0:Int),(7:Int))=numP t from hres.symm]
     exact H _ (e2.trans e3)
    | _=>rw [hp] at hns; cases hns
 refine KNQ (fun h0=>Jr ?_) (fun h0=>?_)
 ·rw [sEq0] at h0
  exact fin _ _ (Ext.refl _) (by rw [h0]; rfl)
 ·rw [sEq0] at h0
  refine fun cap hcap mk hmk=>?_
  refine KE (KF3 (l:=numD t) (p:=fun c=>!digB c) ⟨?_,.inr ⟨_,rfl,fun j v hj=>?_⟩⟩ (by omega) (fun c Q1 hq=>N1 (KFm) (KG7 _) (KKr hq)) (Jr ?_))
  ·show (numD t).length=(bs (numD t)).size
   rw [ZO]
  ·rw [Kg,Nat.zero_add,KU Kf]
   rw [List.getElem?_map] at hj
   have hjl:j < (numD t).length:=by
    by_cases hh:j < (numD t).length
    ·exact hh
    ·rw [List.getElem?_eq_none (by omega)] at hj; cases hj
   rw [Array.getElem?_append_left (by simp [JO,bs]; exact hjl)]
   rw [List.getElem?_toArray,KKq,List.getElem?_map]
   exact hj
  ·refine fin _ _ (Ext.push _ _) ?_
   rw [h0,Bool.false_or]
   rw [List.any_eq_not_all_not]
   simp
theorem KBC {t:List UInt8} {h:Heap} {Q:Int × Int→Heap→Prop} (ht:t.length≤281474976710656) (hv:ErrV h) (H:∀ h',Ext h h'→Q (numP t) h'):(KE3 (bs t)).wp h Q:=by
 unfold KE3
 cases t with
 | nil =>
  refine U1 (c:=false) (fun hb _ _=>?_) ?_
  ·rw [sEq0] at hb; exact absurd hb (by decide)
  ·rw [Bool.and_false]
   exact iteF rfl (KFO ht hv H)
 | cons c r =>
  refine U1 (c:=decide (some c=some (45:UInt8))) (fun hb Q' hq=>?_) ?_
  ·refine Nn (i:=0) rfl (by simp) (KC ?_)
   rw [List.getElem_cons_zero,KMa]
   exact hq
  ·rw [sEq0]
   refine KP (fun hb=>?_) (fun hb=>?_)
   ·rw [Bool.and_eq_true,decide_eq_true_iff (p:=some c=some 45)] at hb
    refine KIO (a:=1) (b:=(c::r).length) rfl (by rw [ZO]) (by simp) (Nat.le_refl _) ?_
    have:(((c::r).drop 1).take ((c::r).length - 1))=numD (c::r):=by
     unfold numD
     rw [List.head?_cons,if_pos hb.2]
     simp
    rw [this]
    exact KFO ht hv H
   ·have:numD (c::r)=c::r:=by
     unfold numD
     rw [List.head?_cons,if_neg]
     intro hc
     rw [decide_eq_true hc] at hb
     simp at hb
    have h2:=KFO ht hv H
    rw [this] at h2
    exact h2
end Gx
