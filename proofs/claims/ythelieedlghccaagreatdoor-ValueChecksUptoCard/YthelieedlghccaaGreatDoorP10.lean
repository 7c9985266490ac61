/- Own proofs: what those Lean programs compute. No condition. -/
import Derived.Test.YthelieedlghccaaGreatDoorP0
import Derived.Test.YthelieedlghccaaGreatDoorP1
import Derived.Test.YthelieedlghccaaGreatDoorP2
import Derived.Test.YthelieedlghccaaGreatDoorP3
import Derived.Test.YthelieedlghccaaGreatDoorP4
import Derived.Test.YthelieedlghccaaGreatDoorP5
import Derived.Test.YthelieedlghccaaGreatDoorP6
import Derived.Test.YthelieedlghccaaGreatDoorP7
import Derived.Test.YthelieedlghccaaGreatDoorP8
import Derived.Test.YthelieedlghccaaGreatDoorP9
set_option linter.unusedVariables false
set_option linter.unusedSimpArgs false
namespace Gx
open Go Go.Proofs Go.Shelf Go.RowKit Go.Lib
set_option linter.unusedVariables false
set_option maxRecDepth 100000
section
variable {α:Type} {sl:α→Sl} {lo:Nat} {r:Sl} {T:Heap→Prop} {cmp:Value} {key:α→Vl} {ss:List α}
def KG8 (sl:α→Sl) (lo:Nat) (r:Sl) (T:Heap→Prop) (cmp:Value) (key:α→Vl) (ss:List α) (n:Nat):Prop:=∀ {A B pre post:List α} {h:Heap} {Q:Unit→Heap→Prop} {ta tm tb:Int},A.length+B.length≤n→0 < A.length→0 < B.length→T h→Srt key A→Srt key B →
 (∀ p ∈ A++B,p ∈ ss)→Gw lo h r 1 ((pre++A++B++post).map (vv sl))→(pre++A++B++post).length≤1099511627776→ta=(pre.length:Int)→tm=((pre.length+A.length:Nat):Int)→tb=((pre.length+A.length+B.length:Nat):Int) →
 (∀ h' D,Km (Sl.on r) h h'→Gw lo h' r 1 ((pre++D++post).map (vv sl))→D.Perm (A++B)→Srt key D→Q () h')→(ZL r ta tm tb cmp).wp h Q
theorem KB2 {n:Nat} (C:Cmpr sl r T cmp key ss) (ih:KG8 sl lo r T cmp key ss n) {A B pre post:List α} {h:Heap} {Q:Unit→Heap→Prop} {ta tm tb:Int} {b:Bool} {k:M Unit} (hn:A.length+B.length≤n) (hb:b=true↔0 < A.length∧0 < B.length) (hT:T h) (sA:Srt key A) (sB:Srt key B)
  (hm:∀ p ∈ A++B,p ∈ ss) (G:Gw lo h r 1 ((pre++A++B++post).map (vv sl))) (hsm:(pre++A++B++post).length≤1099511627776) (hta:ta=(pre.length:Int)) (htm:tm=((pre.length+A.length:Nat):Int)) (htb:tb=((pre.length+A.length+B.length:Nat):Int))
  (H:∀ h' D,Km (Sl.on r) h h'→Gw lo h' r 1 ((pre++D++post).map (vv sl))→D.Perm (A++B)→Srt key D→k.wp h' Q) :
  (M.ite b (NY Go.Proofs.Tryz.prog JX #[r.v,.int .i64 ta,.int .i64 tm,.int .i64 tb,cmp] (fun r:Unit=>.tuple #[])>>=fun _=>k) k).wp h Q:=by
 refine Kx (fun h1=>?_) (fun h0=>?_)
 ·obtain ⟨hA,hB⟩:=hb.1 h1
  exact KX (Xb (Ji _ _ _ _ _) (ih hn hA hB hT sA sB hm G hsm hta htm htb H))
 ·have hz:A.length=0∨B.length=0:=by
   rcases Nat.eq_zero_or_pos A.length with hA | hA
   ·exact .inl hA
   ·rcases Nat.eq_zero_or_pos B.length with hB | hB
    ·exact .inr hB
    ·rw [hb.2 ⟨hA,hB⟩] at h0; cases h0
  refine H h (A++B) (Km.refl _ _) (by simpa using G) (List.Perm.refl _) ?_
  rcases hz with hz | hz
  ·rw [List.length_eq_zero_iff.1 hz]; exact sB
  ·rw [List.length_eq_zero_iff.1 hz,List.append_nil]; exact sA
theorem KFJ {β:Type} {c d:Prop} [Decidable c] [Decidable d] {h:Heap} {Q:β→Heap→Prop} {f:Bool→M β} (H:(f (decide (c∧d))).wp h Q):(M.ite (decide c) (M.pure (decide d)) (M.pure false)>>=f).wp h Q:=by
 refine KF6 (fun hc=>UP ?_) (fun hc=>UP ?_)
 ·have hc:=of_decide_eq_true hc
  rwa [show decide d=decide (c∧d) from decide_eq_decide.2 ⟨fun hd=>⟨hc,hd⟩,fun h=>h.2⟩]
 ·have hc:=of_decide_eq_false hc
  rwa [show false=decide (c∧d) from (decide_eq_false (fun h=>hc h.1)).symm]
theorem qX (C:Cmpr sl r T cmp key ss):∀ n,KG8 sl lo r T cmp key ss n:=by
 intro n
 induction n with
 | zero=>intro A B pre post h Q ta tm tb hn hA; omega
 | succ n ih =>
  intro A B pre post h Q ta tm tb hn hA hB hT sA sB hm G hsm hta htm htb H
  subst hta; subst htm; subst htb
  have hsm0:=hsm
  simp only [List.length_append] at hsm
  unfold ZL
  rw [w64 (n:=((pre.length+A.length:Nat):Int) - (pre.length:Int)) (by omega) (by omega),w64 (n:=((pre.length+A.length+B.length:Nat):Int) - ((pre.length+A.length:Nat):Int)) (by omega) (by omega)]
  refine Kx (fun h1=>?_) (fun h1=>?_)
  ·have hA1:A.length=1:=by have:=eq_of_beq h1; omega
   obtain ⟨x,rfl⟩:=List.length_eq_one_iff.1 hA1
   refine KCS C hT sB (fun p hp=>hm p (by simpa using hp)) G hsm0 (fun h' D K G' p s=>H h' D K G' p s)
  have hA1:A.length≠1:=by intro e; rw [e] at h1; have:=bne_iff_ne.1 (by rw [bne,h1]; rfl:(((pre.length+1:Nat):Int) - (pre.length:Int) != 1)=true); omega
  refine Kx (fun h2=>?_) (fun h2=>?_)
  ·have hB1:B.length=1:=by have:=eq_of_beq h2; omega
   obtain ⟨y,rfl⟩:=List.length_eq_one_iff.1 hB1
   refine KCT C hT sA (fun p hp=>hm p (by rcases List.mem_cons.1 hp with rfl | hp <;> simp [*])) G hsm0 (fun h' D K G' p s=>H h' D K G' p s)
  have hB1:B.length≠1:=by intro e; rw [e] at h2; have:=bne_iff_ne.1 (by rw [bne,h2]; rfl:(((pre.length+A.length+1:Nat):Int) - ((pre.length+A.length:Nat):Int) != 1)=true); omega
  rw [KDE (by omega)]
  obtain ⟨d,hd⟩:∃ d,d=(A.length+B.length) / 2:=⟨_,rfl⟩
  have hmid:(pre.length+(pre.length+A.length+B.length)) / 2=pre.length+d:=by omega
  rw [hmid]
  have main:(ZB r (pre.length:Int) ((pre.length+A.length:Nat):Int) ((pre.length+A.length+B.length:Nat):Int) cmp ((pre.length+d:Nat):Int) ((pre.length+d+(pre.length+A.length):Nat):Int) ((pre.length+(d - B.length):Nat):Int) ((pre.length+min d A.length:Nat):Int)).wp h Q:=by
   unfold ZB
   rw [w64 (n:=((pre.length+d+(pre.length+A.length):Nat):Int) - 1) (by omega) (by omega)]
   refine M.loop_inv (fun (t:Int × Int) hh=>∃ u v:Nat,t=(((pre.length+u:Nat):Int),((pre.length+v:Nat):Int))∧d - B.length≤u∧u≤v∧v≤min d A.length ∧
     (∀ c (hc:c < A.length) (hb:d - 1 - c < B.length),d - B.length≤c→c < u→¬ cmpV (key B[d - 1 - c]) (key A[c]) < 0) ∧
     (∀ c (hc:c < A.length) (hb:d - 1 - c < B.length),v≤c→c < min d A.length→cmpV (key B[d - 1 - c]) (key A[c]) < 0)∧Km (Sl.on r) h hh∧Gw lo hh r 1 ((pre++A++B++post).map (vv sl))) (fun t _=>(t.2 - t.1).toNat) ?_
    ⟨d - B.length,min d A.length,rfl,Nat.le_refl _,by omega,Nat.le_refl _,fun c _ _ h1 h2=>by omega,fun c _ _ h1 h2=>by omega,Km.refl _ _,G⟩
   rintro t hh ⟨u,v,rfl,hu,huv,hv,hlow,hhigh,K,G1⟩ self hself
   unfold Z1
   dsimp only
   rw [KDE (by omega)]
   refine Kx (fun hc=>?_) (fun hc=>?_)
   ·have huv':u < v:=by have:=of_decide_eq_true hc; omega
    have hw:(pre.length+u+(pre.length+v)) / 2=pre.length+(u+v) / 2:=by omega
    rw [hw]
    have hwA:(u+v) / 2 < A.length:=by omega
    have hwv:(u+v) / 2 < v:=by omega
    have hwu:u≤(u+v) / 2:=by omega
    generalize hww:(u+v) / 2=w at hwA hwv hwu
    have hwB:d - 1 - w < B.length:=by omega
    have g1:(pre++A++B++post)[pre.length+A.length+(d - 1 - w)]?=some B[d - 1 - w]:=by
     have:=KDF (L1:=pre++A) (L2:=B) (L3:=post) hwB
     rwa [List.length_append] at this
    have g2:(pre++A++B++post)[pre.length+w]?=some A[w]:=by
     have:=KDF (L1:=pre) (L2:=A) (L3:=B++post) hwA
     rwa [← List.append_assoc] at this
    refine KH6 C (C.keep _ _ hT K) G1 g1 g2 (hm _ (List.mem_append_right _ (List.getElem_mem hwB))) (hm _ (List.mem_append_left _ (List.getElem_mem hwA))) (by rw [w64 (by omega) (by omega)]; omega) rfl (fun h2 K2 T2 G2=>?_)
    refine Kx (fun hge=>?_) (fun hlt=>?_)
    ·have hge:¬ cmpV (key B[d - 1 - w]) (key A[w]) < 0:=by simpa using hge
     rw [w64 (by omega) (by omega)]
     refine hself _ _ ⟨w+1,v,by rw [Prod.mk.injEq]; omega,by omega,by omega,hv,fun c hc hb h1 h2=>VT (sB.le (show d - 1 - w≤d - 1 - c by omega) hb) (VT hge (sA.le (show c≤w by omega) hwA)),hhigh,K.trans K2,G2⟩ ?_
     dsimp only; omega
    ·have hlt:cmpV (key B[d - 1 - w]) (key A[w]) < 0:=by simpa using hlt
     refine hself _ _ ⟨u,w,rfl,hu,by omega,by omega,hlow,fun c hc hb h1 h2=>KIx (sB.le (show d - 1 - c≤d - 1 - w by omega) hwB) (KH5 hlt (sA.le h1 hc)),K.trans K2,G2⟩ ?_
     dsimp only; omega
   ·have huv':u=v:=by have:=of_decide_eq_false hc; omega
    subst huv'
    obtain ⟨e,he⟩:∃ e,e=d - u:=⟨_,rfl⟩
    have hend:IntKind.wrap .i64 (((pre.length+d+(pre.length+A.length):Nat):Int) - ((pre.length+u:Nat):Int))=((pre.length+A.length+e:Nat):Int):=by rw [w64 (by omega) (by omega)]; omega
    rw [hend]
    have huA:u≤A.length:=by omega
    have heB:e≤B.length:=by omega
    have hcross:=KJg (s:=u) (e:=e) sA sB huA heB
     (fun i hi he' hs=>by
      have:=hlow i hi (by omega) (by omega) (by omega)
      have e1:d - 1 - i=e:=by omega
      simpa [e1] using this)
     (fun i hs hi hei=>by
      have:=hhigh u hs (by omega) (Nat.le_refl _) (by omega)
      have e1:d - 1 - u=i:=by omega
      simpa [e1] using this)
    have lA1:(A.take u).length=u:=by rw [List.length_take]; omega
    have lA2:(A.drop u).length=A.length - u:=List.length_drop
    have lB1:(B.take e).length=e:=by rw [List.length_take]; omega
    have lB2:(B.drop e).length=B.length - e:=List.length_drop
    have rest:∀ h3,Km (Sl.on r) h h3→Gw lo h3 r 1 ((pre++A.take u++B.take e++(A.drop u++B.drop e++post)).map (vv sl))→(ZA r (pre.length:Int) ((pre.length+A.length+B.length:Nat):Int) cmp ((pre.length+d:Nat):Int) ((pre.length+u:Nat):Int) ((pre.length+A.length+e:Nat):Int)).wp h3 Q:=by
     intro h3 K3 G3
     unfold ZA
     refine KFJ ?_
     refine KB2 C ih (by rw [lA1,lB1]; omega) (by rw [decide_eq_true_iff,lA1,lB1]; omega) (C.keep _ _ hT K3) (sA.take u) (sB.take e)
      (fun p hp=>hm p (by rcases List.mem_append.1 hp with hp | hp; exact List.mem_append_left _ (List.mem_of_mem_take hp); exact List.mem_append_right _ (List.mem_of_mem_take hp))) G3 (by simp only [List.length_append,lA1,lA2,lB1,lB2]; omega) rfl (by rw [lA1]) (by rw [lA1,lB1]; omega) (fun h4 D1 K4 G4 p1 s1=>?_)
     have hD1:=p1.length_eq
     rw [List.length_append,lA1,lB1] at hD1
     unfold ZU
     refine KFJ ?_
     refine KB2 C ih (A:=A.drop u) (B:=B.drop e) (pre:=pre++D1) (post:=post) (by rw [lA2,lB2]; omega) (by rw [decide_eq_true_iff,lA2,lB2]; omega) (C.keep _ _ hT (K3.trans K4)) (sA.drop u) (sB.drop e)
      (fun p hp=>hm p (by rcases List.mem_append.1 hp with hp | hp; exact List.mem_append_left _ (List.mem_of_mem_drop hp); exact List.mem_append_right _ (List.mem_of_mem_drop hp))) (by simpa using G4) (by simp only [List.length_append,lA2,lB2]; omega) (by rw [List.length_append]; omega) (by rw [List.length_append,lA2]; omega) (by rw [List.length_append,lA2,lB2]; omega) (fun h5 D2 K5 G5 p2 s2=>KQ ?_)
     refine H h5 (D1++D2) ((K3.trans K4).trans K5) (by simpa using G5) ?_ ?_
     ·exact (List.Perm.append p1 p2).trans (KIy A B u e)
     ·exact Srt.app s1 s2 (fun p hp q hq=>hcross p (p1.mem_iff.1 hp) q (p2.mem_iff.1 hq))
    refine KFJ ?_
    refine Kx (fun hr=>?_) (fun hr=>?_)
    ·have hr:=of_decide_eq_true hr
     have hu1:0 < (A.drop u).length:=by rw [lA2]; omega
     have he1:0 < (B.take e).length:=by rw [lB1]; omega
     have G1':Gw lo hh r 1 ((pre++A.take u++A.drop u++B.take e++(B.drop e++post)).map (vv sl)):=by
      rw [show pre++A.take u++A.drop u++B.take e++(B.drop e++post)=pre++(A.take u++A.drop u)++(B.take e++B.drop e)++post by simp only [List.append_assoc],List.take_append_drop,List.take_append_drop]; exact G1
     refine KX (KCR G1' hu1 he1 (by simp only [List.length_append,lA1,lA2,lB1,lB2]; omega) (by rw [List.length_append,lA1]) (by rw [List.length_append,lA1,lA2]; omega) (by rw [List.length_append,lA1,lA2,lB1]; omega) (fun h3 K3 G3=>?_))
     refine rest h3 (K.trans K3) ?_
     simpa only [List.append_assoc] using G3
    ·have hr:=of_decide_eq_false hr
     refine rest hh K ?_
     rcases Nat.lt_or_ge u A.length with h3 | h3
     ·have h4:e=0:=by omega
      rw [h4]
      have:pre++A.take u++B.take 0++(A.drop u++B.drop 0++post)=pre++(A.take u++A.drop u)++B++post:=by simp only [List.take_zero,List.drop_zero,List.append_assoc,List.nil_append]
      rw [this,List.take_append_drop]; exact G1
     ·rw [List.take_of_length_le h3,List.drop_of_length_le h3]
      have:pre++A++B.take e++([]++B.drop e++post)=pre++A++(B.take e++B.drop e)++post:=by simp only [List.append_assoc,List.nil_append]
      rw [this,List.take_append_drop]; exact G1
  have hn1:IntKind.wrap .i64 (((pre.length+d:Nat):Int)+((pre.length+A.length:Nat):Int))=((pre.length+d+(pre.length+A.length):Nat):Int):=by rw [w64 (by omega) (by omega)]; omega
  rw [hn1]
  refine Kx (fun h3=>?_) (fun h3=>?_)
  ·have h3:=of_decide_eq_true h3
   rw [w64 (n:=((pre.length+d+(pre.length+A.length):Nat):Int) - ((pre.length+A.length+B.length:Nat):Int)) (by omega) (by omega)]
   have e1:((pre.length+d+(pre.length+A.length):Nat):Int) - ((pre.length+A.length+B.length:Nat):Int)=((pre.length+(d - B.length):Nat):Int):=by omega
   have e2:((pre.length+min d A.length:Nat):Int)=((pre.length+d:Nat):Int):=by omega
   rw [e2] at main
   rw [e1]; exact main
  ·have h3:=of_decide_eq_false h3
   have e1:((pre.length+(d - B.length):Nat):Int)=(pre.length:Int):=by omega
   have e2:((pre.length+min d A.length:Nat):Int)=((pre.length+A.length:Nat):Int):=by omega
   rw [e1,e2] at main
   exact main
end
end Gx
namespace Gx
open Go Go.Proofs Go.Shelf Go.RowKit Go.Lib
set_option linter.unusedVariables false
set_option maxRecDepth 100000
section
variable {α:Type} {sl:α→Sl} {lo:Nat} {r:Sl} {T:Heap→Prop} {cmp:Value} {key:α→Vl} {ss:List α}
def Runs (key:α→Vl) (bs:Nat) (D:List (List α)):Prop:=∀ b ∈ D,b.length=bs∧Srt key b
theorem Runs.len {bs:Nat} {D:List (List α)} (H:Runs key bs D):D.flatten.length=D.length * bs:=by
 induction D with
 | nil=>simp
 | cons b D ih =>
  rw [List.flatten_cons,List.length_append,ih (fun c hc=>H c (List.mem_cons_of_mem _ hc)),(H b List.mem_cons_self).1,List.length_cons,Nat.succ_mul]
  omega
theorem Runs.snoc {bs:Nat} {D:List (List α)} {b:List α} (H:Runs key bs D) (h1:b.length=bs) (h2:Srt key b):Runs key bs (D++[b]):=fun c hc=>by
 rcases List.mem_append.1 hc with hc | hc
 ·exact H c hc
 ·rw [List.mem_singleton.1 hc]; exact ⟨h1,h2⟩
theorem Runs.tail {bs:Nat} {D:List (List α)} {b:List α} (H:Runs key bs (b::D)):Runs key bs D:=fun c hc=>H c (List.mem_cons_of_mem _ hc)
theorem KIz {n:Nat} {h:Heap} {Q:Unit→Heap→Prop} {L:List α} {bs:Nat} {D:List (List α)} {last:List α} (C:Cmpr sl r T cmp key ss) (hT:T h) (hn:L.length=n) (hnb:n≤549755813888) (hL:L=D.flatten++last) (hD:Runs key bs D) (hl:last.length < bs) (hbs:0 < bs) (hb2:bs≤2 * n+20) (sl_:Srt key last)
  (hm:L.Perm ss) (G:Gw lo h r 1 (L.map (vv sl)))
  (H:∀ h' L',Km (Sl.on r) h h'→Gw lo h' r 1 (L'.map (vv sl))→L'.Perm ss→Srt key L'→Q () h'):(M.loop (Ki r (n:Int) cmp) (bs:Int)).wp h Q:=by
 refine M.loop_inv (fun (t:Int) hh=>∃ (bs:Nat) (D:List (List α)) (last L:List α),t=(bs:Int)∧L=D.flatten++last∧Runs key bs D∧last.length < bs∧0 < bs∧bs≤2 * n+20∧Srt key last∧L.Perm ss∧Km (Sl.on r) h hh∧Gw lo hh r 1 (L.map (vv sl))) (fun t _=>(2 * (n:Int)+20 - t).toNat) ?_
  ⟨bs,D,last,L,rfl,hL,hD,hl,hbs,hb2,sl_,hm,Km.refl _ _,G⟩
 clear hL hD hl hbs hb2 sl_
 have hssn:ss.length=n:=by rw [← hm.length_eq,hn]
 clear hm hn G
 rintro t hh ⟨bs,D,last,L,rfl,hL,hD,hl,hbs,hb2,sl_,hm,K,G⟩ self hself
 have hLn:L.length=n:=by rw [hm.length_eq,hssn]
 have hlen:D.length * bs+last.length=n:=by rw [← hLn,hL,List.length_append,hD.len]
 unfold Ki
 refine Kx (fun hc=>?_) (fun hc=>?_)
 ·have hbn:bs < n:=by have:=of_decide_eq_true hc; omega
  rw [w64 (n:=2 * (bs:Int)) (by omega) (by omega)]
  refine M.loop_inv (fun (t:Int × Int) h2=>∃ (E R:List (List α)) (L2:List α),t=((E.flatten.length:Int),((E.flatten.length+2 * bs:Nat):Int))∧L2=E.flatten++(R.flatten++last)∧Runs key (2 * bs) E∧Runs key bs R∧L2.Perm ss∧Km (Sl.on r) h h2∧Gw lo h2 r 1 (L2.map (vv sl))) (fun t _=>((n:Int)+1 - t.1).toNat) ?_
   ⟨[],D,L,by simp,by simpa using hL,(fun b hb=>by cases hb),hD,hm,K,G⟩
  rintro t h2 ⟨E,R,L2,rfl,hL2,hE,hR,hm2,K2,G2⟩ self3 hself3
  have hL2n:L2.length=n:=by rw [hm2.length_eq,hssn]
  have hlen2:E.flatten.length+(R.length * bs+last.length)=n:=by rw [← hL2n,hL2,List.length_append,List.length_append,hR.len]
  unfold JD
  dsimp only
  have hw1:IntKind.wrap .i64 ((E.flatten.length:Int)+(bs:Int))=((E.flatten.length+bs:Nat):Int):=by rw [w64 (by omega) (by omega)]; omega
  rw [hw1]
  have next:∀ h3 (E':List (List α)) (last' L3:List α),L3=E'.flatten++last'→Runs key (2 * bs) E'→last'.length < 2 * bs→Srt key last'→L3.Perm ss→Km (Sl.on r) h h3→Gw lo h3 r 1 (L3.map (vv sl))→(ZE self (bs:Int)).wp h3 Q:=by
   intro h3 E' last' L3 e1 e2 e3 e4 e5 e6 e7
   unfold ZE
   rw [w64 (by omega) (by omega)]
   exact hself _ _ ⟨2 * bs,E',last',L3,by omega,e1,e2,e3,by omega,by omega,e4,e5,e6,e7⟩ (by omega)
  refine Kx (fun hle=>?_) (fun hgt=>?_)
  ·have hle:=of_decide_eq_true hle
   have hR2:2≤R.length:=by
    rcases Nat.lt_or_ge R.length 2 with h9 | h9
    ·exfalso
     have:R.length * bs≤1 * bs:=Nat.mul_le_mul_right _ (by omega)
     omega
    ·exact h9
   obtain ⟨b1,b2,R',rfl⟩:∃ b1 b2 R',R=b1::b2::R':=by
    match R,hR2 with
    | b1::b2::R',_=>exact ⟨b1,b2,R',rfl⟩
   obtain ⟨l1,s1⟩:=hR b1 List.mem_cons_self
   obtain ⟨l2,s2⟩:=hR b2 (List.mem_cons_of_mem _ List.mem_cons_self)
   have e0:L2=E.flatten++b1++b2++(R'.flatten++last):=by rw [hL2]; simp
   rw [e0] at G2
   refine KX (qX (C.perm hm2) _ (A:=b1) (B:=b2) (pre:=E.flatten) (post:=R'.flatten++last) (Nat.le_refl _) (by omega) (by omega) (C.keep _ _ hT K2) s1 s2 (fun p hp=>by rw [e0]; simp only [List.mem_append] at hp ⊢; rcases hp with hp | hp <;> simp [hp]) G2 (by rw [← e0]; omega) rfl (by rw [l1]) (by rw [l1,l2]; omega) (fun h3 X K3 G3 pX sX=>?_))
   have lX:=pX.length_eq
   rw [List.length_append,l1,l2] at lX
   have hE':=hE.snoc (b:=X) (by omega) sX
   have e3:(E++[X]).flatten=E.flatten++X:=by simp
   rw [w64 (n:=2 * (bs:Int)) (by omega) (by omega),w64 (by omega) (by omega)]
   refine hself3 _ _ ⟨E++[X],R',E.flatten++X++(R'.flatten++last),by rw [Prod.mk.injEq,e3,List.length_append]; omega,by rw [e3],hE',hR.tail.tail,?_,K2.trans K3,G3⟩ ?_
   ·refine List.Perm.trans ?_ hm2
    rw [e0,List.append_assoc E.flatten b1 b2]
    exact List.Perm.append_right _ (List.Perm.append_left _ pX)
   ·dsimp only; omega
  ·have hgt:=of_decide_eq_false hgt
   have hR1:R.length < 2:=by
    rcases Nat.lt_or_ge R.length 2 with h9 | h9
    ·exact h9
    ·exfalso
     have:2 * bs≤R.length * bs:=Nat.mul_le_mul_right _ h9
     omega
   refine Kx (fun hlt=>?_) (fun hge=>?_)
   ·have hlt:=of_decide_eq_true hlt
    obtain ⟨b1,rfl⟩:∃ b1,R=[b1]:=by
     match R,hR1 with
     | [],_ =>
      exfalso
      have h0:([]:List (List α)).length * bs=0:=by simp
      omega
     | [b1],_=>exact ⟨b1,rfl⟩
    obtain ⟨l1,s1⟩:=hR b1 List.mem_cons_self
    have e0:L2=E.flatten++b1++last++[]:=by rw [hL2]; simp
    have hll:[b1].length * bs=bs:=by simp
    rw [e0] at G2
    refine KX (qX (C.perm hm2) _ (A:=b1) (B:=last) (pre:=E.flatten) (post:=[]) (Nat.le_refl _) (by omega) (by omega) (C.keep _ _ hT K2) s1 sl_ (fun p hp=>by rw [e0]; simp only [List.mem_append] at hp ⊢; rcases hp with hp | hp <;> simp [hp]) G2 (by rw [← e0]; omega) rfl (by rw [l1]) (by rw [l1]; omega) (fun h3 X K3 G3 pX sX=>?_))
    have lX:=pX.length_eq
    rw [List.length_append,l1] at lX
    refine next h3 E X (E.flatten++X++[]) (by simp) hE (by omega) sX ?_ (K2.trans K3) G3
    refine List.Perm.trans ?_ hm2
    rw [e0,List.append_assoc E.flatten b1 last]
    exact List.Perm.append_right _ (List.Perm.append_left _ pX)
   ·have hge:=of_decide_eq_false hge
    match R,hR1 with
    | [],_=>exact next h2 E last L2 (by rw [hL2]; simp) hE (by omega) sl_ hm2 K2 G2
    | [b1],_ =>
     obtain ⟨l1,s1⟩:=hR b1 List.mem_cons_self
     have hll:[b1].length * bs=bs:=by simp
     have hlast:last=[]:=List.length_eq_zero_iff.1 (by omega)
     subst hlast
     exact next h2 E b1 L2 (by rw [hL2]; simp) hE (by omega) s1 hm2 K2 G2
 ·have hbn:n≤bs:=by have:=of_decide_eq_false hc; omega
  refine KQ (H hh L K G hm ?_)
  match D,hL,hD,hlen with
  | [],hL,_,_=>rw [hL]; exact sl_
  | [b1],hL,hD,hlen =>
   obtain ⟨l1,s1⟩:=hD b1 List.mem_cons_self
   have hll:[b1].length * bs=bs:=by simp
   have hlast:last=[]:=List.length_eq_zero_iff.1 (by omega)
   rw [hL,hlast]
   simpa using s1
  | b1::b2::D',_,_,hlen =>
   exfalso
   rw [List.length_cons,List.length_cons,Nat.succ_mul,Nat.succ_mul] at hlen
   omega
end
theorem KI0 {n:Nat} (hn:n≤549755813888):KFE n:=by
 intro α sl lo h Q r T cmp key ss hlen C hT G H
 unfold Ko Zx
 have hrl:=G.len
 rw [List.length_map,Nat.mul_one] at hrl
 rw [← hrl,hlen]
 refine KX (M.loop_inv (fun (t:Int × Int) hh=>∃ (D:List (List α)) (R L:List α),t=((D.flatten.length:Int),((D.flatten.length+20:Nat):Int))∧L=D.flatten++R∧Runs key 20 D∧L.Perm ss∧Km (Sl.on r) h hh∧Gw lo hh r 1 (L.map (vv sl))) (fun t _=>((n:Int)+1 - t.1).toNat) ?_
  ⟨[],ss,ss,by simp,by simp,(fun b hb=>by cases hb),List.Perm.refl _,Km.refl _ _,G⟩)
 rintro t hh ⟨D,R,L,rfl,hL,hD,hm,K,G1⟩ self hself
 have hLn:L.length=n:=by rw [hm.length_eq,hlen]
 have hl2:D.flatten.length+R.length=n:=by rw [← hLn,hL,List.length_append]
 unfold Zc
 dsimp only
 refine Kx (fun hc=>?_) (fun hc=>?_)
 ·have hc:=of_decide_eq_true hc
  have e0:L=D.flatten++R.take 20++R.drop 20:=by rw [hL,List.append_assoc,List.take_append_drop]
  have lt:(R.take 20).length=20:=by rw [List.length_take]; omega
  rw [e0] at G1
  have hi:=X5 (pre:=D.flatten) (mid:=R.take 20) (post:=R.drop 20) (Q:=fun _ h2=>(self (((D.flatten.length+20:Nat):Int),IntKind.wrap .i64 (((D.flatten.length+20:Nat):Int)+20))).wp h2 (fun _ h'=>(M.pure ():M Unit).wp h' Q)) (C.perm hm) (C.keep _ _ hT K) G1 (fun p hp=>by rw [e0]; exact List.mem_append_left _ (List.mem_append_right _ hp)) (by rw [← e0]; omega)
   (fun h2 mid' G2 p2 s2 K2=>by
    have lm:=p2.length_eq
    rw [lt] at lm
    have e3:(D++[mid']).flatten=D.flatten++mid':=by simp
    rw [w64 (by omega) (by omega)]
    refine hself _ _ ⟨D++[mid'],R.drop 20,D.flatten++mid'++R.drop 20,by rw [Prod.mk.injEq,e3,List.length_append]; omega,by rw [e3],hD.snoc lm s2,?_,K.trans K2,G2⟩ ?_
    ·refine List.Perm.trans ?_ hm
     rw [e0]
     exact List.Perm.append_right _ (List.Perm.append_left _ p2)
    ·dsimp only; omega)
  rw [lt] at hi
  exact KX hi
 ·have hc:=of_decide_eq_false hc
  have e0:L=D.flatten++R++[]:=by rw [hL,List.append_nil]
  rw [e0] at G1
  have hi:=X5 (pre:=D.flatten) (mid:=R) (post:=[]) (Q:=fun _ h2=>(M.loop (Ki r (n:Int) cmp) 20).wp h2 (fun _ h'=>(M.pure ():M Unit).wp h' Q)) (C.perm hm) (C.keep _ _ hT K) G1 (fun p hp=>by rw [hL]; exact List.mem_append_right _ hp) (by rw [← e0]; omega)
   (fun h2 mid' G2 p2 s2 K2=>by
    have lm:=p2.length_eq
    refine KIz (bs:=20) (D:=D) (last:=mid') C (C.keep _ _ hT (K.trans K2)) (L:=D.flatten++mid') (by rw [List.length_append]; omega) hn rfl hD (by omega) (by decide) (by omega) s2 ?_ (by simpa using G2) (fun h3 L' K3 G3 p3 s3=>KQ (H h3 L' G3 p3 s3 ((K.trans K2).trans K3)))
    refine List.Perm.trans ?_ hm
    rw [hL]
    exact List.Perm.append_left _ p2)
  rw [hl2] at hi
  exact KX hi
end Gx
namespace Gx
open Go Go.Proofs Go.Shelf Go.RowKit Go.Lib
set_option linter.unusedVariables false
set_option maxRecDepth 100000
def zF (ps:List (List Vl)):Prop:=ps.Pairwise (fun p q=>cmpV (kOf p) (kOf q) < 0)
theorem G0 {ps:List (List Vl)} (s:ps.Pairwise (fun p q=>¬ cmpV (kOf q) (kOf p) < 0)) (d:∀ i,∀ h:i+1 < ps.length,kOf ps[i]≠kOf ps[i+1]):zF ps:=by
 have s':Srt kOf ps:=s
 refine List.pairwise_iff_getElem.2 (fun i j hi hj hij=>?_)
 have h1:¬ cmpV (kOf ps[i+1]) (kOf ps[i]) < 0:=s'.le (Nat.le_succ i) (by omega)
 have h2:cmpV (kOf ps[i]) (kOf ps[i+1]) < 0:=by
  rcases Y0 (kOf ps[i]) (kOf ps[i+1]) with h | h | h
  ·exact h
  ·exact absurd h (d i (by omega))
  ·exact absurd h h1
 exact KH5 h2 (s'.le (show i+1≤j by omega) hj)
theorem KFK {ps qs:List (List Vl)} (p:ps.Perm qs) (s:zF ps) (t:zF qs):ps=qs:=by
 refine List.Perm.eq_of_pairwise (le:=fun p q=>cmpV (kOf p) (kOf q) < 0) ?_ s t p
 intro a b _ _ h1 h2
 have:=qW (kOf a) (kOf b)
 omega
theorem KB3 {ps qs:List (List Vl)} (p:ps.Perm qs) (s:zF ps) {i:Nat} (h:i+1 < qs.length):kOf qs[i]≠kOf qs[i+1]:=by
 have n1:(ps.map kOf).Nodup:=by
  unfold List.Nodup
  rw [List.pairwise_map]
  refine s.imp (fun {a b} hab e=>?_)
  rw [e,Vr] at hab
  exact absurd hab (by decide)
 have n2:(qs.map kOf).Nodup:=(p.map kOf).nodup_iff.1 n1
 intro e
 have:=List.pairwise_iff_getElem.1 n2 i (i+1) (by rw [List.length_map]; omega) (by rw [List.length_map]; omega) (by omega)
 rw [List.getElem_map,List.getElem_map] at this
 exact this e
theorem KAh {l:List Vl} {i:Nat} (h:2 * i+1 < l.length):Vz l i=[l[2 * i]'(by omega),l[2 * i+1]]:=by
 unfold Vz
 rw [List.drop_eq_getElem_cons (show 2 * i < l.length by omega),List.drop_eq_getElem_cons h]
 rfl
end Gx
namespace Gx
open Go
set_option linter.unusedVariables false
set_option linter.unusedSimpArgs false
theorem KGU {β:Type} {h:Heap} {Q:β→Heap→Prop} {z a b:Array Value} {f:Array Value→M β} (ha:a.size=4) (hb:b.size=4) (H:(f (a++b)).wp h Q):(KA3 4 2 z [(0,.agg a),(1,.agg b)]>>=f).wp h Q:=by
 refine ⟨a++b,?_,H⟩
 have hz:(zRow z (2 * 4)).size=8:=by simp [zRow]
 show Instr.fill (fun i=>some (i * 4,4)) (zRow z (2 * 4)) [(0,Value.agg a),(1,Value.agg b)]=some (a++b)
 rw [zf (off:=0) (size:=4) (v:=Value.agg a) (by simp) ha (by omega),zf (off:=4) (size:=4) (v:=Value.agg b) (by simp) hb (by rw [ND]; omega)]
 show some _=some _
 rw [show (Value.agg a).cells=a from rfl,show (Value.agg b).cells=b from rfl]
 congr 1
 apply Array.ext'
 rw [W2 _ _ _ (by rw [ND,Array.length_toList]; omega),W2 _ _ _ (by rw [Array.length_toList]; omega)]
 have h1:a.toList.length=4:=by rw [Array.length_toList]; exact ha
 have h2:b.toList.length=4:=by rw [Array.length_toList]; exact hb
 have h3:(zRow z (2 * 4)).toList.length=8:=by rw [Array.length_toList]; exact hz
 rw [List.take_zero,List.nil_append,Array.toList_append,List.take_append_of_le_length (by omega),List.take_of_length_le (by omega),h1,h2]
 rw [List.drop_eq_nil_iff.2 (by rw [List.length_append,List.length_drop]; omega),List.append_nil]
end Gx
namespace Gx
open Go Go.Proofs Go.Shelf Go.RowKit Go.Lib
set_option linter.unusedVariables false
set_option linter.unusedSimpArgs false
set_option maxRecDepth 100000
def KDj (p q:List Vl):Bool:=decide (¬ cmpV (kOf q) (kOf p) < 0)
theorem KFL {l:List Vl} (hev:l.length % 2=0) (hd:¬ ((Vd l (l.length / 2)).map kOf).Nodup):MapRes l vl0 5:=by
 have hs:((Vd l (l.length / 2)).mergeSort KDj).Pairwise (fun p q=>¬ cmpV (kOf q) (kOf p) < 0):=by
  have:=List.pairwise_mergeSort (le:=KDj) (fun a b c h1 h2=>by
   unfold KDj at *
   exact decide_eq_true (VT (of_decide_eq_true h2) (of_decide_eq_true h1))) (fun a b=>by
   unfold KDj
   rcases Y0 (kOf a) (kOf b) with h | h | h
   ·rw [decide_eq_true (KAg h)]; rfl
   ·rw [h,Vr]; rfl
   ·rw [decide_eq_true (KAg h),Bool.or_true]) (Vd l (l.length / 2))
  exact this.imp (fun h=>of_decide_eq_true h)
 have hp:=List.mergeSort_perm (Vd l (l.length / 2)) KDj
 refine .twice _ hev hp hs ?_
 refine Classical.byContradiction (fun hno=>hd ?_)
 have st:=G0 hs (fun i h e=>hno ⟨i,h,e⟩)
 have n1:(((Vd l (l.length / 2)).mergeSort KDj).map kOf).Nodup:=by
  unfold List.Nodup
  rw [List.pairwise_map]
  refine st.imp (fun {a b} hab e=>?_)
  rw [e,Vr] at hab
  exact absurd hab (by decide)
 exact (hp.map kOf).nodup_iff.1 n1
theorem KDk {l:List Vl} {v v':Vl} {e e':Int} (h1:MapRes l v e) (h2:MapRes l v' e'):v=v'∧e=e':=by
 cases h1 with
 | odd h =>
  cases h2 with
  | odd _=>exact ⟨rfl,rfl⟩
  | twice ps h' _ _ _=>omega
  | made ps h' _ _ _=>omega
 | twice ps h p s d =>
  cases h2 with
  | odd _=>omega
  | twice qs h' _ _ _=>exact ⟨rfl,rfl⟩
  | made qs h' p' s' d' =>
   obtain ⟨i,hi,e⟩:=d
   exact absurd e (KB3 (p'.trans p.symm) (G0 s' d') hi)
 | made ps h p s d =>
  cases h2 with
  | odd _=>omega
  | twice qs h' p' s' d' =>
   obtain ⟨i,hi,e⟩:=d'
   exact absurd e (KB3 (p.trans p'.symm) (G0 s d) hi)
  | made qs h' p' s' d' =>
   have:=KFK (p.trans p'.symm) (G0 s d) (G0 s' d')
   subst this
   exact ⟨rfl,rfl⟩
theorem Nw (l:List Vl) (n:Nat):Vd l (n+1)=Vd l n++[Vz l n]:=by
 unfold Vd
 rw [List.range_succ,List.map_append]; rfl
theorem KAi (l:List Vl):∀ (m n:Nat),n≤m→∃ r,Vd l m=Vd l n++r
 | 0,n,h=>⟨[],by rw [show n=0 by omega]; simp⟩
 | m+1,n,h=>by
  by_cases he:n=m+1
  ·exact ⟨[],by rw [he]; simp⟩
  ·obtain ⟨r,hr⟩:=KAi l m n (by omega)
   exact ⟨r++[Vz l m],by rw [Nw,hr,List.append_assoc]⟩
theorem KDl {ps:List (List Vl)} {p:List Vl} {j:Nat} (s:zF ps) (h1:∀ q (hq:q < ps.length),q < j→cmpV (kOf ps[q]) (kOf p) < 0) (h2:∀ hj:j < ps.length,cmpV (kOf p) (kOf ps[j]) < 0):zF (ps.take j++[p]++ps.drop j):=by
 unfold zF at s ⊢
 rw [List.append_assoc,List.pairwise_append]
 refine ⟨s.sublist (List.take_sublist _ _),List.pairwise_append.2 ⟨List.pairwise_singleton _ _,s.sublist (List.drop_sublist _ _),fun a ha b hb=>?_⟩,fun a ha b hb=>?_⟩
 ·rw [List.mem_singleton.1 ha]
  obtain ⟨i,hi,hji,rfl⟩:=WJ hb
  have h3:=h2 (by omega)
  by_cases hij:i=j
  ·subst hij; exact h3
  ·exact NG h3 (List.pairwise_iff_getElem.1 s j i (by omega) hi (by omega))
 ·obtain ⟨i,hi,hij,rfl⟩:=XL ha
  rcases List.mem_append.1 hb with hb | hb
  ·rw [List.mem_singleton.1 hb]; exact h1 i hi hij
  ·obtain ⟨k,hk,hjk,rfl⟩:=WJ hb
   exact List.pairwise_iff_getElem.1 s i k hi hk (by omega)
theorem KB4 {ps:List (List Vl)} (h:∀ p ∈ ps,p.length=2):∀ j,(ps.take j).flatten=ps.flatten.take (2 * j)∧(ps.drop j).flatten=ps.flatten.drop (2 * j):=by
 induction ps with
 | nil=>intro j; simp
 | cons p ps ih =>
  intro j
  cases j with
  | zero=>simp
  | succ j =>
   have hp:=h p List.mem_cons_self
   obtain ⟨i1,i2⟩:=ih (fun q hq=>h q (List.mem_cons_of_mem _ hq)) j
   rw [List.take_succ_cons,List.drop_succ_cons,List.flatten_cons,List.flatten_cons,i1,i2]
   constructor
   ·rw [List.take_append,List.take_of_length_le (l:=p) (by omega),hp,show 2 * (j+1) - 2=2 * j by omega]
   ·rw [List.drop_append,List.drop_of_length_le (l:=p) (by omega),hp,show 2 * (j+1) - 2=2 * j by omega,List.nil_append]
theorem KFM {ps:List (List Vl)} (h:∀ p ∈ ps,p.length=2):ps.flatten.length=2 * ps.length:=by
 induction ps with
 | nil=>rfl
 | cons p ps ih=>rw [List.flatten_cons,List.length_append,ih (fun q hq=>h q (List.mem_cons_of_mem _ hq)),h p List.mem_cons_self,List.length_cons]; omega
theorem KGV {ps:List (List Vl)} (h:∀ p ∈ ps,p.length=2) {j:Nat} (hj:j < ps.length):ps.flatten[2 * j]?=some (kOf ps[j]):=by
 have h1:=(KB4 h j).2
 rw [List.drop_eq_getElem_cons hj,List.flatten_cons] at h1
 have h2:(ps.flatten.drop (2 * j))[0]?=some (kOf ps[j]):=by
  rw [← h1]
  have:=h _ (List.getElem_mem hj)
  generalize ps[j]=p at this ⊢
  cases p with
  | nil=>cases this
  | cons a r=>rfl
 rw [List.getElem?_drop] at h2
 exact h2
theorem KGW {lo:Nat} {h:Heap} {Q:Sl→Heap→Prop} {e sz bytes:Nat} {z:Array Value} {r x:Sl} {olds news:List Value} (hz:z.size=sz) (ho:olds.length=r.len * sz) (hro:Y2 h r.base olds) (hn:news.length=x.len * sz) (hr:Y2 h x.base news) (h1:∀ v ∈ news,one v=true)
  (hb:(r.len+x.len) * bytes≤140737488355328) (hm:r.len+x.len≤9223372036854775807) (hlo:lo≤h.size) (hc:¬ r.len+x.len≤r.cap)
  (hq:∀ h' r',Ext h h'→Gw lo h' r' sz (olds++news)→(∀ i,Sl.on r' i→h.size≤i)→Q r' h'):(apL e sz bytes z r x).wp h Q:=by
 refine ⟨news,hn,hr,?_⟩
 unfold apGo
 rw [if_neg hc]
 refine ⟨hb,hm,olds,ho,hro,fun cap hcap=>hq _ _ (Ext.push _ _) (.inr ⟨h.size,e,_,rfl,hlo,Zj,?_,hcap,?_,fun j v hj=>?_⟩) (fun i ⟨a,ha,hi⟩=>by cases ha; exact Nat.le_of_eq hi)⟩
 ·simp only [Array.size_append,List.size_toArray,Xn,ho,hn,hz]
  rw [← Nat.add_mul,← Nat.add_mul]
  congr 1
  omega
 ·rw [List.length_append,ho,hn,Nat.add_mul]
 ·have hlt:=(List.getElem?_eq_some_iff.1 hj).1
  rw [List.length_append] at hlt
  rw [Array.getElem?_append_left (by simp; exact hlt)]
  rw [← hj]
  simp [List.getElem?_append,Array.getElem?_append]
theorem KFN {lo:Nat} {S:Nat→Prop} {h:Heap} {Q:Sl→Heap→Prop} {r x:Sl} {css css':List (Array Value)} {l l':List Vl} (hlo:lo≤h.size) (hS:∀ b,S b→b < h.size) (hw0:W4 css) (hl0:css.length=l.length) (hx0:r.len=l.length) (hr0:Y2 h r.base (Uj css)) (hv0:∀ j (h1:j < l.length) (h2:j < css.length),JS S h l[j] css[j])
  (hw:W4 css') (hl':css'.length=l'.length) (hx:x.len=l'.length) (hr:Y2 h x.base (Uj css')) (hv:∀ j (h1:j < l'.length) (h2:j < css'.length),JS S h l'[j] css'[j]) (hm:l.length+l'.length≤2199023255552) (hc:¬ r.len+x.len≤r.cap)
  (hq:∀ h' r',Ext h h'→VGw lo S h' r' (css++css') (l++l')→(∀ i,Sl.on r' i→h.size≤i)→Q r' h'):(apL KJ 4 56 (#[.int .i64 0,.int .i64 0,.string ByteArray.empty,.slice none 0 0]:Array Value) r x).wp h Q:=by
 refine KGW (lo:=lo) (olds:=Uj css) (news:=Uj css') rfl (by rw [Vq hw0,hl0,hx0]) hr0 (by rw [Vq hw,hl',hx]) hr (KBw hw) (by omega) (by omega) hlo hc (fun h' r' e G' on_=>?_)
 refine hq h' r' e ⟨?_,hw0.append hw,by rw [List.length_append,List.length_append,hl0,hl'],fun j h1 h2=>?_⟩ on_
 ·unfold Uj at G' ⊢
  rw [List.flatMap_append]
  exact G'
 ·by_cases hj:j < l.length
  ·rw [List.getElem_append_left hj,List.getElem_append_left (by rw [hl0]; exact hj)]
   exact (hv0 j hj _).same (fun b hb=>e.same b (hS b hb))
  ·rw [List.getElem_append_right (by omega),List.getElem_append_right (by omega)]
   simp only [hl0]
   exact (hv _ (by rw [List.length_append] at h1; omega) _).same (fun b hb=>e.same b (hS b hb))
theorem W4.take {a:List (Array Value)} (h:W4 a) (n:Nat):W4 (a.take n):=fun c hc=>h c (List.mem_of_mem_take hc)
theorem W4.drop {a:List (Array Value)} (h:W4 a) (n:Nat):W4 (a.drop n):=fun c hc=>h c (List.mem_of_mem_drop hc)
theorem KAj {css:List (Array Value)} (hw:W4 css) (n:Nat):∃ r,Uj css=Uj (css.take n)++r∧r=Uj (css.drop n):=by
 refine ⟨_,?_,rfl⟩
 unfold Uj
 rw [← List.flatMap_append,List.take_append_drop]
theorem KDm {lo:Nat} {h:Heap} {r:Sl} {css:List (Array Value)} (G:Gw lo h r 4 (Uj css)) (hw:W4 css) (n:Nat):Y2 h r.base (Uj (css.take n)):=by
 obtain ⟨t,e,_⟩:=KAj hw n
 rcases G.reads with h1 | ⟨a,ha,hc⟩
 ·rw [e] at h1
  exact .inl (List.append_eq_nil_iff.1 h1).1
 ·refine .inr ⟨a,ha,fun j v hj=>hc j v ?_⟩
  rw [e,List.getElem?_append_left (List.getElem?_eq_some_iff.1 hj).1]
  exact hj
theorem KDn {lo:Nat} {h:Heap} {r:Sl} {css:List (Array Value)} (G:Gw lo h r 4 (Uj css)) (hw:W4 css) {n:Nat} (hn:n≤css.length):Y2 h (if r.cap=n then r.base else r.base.map (·.add (n * 4))) (Uj (css.drop n)):=by
 obtain ⟨t,e,et⟩:=KAj hw n
 have hcap:=G.cap
 have hl:=G.len4 hw
 split
 ·rename_i h1
  refine .inl ?_
  rw [List.drop_of_length_le (by omega)]; rfl
 ·rcases G.reads with h1 | ⟨a,ha,hc⟩
  ·rw [e] at h1
   rw [← et]
   exact .inl (List.append_eq_nil_iff.1 h1).2
  ·refine .inr ⟨a.add (n * 4),by rw [ha]; rfl,fun j v hj=>?_⟩
   rw [Addr.add_add]
   refine hc _ v ?_
   rw [e,List.getElem?_append_right (by rw [Vq (hw.take n),List.length_take]; omega),et,Vq (hw.take n),List.length_take,show n * 4+j - min n css.length * 4=j by omega]
   exact hj
end Gx
namespace Gx
open Go Go.Proofs Go.Shelf Go.RowKit Go.Lib
set_option linter.unusedVariables false
set_option linter.unusedSimpArgs false
set_option maxRecDepth 100000
theorem KH7 {s:List UInt8} {a b:Nat}:(bs s).extract a b=bs ((s.drop a).take (b - a)):=by
 apply ByteArray.ext
 simp [bs,ByteArray.extract,ByteArray.copySlice]
theorem KDo (l:List UInt8):Jt (bs l)=l.map bv:=rfl
theorem KG9 {β:Type} {h:Heap} {Q:β→Heap→Prop} {s:List UInt8} {a b:Nat} {lo hi:Int} {f:ByteArray→M β} (hl:lo=(a:Int)) (hh:hi=(b:Int)) (h1:a≤b) (h2:b≤s.length) (H:(f (bs ((s.drop a).take (b - a)))).wp h Q):(slS (bs s) lo hi>>=f).wp h Q:=by
 subst hl; subst hh
 refine ⟨_,⟨by omega,by omega,by rw [UT]; omega,rfl⟩,?_⟩
 rw [Int.toNat_natCast,Int.toNat_natCast,KH7]
 exact H
theorem KAR {h:Heap} {Q:Bool→Heap→Prop} {x:Sl} {l:List UInt8} {g:Value} {p:UInt8→Bool} (hx:Bys h x l) (hl:l.length≤4611686018427387904)
  (hg:∀ (c:UInt8) (Q1:Bool→Heap→Prop),Q1 (p c) h→(GV Go.Proofs.Tryz.prog (fun r:Bool=>.bool r) g [.int .u8 (c.toNat:Int)]).wp h Q1)
  (H:Q (l.any p) h):(Z3 x g).wp h Q:=by
 unfold Z3 Jn
 have hxl:=hx.len
 refine KX (M.loop_inv (fun (t:Int) h'=>h'=h∧∃ i:Nat,t=(i:Int)∧i≤l.length∧(l.drop i).any p=l.any p) (fun t _=>((l.length:Int) - t).toNat) ?_ ⟨rfl,0,rfl,Nat.zero_le _,by simp⟩)
 rintro t h' ⟨rfl,i,rfl,hi,hd⟩ self hself
 unfold JU
 refine Kx (fun hc=>?_) (fun hc=>?_)
 ·have hlt:i < l.length:=by have:=of_decide_eq_true hc; omega
  rw [List.drop_eq_getElem_cons hlt,List.any_cons] at hd
  obtain ⟨b,hb,KV⟩:=hx.get hlt
  refine GW (by omega) (by omega) hb (Ux (n:=(l[i].toNat:Int)) ?_ (KX (hg l[i] _ ?_)))
  ·rw [show (i:Int).toNat * 1=i by omega]; exact KV
  refine Kx (fun ht=>KQ (KQ ?_)) (fun hf=>?_)
  ·rw [ht] at hd
   rw [show decide ((i:Int) ≥ 0)=l.any p by rw [← hd]; simp]
   exact H
  ·rw [hf,Bool.false_or] at hd
   rw [w64 (by omega) (by omega)]
   exact hself _ _ ⟨rfl,i+1,by simp,by omega,hd⟩ (by omega)
 ·have hge:i=l.length:=by have:=of_decide_eq_false hc; omega
  subst hge
  rw [List.drop_length] at hd
  refine KQ (KQ ?_)
  rw [show decide ((-1:Int) ≥ 0)=l.any p by rw [← hd]; rfl]
  exact H
def digB (c:UInt8):Bool:=decide (48≤c.toNat) && decide (c.toNat≤57)
theorem KDp {c:UInt8} {h:Heap} {Q:Bool→Heap→Prop} (H:Q (!digB c) h):(GO (c.toNat:Int)).wp h Q:=by
 unfold GO
 refine or_b (c:=decide ((c.toNat:Int) > 57)) (fun _ Q' hq=>KQ hq) (KQ ?_)
 rw [show (decide ((c.toNat:Int) < 48) || decide ((c.toNat:Int) > 57))=!digB c by
  unfold digB
  by_cases h1:c.toNat < 48
  ·simp [show ((c.toNat:Int) < 48) by omega,show ¬ 48≤c.toNat by omega]
  ·by_cases h2:c.toNat > 57
   ·simp [show ((c.toNat:Int) > 57) by omega,show ¬ c.toNat≤57 by omega]
   ·simp [show ¬ ((c.toNat:Int) < 48) by omega,show ¬ ((c.toNat:Int) > 57) by omega,show 48≤c.toNat by omega,show c.toNat≤57 by omega]]
 exact H
def ErrV (h:Heap):Prop:=∃ t p,KV h ⟨5,0,none⟩=some (.iface t p)
theorem ErrV.ext {h h':Heap} (H:ErrV h) (e:Ext h h'):ErrV h':=by obtain ⟨t,p,hc⟩:=H; exact ⟨t,p,e.cell hc⟩
theorem KDq {t:List UInt8} {h:Heap} {Q:ByteArray→Heap→Prop} (ht:t.length≤281474976710656) (H:∀ h',Ext h h'→Q (bs t) h'):(JW (bs t)).wp h Q:=by
 unfold JW
 rw [UT]
 refine Kx (fun h0=>?_) (fun h0=>?_)
 ·have:t=[]:=by have:=eq_of_beq h0; exact List.length_eq_zero_iff.1 (by omega)
  subst this
  exact KQ (H _ (Ext.refl _))
 ·have hne:t≠[]:=fun e=>by subst e; exact absurd h0 (by decide)
  have hpos:0 < t.length:=List.length_pos_iff.2 hne
  refine ⟨by omega,by omega,by omega,by omega,?_⟩
  rw [Int.toNat_natCast,Nat.mul_one]
  have e1:=Ext.push h (.cells (zRow #[.int .u8 0] t.length) Zi)
  have g1:(h.push (.cells (zRow #[.int .u8 0] t.length) Zi))[h.size]?=some (.cells (zRow #[.int .u8 0] t.length) Zi (0,0)):=Zj
  have s1:(h.push (.cells (zRow #[.int .u8 0] t.length) Zi)).size=h.size+1:=Array.size_push _
  generalize h.push (.cells (zRow #[.int .u8 0] t.length) Zi)=h1 at e1 g1 s1 ⊢
  have hz:(zRow #[.int .u8 0] t.length).size=t.length:=Xn _ _
  refine ⟨by rw [UT]; exact Nat.le_refl _,?_,?_⟩
  ·intro a ha j hj
   cases ha
   rw [UT] at hj
   rw [Zn,Nat.zero_add]
   refine ⟨⟨(zRow #[.int .u8 0] t.length)[j]'(by omega),?_⟩,JH g1⟩
   rw [Ks g1]; exact Array.getElem?_eq_getElem (by omega)
  show M.wp _ (hsetL h1 ((⟨h.size,0,none⟩:Addr).add 0) (Jt (bs t)) 0) Q
  rw [Zn,Nat.zero_add]
  have g2:=N7 (o:=0) (Jt (bs t)) h1 0 _ g1
  have e2:Ext h (hsetL h1 ⟨h.size,0,none⟩ (Jt (bs t)) 0):=e1.hsetL (Nat.le_refl _)
  have s2:=Yx (a:=⟨h.size,0,none⟩) (Jt (bs t)) h1 0
  have hlen:(Jt (bs t)).length=(zRow #[.int .u8 0] t.length).size:=by rw [hz]; simp [Jt,bs]
  rw [Nat.add_zero,ZV hlen] at g2
  generalize hsetL h1 ⟨h.size,0,none⟩ (Jt (bs t)) 0=h2 at g2 e2 s2 ⊢
  refine GW (b:=⟨h.size,0,none⟩) (by decide) (by show (0:Int) < ((t.length:Nat):Int); omega) rfl (.inr ⟨h.size,_,_,t,?_,rfl,hne,?_,by omega,g2,?_,?_⟩)
  ·rw [Zn]; rfl
  ·rw [List.size_toArray,hlen,hz]; exact Nat.le_refl _
  ·intro j x hx
   rw [List.getElem?_toArray]
   simp [Jt,bs,hx]
  ·intro h3 hs3 same3
   refine KQ (H _ ⟨by have:=e2.size; omega,fun i hi=>?_⟩)
   rw [same3 i (by omega)]
   exact e2.same i hi
theorem KBZ {fn t:List UInt8} {h:Heap} {Q:Option Addr→Heap→Prop} (ht:t.length≤281474976710656) (hv:ErrV h) (H:∀ h' a,Ext h h'→Q (some a) h'):(Uv (bs fn) (bs t)).wp h Q:=by
 obtain ⟨ty,p,hc⟩:=hv
 unfold Uv
 refine ⟨_,hc,KX (KDq ht (fun h1 e1=>KBk (e1.cell hc) ?_))⟩
 refine ⟨_,rfl,KHf (KQ (H _ _ (e1.pushed _)))⟩
theorem KDr {fn t:List UInt8} {h:Heap} {Q:Value→Heap→Prop} (ht:t.length≤281474976710656) (hv:ErrV h) (H:∀ h' u x,Ext h h'→Q (.iface u x) h'):(Vp (bs fn) (bs t) 10 64 (.iface Kn (.int .i64 1))).wp h Q:=by
 unfold Vp
 refine ⟨false,⟨_,_,_,rfl,rfl,rfl⟩,iteF rfl ⟨true,⟨_,_,_,rfl,rfl,rfl⟩,iteT rfl (KX (KBZ ht hv (fun h1 a e1=>KQ (H _ _ _ e1))))⟩⟩
def numD (t:List UInt8):List UInt8:=if t.head?=some 45 then t.tail else t
def numP (t:List UInt8):Int × Int :=
 if numD t=[] then (0,10) else if (numD t).all digB=false then (0,10) else if (numD t).head?=some 48∧t≠[48] then (0,10)
 else match Lib.parseIntB 64 t with | .ok n=>(n,0) | _=>(0,7)
def KI1 {α:Type}:Lib.NumEnd α→Bool
 | .ok _=>true
 | .range=>true
 | _=>false
theorem KAk (M:Nat):∀ (r:List UInt8) (acc:Nat),r.all digB=true→KI1 (parseUintM M acc r)=true
 | [],acc,_=>by rw [parseUintM]; rfl
 | c::r,acc,h=>by
  rw [List.all_cons,Bool.and_eq_true] at h
  have h1:=h.1
  unfold digB at h1
  rw [Bool.and_eq_true,decide_eq_true_iff,decide_eq_true_iff] at h1
  rw [parseUintM,if_pos h1]
  split
  ·rfl
  ·split
   ·rfl
   ·exact KAk M r _ h.2
theorem KH8 {c:UInt8}:((c.toNat:Int) == 45)=decide (some c=some (45:UInt8)):=by
 rw [eqI]
 refine decide_eq_decide.2 ⟨fun h=>?_,fun h=>by cases h; rfl⟩
 have:c=45:=UInt8.toNat_inj.1 (by show c.toNat=45; omega)
 rw [this]
theorem KI2 {c:UInt8}:((c.toNat:Int) == 48)=decide (some c=some (48:UInt8)):=by
 rw [eqI]
 refine decide_eq_decide.2 ⟨fun h=>?_,fun h=>by cases h; rfl⟩
 have:c=48:=UInt8.toNat_inj.1 (by show c.toNat=48; omega)
 rw [this]
theorem KDs {t:List UInt8} (h1:numD t≠[]) (h2:(numD t).all digB=true):KI1 (Lib.parseIntB 64 t)=true:=by
 cases t with
 | nil=>exact absurd rfl h1
 | cons c r =>
  have hd:numD (c::r)=(if c.toNat=43∨c.toNat=45 then r else c::r):=by
   unfold numD
   rw [List.head?_cons,List.tail_cons]
   by_cases h45:c=45
   ·subst h45; rfl
   ·have hn:c.toNat≠45:=fun e=>h45 (UInt8.toNat_inj.1 (by rw [e]; rfl))
    rw [if_neg (by simpa using h45)]
    by_cases h43:c.toNat=43
    ·exfalso
     unfold numD at h2
     rw [List.head?_cons,if_neg (by simpa using h45),List.all_cons,Bool.and_eq_true] at h2
     have:=h2.1
     unfold digB at this
     rw [Bool.and_eq_true,decide_eq_true_iff,decide_eq_true_iff] at this
     omega
    ·rw [if_neg (by omega)]
  rw [hd] at h1 h2
  unfold parseIntB
  dsimp only
  unfold parseUintB
  rw [if_neg h1]
  have:=KAk (2 ^ 64 - 1) _ 0 h2
  split
  ·rename_i hh; rw [hh] at this; cases this
  ·rfl
  ·split
   ·rfl
   ·split <;> rfl
theorem zw {t:List UInt8} {h:Heap} {Q:Int × Int→Heap→Prop} (ht:t.length≤281474976710656) (hv:ErrV h) (H:∀ h',Ext h h'→Q (numP t) h'):(WY (bs t) (bs (numD t))).wp h Q:=by
 have hdl:(numD t).length≤t.length:=by unfold numD; split <;> simp
 have hdl2:t.length≤(numD t).length+1:=by unfold numD; split <;> simp <;> omega
 unfold WY
 refine Jv ?_
 have fin:∀ (b:Bool) (h1:Heap),Ext h h1→b=(decide (numD t=[]) || !(numD t).all digB)→(M.wp (M.ite b (M.pure true) (do
  let Xx11←ixS (bs (numD t)) 0
  let Xx12←M.ite (Xx11 == 48) (do
   M.pure (!(sEq (bs t) (⟨#[48]⟩:ByteArray)))
   ) (do
   M.pure false
   )
  M.pure Xx12
  )>>=fun Xx10=>M.ite Xx10 (do
  M.pure (0,10)
  ) (do
  let Xx15←VR (bs t) 10 64
  let Xx17←isNI Xx15.2
  let Xx18←NE Xx15.1 Xx17
  M.pure (Xx18.1,Xx18.2)
  )) h1 Q):=by
  intro b h1 e1 hb
  refine KF6 (fun hbt=>?_) (fun hbf=>?_)
  ·refine UP (iteT rfl (KQ ?_))
   have:numP t=(0,10):=by
    unfold numP
    rw [hb,Bool.or_eq_true,decide_eq_true_iff,Bool.not_eq_true'] at hbt
    by_cases h0:numD t=[]
    ·rw [if_pos h0]
    ·rw [if_neg h0,if_pos (hbt.resolve_left h0)]
   rw [← this]
   exact H _ e1
  ·rw [hb,Bool.or_eq_false_iff,decide_eq_false_iff_not,Bool.not_eq_false'] at hbf
   obtain ⟨hd0,hda⟩:=hbf
   have hpos:0 < (numD t).length:=List.length_pos_iff.2 hd0
   refine KAP (i:=0) rfl hpos ?_
   have hhead:(numD t).head?=some ((numD t)[0]'hpos):=by rw [List.head?_eq_getElem?]; exact List.getElem?_eq_getElem hpos
   refine Jv (Yw (c:=decide (t≠[48])) (fun _ Q' hq=>KQ ?_) (UP ?_))
   ·rw [show (⟨#[48]⟩:ByteArray)=bs [48] from rfl,KE3]
    rw [show (!decide (t=[48]))=decide (t≠[48]) by simp]
    exact hq
   rw [KI2]
   have hnp:∀ X,numP t=(if (numD t).head?=some 48∧t≠[48] then (0,10) else X)↔numP t=(if (numD t).head?=some 48∧t≠[48] then (0,10) else X):=fun _=>Iff.rfl
   refine Kx (fun hz=>KQ ?_) (fun hz=>?_)
   ·rw [Bool.and_eq_true,decide_eq_true_iff,decide_eq_true_iff,← hhead] at hz
    have:numP t=(0,10):=by
     unfold numP
     rw [if_neg hd0,if_neg (by rw [hda]; decide),if_pos hz]
    rw [← this]
    exact H _ e1
   ·have hz':¬ ((numD t).head?=some 48∧t≠[48]):=fun hh=>by
     rw [hhead] at hh
     rw [decide_eq_true hh.1,decide_eq_true hh.2] at hz
     cases hz
    have hres:numP t=(match Lib.parseIntB 64 t with | .ok n=>(n,0) | _=>(0,7)):=by
     unfold numP
     rw [if_neg hd0,if_neg (by rw [hda]; decide),if_neg hz']
    have hns:=KDs hd0 hda
    refine KX ?_
    unfold VR
    refine KX ⟨rfl,rfl,by rw [UT]; omega,fun h2 s2 same2=>?_⟩
    have e2:Ext h h2:=e1.trans ⟨s2,same2⟩
    rw [show (bs t).data.toList=t from rfl]
    cases hp:Lib.parseIntB 64 t with
    | ok n =>
     rw [hp] at hres
     refine ⟨true,.inl ⟨rfl,rfl⟩,iteF rfl (KQ ⟨true,.inl ⟨rfl,rfl⟩,KX ?_⟩)⟩
     unfold NE
     refine iteF rfl (KQ (KQ ?_))
     show Q (n,0) h2
     rw [show (n,(0:Int))=numP t from hres.symm]
     exact H _ e2
    | range =>
     rw [hp] at hres
     refine ⟨false,.inr ⟨⟨_,_,rfl⟩,rfl⟩,iteT rfl (KX (KDr (fn:=[80,97,114,115,101,73,110,116]) ht (hv.ext e2) (fun h3 u x e3=>KQ ⟨false,.inr ⟨⟨_,_,rfl⟩,rfl⟩,KX ?_⟩)))⟩
     unfold NE
     refine iteT rfl (KQ (KQ ?_))
     show Q (0,7) h3
     rw [show ((0:Int),(7:Int))=numP t from hres.symm]
     exact H _ (e2.trans e3)
    | _=>rw [hp] at hns; cases hns
 refine KF6 (fun h0=>UP ?_) (fun h0=>?_)
 ·rw [sEq0] at h0
  exact fin _ _ (Ext.refl _) (by rw [h0]; rfl)
 ·rw [sEq0] at h0
  refine fun cap hcap mk hmk=>?_
  refine KX (KAR (l:=numD t) (p:=fun c=>!digB c) ⟨?_,.inr ⟨_,rfl,fun j v hj=>?_⟩⟩ (by omega) (fun c Q1 hq=>KA6 (KAG) (KBR _) (KDp hq)) (UP ?_))
  ·show (numD t).length=(bs (numD t)).size
   rw [UT]
  ·rw [Zn,Nat.zero_add,Ks Zj]
   rw [List.getElem?_map] at hj
   have hjl:j < (numD t).length:=by
    by_cases hh:j < (numD t).length
    ·exact hh
    ·rw [List.getElem?_eq_none (by omega)] at hj; cases hj
   rw [Array.getElem?_append_left (by simp [Jt,bs]; exact hjl)]
   rw [List.getElem?_toArray,KDo,List.getElem?_map]
   exact hj
  ·refine fin _ _ (Ext.push _ _) ?_
   rw [h0,Bool.false_or]
   rw [List.any_eq_not_all_not]
   simp
theorem KAS {t:List UInt8} {h:Heap} {Q:Int × Int→Heap→Prop} (ht:t.length≤281474976710656) (hv:ErrV h) (H:∀ h',Ext h h'→Q (numP t) h'):(qU (bs t)).wp h Q:=by
 unfold qU
 cases t with
 | nil =>
  refine Yw (c:=false) (fun hb _ _=>?_) ?_
  ·rw [sEq0] at hb; exact absurd hb (by decide)
  ·rw [Bool.and_false]
   exact iteF rfl (zw ht hv H)
 | cons c r =>
  refine Yw (c:=decide (some c=some (45:UInt8))) (fun hb Q' hq=>?_) ?_
  ·refine KAP (i:=0) rfl (by simp) (KQ ?_)
   rw [List.getElem_cons_zero,KH8]
   exact hq
  ·rw [sEq0]
   refine Kx (fun hb=>?_) (fun hb=>?_)
   ·rw [Bool.and_eq_true,decide_eq_true_iff (p:=some c=some 45)] at hb
    refine KG9 (a:=1) (b:=(c::r).length) rfl (by rw [UT]) (by simp) (Nat.le_refl _) ?_
    have:(((c::r).drop 1).take ((c::r).length - 1))=numD (c::r):=by
     unfold numD
     rw [List.head?_cons,if_pos hb.2]
     simp
    rw [this]
    exact zw ht hv H
   ·have:numD (c::r)=c::r:=by
     unfold numD
     rw [List.head?_cons,if_neg]
     intro hc
     rw [decide_eq_true hc] at hb
     simp at hb
    have h2:=zw ht hv H
    rw [this] at h2
    exact h2
end Gx
namespace Gx
open Go Go.Proofs Go.Shelf Go.RowKit Go.Lib Gx.Last
set_option linter.unusedVariables false
set_option linter.unusedSimpArgs false
set_option maxRecDepth 100000
abbrev vz:Array Value:=#[.int .i64 0,.int .i64 0,.string ByteArray.empty,.slice none 0 0]
def KDG (x0 x1 x2 x4:Addr):M Unit:=do
 let Xx2←ldI .i64 ((x4).add 0)
 M.need (vz.size=4)
 stG x0 vz
 chk (fun h:Heap=>(KV h ((x4).add 0)=some (.int .i64 Xx2)))
 stV x1 (.int .i64 Xx2)
 stV x2 (.bool false)
 M.pure ()
def GQ (p2 p3 p4:Addr):M (Array Value × Int × Bool):=do
 let c←ldG 4 p2
 let i←ldI .i64 p3
 let b←ldB p4
 M.pure (c,i,b)
def X6 (p2 p3 p4:Addr) (u:Value):M Unit:=do
 let i←M.get (fun _ i=>u=.iface Jr (.agg #[.int .i64 i]))
 let q←mkB Jr (#[.int .i64 0]:Array Value)
 M.need ((#[.int .i64 i]:Array Value).size=1)
 stG q (#[.int .i64 i]:Array Value)
 KDG p2 p3 p4 q
def KBa (p2 p3 p4:Addr):M (Array Value × Int × Bool):=do
 let x←ldG 4 p2
 M.need (x.size=4)
 stG p2 x
 stV p3 (.int .i64 0)
 stV p4 (.bool true)
 GQ p2 p3 p4
def KH9 (x0:ByteArray):M (Array Value × Int × Bool):=do
 let p2←mkB KJ vz
 let p3←mkB Gm (#[.int .i64 0]:Array Value)
 let p4←mkB zg (#[.bool false]:Array Value)
 let r←mkB Y4 (#[.string x0,.int .i64 0]:Array Value)
 let v←US (some r) 1
 match v with
 | .inl u=>X6 p2 p3 p4 u>>=fun _=>GQ p2 p3 p4
 | .inr cs=>do
  M.need (cs.size=4)
  stG p2 cs
  let i←ldI .i64 (r.add 1)
  M.ite (decide (i < (x0.size:Int))) (do
   let v←ZP (some r)
   match v with
   | .inl u=>X6 p2 p3 p4 u>>=fun _=>GQ p2 p3 p4
   | .inr _=>M.fail) (KBa p2 p3 p4)
def zx (r:Array Value × Int × Bool):Value:=.tuple #[.agg r.1,.int .i64 r.2.1,.bool r.2.2]
theorem KGX:zU Go.Proofs.Tryz.prog 142 0=some 0:=by kernel_rfl
theorem KI3:szB Go.Proofs.Tryz.prog 142 1=true:=by kernel_rfl
theorem zr4':((Go.Proofs.Tryz.prog.info? 4).bind (·.zero))=some (.bool false):=by kernel_rfl
theorem sz4':szB Go.Proofs.Tryz.prog 4 1=true:=by kernel_rfl
theorem sc4':scB Go.Proofs.Tryz.prog 4=true:=by kernel_rfl
theorem KHA:ifB Go.Proofs.Tryz.prog 20=true:=by kernel_rfl
theorem KI4:((Go.Proofs.Tryz.prog.info? 146).bind (·.zero))=some (.agg (#[.string ByteArray.empty,.int .i64 0]:Array Value)):=by kernel_rfl
theorem KI5:GC Go.Proofs.Tryz.prog 146=some [(0,1),(1,1)]:=by kernel_rfl
theorem KGY:zU Go.Proofs.Tryz.prog 146 1=some 1:=by kernel_rfl
theorem un9':Go.Proofs.Tryz.prog.underlying 9=some .string:=Tryz.underlying9
theorem KIA:Vg Go.Proofs.Tryz.f130 5 [[],[],[1],[0,0],[2,3,0,1,2,3],[4,0,1,2,3,4]] [[],[],[1],[0],[2],[]] [[],[],[1],[0],[0,1,2,3],[0,1,2,3,4]]=true:=by kernel_rfl
theorem KDH {c:Code} {P:Program} {N:Act→World→Prop} {R:Act→World→Prop} {Q:Exit→Act→List Frame→World→Prop} {a:Act} {cs:List Frame} {w:World} (h:c.wpIn (Fw none) 1 P (Ps N X0 R) a w)
  (hn:∀ a w,N a w→Q .normal a cs w) (hr:∀ a w,R a w→Q .ret a cs w):c.wpS P Q a cs w:=by
 refine wpS_of_wp (wp_mono (wpIn_wide.1 h) ?_)
 intro e a w hh
 cases e with
 | normal=>exact hn _ _ hh
 | ret=>exact hr _ _ hh
 | exit i=>exact hh.2.elim
 | goto l=>exact hh.elim
 | panic c=>obtain ⟨_,_,hh⟩:=hh; exact hh.elim
 | outgrown=>exact hh.elim
theorem zy {dst:Option Tmp} {ty:TypeId} {pos:String} {aft:Array Edge} {ρ:Operand→Value} {P:Program} {w:World}:(execOp ρ ⟨dst,.call { callee:=.builtin .recover,args:=#[],argTypes:=#[] },ty,pos,aft,none⟩).run P w=.ok .recover w:=by
 simp [execOp,resolve,invoke,builtin]
theorem NX {P:Program} {Q:Exit→Act→List Frame→World→Prop} {a:Act} {cs cs':List Frame} {w:World} {id d1 d2:Nat} {ty1 ty2:TypeId} {pos1 pos2:String} {aft1 aft2:Array Edge} {n:Frm} {l:List (Nat × Value)} {v:Value}
  (hE:Env n a l) (hn1:Nat.blt d1 n.size=true) (hn2:Nat.blt d2 n.size=true) (hv:recoverD cs=some (v,cs')∨(recoverD cs=none∧v=.nilIface∧cs'=cs))
  (h:∀ a',Env n a' ((d2,v)::(d1,v)::l)→Q .normal a' cs' w) :
  (Code.region id #[⟨some d1,.call { callee:=.builtin .recover,args:=#[],argTypes:=#[] },ty1,pos1,aft1,none⟩,⟨some d2,.assign (.tmp d1),ty2,pos2,aft2,none⟩] false).wpS P Q a cs w:=by
 refine wpS_region ?_
 have e1:=hE.put d1 v hn1
 have hr2:(execOp (a.put (some d1) v).eval ⟨some d2,.assign (.tmp d1),ty2,pos2,aft2,none⟩).run P w=.ok (.value v) w:=KE e1 (by simp [opv,look])
 have hf:=h _ (e1.put d2 v hn2)
 show wpOpsS P _ Q [0,1] a cs w
 rcases hv with hv | ⟨hv,rfl,rfl⟩
 ·simp [wpOpsS,Region.wanted,zy,hv,hr2]
  exact hf
 ·simp [wpOpsS,Region.wanted,zy,hv,hr2]
  exact hf
abbrev a130 (p2 p3 p4:Addr):Act:={ tmps:=#[.pointer (some p2),.pointer (some p3),.pointer (some p4)]++Array.replicate (20 - 3) undef,defers:=[] }
theorem KDI (p2 p3 p4:Addr):Env ⟨20,[]⟩ (a130 p2 p3 p4) [(0,.pointer (some p2)),(1,.pointer (some p3)),(2,.pointer (some p4))] :=
 Env.enter (n:=20) #[.pointer (some p2),.pointer (some p3),.pointer (some p4)] _ (Nat.le_of_ble_eq_true rfl) (Ke ⟨rfl,rfl,rfl,trivial⟩)
theorem KFO {p2 p3 p4:Addr} {w:World} {R:Ending→FrameMode→World→Prop} (h:R (.returned (.tuple #[])) .returning w):CallsD Go.Proofs.Tryz.prog 130 #[.pointer (some p2),.pointer (some p3),.pointer (some p4)] .returning w R:=by
 refine callsD_of_wpS Go.Proofs.Tryz.func130 rfl (fun c₀ cs hu=>?_)
 refine wpS_seq (NX (v:=.nilIface) (cs':=c₀::cs) (KDI p2 p3 p4) rfl rfl (.inr ⟨by simp [recoverD,hu],rfl,rfl⟩) (fun a hE=>?_))
 refine KDH (N:=fun _ _=>False) (R:=fun a w'=>w'=w∧Env ⟨20,[]⟩ a [(0,.pointer (some p2))]) ?_ (fun _ _ h=>h.elim) (fun a w' hh=>?_)
 ·refine KH (fun K hK_1=>?_)
  refine KH (fun K hK_2=>?_)
  refine KC ?_
  refine KB (v:=.nilIface) rfl rfl hE rfl (KD hE rfl) (fun a hE=>?_)
  refine KB (v:=.bool true) rfl rfl hE rfl (KL hE rfl rfl (g_ni (b:=true) (.inl ⟨rfl,rfl⟩)) (KEM KHA (.inl ⟨rfl,rfl⟩))) (fun a hE=>?_)
  refine KG ?_
  refine hK_2 _ _ ?_
  refine KS true hE rfl (fun _=>?_) (fun hb=>by cases hb)
  exact Kg ⟨rfl,hE.cut (.cons rfl Subs.nil)⟩
 ·obtain ⟨rfl,hE⟩:=hh
  refine ⟨hE.defers,.returning,by rw [← hu],_,KM (rs:=[]) (vs:=[]) hE rfl RV.nil,h⟩
theorem KFP {n:Frm} {a:Act} {w:World} {l:List (Nat × Value)} {P:Program} {dst:Option Tmp} {ty xt t:TypeId} {pos:String} {aft:Array Edge} {g:Option (Nat × Bool)} {x:Operand} {v:Value} {fs:Array Field} (hE:Env n a l) (hx:opv l x=some (.iface t v)) (ht:P.underlying t=some (.struct fs)) :
  (execOp a.eval ⟨dst,.typeAssert x xt t true,ty,pos,aft,g⟩).run P w=.ok (.value (.tuple #[v,.bool true])) w:=by
 simp [execOp,hE.opv hx,Instr.typeAssert,run_underlying ht]
theorem KFQ {p2 p3 p4:Addr} {w:World} {u:Value} {Q:Unit→Heap→Prop} {R:Ending→FrameMode→World→Prop} (H:(X6 p2 p3 p4 u).wp w.heap Q)
  (h:∀ w',Rest w w'→Q () w'.heap→R (.returned (.tuple #[])) (.panicking [{ v:=u,recovered:=true }]) w'):CallsD Go.Proofs.Tryz.prog 130 #[.pointer (some p2),.pointer (some p3),.pointer (some p4)] (.panicking [{ v:=u,recovered:=false }]) w R:=by
 refine callsD_of_wpS Go.Proofs.Tryz.func130 rfl (fun c₀ cs hu=>?_)
 obtain ⟨i,hi,H⟩:=H
 subst hi
 refine wpS_seq (NX (v:=.iface Jr (.agg #[.int .i64 i])) (cs':={ c₀ with mode:=.panicking [{ v:=.iface Jr (.agg #[.int .i64 i]),recovered:=true }] }::cs) (KDI p2 p3 p4) rfl rfl (.inl (by simp [recoverD,hu])) (fun a hE=>?_))
 have hR:Rest w w:=Rest.refl w
 refine KDH (N:=fun a w'=>Rest w w'∧Q () w'.heap∧Env ⟨20,[]⟩ a [(0,.pointer (some p2))]) (R:=fun _ _=>False) ?_ (fun a w' hh=>?_) (fun _ _ h=>h.elim)
 ·refine KH (fun K hK_1=>?_)
  refine KH (fun K hK_2=>?_)
  refine KC ?_
  refine KB (v:=.iface Jr (.agg #[.int .i64 i])) rfl rfl hE rfl (KD hE rfl) (fun a hE=>?_)
  refine KB (v:=.bool false) rfl rfl hE rfl (KL hE rfl rfl (g_ni (b:=false) (.inr ⟨⟨_,_,rfl⟩,rfl⟩)) (KEM KHA (.inr ⟨⟨_,_,rfl⟩,rfl⟩))) (fun a hE=>?_)
  refine KG ?_
  refine hK_2 _ _ ?_
  refine KS false hE rfl (fun hb=>by cases hb) (fun _=>?_)
  refine Ka ?_
  refine hK_1 _ _ ?_
  refine KH (fun K hK_3=>?_)
  refine KC ?_
  refine KB (v:=.iface Jr (.agg #[.int .i64 i])) rfl rfl hE rfl (KD hE rfl) (fun a hE=>?_)
  refine KB (v:=.tuple #[.agg #[.int .i64 i],.bool true]) rfl rfl hE rfl (KFP hE rfl Tryz.underlying142) (fun a hE=>?_)
  refine KB (v:=.tuple #[.agg #[.int .i64 i],.bool true]) rfl rfl hE rfl (KD hE rfl) (fun a hE=>?_)
  refine KB (v:=.agg #[.int .i64 i]) rfl rfl hE rfl (ZF hE rfl rfl) (fun a hE=>?_)
  refine KB (v:=.bool true) rfl rfl hE rfl (ZF hE rfl rfl) (fun a hE=>?_)
  obtain ⟨q,hq,H⟩:=H
  refine ZR (v:=.pointer (some q)) rfl rfl hE rfl hR (Z4 KIg hq) (fun a w hE hR hh=>?_)
  replace H:=M.at hh H; clear hh
  obtain ⟨qz,H⟩:=H
  obtain ⟨u_3,qu_3,H⟩:=H
  refine JI rfl rfl hE hR (Kv hE rfl rfl KI3 qz qu_3) (fun a w hE hR hh=>?_)
  replace H:=M.at hh H; clear hh
  refine KB (v:=.bool true) rfl rfl hE rfl (KE hE rfl) (fun a hE=>?_)
  refine KG ?_
  refine hK_3 _ _ ?_
  refine KH (fun K hK_4=>?_)
  refine KH (fun K hK_5=>?_)
  refine KC ?_
  refine KB (v:=.bool true) rfl rfl hE rfl (KD hE rfl) (fun a hE=>?_)
  refine KB (v:=.bool false) rfl rfl hE rfl (r_un hE rfl GB) (fun a hE=>?_)
  refine KG ?_
  refine hK_5 _ _ ?_
  refine KS false hE rfl (fun hb=>by cases hb) (fun _=>?_)
  refine Ka ?_
  refine hK_4 _ _ ?_
  replace hE:Env ⟨20,[]⟩ a [(0,.pointer (some p2)),(1,.pointer (some p3)),(2,.pointer (some p4)),(4,.pointer (some q))]:=hE.cut (.cons rfl (.cons rfl (.cons rfl (.cons rfl Subs.nil))))
  obtain ⟨Xx2,qXx2,H⟩:=H
  have hT:=Jf KIA rfl rfl
  refine Zq (fun w:World=>(fun h:Heap=>(KV h ((q).add 0)=some (.int .i64 Xx2))) w.heap) [4,5] #[false,false,false,false,false,false] mo hR rfl rfl (fun w' e=>by rw [e]; exact qXx2) (fun w hh hR hs=>?_)
  replace H:=M.at hh H; clear hh
  refine KF (i:=0) (v:=.agg vz) #[true,false,false,false,false,false] rfl rfl hT (by kernel_rfl) hE rfl (KA rfl) (fun w=>YD bd24) (fun a hE=>?_)
  refine KF (i:=1) (v:=.pointer (some ((q).add 0))) #[true,true,false,false,false,false] rfl rfl hT (by kernel_rfl) hE rfl (KA rfl) (fun w=>KI hE rfl KGX) (fun a hE=>?_)
  refine Kt (i:=2) (v:=.int .i64 Xx2) #[true,true,true,false,false,false] rfl rfl hT (by kernel_rfl) hE rfl (KA rfl) hs (fun w s=>KU hE rfl sc3 s) (fun a hE=>?_)
  obtain ⟨qz,H⟩:=H
  obtain ⟨u_3,qu_3,H⟩:=H
  obtain ⟨_,sA,H⟩:=H
  refine KJK (i:=3) #[true,true,true,true,false,false] rfl rfl hT (by kernel_rfl) rfl hE hR (KA rfl) (Kv hE rfl rfl sz24 qz qu_3)  (fun w' e=>by rw [e]; exact sA) (fun a w hE hR hh hs=>?_)
  replace H:=M.at hh H; clear hh
  obtain ⟨u_4,qu_4,H⟩:=H
  refine Gh (i:=4) #[true,true,true,true,true,false] rfl rfl hT (by kernel_rfl) rfl hE hR (KA rfl) (JK hE rfl rfl sz3 qu_4)  (fun a w hE hR hh=>?_)
  replace H:=M.at hh H; clear hh
  obtain ⟨u_5,qu_5,H⟩:=H
  refine Gh (i:=5) #[true,true,true,true,true,true] rfl rfl hT (by kernel_rfl) rfl hE hR (KA rfl) (JK hE rfl rfl sz4' qu_5)  (fun a w hE hR hh=>?_)
  replace H:=M.at hh H; clear hh
  refine JM hT (by kernel_rfl) ?_
  exact ⟨hR,H,hE.cut (.cons rfl Subs.nil)⟩
 ·obtain ⟨hR,hq,hE⟩:=hh
  exact ⟨hE.defers,_,rfl,_,KM (rs:=[]) (vs:=[]) hE rfl RV.nil,h _ hR hq⟩
theorem KAl {Q:Array Value × Int × Bool→Heap→Prop} {w0 w:World} {a:Act} {l:List (Nat × Value)} {p2 p3 p4:Addr} {l0:List Deferred} (hE:EnvD l0 22 a l) (h2:look l 2=some (.pointer (some p2))) (h3:look l 3=some (.pointer (some p3))) (h4:look l 4=some (.pointer (some p4))) (hR:Rest w0 w) (H:(GQ p2 p3 p4).wp w.heap Q) :
  ∃ v,(results Tryz.f75 a.tmps).run Tryz.prog w=.ok v w∧∃ r,Ending.returned v=.returned (zx r)∧Q r w.heap∧Rest w0 w:=by
 obtain ⟨c,qc,H⟩:=H
 obtain ⟨i,qi,H⟩:=H
 obtain ⟨b,qb,H⟩:=H
 exact ⟨_,KM (a:={ tmps:=a.tmps,defers:=[] }) (rs:=[.cell 2 24,.cell 3 3,.cell 4 4]) hE.env rfl (RV.cellG h2 ag24 qc (RV.cell h3 sc3 qi (RV.cell h4 sc4' qb RV.nil))),(c,i,b),rfl,H,hR⟩
abbrev dfr (p2 p3 p4:Addr):Deferred:={ target:=.fn (.func 130) #[.pointer (some p2),.pointer (some p3),.pointer (some p4)],args:=#[] }
theorem KB5 {p2 p3 p4:Addr} {w:World}:(invoke (.fn (.func 130) #[.pointer (some p2),.pointer (some p3),.pointer (some p4)]) #[]).run Tryz.prog w=.ok (.enter 130 #[.pointer (some p2),.pointer (some p3),.pointer (some p4)]) w:=by
 have h:=KO Tryz.func130 (by kernel_rfl) rfl #[.pointer (some p2),.pointer (some p3),.pointer (some p4)] w
 simp [invoke,h]
theorem KGZ {Q:Array Value × Int × Bool→Heap→Prop} {w0 w:World} {a:Act} {l:List (Nat × Value)} {p2 p3 p4:Addr} (hE:EnvD [dfr p2 p3 p4] 22 a l) (h2:look l 2=some (.pointer (some p2))) (h3:look l 3=some (.pointer (some p3))) (h4:look l 4=some (.pointer (some p4))) (hR:Rest w0 w) (H:(GQ p2 p3 p4).wp w.heap Q) :
  Leaves Tryz.prog Tryz.f75 a.tmps (fun e w'=>∃ r,e=.returned (zx r)∧Q r w'.heap∧Rest w0 w') a.defers .returning w:=by
 rw [hE.def_]
 refine leaves_cons (by simp) KB5 (KFO ?_)
 exact KAl hE h2 h3 h4 hR H
theorem KDJ {Q:Array Value × Int × Bool→Heap→Prop} {w0 w:World} {a:Act} {l:List (Nat × Value)} {p2 p3 p4:Addr} {u:Value} (hE:EnvD [dfr p2 p3 p4] 22 a l) (h2:look l 2=some (.pointer (some p2))) (h3:look l 3=some (.pointer (some p3))) (h4:look l 4=some (.pointer (some p4))) (hR:Rest w0 w) (H:(X6 p2 p3 p4 u>>=fun _=>GQ p2 p3 p4).wp w.heap Q) :
  Leaves Tryz.prog Tryz.f75 a.tmps (fun e w'=>∃ r,e=.returned (zx r)∧Q r w'.heap∧Rest w0 w') a.defers (.panicking [{ v:=u,recovered:=false }]) w:=by
 rw [hE.def_]
 refine leaves_cons (by simp) KB5 (KFQ (M.unbind H) (fun w' hR' H'=>?_))
 show Leaves _ _ _ _ [] (settle (.panicking [{ v:=u,recovered:=true }])) w'
 exact KAl hE h2 h3 h4 (hR.trans hR') H'
theorem KI6 (x0:ByteArray):ZK Go.Proofs.Tryz.prog qA #[.string x0] zx (KH9 x0):=by
 intro W0 Q H
 refine calls_of_wp_defers Go.Proofs.Tryz.func75 rfl ?_
 refine (fun hs=>wpIn_wide.1 hs) (?_:Code.wpIn (Fw none) 1 _ _ _ _ _)
 have hE0:Env ⟨22,[]⟩ { tmps:=#[.string x0]++Array.replicate (22 - 1) undef,defers:=[] } [(0,.string x0)]:=Env.enter (n:=22) #[.string x0] _ (Nat.le_of_ble_eq_true rfl) (Ke ⟨rfl,trivial⟩)
 have hE:EnvD [] 22 { tmps:=#[.string x0]++Array.replicate (22 - 1) undef,defers:=[] } [(0,.string x0)]:=⟨hE0,rfl⟩
 have hR:Rest W0 W0:=Rest.refl W0
 obtain ⟨p2,q2,H⟩:=H
 refine wpIn_seq (GE ?_)
 refine KCt (v:=.pointer (some p2)) rfl rfl hE rfl hR (fun b hE=>Z4 zr24 q2) (fun a w1 hE hR hh=>?_)
 replace H:=M.at hh H; clear hh
 obtain ⟨p3,q3,H⟩:=H
 refine KCt (v:=.pointer (some p3)) rfl rfl hE rfl hR (fun b hE=>Z4 zr3 q3) (fun a w1 hE hR hh=>?_)
 replace H:=M.at hh H; clear hh
 obtain ⟨p4,q4,H⟩:=H
 refine KCt (v:=.pointer (some p4)) rfl rfl hE rfl hR (fun b hE=>Z4 zr4' q4) (fun a w1 hE hR hh=>?_)
 replace H:=M.at hh H; clear hh
 refine KDZ ?_
 refine wpIn_seq (GE ?_)
 refine N8 (v:=.func (.func 130) #[] #[.pointer (some p2),.pointer (some p3),.pointer (some p4)]) rfl rfl hE rfl (fun b hE=>qh hE rfl) (fun a hE=>?_)
 refine KHi hE rfl (fun a hE=>?_)
 replace hE:EnvD [dfr p2 p3 p4] 22 a [(0,.string x0),(2,.pointer (some p2)),(3,.pointer (some p3)),(4,.pointer (some p4))]:=⟨hE.env.cut (.cons rfl (.cons rfl (.cons rfl (.cons rfl Subs.nil)))),hE.def_⟩
 refine KDZ ?_
 refine wpIn_seq (GE ?_)
 refine N8 (v:=.string x0) rfl rfl hE rfl (fun b hE=>KD hE rfl) (fun a hE=>?_)
 refine N8 (v:=.agg (#[.string x0,.int .i64 0]:Array Value)) rfl rfl hE rfl (fun b hE=>Uw hE rfl KI4 KI5 (by rfl)) (fun a hE=>?_)
 obtain ⟨r,qr,H⟩:=H
 refine KCt (v:=.pointer (some r)) rfl rfl hE rfl hR (fun b hE=>YP hE rfl qr) (fun a w1 hE hR hh=>?_)
 replace H:=M.at hh H; clear hh
 refine N8 (v:=.pointer (some r)) rfl rfl hE rfl (fun b hE=>KE hE rfl) (fun a hE=>?_)
 replace hE:EnvD [dfr p2 p3 p4] 22 a [(0,.string x0),(2,.pointer (some p2)),(3,.pointer (some p3)),(4,.pointer (some p4)),(5,.pointer (some r))]:=⟨hE.env.cut (.cons rfl (.cons rfl (.cons rfl (.cons rfl (.cons rfl Subs.nil))))),hE.def_⟩
 refine KDZ ?_
 refine wpIn_seq (GE ?_)
 refine N8 (v:=.pointer (some r)) rfl rfl hE rfl (fun b hE=>KD hE rfl) (fun a hE=>?_)
 refine KEO hE hR Vj rfl (Yh (some r) 1) (M.unbind H) (fun u w1 hR H=>?_) (fun cs a1 w1 ea hR H=>?_)
 ·exact KDJ hE rfl rfl rfl hR H
 replace hE:EnvD [dfr p2 p3 p4] 22 a1 _:=ea ▸ hE.put 11 (.agg cs) rfl
 obtain ⟨qz,H⟩:=H
 obtain ⟨u_6,qu_6,H⟩:=H
 refine KF8 rfl rfl hE hR (fun b hE=>Kv hE rfl rfl sz24 qz qu_6) (fun a w hE hR hh=>?_)
 replace H:=M.at hh H; clear hh
 replace hE:EnvD [dfr p2 p3 p4] 22 a [(0,.string x0),(2,.pointer (some p2)),(3,.pointer (some p3)),(4,.pointer (some p4)),(5,.pointer (some r))]:=⟨hE.env.cut (.cons rfl (.cons rfl (.cons rfl (.cons rfl (.cons rfl Subs.nil))))),hE.def_⟩
 refine KDZ ?_
 obtain ⟨i,qi,H⟩:=H
 refine wpIn_seq (wpIn_mono (Q:=Exit.then (fun a w1=>EnvD [dfr p2 p3 p4] 22 a [(0,.string x0),(2,.pointer (some p2)),(3,.pointer (some p3)),(4,.pointer (some p4)),(5,.pointer (some r))]∧Rest W0 w1∧(KBa p2 p3 p4).wp w1.heap Q)
  (bodyPostD Tryz.prog Tryz.f75 (fun e w'=>∃ r,e=.returned (zx r)∧Q r w'.heap∧Rest W0 w'))) ?_ ?_)
 ·refine wpIn_seq (GE ?_)
  refine N8 (v:=.pointer (some r)) rfl rfl hE rfl (fun b hE=>KD hE rfl) (fun a hE=>?_)
  refine N8 (v:=.pointer (some r)) rfl rfl hE rfl (fun b hE=>KW hE rfl) (fun a hE=>?_)
  refine N8 (v:=.pointer (some (r.add 1))) rfl rfl hE rfl (fun b hE=>KI hE rfl KGY) (fun a hE=>?_)
  refine N8 (v:=.int .i64 i) rfl rfl hE rfl (fun b hE=>KU hE rfl sc3 qi) (fun a hE=>?_)
  refine N8 (v:=.string x0) rfl rfl hE rfl (fun b hE=>KD hE rfl) (fun a hE=>?_)
  refine N8 (v:=.int .i64 (x0.size:Int)) rfl rfl hE rfl (fun b hE=>U3 hE rfl un9') (fun a hE=>?_)
  refine N8 (v:=.bool (decide (i < (x0.size:Int)))) rfl rfl hE rfl (fun b hE=>KL hE rfl rfl KN JL) (fun a hE=>?_)
  refine KDZ ?_
  refine KId (decide (i < (x0.size:Int))) hE rfl (fun hb=>?_) (fun hb=>?_)
  ·replace H:=M.ite_t hb H
   refine GE ?_
   refine N8 (v:=.pointer (some r)) rfl rfl hE rfl (fun b hE=>KD hE rfl) (fun a hE=>?_)
   refine KEO hE hR Zg rfl (Zr (some r)) (M.unbind H) (fun u w1 hR H=>?_) (fun cs a1 w1 ea hR H=>H.elim)
   exact KDJ hE rfl rfl rfl hR H
  ·replace H:=M.ite_f hb H
   refine wpIn_skip ?_
   exact ⟨⟨hE.env.cut (.cons rfl (.cons rfl (.cons rfl (.cons rfl (.cons rfl Subs.nil))))),hE.def_⟩,hR,H⟩
 ·intro e a w hh
  cases e with
  | normal =>
   obtain ⟨hE,hR,H⟩:=hh
   obtain ⟨x,qx,H⟩:=H
   obtain ⟨qz,H⟩:=H
   obtain ⟨u_6,qu_6,H⟩:=H
   refine wpIn_seq (GE ?_)
   refine N8 (v:=.agg x) rfl rfl hE rfl (fun b hE=>ZN hE rfl ag24 qx) (fun a hE=>?_)
   refine KF8 rfl rfl hE hR (fun b hE=>Kv hE rfl rfl sz24 qz qu_6) (fun a w hE hR hh=>?_)
   replace H:=M.at hh H; clear hh
   obtain ⟨u_7,qu_7,H⟩:=H
   refine KF8 rfl rfl hE hR (fun b hE=>JK hE rfl rfl sz3 qu_7) (fun a w hE hR hh=>?_)
   replace H:=M.at hh H; clear hh
   obtain ⟨u_8,qu_8,H⟩:=H
   refine KF8 rfl rfl hE hR (fun b hE=>JK hE rfl rfl sz4' qu_8) (fun a w hE hR hh=>?_)
   replace H:=M.at hh H; clear hh
   refine KDZ ?_
   refine wpIn_ret ?_
   exact KGZ hE rfl rfl rfl hR H
  | exit i=>exact hh
  | ret=>exact hh
  | goto l=>exact hh
  | panic c=>exact hh
  | outgrown=>exact hh
end Gx
namespace Gx
open Go Go.Proofs Go.Shelf Go.RowKit Go.Lib
set_option linter.unusedVariables false
set_option linter.unusedSimpArgs false
set_option maxRecDepth 100000
structure Rd (h:Heap) (b:Nat) (s:List UInt8) (i:Nat):Prop where
 blk:h[b]?=some (.cells #[.string (bs s),.int .i64 (i:Int)] Y4 (0,0))
 le:i≤s.length
 small:s.length≤1099511627776
def K9 (s:List UInt8) (i:Nat):UInt8:=(s[i]?).getD 0
def G8 (e:Nat):Value:=.iface Jr (.agg #[.int .i64 (e:Int)])
abbrev Kb (b:Nat):Heap→Heap→Prop:=Km (fun k=>k=b)
theorem Rd.ext {h h':Heap} {b:Nat} {s:List UInt8} {i:Nat} (R:Rd h b s i) (e:Ext h h'):Rd h' b s i:=⟨e.blk R.blk,R.le,R.small⟩
theorem Rd.lt {h:Heap} {b:Nat} {s:List UInt8} {i:Nat} (R:Rd h b s i):b < h.size:=GR R.blk
theorem ErrV.km {h h':Heap} {b:Nat} (H:ErrV h) (k:Kb b h h') (hb:b≠5):ErrV h':=by
 obtain ⟨t,p,hc⟩:=H
 refine ⟨t,p,?_⟩
 have h5:5 < h.size:=qV hc
 have:=k.same 5 h5 (fun e=>hb e.symm)
 unfold KV at hc ⊢
 rw [this]
 exact hc
theorem WT {s:List UInt8} {i:Nat} (h:K9 s i≠0):i < s.length:=by
 by_cases hi:i < s.length
 ·exact hi
 ·unfold K9 at h
  rw [List.getElem?_eq_none (by omega)] at h
  exact absurd rfl h
theorem zQ {s:List UInt8} {i:Nat} (hi:i < s.length):K9 s i=s[i]:=by unfold K9; rw [List.getElem?_eq_getElem hi]; rfl
section
variable {β:Type} {h:Heap} {Q:β→Heap→Prop} {b i:Nat} {s:List UInt8}
theorem KCU {f:ByteArray→M β} (R:Rd h b s i) (H:(f (bs s)).wp h Q):(ldS ((⟨b,0,none⟩:Addr).add 0)>>=f).wp h Q:=Gj (by rw [Zn,Ks R.blk]; rfl) H
theorem zJ {f:Int→M β} (R:Rd h b s i) (H:(f (i:Int)).wp h Q):(ldI .i64 ((⟨b,0,none⟩:Addr).add 1)>>=f).wp h Q:=Ux (by rw [Zn,Ks R.blk]; rfl) H
theorem KJh {f:Unit→M β} (R:Rd h b s i) (hi:i < s.length) (H:∀ h',Upd b h h'→Rd h' b s (i+1)→(f ()).wp h' Q):(stV ((⟨b,0,none⟩:Addr).add 1) (.int .i64 (IntKind.wrap .i64 ((i:Int)+1)))>>=f).wp h Q:=by
 have hsm:=R.small
 rw [w64 (by omega) (by omega)]
 refine Gk (x:=.int .i64 (i:Int)) (by rw [Zn,Ks R.blk]; rfl) (by rw [Zn]; exact JH R.blk) rfl ?_
 rw [Zn]
 exact H _ (Upd.hset _ _ _ _) ⟨Wf R.blk,hi,hsm⟩
theorem zz {f:Unit→M β} (R:Rd h b s i) (hi:i < s.length) (H:∀ h',Upd b h h'→Rd h' b s (i+1)→(f ()).wp h' Q) :
  (nilP (some ⟨b,0,none⟩)>>=fun x=>ldI .i64 (x.add 1)>>=fun y=>nilP (some ⟨b,0,none⟩)>>=fun z=>stV (z.add 1) (.int .i64 (IntKind.wrap .i64 (y+1)))>>=f).wp h Q :=
 Uf (zJ R (Uf (KJh R hi H)))
end
theorem VS {h:Heap} {Q:Int→Heap→Prop} {b i:Nat} {s:List UInt8} (R:Rd h b s i) (H:Q ((K9 s i).toNat:Int) h):(ZC (some ⟨b,0,none⟩)).wp h Q:=by
 unfold ZC
 refine Uf (Uf (zJ R (KCU R ?_)))
 rw [UT]
 refine Kx (fun hc=>?_) (fun hc=>KQ ?_)
 ·have hi:i < s.length:=by have:=of_decide_eq_true hc; omega
  refine Uf (Uf (KCU R (zJ R (KAP rfl hi (KQ ?_)))))
  rw [← zQ hi]
  exact H
 ·have hi:¬ i < s.length:=by have:=of_decide_eq_false hc; omega
  unfold K9 at H
  rw [List.getElem?_eq_none (by omega)] at H
  exact H
theorem WK {h:Heap} {Q:Value ⊕ Unit→Heap→Prop} {b i:Nat} {s:List UInt8} (R:Rd h b s i) (H:Q (.inl (G8 i)) h):(ZP (some ⟨b,0,none⟩)).wp h Q:=by
 unfold ZP
 exact Uf (zJ R (KQ H))
theorem q7 {c:UInt8} {h:Heap} {Q:Bool→Heap→Prop} (H:Q (digB c) h):(WS (c.toNat:Int)).wp h Q:=by
 unfold WS
 refine Yw (c:=decide ((c.toNat:Int)≤57)) (fun _ Q' hq=>KQ hq) (KQ ?_)
 rw [show (decide ((c.toNat:Int) ≥ 48) && decide ((c.toNat:Int)≤57))=digB c by
  unfold digB
  congr 1
  ·exact decide_eq_decide.2 (by omega)
  ·exact decide_eq_decide.2 (by omega)]
 exact H
def G9 (s:List UInt8):List UInt8→Nat→Except Nat Nat
 | [],i=>.ok i
 | c::r,i=>if s[i]?=some c then G9 s r (i+1) else .error i
theorem Wt {s:List UInt8}:∀ {lit:List UInt8} {i j:Nat},G9 s lit i=.ok j→j=i+lit.length∧(lit≠[]→j≤s.length)∧(s.drop i).take lit.length=lit
 | [],i,j,h=>by cases h; exact ⟨rfl,fun h=>absurd rfl h,by simp⟩
 | c::r,i,j,h=>by
  unfold G9 at h
  split at h
  ·rename_i hc
   obtain ⟨h1,h2,h3⟩:=Wt h
   have hi:i < s.length:=(List.getElem?_eq_some_iff.1 hc).1
   refine ⟨by rw [h1,List.length_cons]; omega,fun _=>?_,?_⟩
   ·by_cases hr:r=[]
    ·subst hr; rw [h1]; exact hi
    ·exact h2 hr
   ·rw [List.drop_eq_getElem_cons hi,List.length_cons,List.take_succ_cons,h3]
    rw [(List.getElem?_eq_some_iff.1 hc).2]
  ·cases h
theorem YO {h:Heap} {Q:Value ⊕ Unit→Heap→Prop} {b i:Nat} {s lit:List UInt8} (R:Rd h b s i) (hl:lit.length≤1000)
  (H1:∀ j h',G9 s lit i=.ok j→Kb b h h'→Rd h' b s j→Q (.inr ()) h') (H2:∀ e h',G9 s lit i=.error e→Kb b h h'→Q (.inl (G8 e)) h'):(Zl (some ⟨b,0,none⟩) (bs lit)).wp h Q:=by
 unfold Zl
 rw [UT]
 refine M.loop_inv (fun (x:Int) hh=>∃ k i':Nat,x=(k:Int)∧k≤lit.length∧Kb b h hh∧Rd hh b s i'∧G9 s (lit.drop k) i'=G9 s lit i) (fun x _=>((lit.length:Int) - x).toNat) ?_ ⟨0,i,rfl,Nat.zero_le _,Km.refl _ _,R,rfl⟩
 rintro x hh ⟨k,i',rfl,hk,K,R',hm⟩ self hself
 unfold U1
 refine Kx (fun hc=>?_) (fun hc=>?_)
 ·have hkl:k < lit.length:=by have:=of_decide_eq_true hc; omega
  rw [List.drop_eq_getElem_cons hkl,G9] at hm
  refine Uf (Uf (zJ R' (KCU R' ?_)))
  rw [UT]
  have hfail:s[i']?≠some lit[k]→(JZ self (some ⟨b,0,none⟩) (k:Int) true).wp hh Q:=fun hne=>by
   unfold JZ
   refine iteT rfl (WK R' ?_)
   rw [if_neg hne] at hm
   exact H2 _ _ hm.symm K
  refine Kx (fun hge=>?_) (fun hlt=>?_)
  ·refine hfail ?_
   have:=of_decide_eq_true hge
   rw [List.getElem?_eq_none (by omega)]
   intro h; cases h
  ·have hil:i' < s.length:=by have:=of_decide_eq_false hlt; omega
   refine Uf (Uf (KAP rfl hkl (KCU R' (zJ R' (KAP rfl hil ?_)))))
   by_cases he:s[i']=lit[k]
   ·rw [show (((s[i']).toNat:Int) != ((lit[k]).toNat:Int))=false by rw [he]; simp]
    unfold JZ UW
    refine iteF rfl (zz R' hil (fun h2 u R2=>?_))
    rw [w64 (by omega) (by omega)]
    rw [if_pos (by rw [List.getElem?_eq_getElem hil,he])] at hm
    exact hself _ _ ⟨k+1,i'+1,by omega,by omega,K.trans (Km.upd u rfl),R2,hm⟩ (by omega)
   ·rw [show (((s[i']).toNat:Int) != ((lit[k]).toNat:Int))=true by
     rw [bne_iff_ne]
     intro h
     exact he (UInt8.toNat_inj.1 (by omega))]
    refine hfail ?_
    rw [List.getElem?_eq_getElem hil]
    intro h
    exact he (Option.some.inj h)
 ·have hkl:k=lit.length:=by have:=of_decide_eq_false hc; omega
  subst hkl
  rw [List.drop_length,G9] at hm
  exact KQ (H1 _ _ hm.symm K R')
def numL (s:List UInt8) (fr:Nat):Nat→Nat→Int→Except Nat (Int × Nat)
 | 0,i,n=>.ok (n,i)
 | f+1,i,n=>if digB (K9 s i)=true then
   (if (numP ((s.drop fr).take (i+1 - fr))).2=7 then .error i else if (numP ((s.drop fr).take (i+1 - fr))).2≠0 then .ok (n,i) else numL s fr f (i+1) (numP ((s.drop fr).take (i+1 - fr))).1)
  else .ok (n,i)
def numJ (s:List UInt8) (i:Nat):Nat:=if K9 s i=45 then i+1 else i
def numF (s:List UInt8) (i:Nat):Except Nat (Int × Nat) :=
 if digB (K9 s (numJ s i))=false∨(i < numJ s i∧K9 s (numJ s i)=48) then .error (numJ s i) else numL s i (s.length - numJ s i) (numJ s i) 0
theorem KFR {s:List UInt8} {i:Nat} (h:digB (K9 s i)=true):i < s.length:=by
 refine WT (fun e=>?_)
 rw [e] at h
 exact absurd h (by decide)
theorem KFS {h:Heap} {Q:Value ⊕ Int→Heap→Prop} {b i fr:Nat} {s:List UInt8} (R:Rd h b s i) (he:ErrV h) (hb:b≠5) (hfr:fr≤i)
  (H1:∀ n j h',numL s fr (s.length - i) i 0=.ok (n,j)→Kb b h h'→Rd h' b s j→Q (.inr n) h') (H2:∀ e h',numL s fr (s.length - i) i 0=.error e→Kb b h h'→Q (.inl (G8 e)) h'):(Jd (some ⟨b,0,none⟩) (fr:Int)).wp h Q:=by
 unfold Jd
 refine M.loop_inv (fun (x:Int) hh=>∃ i':Nat,fr≤i'∧Kb b h hh∧Rd hh b s i'∧(∃ hx:hh[b]?=some (.cells #[.string (bs s),.int .i64 (i':Int)] Y4 (0,0)),True)∧numL s fr (s.length - i') i' x=numL s fr (s.length - i) i 0)
  (fun x hh=>match hh[b]? with | some (.cells #[_,.int _ z] _ _)=>s.length - z.toNat | _=>0) ?_ ⟨i,hfr,Km.refl _ _,R,⟨R.blk,trivial⟩,rfl⟩
 rintro x hh ⟨i',hfi,K,R',⟨hx,_⟩,hm⟩ self hself
 have hsm:=R'.small
 unfold Ul
 refine KX (VS R' (KX (q7 ?_)))
 refine Kx (fun hd=>?_) (fun hd=>?_)
 ·have hil:=KFR hd
  rw [show s.length - i'=(s.length - (i'+1))+1 by omega,numL,if_pos hd] at hm
  refine Uf (Uf (KCU R' (zJ R' ?_)))
  rw [w64 (by omega) (by omega)]
  refine KG9 (a:=fr) (b:=i'+1) rfl (by omega) (by omega) (by omega) (KX (Xb (KCL _) (KAS ?_ (he.km K hb) (fun h2 e2=>?_))))
  ·rw [List.length_take,List.length_drop]; omega
  have R2:=R'.ext e2
  refine Kx (fun h7=>?_) (fun h7=>?_)
  ·rw [eqI,decide_eq_true_iff] at h7
   rw [if_pos h7] at hm
   exact WK R2 (H2 _ _ hm.symm (K.trans (Km.ext e2)))
  ·rw [eqI,decide_eq_false_iff_not] at h7
   rw [if_neg h7] at hm
   unfold UE
   refine Kx (fun h0=>?_) (fun h0=>?_)
   ·rw [bne_iff_ne] at h0
    rw [if_pos h0] at hm
    exact KQ (H1 _ _ _ hm.symm (K.trans (Km.ext e2)) R2)
   ·have h0:¬ (numP ((s.drop fr).take (i'+1 - fr))).2≠0:=by
     intro hne
     rw [(bne_iff_ne).2 hne] at h0
     cases h0
    rw [if_neg h0] at hm
    refine zz R2 hil (fun h3 u3 R3=>?_)
    refine hself _ _ ⟨i'+1,by omega,(K.trans (Km.ext e2)).trans (Km.upd u3 rfl),R3,⟨R3.blk,trivial⟩,hm⟩ ?_
    rw [R3.blk,hx]
    show s.length - ((i'+1:Nat):Int).toNat < s.length - ((i':Nat):Int).toNat
    omega
 ·have:numL s fr (s.length - i') i' x=.ok (x,i'):=by
   cases hf:s.length - i' with
   | zero=>rfl
   | succ f=>rw [numL,if_neg (by rw [hd]; decide)]
  rw [this] at hm
  exact KQ (H1 _ _ _ hm.symm K R')
theorem z6 {h:Heap} {Q:Value ⊕ Int→Heap→Prop} {b i:Nat} {s:List UInt8} (R:Rd h b s i) (he:ErrV h) (hb:b≠5)
  (H1:∀ n j h',numF s i=.ok (n,j)→Kb b h h'→Rd h' b s j→Q (.inr n) h') (H2:∀ e h',numF s i=.error e→Kb b h h'→Q (.inl (G8 e)) h'):(UH (some ⟨b,0,none⟩)).wp h Q:=by
 unfold UH
 have key:∀ h1,Kb b h h1→Rd h1 b s (numJ s i)→(Je (some ⟨b,0,none⟩) (i:Int)).wp h1 Q:=by
  intro h1 K1 R1
  unfold Je
  have hij:i≤numJ s i:=by unfold numJ; split <;> omega
  refine Uf (zJ R1 (KX (VS R1 (KX (q7 ?_)))))
  refine or_b (c:=decide (i < numJ s i) && decide (K9 s (numJ s i)=48)) (fun hd Q' hq=>?_) ?_
  ·refine Jv (Yw (c:=decide (K9 s (numJ s i)=48)) (fun _ Q2 hq2=>KX (VS R1 (KQ ?_))) (UP (KQ ?_)))
   ·rw [KI2,decide_eq_decide.2 (show some (K9 s (numJ s i))=some 48↔K9 s (numJ s i)=48 from ⟨Option.some.inj,congrArg _⟩)]
    exact hq2
   ·rw [show decide (((numJ s i:Nat):Int) > (i:Int))=decide (i < numJ s i) from decide_eq_decide.2 (by omega)]
    exact hq
  ·refine Kx (fun hbad=>?_) (fun hok=>?_)
   ·refine WK R1 (H2 _ _ ?_ K1)
    unfold numF
    rw [if_pos]
    rw [Bool.or_eq_true,Bool.and_eq_true,decide_eq_true_iff,decide_eq_true_iff,Bool.not_eq_true'] at hbad
    exact hbad
   ·have hn:¬ (digB (K9 s (numJ s i))=false∨(i < numJ s i∧K9 s (numJ s i)=48)):=by
     intro hh
     rw [← Bool.not_eq_true',← decide_eq_true_iff (p:=i < numJ s i),← decide_eq_true_iff (p:=K9 s (numJ s i)=48),← Bool.and_eq_true,← Bool.or_eq_true,hok] at hh
     cases hh
    have hF:numF s i=numL s i (s.length - numJ s i) (numJ s i) 0:=by unfold numF; rw [if_neg hn]
    rw [hF] at H1 H2
    exact KFS R1 (he.km K1 hb) hb hij (fun n j h2 e K2 R2=>H1 n j h2 e (K1.trans K2) R2) (fun e h2 hm K2=>H2 e h2 hm (K1.trans K2))
 refine Uf (zJ R (KX (VS R ?_)))
 refine Kx (fun hc=>?_) (fun hc=>?_)
 ·have h45:K9 s i=45:=by
   rw [KH8,decide_eq_true_iff] at hc
   exact Option.some.inj hc
  refine zz R (WT (by rw [h45]; decide)) (fun h1 u1 R1=>key _ (Km.upd u1 rfl) ?_)
  unfold numJ
  rw [if_pos h45]
  exact R1
 ·have h45:¬ K9 s i=45:=by
   rw [KH8,decide_eq_false_iff_not] at hc
   exact fun e=>hc (congrArg _ e)
  refine key _ (Km.refl _ _) ?_
  unfold numJ
  rw [if_neg h45]
  exact R
end Gx
namespace Gx
open Go Go.Proofs Go.Shelf Go.RowKit Go.Lib
set_option linter.unusedVariables false
set_option linter.unusedSimpArgs false
set_option maxRecDepth 100000
def hexD:List UInt8:=[48,49,50,51,52,53,54,55,56,57,97,98,99,100,101,102]
def hexN (c:UInt8):Int:=Lib.indexByte hexD c
theorem zG:∀ (l:List UInt8) (c:UInt8),Lib.indexByte l c+1≤(l.length:Int)
 | [],c=>by simp [Lib.indexByte]
 | b::l,c=>by
  have:=zG l c
  unfold Lib.indexByte
  rw [List.length_cons]
  split
  ·omega
  ·split <;> omega
theorem KFT (c:UInt8):hexN c≤15:=by
 have:=zG hexD c
 have h2:(hexD.length:Int)=16:=rfl
 unfold hexN
 omega
theorem KFU:hexN 0=-1:=by decide +kernel
theorem KGa:∀ a b:Fin 16,IntKind.wrap .u8 (iOr .i64 (iShl .i64 (a.val:Int) 4) (b.val:Int))=((UInt8.ofNat (((a.val:Int) * 16+(b.val:Int)).toNat)).toNat:Int):=by decide +kernel
theorem hexb {x y:Int} (hx:0≤x) (hx2:x≤15) (hy:0≤y) (hy2:y≤15):IntKind.wrap .u8 (iOr .i64 (iShl .i64 x 4) y)=((UInt8.ofNat ((x * 16+y).toNat)).toNat:Int):=by
 have:=KGa ⟨x.toNat,by omega⟩ ⟨y.toNat,by omega⟩
 simp only [Int.toNat_of_nonneg hx,Int.toNat_of_nonneg hy] at this
 exact this
theorem KDK {c:UInt8} {h:Heap} {Q:Int→Heap→Prop} (H:Q (hexN c) h):(Uc (⟨#[48,49,50,51,52,53,54,55,56,57,97,98,99,100,101,102]⟩:ByteArray) (c.toNat:Int)).wp h Q:=by
 unfold Uc UL
 refine KX (KQ (KQ ?_))
 have:(c.toNat:Int).toNat.toUInt8=c:=by rw [Int.toNat_natCast]; simp
 rw [this]
 exact H
def escP (s:List UInt8) (i:Nat):Except Nat (UInt8 × Nat) :=
 if K9 s i=39∨K9 s i=92 then .ok (K9 s i,i+1)
 else match G9 s [120] i with
  | .error e=>.error e
  | .ok j=>if hexN (K9 s j) < 0∨(1 < hexN (K9 s j)∧hexN (K9 s j) < 7) then .error j
   else if hexN (K9 s (j+1)) < 0∨(hexN (K9 s j)=7∧hexN (K9 s (j+1)) < 15) then .error (j+1)
   else .ok (UInt8.ofNat ((hexN (K9 s j) * 16+hexN (K9 s (j+1))).toNat),j+2)
theorem KFV {s:List UInt8} {i:Nat} (h:0≤hexN (K9 s i)):i < s.length:=by
 refine WT (fun e=>?_)
 rw [e,KFU] at h
 omega
theorem u8_c {c d:UInt8} {n:Int} (hn:n=(d.toNat:Int)):((c.toNat:Int) == n)=decide (c=d):=by
 subst hn
 rw [eqI]
 refine decide_eq_decide.2 ⟨fun h=>UInt8.toNat_inj.1 (by omega),fun h=>by rw [h]⟩
theorem KGb {h:Heap} {Q:Value ⊕ Int→Heap→Prop} {b i:Nat} {s:List UInt8} (R:Rd h b s i)
  (H1:∀ (c:UInt8) j h',escP s i=.ok (c,j)→Kb b h h'→Rd h' b s j→Q (.inr (c.toNat:Int)) h') (H2:∀ e h',escP s i=.error e→Kb b h h'→Q (.inl (G8 e)) h'):(UX (some ⟨b,0,none⟩)).wp h Q:=by
 unfold UX
 refine KX (VS R ?_)
 rw [u8_c (d:=39) (n:=39) rfl,u8_c (d:=92) (n:=92) rfl]
 refine or_b (c:=decide (K9 s i=92)) (fun _ Q' hq=>KQ hq) ?_
 refine Kx (fun hc=>?_) (fun hc=>?_)
 ·rw [Bool.or_eq_true,decide_eq_true_iff,decide_eq_true_iff] at hc
  have hi:i < s.length:=WT (by rcases hc with h | h <;> (rw [h]; decide))
  refine zz R hi (fun h1 u1 R1=>KQ (H1 _ _ _ ?_ (Km.upd u1 rfl) R1))
  unfold escP
  rw [if_pos hc]
 ·have hc':¬ (K9 s i=39∨K9 s i=92):=by
   intro hh
   rw [← decide_eq_true_iff (p:=K9 s i=39),← decide_eq_true_iff (p:=K9 s i=92),← Bool.or_eq_true,hc] at hh
   cases hh
  refine GA (YO (lit:=[120]) R (by decide) (fun j h1 hj K1 R1=>?_) (fun e h1 hj K1=>?_))
  ·have hE:escP s i=if hexN (K9 s j) < 0∨(1 < hexN (K9 s j)∧hexN (K9 s j) < 7) then .error j
     else if hexN (K9 s (j+1)) < 0∨(hexN (K9 s j)=7∧hexN (K9 s (j+1)) < 15) then .error (j+1)
     else .ok (UInt8.ofNat ((hexN (K9 s j) * 16+hexN (K9 s (j+1))).toNat),j+2):=by
    unfold escP
    rw [if_neg hc',hj]
   refine KX (VS R1 (KX (KDK ?_)))
   refine Uf (Uf (zJ R1 (KCU R1 ?_)))
   have hbad:(hexN (K9 s j) < 0∨(1 < hexN (K9 s j)∧hexN (K9 s j) < 7))→(ZJ (some ⟨b,0,none⟩) (hexN (K9 s j)) true).wp h1 Q:=fun hb=>by
    unfold ZJ
    rw [if_pos hb] at hE
    exact iteT rfl (WK R1 (H2 _ _ hE K1))
   have hgood:¬ (hexN (K9 s j) < 0∨(1 < hexN (K9 s j)∧hexN (K9 s j) < 7))→(ZJ (some ⟨b,0,none⟩) (hexN (K9 s j)) false).wp h1 Q:=fun hb=>by
    unfold ZJ Jz
    rw [if_neg hb] at hE
    have hjl:j < s.length:=KFV (by omega)
    refine iteF rfl (zz R1 hjl (fun h2 u2 R2=>?_))
    have K2:Kb b h h2:=K1.trans (Km.upd u2 rfl)
    refine KX (VS R2 (KX (KDK ?_)))
    refine Uf (Uf (zJ R2 (KCU R2 ?_)))
    have hbad2:(hexN (K9 s (j+1)) < 0∨(hexN (K9 s j)=7∧hexN (K9 s (j+1)) < 15))→(ZI (some ⟨b,0,none⟩) (hexN (K9 s j)) (hexN (K9 s (j+1))) true).wp h2 Q:=fun hb=>by
     unfold ZI
     rw [if_pos hb] at hE
     exact iteT rfl (WK R2 (H2 _ _ hE K2))
    have hgood2:¬ (hexN (K9 s (j+1)) < 0∨(hexN (K9 s j)=7∧hexN (K9 s (j+1)) < 15))→(ZI (some ⟨b,0,none⟩) (hexN (K9 s j)) (hexN (K9 s (j+1))) false).wp h2 Q:=fun hb2=>by
     unfold ZI Jy
     rw [if_neg hb2] at hE
     have hjl2:j+1 < s.length:=KFV (by omega)
     refine iteF rfl (zz R2 hjl2 (fun h3 u3 R3=>KQ ?_))
     rw [hexb (by omega) (KFT _) (by omega) (KFT _)]
     exact H1 _ _ _ hE (K2.trans (Km.upd u3 rfl)) R3
    refine Kx (fun hge=>?_) (fun hlt=>?_)
    ·refine hbad2 (.inl ?_)
     have hge:=of_decide_eq_true hge
     rw [UT] at hge
     have:K9 s (j+1)=0:=by unfold K9; rw [List.getElem?_eq_none (by omega)]; rfl
     rw [this,KFU]; decide
    ·refine Kx (fun hn=>hbad2 (.inl (of_decide_eq_true hn))) (fun hn=>?_)
     have hn:=of_decide_eq_false hn
     refine Kx (fun h7=>?_) (fun h7=>?_)
     ·rw [eqI,decide_eq_true_iff] at h7
      by_cases h15:hexN (K9 s (j+1)) < 15
      ·rw [decide_eq_true h15]
       exact hbad2 (.inr ⟨h7,h15⟩)
      ·rw [decide_eq_false h15]
       exact hgood2 (fun hh=>hh.elim hn (fun hh=>h15 hh.2))
     ·rw [eqI,decide_eq_false_iff_not] at h7
      exact hgood2 (fun hh=>hh.elim hn (fun hh=>h7 hh.1))
   refine Kx (fun hge=>?_) (fun hlt=>?_)
   ·refine hbad (.inl ?_)
    have hge:=of_decide_eq_true hge
    rw [UT] at hge
    have:K9 s j=0:=by unfold K9; rw [List.getElem?_eq_none (by omega)]; rfl
    rw [this,KFU]; decide
   ·refine Kx (fun hn=>hbad (.inl (of_decide_eq_true hn))) (fun hn=>?_)
    have hn:=of_decide_eq_false hn
    refine Kx (fun h1'=>?_) (fun h1'=>?_)
    ·have h1':=of_decide_eq_true h1'
     by_cases h7:hexN (K9 s j) < 7
     ·rw [decide_eq_true h7]
      exact hbad (.inr ⟨h1',h7⟩)
     ·rw [decide_eq_false h7]
      exact hgood (fun hh=>hh.elim hn (fun hh=>h7 hh.2))
    ·have h1':=of_decide_eq_false h1'
     exact hgood (fun hh=>hh.elim hn (fun hh=>h1' hh.1))
  ·refine H2 e h1 ?_ K1
   unfold escP
   rw [if_neg hc',hj]
theorem KFW {s:List UInt8} {i j:Nat} {c:UInt8} (h:escP s i=.ok (c,j)):i < j∧j≤s.length:=by
 unfold escP at h
 split at h
 ·rename_i hc
  have hi:i < s.length:=WT (by rcases hc with h | h <;> (rw [h]; decide))
  cases h
  omega
 ·split at h
  ·cases h
  ·rename_i j' hj
   obtain ⟨h1,h2,_⟩:=Wt hj
   split at h
   ·cases h
   ·split at h
    ·cases h
    ·rename_i hn
     have:=KFV (s:=s) (i:=j'+1) (by omega)
     cases h
     have:j'=i+1:=h1
     omega
def strL (s:List UInt8):Nat→Nat→List UInt8→Except Nat (List UInt8 × Nat)
 | 0,i,_=>.error i
 | f+1,i,acc =>
  if K9 s i=39 then .ok (acc,i+1)
  else if (K9 s i).toNat < 32∨126 < (K9 s i).toNat then .error i
  else if K9 s i=92 then (match escP s (i+1) with | .error e=>.error e | .ok (d,j)=>strL s f j (acc++[d]))
  else strL s f (i+1) (acc++[K9 s i])
def strP (s:List UInt8) (i:Nat):Except Nat (List UInt8 × Nat):=match G9 s [39] i with | .error e=>.error e | .ok j=>strL s (s.length+1 - j) j []
theorem KGc {β:Type} {lo:Nat} {h:Heap} {Q:β→Heap→Prop} {r:Sl} {l:List UInt8} {c:UInt8} {f:Sl→M β} (G:Gw lo h r 1 (l.map bv)) (hle:lo≤h.size) (hm:l.length≤1099511627776)
  (H:∀ h' r',Gw lo h' r' 1 ((l++[c]).map bv)→h.size≤h'.size→(∀ j,j < lo→h'[j]?=h[j]?)→(f r').wp h' Q):(bdL Zi 1 #[.int .u8 (c.toNat:Int)]>>=fun x=>apL Zi 1 1 (#[.int .u8 0]:Array Value) r x>>=f).wp h Q:=by
 refine KA8 ?_
 have e6:=Ext.push h (.cells #[.int .u8 (c.toNat:Int)] Zi)
 have g6:(h.push (.cells #[.int .u8 (c.toNat:Int)] Zi))[h.size]?=some (.cells #[.int .u8 (c.toNat:Int)] Zi (0,0)):=Zj
 generalize h.push (.cells #[.int .u8 (c.toNat:Int)] Zi)=h6 at e6 g6 ⊢
 have G6:=G.ext e6
 have hrl:=G6.len
 rw [List.length_map,Nat.mul_one] at hrl
 refine KA9 (vs:=l.map bv) (news:=[bv c]) rfl G6 rfl (.inr ⟨_,rfl,fun j v hj=>?_⟩) (fun v hv=>by simp at hv; subst hv; rfl) (by dsimp only; omega) (by dsimp only; omega) (by have:=e6.size; omega) (fun h7 r7 G7 hlen7 hs7 same7 on7=>?_)
 ·rw [Zn,Nat.zero_add,Ks g6]
  rw [show (#[.int .u8 (c.toNat:Int)]:Array Value)=[bv c].toArray from rfl]
  simpa using hj
 ·refine H h7 r7 (by rw [List.map_append]; exact G7) (Nat.le_trans e6.size hs7) (fun j hj=>(same7 j (by have:=e6.size; omega) (fun ho=>by have:=(G6.lt ho).2; omega)).trans (e6.same j (by omega)))
theorem KGd {h:Heap} {Q:Value ⊕ ByteArray→Heap→Prop} {b i:Nat} {s:List UInt8} (R:Rd h b s i)
  (H1:∀ t j h',strP s i=.ok (t,j)→Kb b h h'→Rd h' b s j→Q (.inr (bs t)) h') (H2:∀ e h',strP s i=.error e→Kb b h h'→Q (.inl (G8 e)) h'):(VQ (some ⟨b,0,none⟩)).wp h Q:=by
 unfold VQ
 refine GA (YO (lit:=[39]) R (by decide) (fun j h1 hj K1 R1=>?_) (fun e h1 hj K1=>?_))
 ·have hP:strP s i=strL s (s.length+1 - j) j []:=by unfold strP; rw [hj]
  rw [hP] at H1 H2
  have hb:=R1.lt
  refine M.loop_inv (fun (x:Sl) hh=>∃ (acc:List UInt8) (f i':Nat),s.length < f+i'∧acc.length≤i'∧Kb b h1 hh∧Rd hh b s i'∧Gw h1.size hh x 1 (acc.map bv)∧strL s f i' acc=strL s (s.length+1 - j) j [])
   (fun x _=>s.length+1 - x.len) ?_ ⟨[],_,j,by have:=R1.le; omega,Nat.zero_le _,Km.refl _ _,R1,Gw.nil _ _ _,rfl⟩
  rintro x hh ⟨acc,f,i',hf,hai,K,R',G,hm⟩ self hself
  have hsm:=R'.small
  have hle:=R'.le
  have hxl:=G.len
  rw [List.length_map,Nat.mul_one] at hxl
  obtain ⟨f,rfl⟩:∃ g,f=g+1:=⟨f - 1,by omega⟩
  rw [strL] at hm
  unfold VI
  refine KX (VS R' ?_)
  rw [show (((K9 s i').toNat:Int) != 39)=!decide (K9 s i'=39) by rw [← u8_c (d:=39) (n:=39) rfl]; rfl]
  refine Kx (fun hne=>?_) (fun heq=>?_)
  ·have hne:K9 s i'≠39:=by simpa using hne
   rw [if_neg hne] at hm
   refine KX (VS R' ?_)
   refine or_b (c:=decide (((K9 s i').toNat:Int) > 126)) (fun _ Q' hq=>KQ hq) ?_
   refine Kx (fun hbad=>?_) (fun hok=>?_)
   ·rw [Bool.or_eq_true,decide_eq_true_iff,decide_eq_true_iff] at hbad
    rw [if_pos (by omega)] at hm
    exact WK R' (H2 _ _ hm.symm (K1.trans K))
   ·rw [Bool.or_eq_false_iff,decide_eq_false_iff_not,decide_eq_false_iff_not] at hok
    rw [if_neg (by omega)] at hm
    have hil:i' < s.length:=WT (fun e=>by rw [e] at hok; exact absurd hok.1 (by decide))
    unfold Ui
    refine zz R' hil (fun h2 u2 R2=>?_)
    have K2:Kb b h1 h2:=K.trans (Km.upd u2 rfl)
    have G2:Gw h1.size h2 x 1 (acc.map bv):=G.same (fun k hk=>u2.ne k (fun e=>by have:=(G.lt hk).2; omega))
    have hs2:h1.size≤h2.size:=K2.size
    have next:∀ (c:UInt8) (i2:Nat) (h3:Heap),i' < i2→Kb b h1 h3→Rd h3 b s i2→Gw h1.size h3 x 1 (acc.map bv)→strL s f i2 (acc++[c])=strL s (s.length+1 - j) j []→(UI self x (c.toNat:Int)).wp h3 Q:=by
     intro c i2 h3 hi2 K3 R3 G3 hm3
     unfold UI
     refine KGc G3 K3.size (by omega) (fun h4 r4 G4 hs4 same4=>?_)
     have hl4:=G4.len
     rw [List.length_map,List.length_append,List.length_singleton,Nat.mul_one] at hl4
     refine hself _ _ ⟨acc++[c],f,i2,by omega,by rw [List.length_append,List.length_singleton]; omega,⟨Nat.le_trans K3.size hs4,fun k hk hkb=>(same4 k hk).trans (K3.same k hk hkb)⟩,⟨by rw [same4 b hb]; exact R3.blk,R3.le,R3.small⟩,G4,hm3⟩ ?_
     omega
    by_cases h92:K9 s i'=92
    ·rw [if_pos h92] at hm
     refine iteT (by rw [u8_c (d:=92) (n:=92) rfl,decide_eq_true h92]) (GA (KGb R2 (fun c j2 h3 he K3 R3=>?_) (fun e h3 he K3=>?_)))
     ·rw [he] at hm
      exact next c j2 h3 (by have:=KFW he; omega) (K2.trans K3) R3 (G2.same (fun k hk=>K3.same k (G2.lt hk).1 (fun e=>by have:=(G2.lt hk).2; omega))) hm
     ·rw [he] at hm
      exact H2 _ _ hm.symm (K1.trans (K2.trans K3))
    ·rw [if_neg h92] at hm
     refine iteF (by rw [u8_c (d:=92) (n:=92) rfl,decide_eq_false h92]) ?_
     exact next _ (i'+1) h2 (by omega) K2 R2 G2 hm
  ·have heq:K9 s i'=39:=by simpa using heq
   rw [if_pos heq] at hm
   have hil:i' < s.length:=WT (by rw [heq]; decide)
   refine zz R' hil (fun h2 u2 R2=>?_)
   have G2:Gw h1.size h2 x 1 (acc.map bv):=G.same (fun k hk=>u2.ne k (fun e=>by have:=(G.lt hk).2; omega))
   refine KIa (ns:=acc) hxl G2.reads (KQ ?_)
   exact H1 _ _ _ hm.symm (K1.trans (K.trans (Km.upd u2 rfl))) R2
 ·refine H2 e h1 ?_ K1
  unfold strP
  rw [hj]
end Gx
namespace Gx
open Go Go.Proofs Go.Shelf Go.RowKit Go.Lib
set_option linter.unusedVariables false
set_option linter.unusedSimpArgs false
set_option maxRecDepth 100000
def KAT (k:Int) (s:List UInt8) (i:Nat):Except Nat (Vl × Nat) :=
 match G9 s [91] (i+1) with
 | .error e=>.error e
 | .ok j=>match numF s j with
  | .error e=>.error e
  | .ok (n,j2)=>match G9 s [93] j2 with
   | .error e=>.error e
   | .ok j3=>.ok (.mk k n [] [],j3)
def qY (pv:Nat→Except Nat (Vl × Nat)) (two:Bool) (s:List UInt8) (i:Nat):Except Nat (List Vl × Nat) :=
 match pv i with
 | .error e=>.error e
 | .ok (v,j)=>if two=true then (match G9 s [58,32] j with
   | .error e=>.error e
   | .ok j2=>match pv j2 with
    | .error e=>.error e
    | .ok (w,j3)=>.ok ([v,w],j3)) else .ok ([v],j)
def sepP (l:List Vl) (s:List UInt8) (i:Nat):Except Nat Nat:=if l.length=0 then .ok i else G9 s [44,32] i
def qZ (pv:Nat→Except Nat (Vl × Nat)) (en:UInt8) (two:Bool) (s:List UInt8):Nat→List Vl→Nat→Except Nat (List Vl × Nat)
 | 0,_,i=>.error i
 | f+1,l,i=>if K9 s i=en then .ok (l,i+1) else
  match sepP l s i with
  | .error e=>.error e
  | .ok i1=>match qY pv two s i1 with
   | .error e=>.error e
   | .ok (vs,i2)=>if K9 s i2≠en∧K9 s i2≠44 then .error i2 else qZ pv en two s f (l++vs) i2
def pval (s:List UInt8):Nat→Nat→Except Nat (Vl × Nat)
 | 0,i=>.error i
 | d+1,i =>
  if K9 s i=45∨digB (K9 s i)=true then (match numF s i with | .error e=>.error e | .ok (n,j)=>.ok (.mk 1 n [] [],j))
  else if K9 s i=39 then (match strP s i with | .error e=>.error e | .ok (t,j)=>.ok (.mk 2 0 t [],j))
  else if K9 s i=116 then (match G9 s [116,114,117,101] i with | .error e=>.error e | .ok j=>.ok (.mk 3 1 [] [],j))
  else if K9 s i=102 then (match G9 s [102,97,108,115,101] i with | .error e=>.error e | .ok j=>.ok (.mk 3 0 [] [],j))
  else if K9 s i=118 then KAT 6 s i
  else if K9 s i=101 then KAT 7 s i
  else if K9 s i=91 then (match qZ (pval s d) 93 false s (s.length - i) [] (i+1) with | .error e=>.error e | .ok (l,j)=>.ok (.mk 4 0 [] l,j))
  else if K9 s i=123 then (match qZ (pval s d) 125 true s (s.length - i) [] (i+1) with | .error e=>.error e | .ok (l,j)=>.ok (.mk 5 0 [] l,j))
  else .error i
theorem KDt {t:List UInt8} {n:Int} (h:Lib.parseIntB 64 t=.ok n):I64 n:=by
 unfold parseIntB at h
 split at h
 ·cases h
 ·dsimp only at h
  split at h
  ·cases h
  ·cases h
  ·split at h
   ·cases h
   ·split at h
    ·cases h
    ·rename_i u _ h1 h2
     cases h
     have e63:(2:Nat) ^ (64 - 1)=9223372036854775808:=by decide
     rw [e63] at h1 h2
     unfold I64
     split <;> rename_i h3 <;> (simp only [h3,not_true_eq_false,not_false_eq_true,true_and,false_and] at h1 h2; omega)
theorem KDL {t:List UInt8} (h:(numP t).2=0):I64 (numP t).1:=by
 unfold numP at h ⊢
 split
 ·rename_i h1; rw [if_pos h1] at h; exact absurd h (by decide)
 ·rename_i h1
  rw [if_neg h1] at h
  split
  ·rename_i h2; rw [if_pos h2] at h; exact absurd h (by decide)
  ·rename_i h2
   rw [if_neg h2] at h
   split
   ·rename_i h3; rw [if_pos h3] at h; exact absurd h (by decide)
   ·rename_i h3
    rw [if_neg h3] at h
    split
    ·rename_i n hn; exact KDt hn
    ·rename_i hne
     exfalso
     revert h
     split
     ·rename_i n hn; exact absurd hn (hne n)
     ·decide
theorem KFX {s:List UInt8} {fr:Nat}:∀ {f i:Nat} {n m:Int} {j:Nat},numL s fr f i n=.ok (m,j)→I64 n→i≤s.length→I64 m∧i≤j∧j≤s.length
 | 0,i,n,m,j,h,hn,hi=>by cases h; exact ⟨hn,Nat.le_refl _,hi⟩
 | f+1,i,n,m,j,h,hn,hi=>by
  rw [numL] at h
  split at h
  ·rename_i hd
   have hil:=KFR hd
   split at h
   ·cases h
   ·split at h
    ·cases h; exact ⟨hn,Nat.le_refl _,hi⟩
    ·rename_i h0
     have:=KFX h (KDL (Classical.not_not.1 h0)) (by omega)
     exact ⟨this.1,by omega,this.2.2⟩
  ·cases h; exact ⟨hn,Nat.le_refl _,hi⟩
theorem KFY:∀ n:Fin 256,digB (UInt8.ofNat n.val)=true→(numP [UInt8.ofNat n.val]).2=0∧(UInt8.ofNat n.val≠48→(numP [45,UInt8.ofNat n.val]).2=0):=by decide +kernel
theorem KAm {c:UInt8} (h:digB c=true):(numP [c]).2=0∧(c≠48→(numP [45,c]).2=0):=by
 have:=KFY ⟨c.toNat,c.toNat_lt⟩
 simp only [UInt8.ofNat_toNat] at this
 exact this h
theorem KCV {s:List UInt8} {i j:Nat} {n:Int} (h:numF s i=.ok (n,j)) (hi:i≤s.length):I64 n∧i < j∧j≤s.length:=by
 unfold numF at h
 split at h
 ·cases h
 ·rename_i hb
  have hd:digB (K9 s (numJ s i))=true:=by
   cases hh:digB (K9 s (numJ s i)) with
   | true=>rfl
   | false=>exact absurd (.inl hh) hb
  have hil:=KFR hd
  have hij:i≤numJ s i:=by unfold numJ; split <;> omega
  rw [show s.length - numJ s i=(s.length - (numJ s i+1))+1 by omega,numL,if_pos hd] at h
  have ht:(numP ((s.drop i).take (numJ s i+1 - i))).2=0:=by
   by_cases h45:K9 s i=45
   ·have hJ:numJ s i=i+1:=by unfold numJ; rw [if_pos h45]
    rw [hJ] at hb hd hil ⊢
    have h2:(s.drop i).take (i+1+1 - i)=[45,K9 s (i+1)]:=by
     rw [show i+1+1 - i=2 by omega,List.drop_eq_getElem_cons (by omega),List.drop_eq_getElem_cons hil]
     rw [zQ hil,← h45,zQ (by omega)]
     rfl
    rw [h2]
    exact (KAm hd).2 (fun e=>hb (.inr ⟨by omega,e⟩))
   ·have hJ:numJ s i=i:=by unfold numJ; rw [if_neg h45]
    rw [hJ] at hd hil ⊢
    have h2:(s.drop i).take (i+1 - i)=[K9 s i]:=by
     rw [show i+1 - i=1 by omega,List.drop_eq_getElem_cons hil,zQ hil]
     rfl
    rw [h2]
    exact (KAm hd).1
  rw [if_neg (by rw [ht]; decide),if_neg (by rw [ht]; exact fun h=>h rfl)] at h
  have:=KFX h (KDL ht) (by omega)
  exact ⟨this.1,by omega,this.2.2⟩
theorem KCW {s:List UInt8}:∀ {f i:Nat} {acc t:List UInt8} {j:Nat},strL s f i acc=.ok (t,j)→i < j∧j≤s.length∧t.length+i≤acc.length+j
 | 0,i,acc,t,j,h=>by cases h
 | f+1,i,acc,t,j,h=>by
  rw [strL] at h
  split at h
  ·rename_i h39
   have:=WT (s:=s) (i:=i) (by rw [h39]; decide)
   cases h
   omega
  ·split at h
   ·cases h
   ·split at h
    ·split at h
     ·cases h
     ·rename_i d j2 he
      have h1:=KFW he
      have h2:=KCW h
      rw [List.length_append,List.length_singleton] at h2
      omega
    ·have h2:=KCW h
     rw [List.length_append,List.length_singleton] at h2
     omega
theorem KCX {s:List UInt8} {i j:Nat} {t:List UInt8} (h:strP s i=.ok (t,j)):i < j∧j≤s.length∧t.length≤s.length:=by
 unfold strP at h
 split at h
 ·cases h
 ·rename_i j1 hj
  have h1:=(Wt hj).1
  have h2:=KCW h
  rw [List.length_nil] at h2
  omega
theorem zR {s:List UInt8} {i j:Nat} {k:Int} {v:Vl} (h:KAT k s i=.ok (v,j)):∃ n,v=.mk k n [] []∧I64 n∧i < j∧j≤s.length:=by
 unfold KAT at h
 split at h
 ·cases h
 ·rename_i j1 h1
  split at h
  ·cases h
  ·rename_i n j2 h2
   split at h
   ·cases h
   ·rename_i j3 h3
    cases h
    have a1:=Wt h1
    have a2:=KCV h2 (a1.2.1 (by simp))
    have a3:=Wt h3
    have b1:j1=i+1+1:=a1.1
    have b3:j=j2+1:=a3.1
    exact ⟨n,rfl,a2.1,by omega,a3.2.1 (by simp)⟩
def Prog (s:List UInt8) (pv:Nat→Except Nat (Vl × Nat)):Prop:=∀ i v j,pv i=.ok (v,j)→i < j∧j≤s.length
theorem KGe {s:List UInt8} {pv:Nat→Except Nat (Vl × Nat)} (hp:Prog s pv) {two:Bool} {i j:Nat} {vs:List Vl} (h:qY pv two s i=.ok (vs,j)):i+vs.length≤j∧0 < vs.length∧j≤s.length:=by
 unfold qY at h
 split at h
 ·cases h
 ·rename_i v j1 h1
  have a1:=hp _ _ _ h1
  split at h
  ·split at h
   ·cases h
   ·rename_i j2 h2
    have a2:j2=j1+2:=(Wt h2).1
    split at h
    ·cases h
    ·rename_i w j3 h3
     have a3:=hp _ _ _ h3
     cases h
     simp only [List.length_cons,List.length_nil]
     omega
  ·cases h
   simp only [List.length_cons,List.length_nil]
   omega
theorem KIB {l:List Vl} {s:List UInt8} {i j:Nat} (h:sepP l s i=.ok j):i≤j:=by
 unfold sepP at h
 split at h
 ·cases h; exact Nat.le_refl _
 ·have:j=i+2:=(Wt h).1
  omega
theorem KBb {s:List UInt8} {pv:Nat→Except Nat (Vl × Nat)} (hp:Prog s pv) {en:UInt8} (he:en≠0) {two:Bool}:∀ {f i:Nat} {l t:List Vl} {j:Nat},qZ pv en two s f l i=.ok (t,j)→i < j∧j≤s.length∧t.length+i≤l.length+j
 | 0,i,l,t,j,h=>by cases h
 | f+1,i,l,t,j,h=>by
  rw [qZ] at h
  split at h
  ·rename_i hh
   have:=WT (s:=s) (i:=i) (by rw [hh]; exact he)
   cases h
   omega
  ·split at h
   ·cases h
   ·rename_i i1 h1
    have a1:=KIB h1
    split at h
    ·cases h
    ·rename_i vs i2 h2
     have a2:=KGe hp h2
     split at h
     ·cases h
     ·have:=KBb hp he h
      rw [List.length_append] at this
      omega
theorem KFZ (s:List UInt8):∀ d,Prog s (pval s d)
 | 0=>fun i v j h=>by cases h
 | d+1=>fun i v j h=>by
  have ih:=KFZ s d
  rw [pval] at h
  split at h
  ·rename_i hc
   have hi:i < s.length:=WT (fun e=>by rw [e] at hc; exact absurd hc (by decide))
   split at h
   ·cases h
   ·rename_i n j1 h1
    cases h
    exact (KCV h1 (by omega)).2
  ·split at h
   ·split at h
    ·cases h
    ·rename_i t j1 h1
     cases h
     exact ⟨(KCX h1).1,(KCX h1).2.1⟩
   ·split at h
    ·split at h
     ·cases h
     ·rename_i j1 h1
      cases h
      have a:=Wt h1
      have a1:j=i+4:=a.1
      exact ⟨by omega,a.2.1 (by simp)⟩
    ·split at h
     ·split at h
      ·cases h
      ·rename_i j1 h1
       cases h
       have a:=Wt h1
       have a1:j=i+5:=a.1
       exact ⟨by omega,a.2.1 (by simp)⟩
     ·split at h
      ·obtain ⟨n,_,_,h3⟩:=zR h
       exact h3
      ·split at h
       ·obtain ⟨n,_,_,h3⟩:=zR h
        exact h3
       ·split at h
        ·split at h
         ·cases h
         ·rename_i l j1 h1
          have a:=KBb ih (by decide) h1
          cases h
          omega
        ·split at h
         ·split at h
          ·cases h
          ·rename_i l j1 h1
           have a:=KBb ih (by decide) h1
           cases h
           omega
         ·cases h
end Gx
namespace Gx
open Go Go.Proofs Go.Shelf Go.RowKit Go.Lib
set_option linter.unusedVariables false
set_option linter.unusedSimpArgs false
set_option maxRecDepth 100000
theorem KDM (S:Nat→Prop) (h:Heap) {k n:Int} {s:List UInt8} (hk:I64 k) (hn:I64 n) (hs:s.length≤9223372036854775807):JS S h (.mk k n s []) (Z9 k n s Sl.nil) :=
 JS.eq.2 ⟨Sl.nil,rfl,hk,hn,hs,rfl,Nat.le_refl _,by decide,by rw [YC]; trivial⟩
theorem KDN {S:Nat→Prop} {h:Heap} {k n:Int} {l:List Vl} {x:Sl} (hk:I64 k) (hn:I64 n) (hl:VsRepS S h x l):JS S h (.mk k n [] l) (Z9 k n [] x) :=
 JS.eq.2 ⟨x,rfl,hk,hn,by decide,hl⟩
theorem KHB {α:Type} {h:Heap} {Q:α ⊕ Array Value→Heap→Prop} {g:Nat} {z cs:Array Value} {t:TypeId} (hg:h[g]?=some (.cells z t (0,0))) (hz:z.size=4) (hc:cs.size=4) (h1:∀ v ∈ cs.toList,one v=true)
  (H:∀ h',Upd g h h'→Q (.inr cs) h'):(M.need (cs.size=4)>>=fun _=>stG ⟨g,0,none⟩ cs>>=fun _=>ldG 4 ⟨g,0,none⟩>>=fun r=>(M.pure (.inr r):M (α ⊕ Array Value))).wp h Q:=by
 refine Ju hc (stR hg (by omega) h1 (fun h' u g'=>?_))
 have hl:lay z 0 cs.toList=cs:=by
  rw [ZV (by rw [Array.length_toList]; omega)]
 rw [hl] at g'
 exact ldR g' hc (KQ (H _ u))
theorem KIC {β:Type} {lo:Nat} {S:Nat→Prop} {h:Heap} {Q:β→Heap→Prop} {r:Sl} {css:List (Array Value)} {l:List Vl} {v:Vl} {c:Array Value} {f:Sl→M β} (G:VGw lo S h r css l) (hS:∀ k,S k→k < h.size∧¬ Sl.on r k) (hv:JS S h v c) (hlo:lo≤h.size) (hm:l.length≤1099511627776)
  (H:∀ h' r',VGw lo S h' r' (css++[c]) (l++[v])→h.size≤h'.size→(∀ i,i < h.size→¬ Sl.on r i→h'[i]?=h[i]?)→(∀ i,Sl.on r' i→Sl.on r i∨h.size≤i)→(f r').wp h' Q) :
  (KA3 4 1 (#[.int .i64 0,.int .i64 0,.string ByteArray.empty,.slice none 0 0]:Array Value) [(0,.agg c)]>>=fun y=>bdL KJ 1 y>>=fun x=>apL KJ 4 56 (#[.int .i64 0,.int .i64 0,.string ByteArray.empty,.slice none 0 0]:Array Value) r x>>=f).wp h Q:=by
 have hc:=hv.size
 refine KF7 hc (KA8 ?_)
 have e1:=Ext.push h (.cells c KJ)
 have g1:(h.push (.cells c KJ))[h.size]?=some (.cells c KJ (0,0)):=Zj
 generalize h.push (.cells c KJ)=h1 at e1 g1 ⊢
 have hs1:=e1.size
 have G1:VGw lo S h1 r css l:=G.same (fun k hk=>e1.same k (G.gw.lt hk).1) (fun k hk=>e1.same k (hS k hk).1)
 refine KX (NF (l':=[v]) (css':=[c]) G1 (by omega) (fun k hk=>⟨by have:=(hS k hk).1; omega,(hS k hk).2⟩) (fun x hx=>by simp at hx; subst hx; exact ⟨hc,hv.to.one⟩) rfl rfl (.inr ⟨_,rfl,fun j u hj=>?_⟩) (fun j h1 h2=>?_) (by simp only [List.length_cons,List.length_nil]; omega) (fun h2 r2 G2 hs2 same2 on2=>?_))
 ·rw [Zn,Nat.zero_add,Ks g1]
  have:Uj [c]=c.toList:=by simp [Uj]
  rw [this,Array.getElem?_toList] at hj
  exact hj
 ·have hj0:j=0:=by simp only [List.length_cons,List.length_nil] at h1; omega
  subst hj0
  exact hv.same (fun k hk=>e1.same k (hS k hk).1)
 ·exact H _ _ G2 (by omega) (fun i hi ho=>(same2 i (by omega) ho).trans (e1.same i hi)) (fun i hi=>(on2 i hi).imp id (fun h=>by omega))
abbrev HS (h h':Heap):Nat→Prop:=fun k=>h.size≤k∧k < h'.size
theorem KB6 {h:Heap} {Q:Value ⊕ Array Value→Heap→Prop} {b i:Nat} {s:List UInt8} {k:Int} (R:Rd h b s i) (hi:i < s.length) (he:ErrV h) (hb:b≠5)
  (H1:∀ n j h',KAT k s i=.ok (.mk k n [] [],j)→Kb b h h'→Rd h' b s j→Q (.inr (Z9 k n [] Sl.nil)) h') (H2:∀ e h',KAT k s i=.error e→Kb b h h'→Q (.inl (G8 e)) h'):(J2 (some ⟨b,0,none⟩) k).wp h Q:=by
 unfold J2
 refine Jp (fun h1 e1 hs1 g1=>?_)
 refine zz (R.ext e1) hi (fun h2 u2 R2=>?_)
 have hbl:=R.lt
 have K2:Kb b h h2:=(Km.ext e1).trans (Km.upd u2 rfl)
 have g2:=(u2.ne h.size (by omega)).trans g1
 refine GA (YO (lit:=[91]) R2 (by decide) (fun j h3 hj K3 R3=>?_) (fun e h3 hj K3=>H2 e h3 (by unfold KAT; rw [hj]) (K2.trans K3)))
 have g3:=K3.blk g2 (show ¬ h.size=b by omega)
 have K3':=K2.trans K3
 refine GA (z6 R3 (he.km K3' hb) hb (fun n j2 h4 hn K4 R4=>?_) (fun e h4 hn K4=>H2 e h4 (by unfold KAT; rw [hj]; dsimp only; rw [hn]) (K3'.trans K4)))
 have g4:=K4.blk g3 (show ¬ h.size=b by omega)
 have K4':=K3'.trans K4
 have hs4:=K4'.size
 refine Jp (fun h5 e5 hs5 g5=>?_)
 refine Ju rfl (stR g5 (Nat.le_refl 4) (by intro v hv; simp at hv; rcases hv with rfl | rfl | rfl | rfl <;> rfl) (fun h6 u6 g6=>?_))
 have hl6:lay (#[.int .i64 0,.int .i64 0,.string ByteArray.empty,.slice none 0 0]:Array Value) 0 (#[.int .i64 k,.int .i64 n,.string ByteArray.empty,.slice none 0 0]:Array Value).toList=Z9 k n [] Sl.nil:=by
  exact ZV (cs:=vz) (vs:=(Z9 k n [] Sl.nil).toList) rfl
 rw [hl6] at g6
 have hlt4:h.size < h4.size:=GR g4
 have K6:Kb b h h6:=⟨by have:=u6.size; have:=e5.size; omega,fun q hq hqb=>(u6.ne q (by omega)).trans ((e5.same q (by omega)).trans (K4'.same q hq hqb))⟩
 have R6:Rd h6 b s j2:=⟨(u6.ne b (by have:=R4.lt; omega)).trans (e5.blk R4.blk),R4.le,R4.small⟩
 have g6':h6[h.size]?=some (.cells (#[.int .i64 0,.int .i64 0,.string ByteArray.empty,.slice none 0 0]:Array Value) KJ (0,0)):=(u6.ne h.size (by omega)).trans (e5.blk g4)
 refine GA (YO (lit:=[93]) R6 (by decide) (fun j3 h7 hj3 K7 R7=>?_) (fun e h7 hj3 K7=>H2 e h7 (by unfold KAT; rw [hj]; dsimp only; rw [hn]; dsimp only; rw [hj3]) (K6.trans K7)))
 have g7:=K7.blk g6 (show ¬ h4.size=b by have:=R4.lt; omega)
 have g7':=K7.blk g6' (show ¬ h.size=b by omega)
 refine ldR g7 rfl ?_
 refine KHB g7' rfl rfl (Zm _ _ _ _) (fun h8 u8=>H1 n j3 h8 ?_ ?_ ?_)
 ·unfold KAT; rw [hj]; dsimp only; rw [hn]; dsimp only; rw [hj3]
 ·have:=(K6.trans K7)
  exact ⟨by rw [u8.size]; exact this.size,fun q hq hqb=>(u8.ne q (by omega)).trans (this.same q hq hqb)⟩
 ·exact ⟨(u8.ne b (by omega)).trans R7.blk,R7.le,R7.small⟩
theorem KB7 {β:Type} {h:Heap} {Q:β→Heap→Prop} {cs:Array Value} {f:Array Value→M β} (hc:cs.size=4) (h1:∀ v ∈ cs.toList,one v=true) (H:∀ h',Ext h h'→(f cs).wp h' Q) :
  ((mkB KJ (#[.int .i64 0,.int .i64 0,.string ByteArray.empty,.slice none 0 0]:Array Value)>>=fun x=>M.need (cs.size=4)>>=fun _=>stG x cs>>=fun _=>ldG 4 x>>=fun r=>(M.pure r:M (Array Value)))>>=f).wp h Q:=by
 refine Jv (Jp (fun h1 e1 hs1 g1=>Jv (Ju hc (Jv (stR g1 (by rw [hc]; exact Nat.le_refl 4) ‹_› (fun h2 u2 g2=>Jv ?_))))))
 rw [ZV (cs:=vz) (vs:=cs.toList) (by rw [Array.length_toList,hc]; rfl)] at g2
 exact ldR g2 hc (UP (H _ (e1.upd u2 (Nat.le_refl _))))
theorem KFa {β:Type} {h:Heap} {Q:β→Heap→Prop} {n:Int} {f:Array Value→M β} (H:∀ h',Ext h h'→(f (Z9 1 n [] Sl.nil)).wp h' Q):(Xx n>>=f).wp h Q:=KB7 (cs:=Z9 1 n [] Sl.nil) rfl (Zm _ _ _ _) H
theorem KDO {β:Type} {h:Heap} {Q:β→Heap→Prop} {s:List UInt8} {f:Array Value→M β} (H:∀ h',Ext h h'→(f (Z9 2 0 s Sl.nil)).wp h' Q):(XC (bs s)>>=f).wp h Q:=KB7 (cs:=Z9 2 0 s Sl.nil) rfl (Zm _ _ _ _) H
theorem KBc {β:Type} {h:Heap} {Q:β→Heap→Prop} {c:Bool} {f:Array Value→M β} (H:∀ h',Ext h h'→(f (Z9 3 (if c=true then 1 else 0) [] Sl.nil)).wp h' Q):(WX c>>=f).wp h Q:=by
 unfold WX
 refine Jv (Jp (fun h1 e1 hs1 g1=>Jv (Jp (fun h2 e2 hs2 g2=>Jv (Ju rfl (Jv (stR (cs:=vz) (vs:=Z9 3 0 [] Sl.nil) g2 (Nat.le_refl 4) (Zm _ _ _ _) (fun h3 u3 g3=>?_))))))))
 rw [ZV (cs:=vz) (vs:=(Z9 3 0 [] Sl.nil).toList) rfl] at g3
 have key:∀ (n:Int) (h4:Heap),Upd h1.size h2 h4→h4[h1.size]?=some (.cells (Z9 3 n [] Sl.nil) KJ (0,0))→(∀ h',Ext h h'→(f (Z9 3 n [] Sl.nil)).wp h' Q)→(Vv ⟨h.size,0,none⟩ ⟨h1.size,0,none⟩>>=f).wp h4 Q:=by
  intro n h4 u4 g4 HH
  unfold Vv
  have g1':h4[h.size]?=some (.cells vz KJ (0,0)):=(u4.ne _ (by omega)).trans (e2.blk g1)
  refine Jv (ldR g4 rfl (Jv (Ju rfl (Jv (stR g1' (Nat.le_refl 4) (Zm _ _ _ _) (fun h5 u5 g5=>Jv ?_))))))
  rw [ZV (cs:=vz) (vs:=(Z9 3 n [] Sl.nil).toList) rfl] at g5
  refine ldR g5 rfl (UP (HH _ ?_))
  have a4:Ext h h4:=(e1.trans e2).upd u4 (by omega)
  exact a4.upd u5 (Nat.le_refl _)
 refine KF6 (fun hc=>?_) (fun hc=>?_)
 ·subst hc
  refine Jv (Gk (x:=.int .i64 0) (by rw [Zn,Ks g3]; rfl) (by rw [Zn]; exact JH g3) rfl ?_)
  rw [Zn,Nat.zero_add]
  exact key 1 _ (u3.trans (Upd.hset _ _ _ _)) (Wf g3) H
 ·subst hc
  exact key 0 _ u3 g3 H
def KI7 (s:List UInt8) (d:Nat):Prop:=∀ (i:Nat) (h:Heap) (Q:Value ⊕ Array Value→Heap→Prop) (b:Nat),Rd h b s i→ErrV h→b≠5 →
 (∀ v j h' c,pval s d i=.ok (v,j)→Kb b h h'→Rd h' b s j→JS (HS h h') h' v c→Q (.inr c) h') →
 (∀ e h',pval s d i=.error e→Kb b h h'→Q (.inl (G8 e)) h')→(US (some ⟨b,0,none⟩) ((9 - d:Nat):Int)).wp h Q
theorem KB8 {s:List UInt8} {d:Nat} (hd:d≤8) (IH:KI7 s d) {en:UInt8} (hen:en≠0) {two:Bool} {i:Nat} {h:Heap} {Q:Value ⊕ Sl→Heap→Prop} {b:Nat} (R:Rd h b s i) (hi:i < s.length) (he:ErrV h) (hb:b≠5)
  (H1:∀ l j h' r,qZ (pval s d) en two s (s.length - i) [] (i+1)=.ok (l,j)→Kb b h h'→Rd h' b s j→VsRepS (HS h h') h' r l→Q (.inr r) h')
  (H2:∀ e h',qZ (pval s d) en two s (s.length - i) [] (i+1)=.error e→Kb b h h'→Q (.inl (G8 e)) h') :
  (Vx (some ⟨b,0,none⟩) ((8 - d:Nat):Int) (en.toNat:Int) (if two=true then 2 else 1)).wp h Q:=by
 unfold Vx
 have hP:=KFZ s d
 refine zz R hi (fun h1 u1 R1=>?_)
 have K1:Kb b h h1:=Km.upd u1 rfl
 have hs1:=u1.size
 have hb1:=R1.lt
 refine M.loop_inv (fun (x:Sl) hh=>∃ (l:List Vl) (css:List (Array Value)) (f i':Nat),s.length < f+i'∧l.length≤i'∧Kb b h1 hh∧Rd hh b s i'∧VGw h1.size (fun k=>h1.size≤k∧k < hh.size∧¬ Sl.on x k) hh x css l∧qZ (pval s d) en two s f l i'=qZ (pval s d) en two s (s.length - i) [] (i+1))
  (fun x _=>s.length+1 - x.len) ?_ ⟨[],[],_,i+1,by omega,Nat.zero_le _,Km.refl _ _,R1,VGw.nil _ _ _,rfl⟩
 rintro x hh ⟨l,css,f,i',hf,hli,K,R',G,hm⟩ self hself
 have hsm:=R'.small
 have hle:=R'.le
 have hxl:x.len=l.length:=by rw [G.gw.len4 G.w4,G.len]
 obtain ⟨f,rfl⟩:∃ g,f=g+1:=⟨f - 1,by omega⟩
 rw [qZ] at hm
 have hKs:=K.size
 unfold U2
 refine KX (VS R' ?_)
 rw [show (((K9 s i').toNat:Int) != (en.toNat:Int))=!decide (K9 s i'=en) by rw [← u8_c (d:=en) (n:=(en.toNat:Int)) rfl]; rfl]
 refine Kx (fun hne=>?_) (fun heq=>?_)
 ·have hne:K9 s i'≠en:=by simpa using hne
  rw [if_neg hne] at hm
  have test:∀ (l2:List Vl) (css2:List (Array Value)) (i2:Nat) (h2:Heap) (x2:Sl),i' < i2→l.length < l2.length→l2.length≤i2→Kb b h1 h2→Rd h2 b s i2→VGw h1.size (fun k=>h1.size≤k∧k < h2.size∧¬ Sl.on x2 k) h2 x2 css2 l2 →
    (if K9 s i2≠en∧K9 s i2≠44 then .error i2 else qZ (pval s d) en two s f l2 i2)=qZ (pval s d) en two s (s.length - i) [] (i+1)→(J3 self (some ⟨b,0,none⟩) (en.toNat:Int) x2).wp h2 Q:=by
   intro l2 css2 i2 h2 x2 hi2 hl2 hli2 K2 R2 G2 hm2
   unfold J3
   refine KX (VS R2 ?_)
   rw [show (((K9 s i2).toNat:Int) != (en.toNat:Int))=!decide (K9 s i2=en) by rw [← u8_c (d:=en) (n:=(en.toNat:Int)) rfl]; rfl]
   refine Yw (c:=!decide (K9 s i2=44)) (fun _ Q' hq=>KQ ?_) ?_
   ·rw [show (((K9 s i2).toNat:Int) != 44)=!decide (K9 s i2=44) by rw [← u8_c (d:=44) (n:=44) rfl]; rfl]
    exact hq
   ·refine Kx (fun hbad=>?_) (fun hok=>?_)
    ·have hbad:K9 s i2≠en∧K9 s i2≠44:=by simpa using hbad
     rw [if_pos hbad] at hm2
     exact WK R2 (H2 _ _ hm2.symm (K1.trans K2))
    ·have hok:¬ (K9 s i2≠en∧K9 s i2≠44):=by
      intro hh2
      rw [decide_eq_false hh2.1,decide_eq_false hh2.2] at hok
      cases hok
     rw [if_neg hok] at hm2
     have hx2:x2.len=l2.length:=by rw [G2.gw.len4 G2.w4,G2.len]
     have:=R2.le
     exact hself _ _ ⟨l2,css2,f,i2,by omega,hli2,K2,R2,G2,hm2⟩ (by omega)
  have one_:∀ {l2:List Vl} {css2:List (Array Value)} {i2:Nat} {h2:Heap} {x2:Sl} {Qs:Value ⊕ Sl→Heap→Prop} {F:Sl→M (Value ⊕ Sl)},l2.length≤i2→Kb b h1 h2→Rd h2 b s i2→VGw h1.size (fun k=>h1.size≤k∧k < h2.size∧¬ Sl.on x2 k) h2 x2 css2 l2 →
    (∀ v j h3 x3 css3,pval s d i2=.ok (v,j)→Kb b h1 h3→Rd h3 b s j→VGw h1.size (fun k=>h1.size≤k∧k < h3.size∧¬ Sl.on x3 k) h3 x3 css3 (l2++[v])→(F x3).wp h3 Qs) →
    (∀ e h3,pval s d i2=.error e→Kb b h1 h3→Qs (.inl (G8 e)) h3) →
    (thr (zT Go.Proofs.Tryz.prog Vh #[.pointer (some ⟨b,0,none⟩),.int .i64 (IntKind.wrap .i64 (((8 - d:Nat):Int)+1))] (fun r:Array Value=>.agg r)) fun Xx24 =>
     (KA3 4 1 (#[.int .i64 0,.int .i64 0,.string ByteArray.empty,.slice none 0 0]:Array Value) [(0,.agg Xx24)]>>=fun y=>bdL KJ 1 y>>=fun x=>apL KJ 4 56 (#[.int .i64 0,.int .i64 0,.string ByteArray.empty,.slice none 0 0]:Array Value) x2 x>>=F)).wp h2 Qs:=by
   intro l2 css2 i2 h2 x2 Qs F hli2 K2 R2 G2 HF HE
   have hle2:=R2.le
   rw [w64 (by omega) (by omega),show (((8 - d:Nat):Int)+1)=((9 - d:Nat):Int) by omega]
   have hK2:=K2.size
   refine GA (KAs (Yh _ _) (IH i2 h2 _ b R2 ((he.km K1 hb).km K2 hb) hb (fun v j h3 c hv K3 R3 V3=>?_) (fun e h3 hv K3=>HE e h3 hv (K2.trans K3))))
   have hK3:=K3.size
   have G3:VGw h1.size (fun k=>h1.size≤k∧k < h3.size∧¬ Sl.on x2 k) h3 x2 css2 l2 :=
    (G2.same (fun k hk=>K3.same k (G2.gw.lt hk).1 (fun e=>by have:=(G2.gw.lt hk).2; omega)) (fun k hk=>K3.same k hk.2.1 (fun e=>by have:=hk.1; omega))).mono (fun k hk=>⟨hk.1,by have:=hk.2.1; omega,hk.2.2⟩)
   refine KIC G3 (fun k hk=>hk.2) (V3.mono (fun k hk=>⟨by have:=hk.1; omega,hk.2,fun ho=>by have:=(G2.gw.lt ho).1; have:=hk.1; omega⟩)) (by omega) (by omega) (fun h4 x4 G4 hs4 same4 on4=>?_)
   refine HF v j h4 x4 _ hv ⟨by omega,fun k hk hkb=>(same4 k (by omega) (fun ho=>by have:=(G2.gw.lt ho).2; omega)).trans ((K2.trans K3).same k hk hkb)⟩ ⟨?_,R3.le,R3.small⟩ (G4.mono (fun k hk=>⟨hk.1,by have:=hk.2.1; omega,fun ho=>(on4 k ho).elim hk.2.2 (fun h=>by have:=hk.2.1; omega)⟩))
   rw [same4 b (by omega) (fun ho=>by have:=(G2.gw.lt ho).2; omega)]
   exact R3.blk
  have body:∀ (i1:Nat) (h2:Heap),i'≤i1→Kb b h1 h2→Rd h2 b s i1→VGw h1.size (fun k=>h1.size≤k∧k < h2.size∧¬ Sl.on x k) h2 x css l →
    (match qY (pval s d) two s i1 with
     | .error e=>.error e
     | .ok (vs,i2)=>if K9 s i2≠en∧K9 s i2≠44 then .error i2 else qZ (pval s d) en two s f (l++vs) i2)=qZ (pval s d) en two s (s.length - i) [] (i+1) →
    (J4 self (some ⟨b,0,none⟩) ((8 - d:Nat):Int) (en.toNat:Int) (if two=true then 2 else 1) x).wp h2 Q:=by
   intro i1 h2 hi1 K2 R2 G2 hm2
   unfold J4
   refine one_ (by omega) K2 R2 G2 (fun v j h3 x3 css3 hv K3 R3 G3=>?_) (fun e h3 hv K3=>?_)
   ·have hvj:=hP _ _ _ hv
    cases two with
    | false =>
     refine iteF rfl ?_
     have hpair:qY (pval s d) false s i1=.ok ([v],j):=by unfold qY; rw [hv]; rfl
     rw [hpair] at hm2
     exact test _ _ j h3 x3 (by omega) (by simp) (by rw [List.length_append,List.length_singleton]; omega) K3 R3 G3 hm2
    | true =>
     refine iteT rfl ?_
     refine GA (YO (lit:=[58,32]) R3 (by decide) (fun j2 h4 hj2 K4 R4=>?_) (fun e h4 hj2 K4=>?_))
     ·have hj2':j2=j+2:=(Wt hj2).1
      have hK3:=K3.size
      have hK4:=K4.size
      have G4:VGw h1.size (fun k=>h1.size≤k∧k < h4.size∧¬ Sl.on x3 k) h4 x3 css3 (l++[v]) :=
       (G3.same (fun k hk=>K4.same k (G3.gw.lt hk).1 (fun e=>by have:=(G3.gw.lt hk).2; omega)) (fun k hk=>K4.same k hk.2.1 (fun e=>by have:=hk.1; omega))).mono (fun k hk=>⟨hk.1,by have:=hk.2.1; omega,hk.2.2⟩)
      refine one_ (by rw [List.length_append,List.length_singleton]; omega) (K3.trans K4) R4 G4 (fun w j3 h5 x5 css5 hw K5 R5 G5=>?_) (fun e h5 hw K5=>?_)
      ·have hwj:=hP _ _ _ hw
       have hpair:qY (pval s d) true s i1=.ok ([v,w],j3):=by unfold qY; rw [hv]; dsimp only; rw [if_pos rfl,hj2]; dsimp only; rw [hw]
       rw [hpair] at hm2
       rw [List.append_assoc] at G5
       exact test _ _ j3 h5 x5 (by omega) (by simp) (by simp only [List.length_append,List.length_cons,List.length_nil]; omega) K5 R5 G5 hm2
      ·have hpair:qY (pval s d) true s i1=.error e:=by unfold qY; rw [hv]; dsimp only; rw [if_pos rfl,hj2]; dsimp only; rw [hw]
       rw [hpair] at hm2
       exact H2 _ _ hm2.symm (K1.trans K5)
     ·have hpair:qY (pval s d) true s i1=.error e:=by unfold qY; rw [hv]; dsimp only; rw [if_pos rfl,hj2]
      rw [hpair] at hm2
      exact H2 _ _ hm2.symm (K1.trans (K3.trans K4))
   ·have hpair:qY (pval s d) two s i1=.error e:=by unfold qY; rw [hv]
    rw [hpair] at hm2
    exact H2 _ _ hm2.symm (K1.trans K3)
  refine Kx (fun hpos=>?_) (fun hz=>?_)
  ·have hl0:¬ l.length=0:=by have:=of_decide_eq_true hpos; omega
   unfold sepP at hm
   rw [if_neg hl0] at hm
   refine GA (YO (lit:=[44,32]) R' (by decide) (fun j h2 hj K2 R2=>?_) (fun e h2 hj K2=>?_))
   ·rw [hj] at hm
    have hj':j=i'+2:=(Wt hj).1
    have hK2:=K2.size
    exact body j h2 (by omega) (K.trans K2) R2 ((G.same (fun k hk=>K2.same k (G.gw.lt hk).1 (fun e=>by have:=(G.gw.lt hk).2; omega)) (fun k hk=>K2.same k hk.2.1 (fun e=>by have:=hk.1; omega))).mono (fun k hk=>⟨hk.1,by have:=hk.2.1; omega,hk.2.2⟩)) hm
   ·rw [hj] at hm
    exact H2 _ _ hm.symm (K1.trans (K.trans K2))
  ·have hl0:l.length=0:=by have:=of_decide_eq_false hz; omega
   unfold sepP at hm
   rw [if_pos hl0] at hm
   exact body i' hh (Nat.le_refl _) K R' G hm
 ·have heq:K9 s i'=en:=by simpa using heq
  rw [if_pos heq] at hm
  have hil:i' < s.length:=WT (by rw [heq]; exact hen)
  refine zz R' hil (fun h2 u2 R2=>KQ ?_)
  have hu2:=u2.size
  have G2:=G.same (fun k hk=>u2.ne k (fun e=>by have:=(G.gw.lt hk).2; omega)) (fun k hk=>u2.ne k (fun e=>by have:=hk.1; omega))
  refine H1 l (i'+1) h2 x hm.symm (K1.trans (K.trans (Km.upd u2 rfl))) R2 ?_
  refine (G2.rep_ (by omega)).same (fun _ _=>rfl) (fun k hk=>?_)
  rcases hk with hk | hk
  ·exact ⟨by have:=hk.1; omega,by have:=hk.2.1; omega⟩
  ·have:=G2.gw.lt hk
   exact ⟨by omega,by omega⟩
end Gx
namespace Gx
open Go Go.Proofs Go.Shelf Go.RowKit Go.Lib
set_option linter.unusedVariables false
set_option linter.unusedSimpArgs false
set_option maxRecDepth 100000
theorem Rd.upd {h h':Heap} {b g:Nat} {s:List UInt8} {i:Nat} (R:Rd h b s i) (u:Upd g h h') (hg:b≠g):Rd h' b s i:=⟨(u.ne b hg).trans R.blk,R.le,R.small⟩
theorem KAn (s:List UInt8):∀ d,d≤8→KI7 s d
 | 0,_=>fun i h Q b R he hb H1 H2=>by
  unfold US
  refine Jp (fun h1 e1 hs1 g1=>iteT (by rfl) (GA (WK (R.ext e1) (H2 i h1 rfl (Km.ext e1)))))
 | d+1,hd=>fun i h Q b R he hb H1 H2=>by
  have IH:=KAn s d (by omega)
  unfold US
  refine Jp (fun h1 e1 hs1 g1=>iteF (decide_eq_false (by omega)) ?_)
  have R1:=R.ext e1
  have hbl:=R.lt
  have he1:=he.ext e1
  have K1:Kb b h h1:=Km.ext e1
  have fin:∀ (v:Vl) (cs:Array Value) (j:Nat) (h2:Heap),pval s (d+1) i=.ok (v,j)→Kb b h1 h2→Rd h2 b s j→JS (fun k=>h1.size≤k∧k < h2.size) h2 v cs →
    (M.need (cs.size=4)>>=fun _=>stG ⟨h.size,0,none⟩ cs>>=fun _=>ldG 4 ⟨h.size,0,none⟩>>=fun r=>(M.pure (.inr r):M (Value ⊕ Array Value))).wp h2 Q:=by
   intro v cs j h2 hv K2 R2 V2
   have g2:=K2.blk g1 (show ¬ h.size=b by omega)
   refine KHB g2 rfl V2.size V2.to.one (fun h3 u3=>H1 v j h3 cs hv ?_ (R2.upd u3 (by omega)) ?_)
   ·have:=K1.trans K2
    exact ⟨by rw [u3.size]; exact this.size,fun q hq hqb=>(u3.ne q (by omega)).trans (this.same q hq hqb)⟩
   ·have hu:=u3.size
    exact (V2.same (fun k hk=>u3.ne k (by omega))).mono (fun k hk=>⟨by omega,by omega⟩)
  have scal:∀ {k n:Int} {t:List UInt8} {S:Nat→Prop} {h2:Heap},I64 k→I64 n→t.length≤1099511627776→JS S h2 (.mk k n t []) (Z9 k n t Sl.nil):=fun hk hn ht=>KDM _ _ hk hn (by omega)
  have hle:=R.le
  have hsm:=R.small
  rw [pval] at H1 H2 fin
  unfold UN
  refine KX (VS R1 ?_)
  refine or_b (c:=digB (K9 s i)) (fun _ Q' hq=>KX (q7 (KQ hq))) ?_
  rw [u8_c (d:=45) (n:=45) rfl]
  refine Kx (fun hc=>?_) (fun hc=>?_)
  ·have hc:K9 s i=45∨digB (K9 s i)=true:=by rwa [Bool.or_eq_true,decide_eq_true_iff] at hc
   rw [if_pos hc] at H1 H2 fin
   refine GA (z6 R1 he1 hb (fun n j h2 hn K2 R2=>?_) (fun e h2 hn K2=>H2 e h2 (by rw [hn]) (K1.trans K2)))
   refine KFa (fun h3 e3=>fin (.mk 1 n [] []) _ j h3 (by rw [hn]) (K2.trans (Km.ext e3)) (R2.ext e3) (scal ⟨by decide,by decide⟩ (KCV hn hle).1 (by decide)))
  have hc:¬ (K9 s i=45∨digB (K9 s i)=true):=fun hh=>by
   rw [← decide_eq_true_iff (p:=K9 s i=45),← Bool.or_eq_true,hc] at hh
   cases hh
  rw [if_neg hc] at H1 H2 fin
  rw [u8_c (d:=39) (n:=39) rfl]
  refine Kx (fun hc=>?_) (fun hc=>?_)
  ·rw [if_pos (of_decide_eq_true hc)] at H1 H2 fin
   refine GA (KGd R1 (fun t j h2 ht K2 R2=>?_) (fun e h2 ht K2=>H2 e h2 (by rw [ht]) (K1.trans K2)))
   refine KDO (fun h3 e3=>fin (.mk 2 0 t []) _ j h3 (by rw [ht]) (K2.trans (Km.ext e3)) (R2.ext e3) (scal ⟨by decide,by decide⟩ ⟨by decide,by decide⟩ (by have:=(KCX ht).2.2; omega)))
  rw [if_neg (of_decide_eq_false hc)] at H1 H2 fin
  rw [u8_c (d:=116) (n:=116) rfl]
  refine Kx (fun hc=>?_) (fun hc=>?_)
  ·rw [if_pos (of_decide_eq_true hc)] at H1 H2 fin
   refine GA (YO (lit:=[116,114,117,101]) R1 (by decide) (fun j h2 hj K2 R2=>?_) (fun e h2 hj K2=>H2 e h2 (by rw [hj]) (K1.trans K2)))
   refine KBc (fun h3 e3=>fin (.mk 3 1 [] []) _ j h3 (by rw [hj]) (K2.trans (Km.ext e3)) (R2.ext e3) (scal ⟨by decide,by decide⟩ ⟨by decide,by decide⟩ (by decide)))
  rw [if_neg (of_decide_eq_false hc)] at H1 H2 fin
  rw [u8_c (d:=102) (n:=102) rfl]
  refine Kx (fun hc=>?_) (fun hc=>?_)
  ·rw [if_pos (of_decide_eq_true hc)] at H1 H2 fin
   refine GA (YO (lit:=[102,97,108,115,101]) R1 (by decide) (fun j h2 hj K2 R2=>?_) (fun e h2 hj K2=>H2 e h2 (by rw [hj]) (K1.trans K2)))
   refine KBc (fun h3 e3=>fin (.mk 3 0 [] []) _ j h3 (by rw [hj]) (K2.trans (Km.ext e3)) (R2.ext e3) (scal ⟨by decide,by decide⟩ ⟨by decide,by decide⟩ (by decide)))
  rw [if_neg (of_decide_eq_false hc)] at H1 H2 fin
  rw [u8_c (d:=118) (n:=118) rfl]
  refine Kx (fun hc=>?_) (fun hc=>?_)
  ·have hcc:=of_decide_eq_true hc
   rw [if_pos hcc] at H1 H2 fin
   refine GA (KB6 (k:=6) R1 (WT (by rw [hcc]; decide)) he1 hb (fun n j h2 hn K2 R2=>fin _ _ j h2 hn K2 R2 ?_) (fun e h2 hn K2=>H2 e h2 hn (K1.trans K2)))
   obtain ⟨n',hv,hn',_⟩:=zR hn
   cases hv
   exact scal ⟨by decide,by decide⟩ hn' (by decide)
  rw [if_neg (of_decide_eq_false hc)] at H1 H2 fin
  rw [u8_c (d:=101) (n:=101) rfl]
  refine Kx (fun hc=>?_) (fun hc=>?_)
  ·have hcc:=of_decide_eq_true hc
   rw [if_pos hcc] at H1 H2 fin
   refine GA (KB6 (k:=7) R1 (WT (by rw [hcc]; decide)) he1 hb (fun n j h2 hn K2 R2=>fin _ _ j h2 hn K2 R2 ?_) (fun e h2 hn K2=>H2 e h2 hn (K1.trans K2)))
   obtain ⟨n',hv,hn',_⟩:=zR hn
   cases hv
   exact scal ⟨by decide,by decide⟩ hn' (by decide)
  rw [if_neg (of_decide_eq_false hc)] at H1 H2 fin
  rw [u8_c (d:=91) (n:=91) rfl,show ((9 - (d+1):Nat):Int)=((8 - d:Nat):Int) by omega]
  refine Kx (fun hc=>?_) (fun hc=>?_)
  ·have hcc:=of_decide_eq_true hc
   rw [if_pos hcc] at H1 H2 fin
   refine GA (KAs (XJ _ _ _ _) (KB8 (two:=false) (en:=93) (by omega) IH (by decide) R1 (WT (by rw [hcc]; decide)) he1 hb (fun l j h2 r hl K2 R2 V2=>?_) (fun e h2 hl K2=>H2 e h2 (by rw [hl]) (K1.trans K2))))
   exact fin (.mk 4 0 [] l) _ j h2 (by rw [hl]) K2 R2 (KDN ⟨by decide,by decide⟩ ⟨by decide,by decide⟩ V2)
  rw [if_neg (of_decide_eq_false hc)] at H1 H2 fin
  rw [u8_c (d:=123) (n:=123) rfl]
  refine Kx (fun hc=>?_) (fun hc=>?_)
  ·have hcc:=of_decide_eq_true hc
   rw [if_pos hcc] at H1 H2 fin
   refine GA (KAs (XJ _ _ _ _) (KB8 (two:=true) (en:=125) (by omega) IH (by decide) R1 (WT (by rw [hcc]; decide)) he1 hb (fun l j h2 r hl K2 R2 V2=>?_) (fun e h2 hl K2=>H2 e h2 (by rw [hl]) (K1.trans K2))))
   exact fin (.mk 5 0 [] l) _ j h2 (by rw [hl]) K2 R2 (KDN ⟨by decide,by decide⟩ ⟨by decide,by decide⟩ V2)
  rw [if_neg (of_decide_eq_false hc)] at H1 H2 fin
  exact GA (WK R1 (H2 i h1 rfl K1))
def KCY (s:List UInt8):Except Nat Vl:=match pval s 8 0 with | .error e=>.error e | .ok (v,j)=>if j < s.length then .error j else .ok v
theorem KAo {h:Heap} {Q:Array Value × Int × Bool→Heap→Prop} {b2 b3 b4 e:Nat} {z2:Array Value} {v3 v4:Value} (g2:h[b2]?=some (.cells z2 KJ (0,0))) (hz:z2.size=4) (g3:h[b3]?=some (.cells #[v3] Gm (0,0))) (g4:h[b4]?=some (.cells #[v4] zg (0,0))) (h23:b2≠b3) (h24:b2≠b4) (h34:b3≠b4)
  (H:∀ h',h.size≤h'.size→(∀ i,i < h.size→i≠b2→i≠b3→i≠b4→h'[i]?=h[i]?)→Q (vz,(e:Int),false) h'):(X6 ⟨b2,0,none⟩ ⟨b3,0,none⟩ ⟨b4,0,none⟩ (G8 e)>>=fun _=>GQ ⟨b2,0,none⟩ ⟨b3,0,none⟩ ⟨b4,0,none⟩).wp h Q:=by
 have l2:=GR g2
 have l3:=GR g3
 have l4:=GR g4
 unfold X6
 refine ⟨(e:Int),rfl,?_⟩
 refine KX (Jp (fun h1 e1 hs1 g1=>Ju rfl (stR g1 (Nat.le_refl 1) (by intro v hv; simp at hv; subst hv; rfl) (fun h2' u2 g2'=>?_))))
 rw [ZV (cs:=#[.int .i64 0]) (vs:=(#[.int .i64 (e:Int)]:Array Value).toList) rfl] at g2'
 unfold KDG
 refine Ux (n:=(e:Int)) (by rw [Zn,Ks g2']; rfl) (Ju rfl ?_)
 have k2:h2'[b2]?=some (.cells z2 KJ (0,0)):=(u2.ne b2 (by omega)).trans (e1.blk g2)
 refine stR k2 (by rw [hz]; exact Nat.le_refl 4) (Zm 0 0 [] Sl.nil) (fun h3 u3 g3'=>?_)
 rw [ZV (cs:=z2) (vs:=(vz:Array Value).toList) (by rw [hz]; rfl)] at g3'
 have kq:h3[h.size]?=some (.cells #[.int .i64 (e:Int)] Jr (0,0)):=(u3.ne h.size (by omega)).trans g2'
 refine KBk (by rw [Zn,Ks kq]; rfl) ?_
 have k3:h3[b3]?=some (.cells #[v3] Gm (0,0)):=(u3.ne b3 (by omega)).trans ((u2.ne b3 (by omega)).trans (e1.blk g3))
 refine Gk (x:=v3) (by rw [Ks k3]; rfl) (JH k3) rfl ?_
 have g5:=Wf (o:=0) (v:=.int .i64 (e:Int)) k3
 have u5:=Upd.hset h3 b3 0 (.int .i64 (e:Int))
 generalize hset h3 ⟨b3,0,none⟩ (.int .i64 (e:Int))=h5 at g5 u5 ⊢
 have k4:h5[b4]?=some (.cells #[v4] zg (0,0)):=(u5.ne b4 (by omega)).trans ((u3.ne b4 (by omega)).trans ((u2.ne b4 (by omega)).trans (e1.blk g4)))
 refine Gk (x:=v4) (by rw [Ks k4]; rfl) (JH k4) rfl ?_
 have g6:=Wf (o:=0) (v:=.bool false) k4
 have u6:=Upd.hset h5 b4 0 (.bool false)
 generalize hset h5 ⟨b4,0,none⟩ (.bool false)=h6 at g6 u6 ⊢
 refine KQ ?_
 unfold GQ
 have m2:h6[b2]?=some (.cells vz KJ (0,0)):=(u6.ne b2 (by omega)).trans ((u5.ne b2 (by omega)).trans g3')
 have m3:h6[b3]?=some (.cells (#[v3].setIfInBounds 0 (.int .i64 (e:Int))) Gm (0,0)):=(u6.ne b3 (by omega)).trans g5
 refine ldR m2 rfl (Ux (n:=(e:Int)) (by rw [Ks m3]; rfl) (KIY (n:=false) (by rw [Ks g6]; rfl) (KQ (H _ ?_ ?_))))
 ·have a1:=u6.size; have a2:=u5.size; have a3:=u3.size; have a4:=u2.size; omega
 ·intro i hi n2 n3 n4
  rw [u6.ne i n4,u5.ne i n3,u3.ne i n2,u2.ne i (by omega)]
  exact e1.same i hi
theorem KFb {s:List UInt8} {h:Heap} {Q:Array Value × Int × Bool→Heap→Prop} (hs:s.length≤1099511627776) (he:ErrV h)
  (H1:∀ v h' c,KCY s=.ok v→Ext h h'→JS (h.size≤·) h' v c→Q (c,0,true) h') (H2:∀ e h',KCY s=.error e→Ext h h'→Q (vz,(e:Int),false) h'):(KH9 (bs s)).wp h Q:=by
 unfold KH9
 refine Jp (fun h1 e1 s1 g1=>Jp (fun h2 e2 s2 g2=>Jp (fun h3 e3 s3 g3=>Jp (fun h4 e4 s4 g4=>?_))))
 obtain ⟨t5,p5,hc5⟩:=id he
 have h5:5 < h.size:=qV hc5
 have R4:Rd h4 h3.size s 0:=⟨g4,Nat.zero_le _,hs⟩
 have E4:Ext h h4:=((e1.trans e2).trans e3).trans e4
 have b1:h4[h.size]?=some (.cells vz KJ (0,0)):=((e2.trans e3).trans e4).blk g1
 have b2:h4[h1.size]?=some (.cells #[.int .i64 0] Gm (0,0)):=(e3.trans e4).blk g2
 have b3:h4[h2.size]?=some (.cells #[.bool false] zg (0,0)):=e4.blk g3
 refine KX (KAn s 8 (Nat.le_refl _) 0 h4 _ h3.size R4 (he.ext E4) (by omega) (fun v j h6 c hv K6 R6 V6=>?_) (fun e h6 hv K6=>?_))
 ·have c1:=K6.blk b1 (show ¬ h.size=h3.size by omega)
  have c2:=K6.blk b2 (show ¬ h1.size=h3.size by omega)
  have c3:=K6.blk b3 (show ¬ h2.size=h3.size by omega)
  have hs6:=K6.size
  refine Ju V6.size (stR c1 (by rw [V6.size]; exact Nat.le_refl 4) V6.to.one (fun h7 u7 g7=>?_))
  rw [ZV (cs:=vz) (vs:=c.toList) (by rw [Array.length_toList,V6.size]; rfl)] at g7
  have hs7:=u7.size
  have R7:=R6.upd u7 (show h3.size≠h.size by omega)
  refine zJ R7 ?_
  rw [UT]
  refine Kx (fun hlt=>?_) (fun hge=>?_)
  ·have hlt:j < s.length:=by have:=of_decide_eq_true hlt; omega
   refine KX (WK R7 ?_)
   refine KAo g7 V6.size ((u7.ne _ (by omega)).trans c2) ((u7.ne _ (by omega)).trans c3) (by omega) (by omega) (by omega) (fun h8 s8 same8=>H2 j h8 ?_ ⟨by omega,fun i hi=>?_⟩)
   ·unfold KCY; rw [hv]; dsimp only; rw [if_pos hlt]
   ·rw [same8 i (by omega) (by omega) (by omega) (by omega),u7.ne i (by omega),K6.same i (by omega) (by omega)]
    exact E4.same i hi
  ·have hge:¬ j < s.length:=by have:=of_decide_eq_false hge; omega
   unfold KBa
   refine ldR g7 V6.size (Ju V6.size (stR g7 (by rw [V6.size]; exact Nat.le_refl 4) V6.to.one (fun h8 u8 g8=>?_)))
   rw [ZV (cs:=c) (vs:=c.toList) (by rw [Array.length_toList])] at g8
   have d2:h8[h1.size]?=some (.cells #[.int .i64 0] Gm (0,0)):=(u8.ne _ (by omega)).trans ((u7.ne _ (by omega)).trans c2)
   refine Gk (x:=.int .i64 0) (by rw [Ks d2]; rfl) (JH d2) rfl ?_
   have g9:=Wf (o:=0) (v:=.int .i64 0) d2
   have u9:=Upd.hset h8 h1.size 0 (.int .i64 0)
   generalize hset h8 ⟨h1.size,0,none⟩ (.int .i64 0)=h9 at g9 u9 ⊢
   have d3:h9[h2.size]?=some (.cells #[.bool false] zg (0,0)):=(u9.ne _ (by omega)).trans ((u8.ne _ (by omega)).trans ((u7.ne _ (by omega)).trans c3))
   refine Gk (x:=.bool false) (by rw [Ks d3]; rfl) (JH d3) rfl ?_
   have g10:=Wf (o:=0) (v:=.bool true) d3
   have u10:=Upd.hset h9 h2.size 0 (.bool true)
   generalize hset h9 ⟨h2.size,0,none⟩ (.bool true)=h10 at g10 u10 ⊢
   unfold GQ
   have m1:h10[h.size]?=some (.cells c KJ (0,0)):=(u10.ne _ (by omega)).trans ((u9.ne _ (by omega)).trans g8)
   have m2:=(u10.ne h1.size (by omega)).trans g9
   refine ldR m1 V6.size (Ux (n:=0) (by rw [Ks m2]; rfl) (KIY (n:=true) (by rw [Ks g10]; rfl) (KQ (H1 v _ c ?_ ⟨?_,fun i hi=>?_⟩ ?_))))
   ·unfold KCY; rw [hv]; dsimp only; rw [if_neg hge]
   ·have a1:=u10.size; have a2:=u9.size; have a3:=u8.size; omega
   ·rw [u10.ne i (by omega),u9.ne i (by omega),u8.ne i (by omega),u7.ne i (by omega),K6.same i (by omega) (by omega)]
    exact E4.same i hi
   ·refine (V6.same (fun k hk=>?_)).mono (fun k hk=>by have:=hk.1; omega)
    have:=hk.1
    rw [u10.ne k (by omega),u9.ne k (by omega),u8.ne k (by omega),u7.ne k (by omega)]
 ·have c1:=K6.blk b1 (show ¬ h.size=h3.size by omega)
  have c2:=K6.blk b2 (show ¬ h1.size=h3.size by omega)
  have c3:=K6.blk b3 (show ¬ h2.size=h3.size by omega)
  have hs6:=K6.size
  refine KAo c1 rfl c2 c3 (by omega) (by omega) (by omega) (fun h8 s8 same8=>H2 e h8 ?_ ⟨by omega,fun i hi=>?_⟩)
  ·unfold KCY; rw [hv]
  ·rw [same8 i (by omega) (by omega) (by omega) (by omega),K6.same i (by omega) (by omega)]
   exact E4.same i hi
def NA (s:List UInt8):Vl × Nat × Int:=match KCY s with | .error e=>(vl0,e,22) | .ok v=>if mayV 8 v=true then (v,0,0) else (vl0,0,20)
theorem KCZ {s:List UInt8} {h:Heap} {Q:Array Value × Int × Int→Heap→Prop} (hs:s.length≤1099511627776) (he:ErrV h)
  (H:∀ h' c,Ext h h'→JS (h.size≤·) h' (NA s).1 c→Q (c,((NA s).2.1:Int),(NA s).2.2) h'):(Y9 (bs s)).wp h Q:=by
 unfold Y9
 refine Jp (fun h1 e1 s1 g1=>?_)
 refine KX (Xb (KI6 _) (KFb hs (he.ext e1) (fun v h2 c hv e2 V2=>?_) (fun e h2 hv e2=>?_)))
 ·refine Jp (fun h3 e3 s3 g3=>Ju V2.size (stR g3 (by rw [V2.size]; exact Nat.le_refl 4) V2.to.one (fun h4 u4 g4=>?_)))
  rw [ZV (cs:=vz) (vs:=c.toList) (by rw [Array.length_toList,V2.size]; rfl)] at g4
  have E4:Ext h h4:=((e1.trans e2).trans e3).upd u4 (by have:=e1.size; have:=e2.size; omega)
  have V4:JS (fun k=>h1.size≤k∧k < h2.size) h4 v c:=((V2.lt2).same (fun k hk=>(u4.ne k (by omega)).trans (e3.same k hk.2)))
  refine iteF rfl (ldR g4 V2.size (KX (Nu V4.to (fun h5 e5=>?_))))
  have g5:h5[h.size]?=some (.cells vz KJ (0,0)):=e5.blk ((u4.ne _ (by have:=e2.size; omega)).trans ((e2.trans e3).blk g1))
  have gc5:=e5.blk g4
  unfold WZ
  by_cases hm:mayV 8 v=true
  ·rw [if_pos hm]
   have hP:NA s=(v,0,0):=by unfold NA; rw [hv]; dsimp only; rw [if_pos hm]
   rw [hP] at H
   refine iteF rfl (ldR gc5 V2.size (Ju V2.size (stR g5 (by rw [V2.size]; exact Nat.le_refl 4) V2.to.one (fun h6 u6 g6=>?_))))
   rw [ZV (cs:=vz) (vs:=c.toList) (by rw [Array.length_toList,V2.size]; rfl)] at g6
   refine ldR g6 V2.size (KQ (H h6 c ((E4.trans e5).upd u6 (Nat.le_refl _)) ?_))
   have hs2:=e2.size
   have hs3:=e3.size
   have hu4:=u4.size
   exact (V4.same (fun k hk=>(u6.ne k (by omega)).trans (e5.same k (by omega)))).mono (fun k hk=>by have:=hk.1; omega)
  ·rw [if_neg hm]
   have hP:NA s=(vl0,0,20):=by unfold NA; rw [hv]; dsimp only; rw [if_neg hm]
   rw [hP] at H
   refine iteT rfl (Ju rfl (stR g5 (Nat.le_refl 4) (Zm 0 0 [] Sl.nil) (fun h6 u6 g6=>?_)))
   rw [ZV (cs:=vz) (vs:=(vz:Array Value).toList) rfl] at g6
   exact ldR g6 rfl (KQ (H h6 _ ((E4.trans e5).upd u6 (Nat.le_refl _)) (Gz _ _)))
 ·have hP:NA s=(vl0,e,22):=by unfold NA; rw [hv]
  rw [hP] at H
  refine Jp (fun h3 e3 s3 g3=>Ju rfl (stR g3 (Nat.le_refl 4) (Zm 0 0 [] Sl.nil) (fun h4 u4 g4=>?_)))
  have E4:Ext h h4:=((e1.trans e2).trans e3).upd u4 (by have:=e1.size; have:=e2.size; omega)
  have g5:h4[h.size]?=some (.cells vz KJ (0,0)):=(u4.ne _ (by have:=e2.size; omega)).trans ((e2.trans e3).blk g1)
  refine iteT rfl (Ju rfl (stR g5 (Nat.le_refl 4) (Zm 0 0 [] Sl.nil) (fun h6 u6 g6=>?_)))
  rw [ZV (cs:=vz) (vs:=(vz:Array Value).toList) rfl] at g6
  exact ldR g6 rfl (KQ (H h6 _ (E4.upd u6 (Nat.le_refl _)) (Gz _ _)))
end Gx
namespace Gx
open Go
set_option linter.unusedVariables false
set_option linter.unusedSimpArgs false
def KT (h:Heap) (r:Sl) (e:TypeId):Prop:=∀ g,r.base=some ⟨g,0,none⟩→∃ c z,h[g]?=some (.cells c e z)
theorem KT.same {h h':Heap} {r:Sl} {e:TypeId} (k:KT h r e) (hs:∀ i,Sl.on r i→h'[i]?=h[i]?):KT h' r e:=fun g hg=>by
 obtain ⟨c,z,hh⟩:=k g hg
 exact ⟨c,z,(hs g ⟨_,hg,rfl⟩).trans hh⟩
theorem KB9 {lo:Nat} {h:Heap} {Q:Sl→Heap→Prop} {e sz bytes k:Nat} {z:Array Value} {r:Sl} {vs news:List Value} (hz:z.size=sz) (H:Gw lo h r sz vs) (hn:news.length=k * sz) (h1:∀ v ∈ news,one v=true)
  (hb:(r.len+k) * bytes≤140737488355328) (hm:r.len+k≤9223372036854775807) (hlo:lo≤h.size) (hnz:r.cap=0→r=Sl.nil) (hk:KT h r e)
  (hq:∀ h' r',Gw lo h' r' sz (vs++news)→r'.len=r.len+k→h.size≤h'.size→(∀ i,i < h.size→¬ Sl.on r i→h'[i]?=h[i]?)→(∀ i,Sl.on r' i→Sl.on r i∨h.size≤i)→(r'.cap=0→r'=Sl.nil)→KT h' r' e→Q r' h'):apGo e sz bytes z r k news h Q:=by
 unfold apGo
 split
 ·rename_i hc
  have hz':(⟨r.base,r.len+k,r.cap⟩:Sl).cap=0→(⟨r.base,r.len+k,r.cap⟩:Sl)=Sl.nil:=fun h0=>by
   have h0:r.cap=0:=h0
   have:=hnz h0
   subst this
   have:k=0:=by simp [Sl.nil] at hc; exact hc
   subst this
   rfl
  rcases H with ⟨rfl,rfl⟩ | ⟨b,ty,cells,H⟩
  ·have h0:k=0:=by simp [Sl.nil] at hc; exact hc
   subst h0
   have:news=[]:=List.length_eq_zero_iff.1 (by rw [hn]; simp)
   subst this
   refine ⟨fun a ha=>(by cases ha),by simp,?_⟩
   exact hq h _ (.inl ⟨rfl,rfl⟩) rfl (Nat.le_refl _) (fun i _ _=>rfl) (fun i hi=>.inl hi) hz' hk
  ·have hsz:r.len * sz+news.length≤cells.size:=by
    rw [hn,H.size,← Nat.add_mul]
    exact Nat.mul_le_mul_right _ hc
   have hblk:(Yj h r.base (r.len * sz) news)[b]?=some (.cells (lay cells (r.len * sz) news) ty (0,0)):=by
    rw [H.base]
    show (hsetL h ((⟨b,0,none⟩:Addr).add (r.len * sz)) news 0)[b]?=_
    rw [Zn,Nat.zero_add,N7 _ _ _ _ H.blk,Nat.add_zero]
   have hne:∀ i,i≠b→(Yj h r.base (r.len * sz) news)[i]?=h[i]?:=fun i hi=>by
    rw [H.base]
    show (hsetL h ((⟨b,0,none⟩:Addr).add (r.len * sz)) news 0)[i]?=_
    rw [Zn,N6 hi]
   have hsize:(Yj h r.base (r.len * sz) news).size=h.size:=by
    rw [H.base]
    exact Yx _ _ _
   refine ⟨fun a ha j hj=>?_,h1,hq _ _ (.inr ⟨b,ty,_,H.base,H.lo,hblk,?_,hc,?_,fun j v hj=>?_⟩) rfl (by rw [hsize]; exact Nat.le_refl _) (fun i hi hno=>hne i (fun e=>hno ⟨_,H.base,e.symm⟩)) (fun i hi=>.inl hi) hz' (fun g hg=>?_)⟩
   ·rw [H.base] at ha; cases ha
    rw [Zn,Zn,Nat.zero_add,Ks H.blk,JH H.blk]
    exact ⟨⟨_,Array.getElem?_eq_getElem (by omega)⟩,rfl⟩
   ·rw [ND]; exact H.size
   ·rw [List.length_append,H.len,hn,Nat.add_mul]
   ·rw [← Array.getElem?_toList,W2 _ _ _ hsz]
    have hlen:(cells.toList.take (r.len * sz)).length=r.len * sz:=by rw [List.length_take,Array.length_toList]; omega
    by_cases hj1:j < vs.length
    ·rw [List.getElem?_append_left hj1] at hj
     have:=H.get j v hj
     rw [List.append_assoc,List.getElem?_append_left (by rw [hlen,← H.len]; exact hj1),List.getElem?_take,if_pos (by rw [← H.len]; exact hj1),Array.getElem?_toList]
     exact this
    ·rw [List.getElem?_append_right (by omega)] at hj
     have hjn:j - vs.length < news.length:=(List.getElem?_eq_some_iff.1 hj).1
     rw [List.append_assoc,List.getElem?_append_right (by rw [hlen,← H.len]; omega),hlen,List.getElem?_append_left (by rw [← H.len]; exact hjn),← H.len]
     exact hj
   ·have hg:r.base=some ⟨g,0,none⟩:=hg
    rw [H.base] at hg; cases hg
    obtain ⟨c,z,hh⟩:=hk b H.base
    rw [H.blk] at hh; cases hh
    exact ⟨_,_,hblk⟩
 ·rename_i hc
  refine ⟨hb,hm,vs,H.len,H.reads,fun cap hcap=>?_⟩
  have hl:=H.len
  refine hq _ _ (.inr ⟨h.size,e,_,rfl,hlo,Zj,?_,hcap,?_,fun j v hj=>?_⟩) rfl (by simp) (fun i hi _=>Nc hi) (fun i hi=>.inr ?_) (fun h0=>by have h0:cap=0:=h0; omega) (fun g hg=>by cases hg; exact ⟨_,_,Zj⟩)
  ·rw [Array.size_append,Array.size_append,Xn,List.size_toArray,List.size_toArray,hl,hn,hz]
   show r.len * sz+k * sz+(cap - (r.len+k)) * sz=cap * sz
   rw [← Nat.add_mul,← Nat.add_mul]
   congr 1
   omega
  ·rw [List.length_append,hl,hn,Nat.add_mul]
  ·have hlt:j < (vs++news).length:=(List.getElem?_eq_some_iff.1 hj).1
   rw [Array.getElem?_append_left (by simpa using hlt)]
   rw [← hj]
   simp
  ·obtain ⟨a,ha,rfl⟩:=hi
   cases ha
   exact Nat.le_refl _
theorem KJi {β:Type} {e:Nat} {s:Sl} {x:ByteArray} {h:Heap} {Q:β→Heap→Prop} {f:Sl→M β} (H:apGo e 1 1 #[.int .u8 0] s x.size (Jt x) h (fun r h'=>(f r).wp h' Q)):(apS e s x>>=f).wp h Q:=H
theorem KJj {β:Type} {e sz bytes:Nat} {z:Array Value} {s x:Sl} {news:List Value} {h:Heap} {Q:β→Heap→Prop} {f:Sl→M β} (hn:news.length=x.len * sz) (hr:Y2 h x.base news) (H:apGo e sz bytes z s x.len news h (fun r h'=>(f r).wp h' Q)):(apL e sz bytes z s x>>=f).wp h Q:=⟨news,hn,hr,H⟩
theorem z7 (l:List UInt8):Jt (bs l)=l.map bv:=rfl
structure Bld (lo:Nat) (h:Heap) (b:Nat) (r:Sl) (l:List UInt8):Prop where
 low:lo≤b
 ptr:∃ p,h[b]?=some (.cells #[p,r.v] Jw (0,0))∧(p=.pointer none∨p=.pointer (some ⟨b,0,none⟩))
 row:Gw lo h r 1 (l.map bv)
 off:¬ Sl.on r b
 nz:r.cap=0→r=Sl.nil
 kt:KT h r Zi
theorem Bld.len {lo:Nat} {h:Heap} {b:Nat} {r:Sl} {l:List UInt8} (B:Bld lo h b r l):r.len=l.length:=by
 have:=B.row.len
 simp at this
 exact this.symm
theorem Bld.lt {lo:Nat} {h:Heap} {b:Nat} {r:Sl} {l:List UInt8} (B:Bld lo h b r l):b < h.size:=by
 obtain ⟨p,h1,_⟩:=B.ptr
 exact GR h1
theorem Bld.ext {lo:Nat} {h h':Heap} {b:Nat} {r:Sl} {l:List UInt8} (B:Bld lo h b r l) (e:Ext h h'):Bld lo h' b r l:=by
 obtain ⟨p,h1,h2⟩:=B.ptr
 exact ⟨B.low,⟨p,e.blk h1,h2⟩,B.row.ext e,B.off,B.nz,B.kt.same (fun i hi=>e.same i (B.row.lt hi).1)⟩
theorem Bld.new {lo:Nat} {h h':Heap} (hl:lo≤h.size) (hb:h'[h.size]?=some (.cells #[.pointer none,.slice none 0 0] Jw (0,0))):Bld lo h' h.size Sl.nil [] :=
 ⟨hl,⟨_,hb,.inl rfl⟩,Gw.nil _ _ _,fun ⟨a,ha,_⟩=>(by cases ha),fun _=>rfl,fun g hg=>by cases hg⟩
structure BKeep (b:Nat) (r r':Sl) (h h':Heap):Prop where
 size:h.size≤h'.size
 same:∀ i,i < h.size→i≠b→¬ Sl.on r i→h'[i]?=h[i]?
 on_:∀ i,Sl.on r' i→Sl.on r i∨h.size≤i
theorem BKeep.refl (b:Nat) (r:Sl) (h:Heap):BKeep b r r h h:=⟨Nat.le_refl _,fun _ _ _ _=>rfl,fun _ h=>.inl h⟩
theorem BKeep.trans {b:Nat} {r r' r'':Sl} {h h' h'':Heap} (k:BKeep b r r' h h') (k':BKeep b r' r'' h' h'') (hb:b < h.size):BKeep b r r'' h h'' :=
 ⟨Nat.le_trans k.size k'.size,fun i hi hne hno=>(k'.same i (Nat.lt_of_lt_of_le hi k.size) hne (fun ho=>(k.on_ i ho).elim hno (fun h=>by omega))).trans (k.same i hi hne hno),
  fun i hi=>(k'.on_ i hi).elim (fun h=>k.on_ i h) (fun h=>.inr (Nat.le_trans k.size h))⟩
theorem BKeep.ext {lo:Nat} {b:Nat} {r r':Sl} {h0 h h':Heap} {l:List UInt8} (e:Ext h0 h) (B:Bld lo h b r l) (hl:h0.size≤lo) (k:BKeep b r r' h h'):Ext h0 h' :=
 ⟨Nat.le_trans e.size k.size,fun i hi=>(k.same i (Nat.lt_of_lt_of_le hi e.size) (by have:=B.low; omega) (fun ho=>by have:=(B.row.lt ho).2; omega)).trans (e.same i hi)⟩
theorem BKeep.push {b:Nat} {r r':Sl} {h h' h'':Heap} (k:BKeep b r r' h h') (e:Ext h' h''):BKeep b r r' h h'' :=
 ⟨Nat.le_trans k.size e.size,fun i hi h1 h2=>(e.same i (Nat.lt_of_lt_of_le hi k.size)).trans (k.same i hi h1 h2),k.on_⟩
theorem KDu {h:Heap} {b:Nat} {p v u:Value} {t:TypeId} (hb:h[b]?=some (.cells #[p,v] t (0,0))):(hset h ⟨b,1,none⟩ u)[b]?=some (.cells #[p,u] t (0,0)):=by
 rw [Wf hb]; rfl
theorem KCa {h:Heap} {b:Nat} {p v u:Value} {t:TypeId} (hb:h[b]?=some (.cells #[p,v] t (0,0))):(hset h ⟨b,0,none⟩ u)[b]?=some (.cells #[u,v] t (0,0)):=by
 rw [Wf hb]; rfl
theorem Nx {β:Type} {lo:Nat} {h:Heap} {b:Nat} {r:Sl} {l:List UInt8} {Q:β→Heap→Prop} {f:Unit→M β} (B:Bld lo h b r l)
  (H:∀ h',Bld lo h' b r l→Upd b h h'→(f ()).wp h' Q):(Jh (some ⟨b,0,none⟩)>>=f).wp h Q:=by
 obtain ⟨p,h1,h2⟩:=B.ptr
 refine ⟨b,p,r.v,rfl,h1,?_⟩
 rcases h2 with rfl | rfl
 ·refine .inr ⟨rfl,H _ ⟨B.low,⟨_,KCa h1,.inr rfl⟩,B.row.same (fun i hi=>GD (fun e=>B.off ((show i=b from e) ▸ hi))),B.off,B.nz,B.kt.same (fun i hi=>GD (fun e=>B.off ((show i=b from e) ▸ hi)))⟩ (Upd.hset _ _ _ _)⟩
 ·exact .inl ⟨rfl,H _ B (Upd.refl _ _)⟩
theorem KCb {lo:Nat} {h h0 h':Heap} {b:Nat} {r r':Sl} {l l':List UInt8} (B:Bld lo h0 b r l) (u:Upd b h h0) (hs:h0.size≤h'.size)
  (same:∀ i,i < h0.size→¬ Sl.on r i→h'[i]?=h0[i]?) (on_:∀ i,Sl.on r' i→Sl.on r i∨h0.size≤i) (G:Gw lo h' r' 1 (l'.map bv)) (nz:r'.cap=0→r'=Sl.nil) (kt:KT h' r' Zi) :
  Bld lo (hset h' ⟨b,1,none⟩ r'.v) b r' l'∧BKeep b r r' h (hset h' ⟨b,1,none⟩ r'.v):=by
 have hb:=B.lt
 obtain ⟨p,h1,h2⟩:=B.ptr
 have h1':h'[b]?=some (.cells #[p,r.v] Jw (0,0)):=by rw [same b hb B.off]; exact h1
 have hoff:¬ Sl.on r' b:=fun ho=>(on_ b ho).elim B.off (fun h=>by omega)
 refine ⟨⟨B.low,⟨p,KDu h1',h2⟩,G.same (fun i hi=>GD (fun e=>hoff ((show i=b from e) ▸ hi))),hoff,nz,kt.same (fun i hi=>GD (fun e=>hoff ((show i=b from e) ▸ hi)))⟩,?_,fun i hi hne hno=>?_,fun i hi=>?_⟩
 ·rw [Gl,← u.size]; exact hs
 ·rw [GD hne,same i (by rw [u.size]; exact hi) hno,u.ne i hne]
 ·rw [← u.size]; exact on_ i hi
theorem X7 {lo:Nat} {h:Heap} {b:Nat} {r:Sl} {l s:List UInt8} {Q:Int × Value→Heap→Prop} (B:Bld lo h b r l) (hlo:lo≤h.size) (hm:l.length+s.length≤140737488355328)
  (H:∀ h' r' n,Bld lo h' b r' (l++s)→BKeep b r r' h h'→Q (n,Value.nilIface) h'):(Kw (some ⟨b,0,none⟩) (bs s)).wp h Q:=by
 unfold Kw
 refine Nx B (fun h0 B0 u=>Uf ?_)
 obtain ⟨p,h1,h2⟩:=B0.ptr
 have hl:=B0.len
 refine UG (n:=r) (by rw [Zn,Ks h1]; rfl) ?_
 refine KJi ?_
 rw [z7,UT]
 refine KB9 (vs:=l.map bv) (z:=#[.int .u8 0]) rfl B0.row (by simp) (fun v hv=>by obtain ⟨x,_,rfl⟩:=List.mem_map.1 hv; rfl) (by omega) (by omega) (by rw [u.size]; exact hlo) B0.nz B0.kt (fun h' r' G hlen hs same on_ nz kt=>?_)
 refine Uf ?_
 rw [← List.map_append] at G
 obtain ⟨B',K⟩:=KCb B0 u hs same on_ G nz kt
 have h1':h'[b]?=some (.cells #[p,r.v] Jw (0,0)):=by rw [same b B0.lt B0.off]; exact h1
 refine Gk (x:=r.v) (by rw [Zn,Ks h1']; rfl) (by rw [Zn,JH h1']) (zH _) (KQ ?_)
 rw [Zn]
 exact H _ _ _ B' K
theorem X8 {lo:Nat} {h:Heap} {b:Nat} {r:Sl} {l:List UInt8} {c:UInt8} {n:Int} {Q:Value→Heap→Prop} (B:Bld lo h b r l) (hlo:lo≤h.size) (hm:l.length+1≤140737488355328) (hn:n=(c.toNat:Int))
  (H:∀ h' r',Bld lo h' b r' (l++[c])→BKeep b r r' h h'→Q Value.nilIface h'):(ZH (some ⟨b,0,none⟩) n).wp h Q:=by
 subst hn
 unfold ZH
 refine Nx B (fun h0 B0 u=>Uf ?_)
 have hl:=B0.len
 obtain ⟨p,h1,h2⟩:=B0.ptr
 refine UG (n:=r) (by rw [Zn,Ks h1]; rfl) (KA8 ?_)
 have e1:=Ext.push h0 (.cells #[.int .u8 (c.toNat:Int)] Zi)
 have B1:=B0.ext e1
 refine KJj (news:=[bv c]) rfl (.inr ⟨_,rfl,fun j v hj=>?_⟩) ?_
 ·rw [Zn,Ks Zj,Nat.zero_add]
  rw [show (#[Value.int .u8 (c.toNat:Int)]:Array Value)=[bv c].toArray from rfl]
  simpa using hj
 refine KB9 (vs:=l.map bv) (news:=[bv c]) (z:=#[.int .u8 0]) rfl B1.row rfl (fun v hv=>by simp at hv; subst hv; rfl) (by show (r.len+1) * 1≤_; omega) (by show r.len+1≤_; omega) (by have:=e1.size; have:=u.size; omega) B1.nz B1.kt (fun h' r' G hlen hs same on_ nz kt=>?_)
 refine Uf ?_
 have G:Gw lo h' r' 1 ((l++[c]).map bv):=by rw [List.map_append]; exact G
 obtain ⟨p',h1',h2'⟩:=B1.ptr
 have:=KCb B1 (Upd.refl _ _) hs same on_ G nz kt
 obtain ⟨B',K⟩:=this
 have h1'':h'[b]?=some (.cells #[p',r.v] Jw (0,0)):=by rw [same b B1.lt B1.off]; exact h1'
 refine Gk (x:=r.v) (by rw [Zn,Ks h1'']; rfl) (by rw [Zn,JH h1'']) (zH _) (KQ ?_)
 rw [Zn,Nat.zero_add]
 refine H _ _ B' ?_
 refine ⟨?_,fun i hi hne hno=>?_,fun i hi=>(K.on_ i hi).imp id (fun hh=>?_)⟩
 ·have:=K.size; have:=e1.size; have:=u.size; omega
 ·rw [K.same i (by have:=e1.size; have:=u.size; omega) hne hno,e1.same i (by rw [u.size]; exact hi),u.ne i hne]
 ·have:=e1.size; have:=u.size; omega
theorem KCA {lo:Nat} {h:Heap} {b:Nat} {r:Sl} {l:List UInt8} {Q:ByteArray→Heap→Prop} (B:Bld lo h b r l) (hm:l.length≤140737488355328)
  (H:∀ h',BKeep b r r h h'→h'.size=h.size→Q (bs l) h'):(Jc (some ⟨b,0,none⟩)).wp h Q:=by
 unfold Jc
 obtain ⟨p,h1,h2⟩:=B.ptr
 have hl:=B.len
 have c1:KV h ((⟨b,0,none⟩:Addr).add 1)=some r.v:=by rw [Zn,Ks h1]; rfl
 refine Uf (Uf (UG (n:=r) c1 (UG (n:=r) c1 ?_)))
 rcases B.row with ⟨rfl,hv⟩ | ⟨g,ty,cells,R⟩
 ·have:l=[]:=by simpa using hv
  subst this
  exact ⟨none,.inl ⟨rfl,rfl⟩,.inl ⟨rfl,H h (BKeep.refl _ _ _) rfl⟩⟩
 ·have hc:r.cap≠0:=fun h0=>by
   have:=B.nz h0
   rw [this] at R
   have:=R.base
   cases this
  refine ⟨_,.inr ⟨hc,R.base⟩,?_⟩
  by_cases h0:l=[]
  ·subst h0
   refine .inl ⟨by rw [hl]; rfl,H h (BKeep.refl _ _ _) rfl⟩
  ·have hs:=R.size
   have:=R.cap
   refine .inr ⟨g,cells,(0,0),l,rfl,by rw [hl],h0,by omega,by omega,?_,fun j x hj=>?_,fun h' a1 a2=>KQ (H _ ⟨by rw [a1]; exact Nat.le_refl _,fun i hi hne hno=>a2 i (fun e=>hno ⟨_,R.base,e.symm⟩),fun i hi=>.inl hi⟩ a1)⟩
   ·obtain ⟨c,z,hh⟩:=B.kt g R.base
    rw [R.blk] at hh; cases hh
    exact R.blk
   ·have:=R.get j (bv x) (by simp [hj])
    exact this
end Gx
namespace Gx
open Go
set_option linter.unusedVariables false
set_option linter.unusedSimpArgs false
def hexc (n:Nat):UInt8:=if n < 10 then UInt8.ofNat (48+n) else UInt8.ofNat (87+n)
theorem KGf:∀ n,n < 16→([48,49,50,51,52,53,54,55,56,57,97,98,99,100,101,102,103,104,105,106,107,108,109,110,111,112,113,114,115,116,117,118,119,120,121,122]:List UInt8)[n]?=some (hexc n):=by decide
theorem KI8 {β:Type} {h:Heap} {Q:β→Heap→Prop} {l:List UInt8} {i:Nat} {t:Int} {c:UInt8} {f:Int→M β} (ht:t=(i:Int)) (hi:l[i]?=some c) (H:(f (c.toNat:Int)).wp h Q):(ixS (bs l) t>>=f).wp h Q:=by
 obtain ⟨h1,rfl⟩:=List.getElem?_eq_some_iff.1 hi
 exact KAP ht h1 H
theorem KJk {β:Type} {h:Heap} {Q:β→Heap→Prop} {b i:Nat} {t:TypeId} {l:List UInt8} {c:UInt8} {f:Unit→M β} (hb:BB h b t l) (hi:i < l.length)
  (H:∀ h',BB h' b t (l.set i c)→Upd b h h'→(f ()).wp h' Q):(stV ⟨b,i,none⟩ (.int .u8 (c.toNat:Int))>>=f).wp h Q :=
 Gk (hb.cell hi) (hb.frozen i) (KIb c) (H _ (hb.set i c) (Upd.hset _ _ _ _))
theorem KGg:(⟨#[48,49,50,51,52,53,54,55,56,57,97,98,99,100,101,102,103,104,105,106,107,108,109,110,111,112,113,114,115,116,117,118,119,120,121,122]⟩:ByteArray)=bs [48,49,50,51,52,53,54,55,56,57,97,98,99,100,101,102,103,104,105,106,107,108,109,110,111,112,113,114,115,116,117,118,119,120,121,122]:=rfl
theorem zl.ext {h h':Heap} (H:zl h) (e:Ext h h'):zl h':=by
 obtain ⟨cs,ty,fz,h1,h2⟩:=H
 exact ⟨cs,ty,fz,e.blk h1,h2⟩
theorem NV.ext {h h':Heap} (H:NV h) (e:Ext h h'):NV h':=by
 obtain ⟨fz,ty,h1⟩:=H
 exact ⟨fz,ty,e.blk h1⟩
theorem KDv {n:Nat} (hn:n < 16) {h:Heap} {Q:ByteArray→Heap→Prop} (hd:zl h) (H:∀ h',Ext h h'→Q (bs [hexc n]) h'):(J9 (n:Int) 16).wp h Q:=by
 unfold J9
 refine iteF (by decide) (KX ?_)
 have w1:IntKind.wrap .u64 (n:Int)=(n:Int):=by rw [IntKind.wrap_u64]; omega
 rw [w1,show decide ((n:Int) < 0)=false by simp]
 unfold J1
 refine KCr (by decide) (UP (KCr (by decide) (UP (iteF (by decide) (KHf (iteF rfl ?_))))))
 have e1:=Ext.push h (.cells (Array.replicate 65 (.int .u8 0)) W8)
 have g1:(h.push (.cells (Array.replicate 65 (.int .u8 0)) W8))[h.size]?=some (.cells (Array.replicate 65 (.int .u8 0)) W8 (0,0)):=Zj
 generalize h.push (.cells (Array.replicate 65 (.int .u8 0)) W8)=h1 at e1 g1 ⊢
 unfold Z8 Jk
 refine UP (iteT (by decide) ?_)
 unfold Ua UJ
 obtain ⟨cs,ty,fz,d1,d2⟩:=hd.ext e1
 refine KX (KCr (by decide) (KIZ (by decide) (by decide) (Ux (n:=4) ?_ (UP (KQ ?_)))))
 ·rw [show ((iShr .u64 (IntKind.wrap .u64 ((iAnd .u64 (IntKind.wrap .u64 16) (IntKind.wrap .u64 (0 - (IntKind.wrap .u64 16)))) * 285870213051353865)) 58).toNat * 1)=15 by decide,Zn,Ks d1]
  exact d2
 have b1:BB h1 h.size W8 (List.replicate 65 0):=by
  unfold BB
  rw [g1]
  rfl
 refine M.loop_inv (fun (t:Int × Int) h'=>h'=h1∧t=((n:Int),65)) (fun _ _=>0) ?_ ⟨rfl,rfl⟩
 rintro t h' ⟨rfl,rfl⟩ self hself
 unfold Jb
 refine iteF (by simp [IntKind.wrap_u64]; omega) ?_
 rw [KGg]
 refine KI8 rfl (KGf n hn) (KIZ (by decide) (by decide) ?_)
 rw [show (IntKind.wrap .i64 (65 - 1)).toNat * 1=64 by decide,Zn,Nat.zero_add]
 refine KJk b1 (by decide) (fun h2 b2 u2=>?_)
 unfold Z7 Z6
 refine iteF rfl (iteF rfl (KJQ (by decide) (by decide) (by decide) ?_))
 rw [show (IntKind.wrap .i64 (65 - 1)).toNat=64 by decide,if_neg (by decide),Zn]
 refine KIa (ns:=[hexc n]) rfl ?_ (KQ (KQ (H _ (e1.upd u2 (Nat.le_refl _)))))
 have:=(b2.bys 64 1 1 (by simp)).at_
 exact this
end Gx
