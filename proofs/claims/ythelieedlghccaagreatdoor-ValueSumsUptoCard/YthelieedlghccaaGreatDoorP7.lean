/- Own proofs: what those Lean programs compute. No condition. -/
import Derived.Test.YthelieedlghccaaGreatDoorP0
import Derived.Test.YthelieedlghccaaGreatDoorP1
import Derived.Test.YthelieedlghccaaGreatDoorP2
import Derived.Test.YthelieedlghccaaGreatDoorP3
import Derived.Test.YthelieedlghccaaGreatDoorP4
import Derived.Test.YthelieedlghccaaGreatDoorP5
import Derived.Test.YthelieedlghccaaGreatDoorP6
set_option linter.unusedVariables false
set_option linter.unusedSimpArgs false
namespace Gx
open Go Go.Proofs Go.Shelf Go.RowKit Go.Lib
set_option linter.unusedVariables false
set_option linter.unusedSimpArgs false
set_option maxRecDepth 100000
structure Rd (h:Heap) (b:Nat) (s:List UInt8) (i:Nat):Prop where
 blk:h[b]?=some (.cells #[.string (bs s),.int .i64 (i:Int)] Xa (0,0))
 le:i≤s.length
 small:s.length≤1099511627776
def KY (s:List UInt8) (i:Nat):UInt8:=(s[i]?).getD 0
def Nr (e:Nat):Value:=.iface JF (.agg #[.int .i64 (e:Int)])
abbrev Kb (b:Nat):Heap→Heap→Prop:=Km (fun k=>k=b)
theorem Rd.ext {h h':Heap} {b:Nat} {s:List UInt8} {i:Nat} (R:Rd h b s i) (e:Ext h h'):Rd h' b s i:=⟨e.blk R.blk,R.le,R.small⟩
theorem Rd.lt {h:Heap} {b:Nat} {s:List UInt8} {i:Nat} (R:Rd h b s i):b < h.size:=ND R.blk
theorem ErrV.km {h h':Heap} {b:Nat} (H:ErrV h) (k:Kb b h h') (hb:b≠5):ErrV h':=by
 obtain ⟨t,p,hc⟩:=H
 refine ⟨t,p,?_⟩
 have h5:5 < h.size:=z7 hc
 have:=k.same 5 h5 (fun e=>hb e.symm)
 unfold KO at hc ⊢
 rw [this]
 exact hc
theorem WR {s:List UInt8} {i:Nat} (h:KY s i≠0):i < s.length:=by
 by_cases hi:i < s.length
 ·exact hi
 ·unfold KY at h
  rw [List.getElem?_eq_none (by omega)] at h
  exact absurd rfl h
theorem KBE {s:List UInt8} {i:Nat} (hi:i < s.length):KY s i=s[i]:=by unfold KY; rw [List.getElem?_eq_getElem hi]; rfl
section
variable {β:Type} {h:Heap} {Q:β→Heap→Prop} {b i:Nat} {s:List UInt8}
theorem KFB {f:ByteArray→M β} (R:Rd h b s i) (H:(f (bs s)).wp h Q):(ldS ((⟨b,0,none⟩:Addr).add 0)>>=f).wp h Q:=zF (by rw [ZE,KP R.blk]; rfl) H
theorem KA6 {f:Int→M β} (R:Rd h b s i) (H:(f (i:Int)).wp h Q):(ldI .i64 ((⟨b,0,none⟩:Addr).add 1)>>=f).wp h Q:=Jx (by rw [ZE,KP R.blk]; rfl) H
theorem KNE {f:Unit→M β} (R:Rd h b s i) (hi:i < s.length) (H:∀ h',Upd b h h'→Rd h' b s (i+1)→(f ()).wp h' Q):(stV ((⟨b,0,none⟩:Addr).add 1) (.int .i64 (IntKind.wrap .i64 ((i:Int)+1)))>>=f).wp h Q:=by
 have hsm:=R.small
 rw [w64 (by omega) (by omega)]
 refine NF (x:=.int .i64 (i:Int)) (by rw [ZE,KP R.blk]; rfl) (by rw [ZE]; exact ZS R.blk) rfl ?_
 rw [ZE]
 exact H _ (Upd.hset _ _ _ _) ⟨Vh R.blk,hi,hsm⟩
theorem KBv {f:Unit→M β} (R:Rd h b s i) (hi:i < s.length) (H:∀ h',Upd b h h'→Rd h' b s (i+1)→(f ()).wp h' Q) :
  (nilP (some ⟨b,0,none⟩)>>=fun x=>ldI .i64 (x.add 1)>>=fun y=>nilP (some ⟨b,0,none⟩)>>=fun z=>stV (z.add 1) (.int .i64 (IntKind.wrap .i64 (y+1)))>>=f).wp h Q :=
 J3 (KA6 R (J3 (KNE R hi H)))
end
theorem U1 {h:Heap} {Q:Int→Heap→Prop} {b i:Nat} {s:List UInt8} (R:Rd h b s i) (H:Q ((KY s i).toNat:Int) h):(Ki (some ⟨b,0,none⟩)).wp h Q:=by
 unfold Ki
 refine J3 (J3 (KA6 R (KFB R ?_)))
 rw [JL]
 refine KZ (fun hc=>?_) (fun hc=>KF ?_)
 ·have hi:i < s.length:=by have:=of_decide_eq_true hc; omega
  refine J3 (J3 (KFB R (KA6 R (qE rfl hi (KF ?_)))))
  rw [← KBE hi]
  exact H
 ·have hi:¬ i < s.length:=by have:=of_decide_eq_false hc; omega
  unfold KY at H
  rw [List.getElem?_eq_none (by omega)] at H
  exact H
theorem WC {h:Heap} {Q:Value ⊕ Unit→Heap→Prop} {b i:Nat} {s:List UInt8} (R:Rd h b s i) (H:Q (.inl (Nr i)) h):(Kv (some ⟨b,0,none⟩)).wp h Q:=by
 unfold Kv
 exact J3 (KA6 R (KF H))
theorem KAm {c:UInt8} {h:Heap} {Q:Bool→Heap→Prop} (H:Q (digB c) h):(YL (c.toNat:Int)).wp h Q:=by
 unfold YL
 refine z6 (c:=decide ((c.toNat:Int)≤57)) (fun _ Q' hq=>KF hq) (KF ?_)
 rw [show (decide ((c.toNat:Int) ≥ 48) && decide ((c.toNat:Int)≤57))=digB c by
  unfold digB
  congr 1
  ·exact decide_eq_decide.2 (by omega)
  ·exact decide_eq_decide.2 (by omega)]
 exact H
def Ns (s:List UInt8):List UInt8→Nat→Except Nat Nat
 | [],i=>.ok i
 | c::r,i=>if s[i]?=some c then Ns s r (i+1) else .error i
theorem Wu {s:List UInt8}:∀ {lit:List UInt8} {i j:Nat},Ns s lit i=.ok j→j=i+lit.length∧(lit≠[]→j≤s.length)∧(s.drop i).take lit.length=lit
 | [],i,j,h=>by cases h; exact ⟨rfl,fun h=>absurd rfl h,by simp⟩
 | c::r,i,j,h=>by
  unfold Ns at h
  split at h
  ·rename_i hc
   obtain ⟨h1,h2,h3⟩:=Wu h
   have hi:i < s.length:=(List.getElem?_eq_some_iff.1 hc).1
   refine ⟨by rw [h1,List.length_cons]; omega,fun _=>?_,?_⟩
   ·by_cases hr:r=[]
    ·subst hr; rw [h1]; exact hi
    ·exact h2 hr
   ·rw [List.drop_eq_getElem_cons hi,List.length_cons,List.take_succ_cons,h3]
    rw [(List.getElem?_eq_some_iff.1 hc).2]
  ·cases h
theorem Yk {h:Heap} {Q:Value ⊕ Unit→Heap→Prop} {b i:Nat} {s lit:List UInt8} (R:Rd h b s i) (hl:lit.length≤1000)
  (H1:∀ j h',Ns s lit i=.ok j→Kb b h h'→Rd h' b s j→Q (.inr ()) h') (H2:∀ e h',Ns s lit i=.error e→Kb b h h'→Q (.inl (Nr e)) h'):(ZH (some ⟨b,0,none⟩) (bs lit)).wp h Q:=by
 unfold ZH
 rw [JL]
 refine M.loop_inv (fun (x:Int) hh=>∃ k i':Nat,x=(k:Int)∧k≤lit.length∧Kb b h hh∧Rd hh b s i'∧Ns s (lit.drop k) i'=Ns s lit i) (fun x _=>((lit.length:Int) - x).toNat) ?_ ⟨0,i,rfl,Nat.zero_le _,Km.refl _ _,R,rfl⟩
 rintro x hh ⟨k,i',rfl,hk,K,R',hm⟩ self hself
 unfold UZ
 refine KZ (fun hc=>?_) (fun hc=>?_)
 ·have hkl:k < lit.length:=by have:=of_decide_eq_true hc; omega
  rw [List.drop_eq_getElem_cons hkl,Ns] at hm
  refine J3 (J3 (KA6 R' (KFB R' ?_)))
  rw [JL]
  have hfail:s[i']?≠some lit[k]→(Zt self (some ⟨b,0,none⟩) (k:Int) true).wp hh Q:=fun hne=>by
   unfold Zt
   refine iteT rfl (WC R' ?_)
   rw [if_neg hne] at hm
   exact H2 _ _ hm.symm K
  refine KZ (fun hge=>?_) (fun hlt=>?_)
  ·refine hfail ?_
   have:=of_decide_eq_true hge
   rw [List.getElem?_eq_none (by omega)]
   intro h; cases h
  ·have hil:i' < s.length:=by have:=of_decide_eq_false hlt; omega
   refine J3 (J3 (qE rfl hkl (KFB R' (KA6 R' (qE rfl hil ?_)))))
   by_cases he:s[i']=lit[k]
   ·rw [show (((s[i']).toNat:Int) != ((lit[k]).toNat:Int))=false by rw [he]; simp]
    unfold Zt Jv
    refine iteF rfl (KBv R' hil (fun h2 u R2=>?_))
    rw [w64 (by omega) (by omega)]
    rw [if_pos (by rw [List.getElem?_eq_getElem hil,he])] at hm
    exact hself _ _ ⟨k+1,i'+1,by omega,by omega,K.trans (Km.upd u rfl),R2,hm⟩ (by omega)
   ·rw [show (((s[i']).toNat:Int) != ((lit[k]).toNat:Int))=true by
     rw [bne_iff_ne]
     intro h
     exact he (UInt8.toNat_inj.1 (by omega))]
    refine hfail ?_
    rw [List.getElem?_eq_getElem hil]
    intro h
    exact he (Option.some.inj h)
 ·have hkl:k=lit.length:=by have:=of_decide_eq_false hc; omega
  subst hkl
  rw [List.drop_length,Ns] at hm
  exact KF (H1 _ _ hm.symm K R')
def numL (s:List UInt8) (fr:Nat):Nat→Nat→Int→Except Nat (Int × Nat)
 | 0,i,n=>.ok (n,i)
 | f+1,i,n=>if digB (KY s i)=true then
   (if (numP ((s.drop fr).take (i+1 - fr))).2=7 then .error i else if (numP ((s.drop fr).take (i+1 - fr))).2≠0 then .ok (n,i) else numL s fr f (i+1) (numP ((s.drop fr).take (i+1 - fr))).1)
  else .ok (n,i)
def numJ (s:List UInt8) (i:Nat):Nat:=if KY s i=45 then i+1 else i
def numF (s:List UInt8) (i:Nat):Except Nat (Int × Nat) :=
 if digB (KY s (numJ s i))=false∨(i < numJ s i∧KY s (numJ s i)=48) then .error (numJ s i) else numL s i (s.length - numJ s i) (numJ s i) 0
theorem KH8 {s:List UInt8} {i:Nat} (h:digB (KY s i)=true):i < s.length:=by
 refine WR (fun e=>?_)
 rw [e] at h
 exact absurd h (by decide)
theorem KH9 {h:Heap} {Q:Value ⊕ Int→Heap→Prop} {b i fr:Nat} {s:List UInt8} (R:Rd h b s i) (he:ErrV h) (hb:b≠5) (hfr:fr≤i)
  (H1:∀ n j h',numL s fr (s.length - i) i 0=.ok (n,j)→Kb b h h'→Rd h' b s j→Q (.inr n) h') (H2:∀ e h',numL s fr (s.length - i) i 0=.error e→Kb b h h'→Q (.inl (Nr e)) h'):(Z1 (some ⟨b,0,none⟩) (fr:Int)).wp h Q:=by
 unfold Z1
 refine M.loop_inv (fun (x:Int) hh=>∃ i':Nat,fr≤i'∧Kb b h hh∧Rd hh b s i'∧(∃ hx:hh[b]?=some (.cells #[.string (bs s),.int .i64 (i':Int)] Xa (0,0)),True)∧numL s fr (s.length - i') i' x=numL s fr (s.length - i) i 0)
  (fun x hh=>match hh[b]? with | some (.cells #[_,.int _ z] _ _)=>s.length - z.toNat | _=>0) ?_ ⟨i,hfr,Km.refl _ _,R,⟨R.blk,trivial⟩,rfl⟩
 rintro x hh ⟨i',hfi,K,R',⟨hx,_⟩,hm⟩ self hself
 have hsm:=R'.small
 unfold UB
 refine KJ (U1 R' (KJ (KAm ?_)))
 refine KZ (fun hd=>?_) (fun hd=>?_)
 ·have hil:=KH8 hd
  rw [show s.length - i'=(s.length - (i'+1))+1 by omega,numL,if_pos hd] at hm
  refine J3 (J3 (KFB R' (KA6 R' ?_)))
  rw [w64 (by omega) (by omega)]
  refine KJ1 (a:=fr) (b:=i'+1) rfl (by omega) (by omega) (by omega) (KJ (qS (KE7 _) (KCM ?_ (he.km K hb) (fun h2 e2=>?_))))
  ·rw [List.length_take,List.length_drop]; omega
  have R2:=R'.ext e2
  refine KZ (fun h7=>?_) (fun h7=>?_)
  ·rw [eqI,decide_eq_true_iff] at h7
   rw [if_pos h7] at hm
   exact WC R2 (H2 _ _ hm.symm (K.trans (Km.ext e2)))
  ·rw [eqI,decide_eq_false_iff_not] at h7
   rw [if_neg h7] at hm
   unfold JT
   refine KZ (fun h0=>?_) (fun h0=>?_)
   ·rw [bne_iff_ne] at h0
    rw [if_pos h0] at hm
    exact KF (H1 _ _ _ hm.symm (K.trans (Km.ext e2)) R2)
   ·have h0:¬ (numP ((s.drop fr).take (i'+1 - fr))).2≠0:=by
     intro hne
     rw [(bne_iff_ne).2 hne] at h0
     cases h0
    rw [if_neg h0] at hm
    refine KBv R2 hil (fun h3 u3 R3=>?_)
    refine hself _ _ ⟨i'+1,by omega,(K.trans (Km.ext e2)).trans (Km.upd u3 rfl),R3,⟨R3.blk,trivial⟩,hm⟩ ?_
    rw [R3.blk,hx]
    show s.length - ((i'+1:Nat):Int).toNat < s.length - ((i':Nat):Int).toNat
    omega
 ·have:numL s fr (s.length - i') i' x=.ok (x,i'):=by
   cases hf:s.length - i' with
   | zero=>rfl
   | succ f=>rw [numL,if_neg (by rw [hd]; decide)]
  rw [this] at hm
  exact KF (H1 _ _ _ hm.symm K R')
theorem KBw {h:Heap} {Q:Value ⊕ Int→Heap→Prop} {b i:Nat} {s:List UInt8} (R:Rd h b s i) (he:ErrV h) (hb:b≠5)
  (H1:∀ n j h',numF s i=.ok (n,j)→Kb b h h'→Rd h' b s j→Q (.inr n) h') (H2:∀ e h',numF s i=.error e→Kb b h h'→Q (.inl (Nr e)) h'):(JW (some ⟨b,0,none⟩)).wp h Q:=by
 unfold JW
 have key:∀ h1,Kb b h h1→Rd h1 b s (numJ s i)→(Z2 (some ⟨b,0,none⟩) (i:Int)).wp h1 Q:=by
  intro h1 K1 R1
  unfold Z2
  have hij:i≤numJ s i:=by unfold numJ; split <;> omega
  refine J3 (KA6 R1 (KJ (U1 R1 (KJ (KAm ?_)))))
  refine or_b (c:=decide (i < numJ s i) && decide (KY s (numJ s i)=48)) (fun hd Q' hq=>?_) ?_
  ·refine ZZ (z6 (c:=decide (KY s (numJ s i)=48)) (fun _ Q2 hq2=>KJ (U1 R1 (KF ?_))) (Zc (KF ?_)))
   ·rw [KMO,decide_eq_decide.2 (show some (KY s (numJ s i))=some 48↔KY s (numJ s i)=48 from ⟨Option.some.inj,congrArg _⟩)]
    exact hq2
   ·rw [show decide (((numJ s i:Nat):Int) > (i:Int))=decide (i < numJ s i) from decide_eq_decide.2 (by omega)]
    exact hq
  ·refine KZ (fun hbad=>?_) (fun hok=>?_)
   ·refine WC R1 (H2 _ _ ?_ K1)
    unfold numF
    rw [if_pos]
    rw [Bool.or_eq_true,Bool.and_eq_true,decide_eq_true_iff,decide_eq_true_iff,Bool.not_eq_true'] at hbad
    exact hbad
   ·have hn:¬ (digB (KY s (numJ s i))=false∨(i < numJ s i∧KY s (numJ s i)=48)):=by
     intro hh
     rw [← Bool.not_eq_true',← decide_eq_true_iff (p:=i < numJ s i),← decide_eq_true_iff (p:=KY s (numJ s i)=48),← Bool.and_eq_true,← Bool.or_eq_true,hok] at hh
     cases hh
    have hF:numF s i=numL s i (s.length - numJ s i) (numJ s i) 0:=by unfold numF; rw [if_neg hn]
    rw [hF] at H1 H2
    exact KH9 R1 (he.km K1 hb) hb hij (fun n j h2 e K2 R2=>H1 n j h2 e (K1.trans K2) R2) (fun e h2 hm K2=>H2 e h2 hm (K1.trans K2))
 refine J3 (KA6 R (KJ (U1 R ?_)))
 refine KZ (fun hc=>?_) (fun hc=>?_)
 ·have h45:KY s i=45:=by
   rw [KK6,decide_eq_true_iff] at hc
   exact Option.some.inj hc
  refine KBv R (WR (by rw [h45]; decide)) (fun h1 u1 R1=>key _ (Km.upd u1 rfl) ?_)
  unfold numJ
  rw [if_pos h45]
  exact R1
 ·have h45:¬ KY s i=45:=by
   rw [KK6,decide_eq_false_iff_not] at hc
   exact fun e=>hc (congrArg _ e)
  refine key _ (Km.refl _ _) ?_
  unfold numJ
  rw [if_neg h45]
  exact R
end Gx
namespace Gx
open Go Go.Proofs Go.Shelf Go.RowKit Go.Lib
set_option linter.unusedVariables false
set_option linter.unusedSimpArgs false
set_option maxRecDepth 100000
def hexD:List UInt8:=[48,49,50,51,52,53,54,55,56,57,97,98,99,100,101,102]
def hexN (c:UInt8):Int:=Lib.indexByte hexD c
theorem KAy:∀ (l:List UInt8) (c:UInt8),Lib.indexByte l c+1≤(l.length:Int)
 | [],c=>by simp [Lib.indexByte]
 | b::l,c=>by
  have:=KAy l c
  unfold Lib.indexByte
  rw [List.length_cons]
  split
  ·omega
  ·split <;> omega
theorem KIA (c:UInt8):hexN c≤15:=by
 have:=KAy hexD c
 have h2:(hexD.length:Int)=16:=rfl
 unfold hexN
 omega
theorem KIB:hexN 0=-1:=by decide +kernel
theorem KJR:∀ a b:Fin 16,IntKind.wrap .u8 (iOr .i64 (iShl .i64 (a.val:Int) 4) (b.val:Int))=((UInt8.ofNat (((a.val:Int) * 16+(b.val:Int)).toNat)).toNat:Int):=by decide +kernel
theorem hexb {x y:Int} (hx:0≤x) (hx2:x≤15) (hy:0≤y) (hy2:y≤15):IntKind.wrap .u8 (iOr .i64 (iShl .i64 x 4) y)=((UInt8.ofNat ((x * 16+y).toNat)).toNat:Int):=by
 have:=KJR ⟨x.toNat,by omega⟩ ⟨y.toNat,by omega⟩
 simp only [Int.toNat_of_nonneg hx,Int.toNat_of_nonneg hy] at this
 exact this
theorem KFy {c:UInt8} {h:Heap} {Q:Int→Heap→Prop} (H:Q (hexN c) h):(Uj (⟨#[48,49,50,51,52,53,54,55,56,57,97,98,99,100,101,102]⟩:ByteArray) (c.toNat:Int)).wp h Q:=by
 unfold Uj Zw
 refine KJ (KF (KF ?_))
 have:(c.toNat:Int).toNat.toUInt8=c:=by rw [Int.toNat_natCast]; simp
 rw [this]
 exact H
def escP (s:List UInt8) (i:Nat):Except Nat (UInt8 × Nat) :=
 if KY s i=39∨KY s i=92 then .ok (KY s i,i+1)
 else match Ns s [120] i with
  | .error e=>.error e
  | .ok j=>if hexN (KY s j) < 0∨(1 < hexN (KY s j)∧hexN (KY s j) < 7) then .error j
   else if hexN (KY s (j+1)) < 0∨(hexN (KY s j)=7∧hexN (KY s (j+1)) < 15) then .error (j+1)
   else .ok (UInt8.ofNat ((hexN (KY s j) * 16+hexN (KY s (j+1))).toNat),j+2)
theorem KIC {s:List UInt8} {i:Nat} (h:0≤hexN (KY s i)):i < s.length:=by
 refine WR (fun e=>?_)
 rw [e,KIB] at h
 omega
theorem u8_c {c d:UInt8} {n:Int} (hn:n=(d.toNat:Int)):((c.toNat:Int) == n)=decide (c=d):=by
 subst hn
 rw [eqI]
 refine decide_eq_decide.2 ⟨fun h=>UInt8.toNat_inj.1 (by omega),fun h=>by rw [h]⟩
theorem KJS {h:Heap} {Q:Value ⊕ Int→Heap→Prop} {b i:Nat} {s:List UInt8} (R:Rd h b s i)
  (H1:∀ (c:UInt8) j h',escP s i=.ok (c,j)→Kb b h h'→Rd h' b s j→Q (.inr (c.toNat:Int)) h') (H2:∀ e h',escP s i=.error e→Kb b h h'→Q (.inl (Nr e)) h'):(Jw (some ⟨b,0,none⟩)).wp h Q:=by
 unfold Jw
 refine KJ (U1 R ?_)
 rw [u8_c (d:=39) (n:=39) rfl,u8_c (d:=92) (n:=92) rfl]
 refine or_b (c:=decide (KY s i=92)) (fun _ Q' hq=>KF hq) ?_
 refine KZ (fun hc=>?_) (fun hc=>?_)
 ·rw [Bool.or_eq_true,decide_eq_true_iff,decide_eq_true_iff] at hc
  have hi:i < s.length:=WR (by rcases hc with h | h <;> (rw [h]; decide))
  refine KBv R hi (fun h1 u1 R1=>KF (H1 _ _ _ ?_ (Km.upd u1 rfl) R1))
  unfold escP
  rw [if_pos hc]
 ·have hc':¬ (KY s i=39∨KY s i=92):=by
   intro hh
   rw [← decide_eq_true_iff (p:=KY s i=39),← decide_eq_true_iff (p:=KY s i=92),← Bool.or_eq_true,hc] at hh
   cases hh
  refine Ge (Yk (lit:=[120]) R (by decide) (fun j h1 hj K1 R1=>?_) (fun e h1 hj K1=>?_))
  ·have hE:escP s i=if hexN (KY s j) < 0∨(1 < hexN (KY s j)∧hexN (KY s j) < 7) then .error j
     else if hexN (KY s (j+1)) < 0∨(hexN (KY s j)=7∧hexN (KY s (j+1)) < 15) then .error (j+1)
     else .ok (UInt8.ofNat ((hexN (KY s j) * 16+hexN (KY s (j+1))).toNat),j+2):=by
    unfold escP
    rw [if_neg hc',hj]
   refine KJ (U1 R1 (KJ (KFy ?_)))
   refine J3 (J3 (KA6 R1 (KFB R1 ?_)))
   have hbad:(hexN (KY s j) < 0∨(1 < hexN (KY s j)∧hexN (KY s j) < 7))→(Ko (some ⟨b,0,none⟩) (hexN (KY s j)) true).wp h1 Q:=fun hb=>by
    unfold Ko
    rw [if_pos hb] at hE
    exact iteT rfl (WC R1 (H2 _ _ hE K1))
   have hgood:¬ (hexN (KY s j) < 0∨(1 < hexN (KY s j)∧hexN (KY s j) < 7))→(Ko (some ⟨b,0,none⟩) (hexN (KY s j)) false).wp h1 Q:=fun hb=>by
    unfold Ko JJ
    rw [if_neg hb] at hE
    have hjl:j < s.length:=KIC (by omega)
    refine iteF rfl (KBv R1 hjl (fun h2 u2 R2=>?_))
    have K2:Kb b h h2:=K1.trans (Km.upd u2 rfl)
    refine KJ (U1 R2 (KJ (KFy ?_)))
    refine J3 (J3 (KA6 R2 (KFB R2 ?_)))
    have hbad2:(hexN (KY s (j+1)) < 0∨(hexN (KY s j)=7∧hexN (KY s (j+1)) < 15))→(Kn (some ⟨b,0,none⟩) (hexN (KY s j)) (hexN (KY s (j+1))) true).wp h2 Q:=fun hb=>by
     unfold Kn
     rw [if_pos hb] at hE
     exact iteT rfl (WC R2 (H2 _ _ hE K2))
    have hgood2:¬ (hexN (KY s (j+1)) < 0∨(hexN (KY s j)=7∧hexN (KY s (j+1)) < 15))→(Kn (some ⟨b,0,none⟩) (hexN (KY s j)) (hexN (KY s (j+1))) false).wp h2 Q:=fun hb2=>by
     unfold Kn JI
     rw [if_neg hb2] at hE
     have hjl2:j+1 < s.length:=KIC (by omega)
     refine iteF rfl (KBv R2 hjl2 (fun h3 u3 R3=>KF ?_))
     rw [hexb (by omega) (KIA _) (by omega) (KIA _)]
     exact H1 _ _ _ hE (K2.trans (Km.upd u3 rfl)) R3
    refine KZ (fun hge=>?_) (fun hlt=>?_)
    ·refine hbad2 (.inl ?_)
     have hge:=of_decide_eq_true hge
     rw [JL] at hge
     have:KY s (j+1)=0:=by unfold KY; rw [List.getElem?_eq_none (by omega)]; rfl
     rw [this,KIB]; decide
    ·refine KZ (fun hn=>hbad2 (.inl (of_decide_eq_true hn))) (fun hn=>?_)
     have hn:=of_decide_eq_false hn
     refine KZ (fun h7=>?_) (fun h7=>?_)
     ·rw [eqI,decide_eq_true_iff] at h7
      by_cases h15:hexN (KY s (j+1)) < 15
      ·rw [decide_eq_true h15]
       exact hbad2 (.inr ⟨h7,h15⟩)
      ·rw [decide_eq_false h15]
       exact hgood2 (fun hh=>hh.elim hn (fun hh=>h15 hh.2))
     ·rw [eqI,decide_eq_false_iff_not] at h7
      exact hgood2 (fun hh=>hh.elim hn (fun hh=>h7 hh.1))
   refine KZ (fun hge=>?_) (fun hlt=>?_)
   ·refine hbad (.inl ?_)
    have hge:=of_decide_eq_true hge
    rw [JL] at hge
    have:KY s j=0:=by unfold KY; rw [List.getElem?_eq_none (by omega)]; rfl
    rw [this,KIB]; decide
   ·refine KZ (fun hn=>hbad (.inl (of_decide_eq_true hn))) (fun hn=>?_)
    have hn:=of_decide_eq_false hn
    refine KZ (fun h1'=>?_) (fun h1'=>?_)
    ·have h1':=of_decide_eq_true h1'
     by_cases h7:hexN (KY s j) < 7
     ·rw [decide_eq_true h7]
      exact hbad (.inr ⟨h1',h7⟩)
     ·rw [decide_eq_false h7]
      exact hgood (fun hh=>hh.elim hn (fun hh=>h7 hh.2))
    ·have h1':=of_decide_eq_false h1'
     exact hgood (fun hh=>hh.elim hn (fun hh=>h1' hh.1))
  ·refine H2 e h1 ?_ K1
   unfold escP
   rw [if_neg hc',hj]
theorem KID {s:List UInt8} {i j:Nat} {c:UInt8} (h:escP s i=.ok (c,j)):i < j∧j≤s.length:=by
 unfold escP at h
 split at h
 ·rename_i hc
  have hi:i < s.length:=WR (by rcases hc with h | h <;> (rw [h]; decide))
  cases h
  omega
 ·split at h
  ·cases h
  ·rename_i j' hj
   obtain ⟨h1,h2,_⟩:=Wu hj
   split at h
   ·cases h
   ·split at h
    ·cases h
    ·rename_i hn
     have:=KIC (s:=s) (i:=j'+1) (by omega)
     cases h
     have:j'=i+1:=h1
     omega
def strL (s:List UInt8):Nat→Nat→List UInt8→Except Nat (List UInt8 × Nat)
 | 0,i,_=>.error i
 | f+1,i,acc =>
  if KY s i=39 then .ok (acc,i+1)
  else if (KY s i).toNat < 32∨126 < (KY s i).toNat then .error i
  else if KY s i=92 then (match escP s (i+1) with | .error e=>.error e | .ok (d,j)=>strL s f j (acc++[d]))
  else strL s f (i+1) (acc++[KY s i])
def strP (s:List UInt8) (i:Nat):Except Nat (List UInt8 × Nat):=match Ns s [39] i with | .error e=>.error e | .ok j=>strL s (s.length+1 - j) j []
theorem KJT {β:Type} {lo:Nat} {h:Heap} {Q:β→Heap→Prop} {r:Sl} {l:List UInt8} {c:UInt8} {f:Sl→M β} (G:Gw lo h r 1 (l.map bv)) (hle:lo≤h.size) (hm:l.length≤1099511627776)
  (H:∀ h' r',Gw lo h' r' 1 ((l++[c]).map bv)→h.size≤h'.size→(∀ j,j < lo→h'[j]?=h[j]?)→(f r').wp h' Q):(bdL ZG 1 #[.int .u8 (c.toNat:Int)]>>=fun x=>apL ZG 1 1 (#[.int .u8 0]:Array Value) r x>>=f).wp h Q:=by
 refine KCq ?_
 have e6:=Ext.push h (.cells #[.int .u8 (c.toNat:Int)] ZG)
 have g6:(h.push (.cells #[.int .u8 (c.toNat:Int)] ZG))[h.size]?=some (.cells #[.int .u8 (c.toNat:Int)] ZG (0,0)):=ZJ
 generalize h.push (.cells #[.int .u8 (c.toNat:Int)] ZG)=h6 at e6 g6 ⊢
 have G6:=G.ext e6
 have hrl:=G6.len
 rw [List.length_map,Nat.mul_one] at hrl
 refine KBT (vs:=l.map bv) (news:=[bv c]) rfl G6 rfl (.inr ⟨_,rfl,fun j v hj=>?_⟩) (fun v hv=>by simp at hv; subst hv; rfl) (by dsimp only; omega) (by dsimp only; omega) (by have:=e6.size; omega) (fun h7 r7 G7 hlen7 hs7 same7 on7=>?_)
 ·rw [ZE,Nat.zero_add,KP g6]
  rw [show (#[.int .u8 (c.toNat:Int)]:Array Value)=[bv c].toArray from rfl]
  simpa using hj
 ·refine H h7 r7 (by rw [List.map_append]; exact G7) (Nat.le_trans e6.size hs7) (fun j hj=>(same7 j (by have:=e6.size; omega) (fun ho=>by have:=(G6.lt ho).2; omega)).trans (e6.same j (by omega)))
theorem KJU {h:Heap} {Q:Value ⊕ ByteArray→Heap→Prop} {b i:Nat} {s:List UInt8} (R:Rd h b s i)
  (H1:∀ t j h',strP s i=.ok (t,j)→Kb b h h'→Rd h' b s j→Q (.inr (bs t)) h') (H2:∀ e h',strP s i=.error e→Kb b h h'→Q (.inl (Nr e)) h'):(U0 (some ⟨b,0,none⟩)).wp h Q:=by
 unfold U0
 refine Ge (Yk (lit:=[39]) R (by decide) (fun j h1 hj K1 R1=>?_) (fun e h1 hj K1=>?_))
 ·have hP:strP s i=strL s (s.length+1 - j) j []:=by unfold strP; rw [hj]
  rw [hP] at H1 H2
  have hb:=R1.lt
  refine M.loop_inv (fun (x:Sl) hh=>∃ (acc:List UInt8) (f i':Nat),s.length < f+i'∧acc.length≤i'∧Kb b h1 hh∧Rd hh b s i'∧Gw h1.size hh x 1 (acc.map bv)∧strL s f i' acc=strL s (s.length+1 - j) j [])
   (fun x _=>s.length+1 - x.len) ?_ ⟨[],_,j,by have:=R1.le; omega,Nat.zero_le _,Km.refl _ _,R1,Gw.nil _ _ _,rfl⟩
  rintro x hh ⟨acc,f,i',hf,hai,K,R',G,hm⟩ self hself
  have hsm:=R'.small
  have hle:=R'.le
  have hxl:=G.len
  rw [List.length_map,Nat.mul_one] at hxl
  obtain ⟨f,rfl⟩:∃ g,f=g+1:=⟨f - 1,by omega⟩
  rw [strL] at hm
  unfold Us
  refine KJ (U1 R' ?_)
  rw [show (((KY s i').toNat:Int) != 39)=!decide (KY s i'=39) by rw [← u8_c (d:=39) (n:=39) rfl]; rfl]
  refine KZ (fun hne=>?_) (fun heq=>?_)
  ·have hne:KY s i'≠39:=by simpa using hne
   rw [if_neg hne] at hm
   refine KJ (U1 R' ?_)
   refine or_b (c:=decide (((KY s i').toNat:Int) > 126)) (fun _ Q' hq=>KF hq) ?_
   refine KZ (fun hbad=>?_) (fun hok=>?_)
   ·rw [Bool.or_eq_true,decide_eq_true_iff,decide_eq_true_iff] at hbad
    rw [if_pos (by omega)] at hm
    exact WC R' (H2 _ _ hm.symm (K1.trans K))
   ·rw [Bool.or_eq_false_iff,decide_eq_false_iff_not,decide_eq_false_iff_not] at hok
    rw [if_neg (by omega)] at hm
    have hil:i' < s.length:=WR (fun e=>by rw [e] at hok; exact absurd hok.1 (by decide))
    unfold J9
    refine KBv R' hil (fun h2 u2 R2=>?_)
    have K2:Kb b h1 h2:=K.trans (Km.upd u2 rfl)
    have G2:Gw h1.size h2 x 1 (acc.map bv):=G.same (fun k hk=>u2.ne k (fun e=>by have:=(G.lt hk).2; omega))
    have hs2:h1.size≤h2.size:=K2.size
    have next:∀ (c:UInt8) (i2:Nat) (h3:Heap),i' < i2→Kb b h1 h3→Rd h3 b s i2→Gw h1.size h3 x 1 (acc.map bv)→strL s f i2 (acc++[c])=strL s (s.length+1 - j) j []→(JX self x (c.toNat:Int)).wp h3 Q:=by
     intro c i2 h3 hi2 K3 R3 G3 hm3
     unfold JX
     refine KJT G3 K3.size (by omega) (fun h4 r4 G4 hs4 same4=>?_)
     have hl4:=G4.len
     rw [List.length_map,List.length_append,List.length_singleton,Nat.mul_one] at hl4
     refine hself _ _ ⟨acc++[c],f,i2,by omega,by rw [List.length_append,List.length_singleton]; omega,⟨Nat.le_trans K3.size hs4,fun k hk hkb=>(same4 k hk).trans (K3.same k hk hkb)⟩,⟨by rw [same4 b hb]; exact R3.blk,R3.le,R3.small⟩,G4,hm3⟩ ?_
     omega
    by_cases h92:KY s i'=92
    ·rw [if_pos h92] at hm
     refine iteT (by rw [u8_c (d:=92) (n:=92) rfl,decide_eq_true h92]) (Ge (KJS R2 (fun c j2 h3 he K3 R3=>?_) (fun e h3 he K3=>?_)))
     ·rw [he] at hm
      exact next c j2 h3 (by have:=KID he; omega) (K2.trans K3) R3 (G2.same (fun k hk=>K3.same k (G2.lt hk).1 (fun e=>by have:=(G2.lt hk).2; omega))) hm
     ·rw [he] at hm
      exact H2 _ _ hm.symm (K1.trans (K2.trans K3))
    ·rw [if_neg h92] at hm
     refine iteF (by rw [u8_c (d:=92) (n:=92) rfl,decide_eq_false h92]) ?_
     exact next _ (i'+1) h2 (by omega) K2 R2 G2 hm
  ·have heq:KY s i'=39:=by simpa using heq
   rw [if_pos heq] at hm
   have hil:i' < s.length:=WR (by rw [heq]; decide)
   refine KBv R' hil (fun h2 u2 R2=>?_)
   have G2:Gw h1.size h2 x 1 (acc.map bv):=G.same (fun k hk=>u2.ne k (fun e=>by have:=(G.lt hk).2; omega))
   refine KL0 (ns:=acc) hxl G2.reads (KF ?_)
   exact H1 _ _ _ hm.symm (K1.trans (K.trans (Km.upd u2 rfl))) R2
 ·refine H2 e h1 ?_ K1
  unfold strP
  rw [hj]
end Gx
namespace Gx
open Go Go.Proofs Go.Shelf Go.RowKit Go.Lib
set_option linter.unusedVariables false
set_option linter.unusedSimpArgs false
set_option maxRecDepth 100000
def KCN (k:Int) (s:List UInt8) (i:Nat):Except Nat (Vl × Nat) :=
 match Ns s [91] (i+1) with
 | .error e=>.error e
 | .ok j=>match numF s j with
  | .error e=>.error e
  | .ok (n,j2)=>match Ns s [93] j2 with
   | .error e=>.error e
   | .ok j3=>.ok (.mk k n [] [],j3)
def KAA (pv:Nat→Except Nat (Vl × Nat)) (two:Bool) (s:List UInt8) (i:Nat):Except Nat (List Vl × Nat) :=
 match pv i with
 | .error e=>.error e
 | .ok (v,j)=>if two=true then (match Ns s [58,32] j with
   | .error e=>.error e
   | .ok j2=>match pv j2 with
    | .error e=>.error e
    | .ok (w,j3)=>.ok ([v,w],j3)) else .ok ([v],j)
def sepP (l:List Vl) (s:List UInt8) (i:Nat):Except Nat Nat:=if l.length=0 then .ok i else Ns s [44,32] i
def KAB (pv:Nat→Except Nat (Vl × Nat)) (en:UInt8) (two:Bool) (s:List UInt8):Nat→List Vl→Nat→Except Nat (List Vl × Nat)
 | 0,_,i=>.error i
 | f+1,l,i=>if KY s i=en then .ok (l,i+1) else
  match sepP l s i with
  | .error e=>.error e
  | .ok i1=>match KAA pv two s i1 with
   | .error e=>.error e
   | .ok (vs,i2)=>if KY s i2≠en∧KY s i2≠44 then .error i2 else KAB pv en two s f (l++vs) i2
def pval (s:List UInt8):Nat→Nat→Except Nat (Vl × Nat)
 | 0,i=>.error i
 | d+1,i =>
  if KY s i=45∨digB (KY s i)=true then (match numF s i with | .error e=>.error e | .ok (n,j)=>.ok (.mk 1 n [] [],j))
  else if KY s i=39 then (match strP s i with | .error e=>.error e | .ok (t,j)=>.ok (.mk 2 0 t [],j))
  else if KY s i=116 then (match Ns s [116,114,117,101] i with | .error e=>.error e | .ok j=>.ok (.mk 3 1 [] [],j))
  else if KY s i=102 then (match Ns s [102,97,108,115,101] i with | .error e=>.error e | .ok j=>.ok (.mk 3 0 [] [],j))
  else if KY s i=118 then KCN 6 s i
  else if KY s i=101 then KCN 7 s i
  else if KY s i=91 then (match KAB (pval s d) 93 false s (s.length - i) [] (i+1) with | .error e=>.error e | .ok (l,j)=>.ok (.mk 4 0 [] l,j))
  else if KY s i=123 then (match KAB (pval s d) 125 true s (s.length - i) [] (i+1) with | .error e=>.error e | .ok (l,j)=>.ok (.mk 5 0 [] l,j))
  else .error i
theorem KGm {t:List UInt8} {n:Int} (h:Lib.parseIntB 64 t=.ok n):I64 n:=by
 unfold parseIntB at h
 split at h
 ·cases h
 ·dsimp only at h
  split at h
  ·cases h
  ·cases h
  ·split at h
   ·cases h
   ·split at h
    ·cases h
    ·rename_i u _ h1 h2
     cases h
     have e63:(2:Nat) ^ (64 - 1)=9223372036854775808:=by decide
     rw [e63] at h1 h2
     unfold I64
     split <;> rename_i h3 <;> (simp only [h3,not_true_eq_false,not_false_eq_true,true_and,false_and] at h1 h2; omega)
theorem KFz {t:List UInt8} (h:(numP t).2=0):I64 (numP t).1:=by
 unfold numP at h ⊢
 split
 ·rename_i h1; rw [if_pos h1] at h; exact absurd h (by decide)
 ·rename_i h1
  rw [if_neg h1] at h
  split
  ·rename_i h2; rw [if_pos h2] at h; exact absurd h (by decide)
  ·rename_i h2
   rw [if_neg h2] at h
   split
   ·rename_i h3; rw [if_pos h3] at h; exact absurd h (by decide)
   ·rename_i h3
    rw [if_neg h3] at h
    split
    ·rename_i n hn; exact KGm hn
    ·rename_i hne
     exfalso
     revert h
     split
     ·rename_i n hn; exact absurd hn (hne n)
     ·decide
theorem KIE {s:List UInt8} {fr:Nat}:∀ {f i:Nat} {n m:Int} {j:Nat},numL s fr f i n=.ok (m,j)→I64 n→i≤s.length→I64 m∧i≤j∧j≤s.length
 | 0,i,n,m,j,h,hn,hi=>by cases h; exact ⟨hn,Nat.le_refl _,hi⟩
 | f+1,i,n,m,j,h,hn,hi=>by
  rw [numL] at h
  split at h
  ·rename_i hd
   have hil:=KH8 hd
   split at h
   ·cases h
   ·split at h
    ·cases h; exact ⟨hn,Nat.le_refl _,hi⟩
    ·rename_i h0
     have:=KIE h (KFz (Classical.not_not.1 h0)) (by omega)
     exact ⟨this.1,by omega,this.2.2⟩
  ·cases h; exact ⟨hn,Nat.le_refl _,hi⟩
theorem KIF:∀ n:Fin 256,digB (UInt8.ofNat n.val)=true→(numP [UInt8.ofNat n.val]).2=0∧(UInt8.ofNat n.val≠48→(numP [45,UInt8.ofNat n.val]).2=0):=by decide +kernel
theorem KCb {c:UInt8} (h:digB c=true):(numP [c]).2=0∧(c≠48→(numP [45,c]).2=0):=by
 have:=KIF ⟨c.toNat,c.toNat_lt⟩
 simp only [UInt8.ofNat_toNat] at this
 exact this h
theorem KFC {s:List UInt8} {i j:Nat} {n:Int} (h:numF s i=.ok (n,j)) (hi:i≤s.length):I64 n∧i < j∧j≤s.length:=by
 unfold numF at h
 split at h
 ·cases h
 ·rename_i hb
  have hd:digB (KY s (numJ s i))=true:=by
   cases hh:digB (KY s (numJ s i)) with
   | true=>rfl
   | false=>exact absurd (.inl hh) hb
  have hil:=KH8 hd
  have hij:i≤numJ s i:=by unfold numJ; split <;> omega
  rw [show s.length - numJ s i=(s.length - (numJ s i+1))+1 by omega,numL,if_pos hd] at h
  have ht:(numP ((s.drop i).take (numJ s i+1 - i))).2=0:=by
   by_cases h45:KY s i=45
   ·have hJ:numJ s i=i+1:=by unfold numJ; rw [if_pos h45]
    rw [hJ] at hb hd hil ⊢
    have h2:(s.drop i).take (i+1+1 - i)=[45,KY s (i+1)]:=by
     rw [show i+1+1 - i=2 by omega,List.drop_eq_getElem_cons (by omega),List.drop_eq_getElem_cons hil]
     rw [KBE hil,← h45,KBE (by omega)]
     rfl
    rw [h2]
    exact (KCb hd).2 (fun e=>hb (.inr ⟨by omega,e⟩))
   ·have hJ:numJ s i=i:=by unfold numJ; rw [if_neg h45]
    rw [hJ] at hd hil ⊢
    have h2:(s.drop i).take (i+1 - i)=[KY s i]:=by
     rw [show i+1 - i=1 by omega,List.drop_eq_getElem_cons hil,KBE hil]
     rfl
    rw [h2]
    exact (KCb hd).1
  rw [if_neg (by rw [ht]; decide),if_neg (by rw [ht]; exact fun h=>h rfl)] at h
  have:=KIE h (KFz ht) (by omega)
  exact ⟨this.1,by omega,this.2.2⟩
theorem KFD {s:List UInt8}:∀ {f i:Nat} {acc t:List UInt8} {j:Nat},strL s f i acc=.ok (t,j)→i < j∧j≤s.length∧t.length+i≤acc.length+j
 | 0,i,acc,t,j,h=>by cases h
 | f+1,i,acc,t,j,h=>by
  rw [strL] at h
  split at h
  ·rename_i h39
   have:=WR (s:=s) (i:=i) (by rw [h39]; decide)
   cases h
   omega
  ·split at h
   ·cases h
   ·split at h
    ·split at h
     ·cases h
     ·rename_i d j2 he
      have h1:=KID he
      have h2:=KFD h
      rw [List.length_append,List.length_singleton] at h2
      omega
    ·have h2:=KFD h
     rw [List.length_append,List.length_singleton] at h2
     omega
theorem KFE {s:List UInt8} {i j:Nat} {t:List UInt8} (h:strP s i=.ok (t,j)):i < j∧j≤s.length∧t.length≤s.length:=by
 unfold strP at h
 split at h
 ·cases h
 ·rename_i j1 hj
  have h1:=(Wu hj).1
  have h2:=KFD h
  rw [List.length_nil] at h2
  omega
theorem KBF {s:List UInt8} {i j:Nat} {k:Int} {v:Vl} (h:KCN k s i=.ok (v,j)):∃ n,v=.mk k n [] []∧I64 n∧i < j∧j≤s.length:=by
 unfold KCN at h
 split at h
 ·cases h
 ·rename_i j1 h1
  split at h
  ·cases h
  ·rename_i n j2 h2
   split at h
   ·cases h
   ·rename_i j3 h3
    cases h
    have a1:=Wu h1
    have a2:=KFC h2 (a1.2.1 (by simp))
    have a3:=Wu h3
    have b1:j1=i+1+1:=a1.1
    have b3:j=j2+1:=a3.1
    exact ⟨n,rfl,a2.1,by omega,a3.2.1 (by simp)⟩
def Prog (s:List UInt8) (pv:Nat→Except Nat (Vl × Nat)):Prop:=∀ i v j,pv i=.ok (v,j)→i < j∧j≤s.length
theorem KJV {s:List UInt8} {pv:Nat→Except Nat (Vl × Nat)} (hp:Prog s pv) {two:Bool} {i j:Nat} {vs:List Vl} (h:KAA pv two s i=.ok (vs,j)):i+vs.length≤j∧0 < vs.length∧j≤s.length:=by
 unfold KAA at h
 split at h
 ·cases h
 ·rename_i v j1 h1
  have a1:=hp _ _ _ h1
  split at h
  ·split at h
   ·cases h
   ·rename_i j2 h2
    have a2:j2=j1+2:=(Wu h2).1
    split at h
    ·cases h
    ·rename_i w j3 h3
     have a3:=hp _ _ _ h3
     cases h
     simp only [List.length_cons,List.length_nil]
     omega
  ·cases h
   simp only [List.length_cons,List.length_nil]
   omega
theorem KK9 {l:List Vl} {s:List UInt8} {i j:Nat} (h:sepP l s i=.ok j):i≤j:=by
 unfold sepP at h
 split at h
 ·cases h; exact Nat.le_refl _
 ·have:j=i+2:=(Wu h).1
  omega
theorem KDT {s:List UInt8} {pv:Nat→Except Nat (Vl × Nat)} (hp:Prog s pv) {en:UInt8} (he:en≠0) {two:Bool}:∀ {f i:Nat} {l t:List Vl} {j:Nat},KAB pv en two s f l i=.ok (t,j)→i < j∧j≤s.length∧t.length+i≤l.length+j
 | 0,i,l,t,j,h=>by cases h
 | f+1,i,l,t,j,h=>by
  rw [KAB] at h
  split at h
  ·rename_i hh
   have:=WR (s:=s) (i:=i) (by rw [hh]; exact he)
   cases h
   omega
  ·split at h
   ·cases h
   ·rename_i i1 h1
    have a1:=KK9 h1
    split at h
    ·cases h
    ·rename_i vs i2 h2
     have a2:=KJV hp h2
     split at h
     ·cases h
     ·have:=KDT hp he h
      rw [List.length_append] at this
      omega
theorem KIG (s:List UInt8):∀ d,Prog s (pval s d)
 | 0=>fun i v j h=>by cases h
 | d+1=>fun i v j h=>by
  have ih:=KIG s d
  rw [pval] at h
  split at h
  ·rename_i hc
   have hi:i < s.length:=WR (fun e=>by rw [e] at hc; exact absurd hc (by decide))
   split at h
   ·cases h
   ·rename_i n j1 h1
    cases h
    exact (KFC h1 (by omega)).2
  ·split at h
   ·split at h
    ·cases h
    ·rename_i t j1 h1
     cases h
     exact ⟨(KFE h1).1,(KFE h1).2.1⟩
   ·split at h
    ·split at h
     ·cases h
     ·rename_i j1 h1
      cases h
      have a:=Wu h1
      have a1:j=i+4:=a.1
      exact ⟨by omega,a.2.1 (by simp)⟩
    ·split at h
     ·split at h
      ·cases h
      ·rename_i j1 h1
       cases h
       have a:=Wu h1
       have a1:j=i+5:=a.1
       exact ⟨by omega,a.2.1 (by simp)⟩
     ·split at h
      ·obtain ⟨n,_,_,h3⟩:=KBF h
       exact h3
      ·split at h
       ·obtain ⟨n,_,_,h3⟩:=KBF h
        exact h3
       ·split at h
        ·split at h
         ·cases h
         ·rename_i l j1 h1
          have a:=KDT ih (by decide) h1
          cases h
          omega
        ·split at h
         ·split at h
          ·cases h
          ·rename_i l j1 h1
           have a:=KDT ih (by decide) h1
           cases h
           omega
         ·cases h
end Gx
namespace Gx
open Go Go.Proofs Go.Shelf Go.RowKit Go.Lib
set_option linter.unusedVariables false
set_option linter.unusedSimpArgs false
set_option maxRecDepth 100000
theorem KF0 (S:Nat→Prop) (h:Heap) {k n:Int} {s:List UInt8} (hk:I64 k) (hn:I64 n) (hs:s.length≤9223372036854775807):Zp S h (.mk k n s []) (ZO k n s Sl.nil) :=
 Zp.eq.2 ⟨Sl.nil,rfl,hk,hn,hs,rfl,Nat.le_refl _,by decide,by rw [YQ]; trivial⟩
theorem KF1 {S:Nat→Prop} {h:Heap} {k n:Int} {l:List Vl} {x:Sl} (hk:I64 k) (hn:I64 n) (hl:VsRepS S h x l):Zp S h (.mk k n [] l) (ZO k n [] x) :=
 Zp.eq.2 ⟨x,rfl,hk,hn,by decide,hl⟩
theorem KJ3 {α:Type} {h:Heap} {Q:α ⊕ Array Value→Heap→Prop} {g:Nat} {z cs:Array Value} {t:TypeId} (hg:h[g]?=some (.cells z t (0,0))) (hz:z.size=4) (hc:cs.size=4) (h1:∀ v ∈ cs.toList,one v=true)
  (H:∀ h',Upd g h h'→Q (.inr cs) h'):(M.need (cs.size=4)>>=fun _=>stG ⟨g,0,none⟩ cs>>=fun _=>ldG 4 ⟨g,0,none⟩>>=fun r=>(M.pure (.inr r):M (α ⊕ Array Value))).wp h Q:=by
 refine ZQ hc (stR hg (by omega) h1 (fun h' u g'=>?_))
 have hl:lay z 0 cs.toList=cs:=by
  rw [KS (by rw [Array.length_toList]; omega)]
 rw [hl] at g'
 exact ldR g' hc (KF (H _ u))
theorem KLA {β:Type} {lo:Nat} {S:Nat→Prop} {h:Heap} {Q:β→Heap→Prop} {r:Sl} {css:List (Array Value)} {l:List Vl} {v:Vl} {c:Array Value} {f:Sl→M β} (G:VGw lo S h r css l) (hS:∀ k,S k→k < h.size∧¬ Sl.on r k) (hv:Zp S h v c) (hlo:lo≤h.size) (hm:l.length≤1099511627776)
  (H:∀ h' r',VGw lo S h' r' (css++[c]) (l++[v])→h.size≤h'.size→(∀ i,i < h.size→¬ Sl.on r i→h'[i]?=h[i]?)→(∀ i,Sl.on r' i→Sl.on r i∨h.size≤i)→(f r').wp h' Q) :
  (KDn 4 1 (#[.int .i64 0,.int .i64 0,.string ByteArray.empty,.slice none 0 0]:Array Value) [(0,.agg c)]>>=fun y=>bdL KB 1 y>>=fun x=>apL KB 4 56 (#[.int .i64 0,.int .i64 0,.string ByteArray.empty,.slice none 0 0]:Array Value) r x>>=f).wp h Q:=by
 have hc:=hv.size
 refine KI4 hc (KCq ?_)
 have e1:=Ext.push h (.cells c KB)
 have g1:(h.push (.cells c KB))[h.size]?=some (.cells c KB (0,0)):=ZJ
 generalize h.push (.cells c KB)=h1 at e1 g1 ⊢
 have hs1:=e1.size
 have G1:VGw lo S h1 r css l:=G.same (fun k hk=>e1.same k (G.gw.lt hk).1) (fun k hk=>e1.same k (hS k hk).1)
 refine KJ (KDM (l':=[v]) (css':=[c]) G1 (by omega) (fun k hk=>⟨by have:=(hS k hk).1; omega,(hS k hk).2⟩) (fun x hx=>by simp at hx; subst hx; exact ⟨hc,hv.to.one⟩) rfl rfl (.inr ⟨_,rfl,fun j u hj=>?_⟩) (fun j h1 h2=>?_) (by simp only [List.length_cons,List.length_nil]; omega) (fun h2 r2 G2 hs2 same2 on2=>?_))
 ·rw [ZE,Nat.zero_add,KP g1]
  have:WB [c]=c.toList:=by simp [WB]
  rw [this,Array.getElem?_toList] at hj
  exact hj
 ·have hj0:j=0:=by simp only [List.length_cons,List.length_nil] at h1; omega
  subst hj0
  exact hv.same (fun k hk=>e1.same k (hS k hk).1)
 ·exact H _ _ G2 (by omega) (fun i hi ho=>(same2 i (by omega) ho).trans (e1.same i hi)) (fun i hi=>(on2 i hi).imp id (fun h=>by omega))
abbrev HS (h h':Heap):Nat→Prop:=fun k=>h.size≤k∧k < h'.size
theorem KET {h:Heap} {Q:Value ⊕ Array Value→Heap→Prop} {b i:Nat} {s:List UInt8} {k:Int} (R:Rd h b s i) (hi:i < s.length) (he:ErrV h) (hb:b≠5)
  (H1:∀ n j h',KCN k s i=.ok (.mk k n [] [],j)→Kb b h h'→Rd h' b s j→Q (.inr (ZO k n [] Sl.nil)) h') (H2:∀ e h',KCN k s i=.error e→Kb b h h'→Q (.inl (Nr e)) h'):(JM (some ⟨b,0,none⟩) k).wp h Q:=by
 unfold JM
 refine Zu (fun h1 e1 hs1 g1=>?_)
 refine KBv (R.ext e1) hi (fun h2 u2 R2=>?_)
 have hbl:=R.lt
 have K2:Kb b h h2:=(Km.ext e1).trans (Km.upd u2 rfl)
 have g2:=(u2.ne h.size (by omega)).trans g1
 refine Ge (Yk (lit:=[91]) R2 (by decide) (fun j h3 hj K3 R3=>?_) (fun e h3 hj K3=>H2 e h3 (by unfold KCN; rw [hj]) (K2.trans K3)))
 have g3:=K3.blk g2 (show ¬ h.size=b by omega)
 have K3':=K2.trans K3
 refine Ge (KBw R3 (he.km K3' hb) hb (fun n j2 h4 hn K4 R4=>?_) (fun e h4 hn K4=>H2 e h4 (by unfold KCN; rw [hj]; dsimp only; rw [hn]) (K3'.trans K4)))
 have g4:=K4.blk g3 (show ¬ h.size=b by omega)
 have K4':=K3'.trans K4
 have hs4:=K4'.size
 refine Zu (fun h5 e5 hs5 g5=>?_)
 refine ZQ rfl (stR g5 (Nat.le_refl 4) (by intro v hv; simp at hv; rcases hv with rfl | rfl | rfl | rfl <;> rfl) (fun h6 u6 g6=>?_))
 have hl6:lay (#[.int .i64 0,.int .i64 0,.string ByteArray.empty,.slice none 0 0]:Array Value) 0 (#[.int .i64 k,.int .i64 n,.string ByteArray.empty,.slice none 0 0]:Array Value).toList=ZO k n [] Sl.nil:=by
  exact KS (cs:=vz) (vs:=(ZO k n [] Sl.nil).toList) rfl
 rw [hl6] at g6
 have hlt4:h.size < h4.size:=ND g4
 have K6:Kb b h h6:=⟨by have:=u6.size; have:=e5.size; omega,fun q hq hqb=>(u6.ne q (by omega)).trans ((e5.same q (by omega)).trans (K4'.same q hq hqb))⟩
 have R6:Rd h6 b s j2:=⟨(u6.ne b (by have:=R4.lt; omega)).trans (e5.blk R4.blk),R4.le,R4.small⟩
 have g6':h6[h.size]?=some (.cells (#[.int .i64 0,.int .i64 0,.string ByteArray.empty,.slice none 0 0]:Array Value) KB (0,0)):=(u6.ne h.size (by omega)).trans (e5.blk g4)
 refine Ge (Yk (lit:=[93]) R6 (by decide) (fun j3 h7 hj3 K7 R7=>?_) (fun e h7 hj3 K7=>H2 e h7 (by unfold KCN; rw [hj]; dsimp only; rw [hn]; dsimp only; rw [hj3]) (K6.trans K7)))
 have g7:=K7.blk g6 (show ¬ h4.size=b by have:=R4.lt; omega)
 have g7':=K7.blk g6' (show ¬ h.size=b by omega)
 refine ldR g7 rfl ?_
 refine KJ3 g7' rfl rfl (ZR _ _ _ _) (fun h8 u8=>H1 n j3 h8 ?_ ?_ ?_)
 ·unfold KCN; rw [hj]; dsimp only; rw [hn]; dsimp only; rw [hj3]
 ·have:=(K6.trans K7)
  exact ⟨by rw [u8.size]; exact this.size,fun q hq hqb=>(u8.ne q (by omega)).trans (this.same q hq hqb)⟩
 ·exact ⟨(u8.ne b (by omega)).trans R7.blk,R7.le,R7.small⟩
theorem KLB {β:Type} {h:Heap} {Q:β→Heap→Prop} {cs:Array Value} {f:Array Value→M β} (hc:cs.size=4) (h1:∀ v ∈ cs.toList,one v=true) (H:∀ h',Ext h h'→(f cs).wp h' Q) :
  ((mkB KB (#[.int .i64 0,.int .i64 0,.string ByteArray.empty,.slice none 0 0]:Array Value)>>=fun x=>M.need (cs.size=4)>>=fun _=>stG x cs>>=fun _=>ldG 4 x>>=fun r=>(M.pure r:M (Array Value)))>>=f).wp h Q:=by
 refine ZZ (Zu (fun h1 e1 hs1 g1=>ZZ (ZQ hc (ZZ (stR g1 (by rw [hc]; exact Nat.le_refl 4) ‹_› (fun h2 u2 g2=>ZZ ?_))))))
 rw [KS (cs:=vz) (vs:=cs.toList) (by rw [Array.length_toList,hc]; rfl)] at g2
 exact ldR g2 hc (Zc (H _ (e1.upd u2 (Nat.le_refl _))))
theorem KIH {β:Type} {h:Heap} {Q:β→Heap→Prop} {n:Int} {f:Array Value→M β} (H:∀ h',Ext h h'→(f (ZO 1 n [] Sl.nil)).wp h' Q):(Xm n>>=f).wp h Q:=KLB (cs:=ZO 1 n [] Sl.nil) rfl (ZR _ _ _ _) H
theorem KII {β:Type} {h:Heap} {Q:β→Heap→Prop} {s:List UInt8} {f:Array Value→M β} (H:∀ h',Ext h h'→(f (ZO 2 0 s Sl.nil)).wp h' Q):(GT (bs s)>>=f).wp h Q:=KLB (cs:=ZO 2 0 s Sl.nil) rfl (ZR _ _ _ _) H
theorem KFF {β:Type} {h:Heap} {Q:β→Heap→Prop} {c:Bool} {f:Array Value→M β} (H:∀ h',Ext h h'→(f (ZO 3 (if c=true then 1 else 0) [] Sl.nil)).wp h' Q):(YK c>>=f).wp h Q:=by
 unfold YK
 refine ZZ (Zu (fun h1 e1 hs1 g1=>ZZ (Zu (fun h2 e2 hs2 g2=>ZZ (ZQ rfl (ZZ (stR (cs:=vz) (vs:=ZO 3 0 [] Sl.nil) g2 (Nat.le_refl 4) (ZR _ _ _ _) (fun h3 u3 g3=>?_))))))))
 rw [KS (cs:=vz) (vs:=(ZO 3 0 [] Sl.nil).toList) rfl] at g3
 have key:∀ (n:Int) (h4:Heap),Upd h1.size h2 h4→h4[h1.size]?=some (.cells (ZO 3 n [] Sl.nil) KB (0,0))→(∀ h',Ext h h'→(f (ZO 3 n [] Sl.nil)).wp h' Q)→(Wl ⟨h.size,0,none⟩ ⟨h1.size,0,none⟩>>=f).wp h4 Q:=by
  intro n h4 u4 g4 HH
  unfold Wl
  have g1':h4[h.size]?=some (.cells vz KB (0,0)):=(u4.ne _ (by omega)).trans (e2.blk g1)
  refine ZZ (ldR g4 rfl (ZZ (ZQ rfl (ZZ (stR g1' (Nat.le_refl 4) (ZR _ _ _ _) (fun h5 u5 g5=>ZZ ?_))))))
  rw [KS (cs:=vz) (vs:=(ZO 3 n [] Sl.nil).toList) rfl] at g5
  refine ldR g5 rfl (Zc (HH _ ?_))
  have a4:Ext h h4:=(e1.trans e2).upd u4 (by omega)
  exact a4.upd u5 (Nat.le_refl _)
 refine KHR (fun hc=>?_) (fun hc=>?_)
 ·subst hc
  refine ZZ (NF (x:=.int .i64 0) (by rw [ZE,KP g3]; rfl) (by rw [ZE]; exact ZS g3) rfl ?_)
  rw [ZE,Nat.zero_add]
  exact key 1 _ (u3.trans (Upd.hset _ _ _ _)) (Vh g3) H
 ·subst hc
  exact key 0 _ u3 g3 H
def KMT (s:List UInt8) (d:Nat):Prop:=∀ (i:Nat) (h:Heap) (Q:Value ⊕ Array Value→Heap→Prop) (b:Nat),Rd h b s i→ErrV h→b≠5 →
 (∀ v j h' c,pval s d i=.ok (v,j)→Kb b h h'→Rd h' b s j→Zp (HS h h') h' v c→Q (.inr c) h') →
 (∀ e h',pval s d i=.error e→Kb b h h'→Q (.inl (Nr e)) h')→(Ji (some ⟨b,0,none⟩) ((9 - d:Nat):Int)).wp h Q
theorem KEU {s:List UInt8} {d:Nat} (hd:d≤8) (IH:KMT s d) {en:UInt8} (hen:en≠0) {two:Bool} {i:Nat} {h:Heap} {Q:Value ⊕ Sl→Heap→Prop} {b:Nat} (R:Rd h b s i) (hi:i < s.length) (he:ErrV h) (hb:b≠5)
  (H1:∀ l j h' r,KAB (pval s d) en two s (s.length - i) [] (i+1)=.ok (l,j)→Kb b h h'→Rd h' b s j→VsRepS (HS h h') h' r l→Q (.inr r) h')
  (H2:∀ e h',KAB (pval s d) en two s (s.length - i) [] (i+1)=.error e→Kb b h h'→Q (.inl (Nr e)) h') :
  (Vf (some ⟨b,0,none⟩) ((8 - d:Nat):Int) (en.toNat:Int) (if two=true then 2 else 1)).wp h Q:=by
 unfold Vf
 have hP:=KIG s d
 refine KBv R hi (fun h1 u1 R1=>?_)
 have K1:Kb b h h1:=Km.upd u1 rfl
 have hs1:=u1.size
 have hb1:=R1.lt
 refine M.loop_inv (fun (x:Sl) hh=>∃ (l:List Vl) (css:List (Array Value)) (f i':Nat),s.length < f+i'∧l.length≤i'∧Kb b h1 hh∧Rd hh b s i'∧VGw h1.size (fun k=>h1.size≤k∧k < hh.size∧¬ Sl.on x k) hh x css l∧KAB (pval s d) en two s f l i'=KAB (pval s d) en two s (s.length - i) [] (i+1))
  (fun x _=>s.length+1 - x.len) ?_ ⟨[],[],_,i+1,by omega,Nat.zero_le _,Km.refl _ _,R1,VGw.nil _ _ _,rfl⟩
 rintro x hh ⟨l,css,f,i',hf,hli,K,R',G,hm⟩ self hself
 have hsm:=R'.small
 have hle:=R'.le
 have hxl:x.len=l.length:=by rw [G.gw.len4 G.w4,G.len]
 obtain ⟨f,rfl⟩:∃ g,f=g+1:=⟨f - 1,by omega⟩
 rw [KAB] at hm
 have hKs:=K.size
 unfold Ua
 refine KJ (U1 R' ?_)
 rw [show (((KY s i').toNat:Int) != (en.toNat:Int))=!decide (KY s i'=en) by rw [← u8_c (d:=en) (n:=(en.toNat:Int)) rfl]; rfl]
 refine KZ (fun hne=>?_) (fun heq=>?_)
 ·have hne:KY s i'≠en:=by simpa using hne
  rw [if_neg hne] at hm
  have test:∀ (l2:List Vl) (css2:List (Array Value)) (i2:Nat) (h2:Heap) (x2:Sl),i' < i2→l.length < l2.length→l2.length≤i2→Kb b h1 h2→Rd h2 b s i2→VGw h1.size (fun k=>h1.size≤k∧k < h2.size∧¬ Sl.on x2 k) h2 x2 css2 l2 →
    (if KY s i2≠en∧KY s i2≠44 then .error i2 else KAB (pval s d) en two s f l2 i2)=KAB (pval s d) en two s (s.length - i) [] (i+1)→(JN self (some ⟨b,0,none⟩) (en.toNat:Int) x2).wp h2 Q:=by
   intro l2 css2 i2 h2 x2 hi2 hl2 hli2 K2 R2 G2 hm2
   unfold JN
   refine KJ (U1 R2 ?_)
   rw [show (((KY s i2).toNat:Int) != (en.toNat:Int))=!decide (KY s i2=en) by rw [← u8_c (d:=en) (n:=(en.toNat:Int)) rfl]; rfl]
   refine z6 (c:=!decide (KY s i2=44)) (fun _ Q' hq=>KF ?_) ?_
   ·rw [show (((KY s i2).toNat:Int) != 44)=!decide (KY s i2=44) by rw [← u8_c (d:=44) (n:=44) rfl]; rfl]
    exact hq
   ·refine KZ (fun hbad=>?_) (fun hok=>?_)
    ·have hbad:KY s i2≠en∧KY s i2≠44:=by simpa using hbad
     rw [if_pos hbad] at hm2
     exact WC R2 (H2 _ _ hm2.symm (K1.trans K2))
    ·have hok:¬ (KY s i2≠en∧KY s i2≠44):=by
      intro hh2
      rw [decide_eq_false hh2.1,decide_eq_false hh2.2] at hok
      cases hok
     rw [if_neg hok] at hm2
     have hx2:x2.len=l2.length:=by rw [G2.gw.len4 G2.w4,G2.len]
     have:=R2.le
     exact hself _ _ ⟨l2,css2,f,i2,by omega,hli2,K2,R2,G2,hm2⟩ (by omega)
  have one_:∀ {l2:List Vl} {css2:List (Array Value)} {i2:Nat} {h2:Heap} {x2:Sl} {Qs:Value ⊕ Sl→Heap→Prop} {F:Sl→M (Value ⊕ Sl)},l2.length≤i2→Kb b h1 h2→Rd h2 b s i2→VGw h1.size (fun k=>h1.size≤k∧k < h2.size∧¬ Sl.on x2 k) h2 x2 css2 l2 →
    (∀ v j h3 x3 css3,pval s d i2=.ok (v,j)→Kb b h1 h3→Rd h3 b s j→VGw h1.size (fun k=>h1.size≤k∧k < h3.size∧¬ Sl.on x3 k) h3 x3 css3 (l2++[v])→(F x3).wp h3 Qs) →
    (∀ e h3,pval s d i2=.error e→Kb b h1 h3→Qs (.inl (Nr e)) h3) →
    (thr (KBG Go.Proofs.Tryz.prog VJ #[.pointer (some ⟨b,0,none⟩),.int .i64 (IntKind.wrap .i64 (((8 - d:Nat):Int)+1))] (fun r:Array Value=>.agg r)) fun Xx24 =>
     (KDn 4 1 (#[.int .i64 0,.int .i64 0,.string ByteArray.empty,.slice none 0 0]:Array Value) [(0,.agg Xx24)]>>=fun y=>bdL KB 1 y>>=fun x=>apL KB 4 56 (#[.int .i64 0,.int .i64 0,.string ByteArray.empty,.slice none 0 0]:Array Value) x2 x>>=F)).wp h2 Qs:=by
   intro l2 css2 i2 h2 x2 Qs F hli2 K2 R2 G2 HF HE
   have hle2:=R2.le
   rw [w64 (by omega) (by omega),show (((8 - d:Nat):Int)+1)=((9 - d:Nat):Int) by omega]
   have hK2:=K2.size
   refine Ge (KCg (Y9 _ _) (IH i2 h2 _ b R2 ((he.km K1 hb).km K2 hb) hb (fun v j h3 c hv K3 R3 V3=>?_) (fun e h3 hv K3=>HE e h3 hv (K2.trans K3))))
   have hK3:=K3.size
   have G3:VGw h1.size (fun k=>h1.size≤k∧k < h3.size∧¬ Sl.on x2 k) h3 x2 css2 l2 :=
    (G2.same (fun k hk=>K3.same k (G2.gw.lt hk).1 (fun e=>by have:=(G2.gw.lt hk).2; omega)) (fun k hk=>K3.same k hk.2.1 (fun e=>by have:=hk.1; omega))).mono (fun k hk=>⟨hk.1,by have:=hk.2.1; omega,hk.2.2⟩)
   refine KLA G3 (fun k hk=>hk.2) (V3.mono (fun k hk=>⟨by have:=hk.1; omega,hk.2,fun ho=>by have:=(G2.gw.lt ho).1; have:=hk.1; omega⟩)) (by omega) (by omega) (fun h4 x4 G4 hs4 same4 on4=>?_)
   refine HF v j h4 x4 _ hv ⟨by omega,fun k hk hkb=>(same4 k (by omega) (fun ho=>by have:=(G2.gw.lt ho).2; omega)).trans ((K2.trans K3).same k hk hkb)⟩ ⟨?_,R3.le,R3.small⟩ (G4.mono (fun k hk=>⟨hk.1,by have:=hk.2.1; omega,fun ho=>(on4 k ho).elim hk.2.2 (fun h=>by have:=hk.2.1; omega)⟩))
   rw [same4 b (by omega) (fun ho=>by have:=(G2.gw.lt ho).2; omega)]
   exact R3.blk
  have body:∀ (i1:Nat) (h2:Heap),i'≤i1→Kb b h1 h2→Rd h2 b s i1→VGw h1.size (fun k=>h1.size≤k∧k < h2.size∧¬ Sl.on x k) h2 x css l →
    (match KAA (pval s d) two s i1 with
     | .error e=>.error e
     | .ok (vs,i2)=>if KY s i2≠en∧KY s i2≠44 then .error i2 else KAB (pval s d) en two s f (l++vs) i2)=KAB (pval s d) en two s (s.length - i) [] (i+1) →
    (JO self (some ⟨b,0,none⟩) ((8 - d:Nat):Int) (en.toNat:Int) (if two=true then 2 else 1) x).wp h2 Q:=by
   intro i1 h2 hi1 K2 R2 G2 hm2
   unfold JO
   refine one_ (by omega) K2 R2 G2 (fun v j h3 x3 css3 hv K3 R3 G3=>?_) (fun e h3 hv K3=>?_)
   ·have hvj:=hP _ _ _ hv
    cases two with
    | false =>
     refine iteF rfl ?_
     have hpair:KAA (pval s d) false s i1=.ok ([v],j):=by unfold KAA; rw [hv]; rfl
     rw [hpair] at hm2
     exact test _ _ j h3 x3 (by omega) (by simp) (by rw [List.length_append,List.length_singleton]; omega) K3 R3 G3 hm2
    | true =>
     refine iteT rfl ?_
     refine Ge (Yk (lit:=[58,32]) R3 (by decide) (fun j2 h4 hj2 K4 R4=>?_) (fun e h4 hj2 K4=>?_))
     ·have hj2':j2=j+2:=(Wu hj2).1
      have hK3:=K3.size
      have hK4:=K4.size
      have G4:VGw h1.size (fun k=>h1.size≤k∧k < h4.size∧¬ Sl.on x3 k) h4 x3 css3 (l++[v]) :=
       (G3.same (fun k hk=>K4.same k (G3.gw.lt hk).1 (fun e=>by have:=(G3.gw.lt hk).2; omega)) (fun k hk=>K4.same k hk.2.1 (fun e=>by have:=hk.1; omega))).mono (fun k hk=>⟨hk.1,by have:=hk.2.1; omega,hk.2.2⟩)
      refine one_ (by rw [List.length_append,List.length_singleton]; omega) (K3.trans K4) R4 G4 (fun w j3 h5 x5 css5 hw K5 R5 G5=>?_) (fun e h5 hw K5=>?_)
      ·have hwj:=hP _ _ _ hw
       have hpair:KAA (pval s d) true s i1=.ok ([v,w],j3):=by unfold KAA; rw [hv]; dsimp only; rw [if_pos rfl,hj2]; dsimp only; rw [hw]
       rw [hpair] at hm2
       rw [List.append_assoc] at G5
       exact test _ _ j3 h5 x5 (by omega) (by simp) (by simp only [List.length_append,List.length_cons,List.length_nil]; omega) K5 R5 G5 hm2
      ·have hpair:KAA (pval s d) true s i1=.error e:=by unfold KAA; rw [hv]; dsimp only; rw [if_pos rfl,hj2]; dsimp only; rw [hw]
       rw [hpair] at hm2
       exact H2 _ _ hm2.symm (K1.trans K5)
     ·have hpair:KAA (pval s d) true s i1=.error e:=by unfold KAA; rw [hv]; dsimp only; rw [if_pos rfl,hj2]
      rw [hpair] at hm2
      exact H2 _ _ hm2.symm (K1.trans (K3.trans K4))
   ·have hpair:KAA (pval s d) two s i1=.error e:=by unfold KAA; rw [hv]
    rw [hpair] at hm2
    exact H2 _ _ hm2.symm (K1.trans K3)
  refine KZ (fun hpos=>?_) (fun hz=>?_)
  ·have hl0:¬ l.length=0:=by have:=of_decide_eq_true hpos; omega
   unfold sepP at hm
   rw [if_neg hl0] at hm
   refine Ge (Yk (lit:=[44,32]) R' (by decide) (fun j h2 hj K2 R2=>?_) (fun e h2 hj K2=>?_))
   ·rw [hj] at hm
    have hj':j=i'+2:=(Wu hj).1
    have hK2:=K2.size
    exact body j h2 (by omega) (K.trans K2) R2 ((G.same (fun k hk=>K2.same k (G.gw.lt hk).1 (fun e=>by have:=(G.gw.lt hk).2; omega)) (fun k hk=>K2.same k hk.2.1 (fun e=>by have:=hk.1; omega))).mono (fun k hk=>⟨hk.1,by have:=hk.2.1; omega,hk.2.2⟩)) hm
   ·rw [hj] at hm
    exact H2 _ _ hm.symm (K1.trans (K.trans K2))
  ·have hl0:l.length=0:=by have:=of_decide_eq_false hz; omega
   unfold sepP at hm
   rw [if_pos hl0] at hm
   exact body i' hh (Nat.le_refl _) K R' G hm
 ·have heq:KY s i'=en:=by simpa using heq
  rw [if_pos heq] at hm
  have hil:i' < s.length:=WR (by rw [heq]; exact hen)
  refine KBv R' hil (fun h2 u2 R2=>KF ?_)
  have hu2:=u2.size
  have G2:=G.same (fun k hk=>u2.ne k (fun e=>by have:=(G.gw.lt hk).2; omega)) (fun k hk=>u2.ne k (fun e=>by have:=hk.1; omega))
  refine H1 l (i'+1) h2 x hm.symm (K1.trans (K.trans (Km.upd u2 rfl))) R2 ?_
  refine (G2.rep_ (by omega)).same (fun _ _=>rfl) (fun k hk=>?_)
  rcases hk with hk | hk
  ·exact ⟨by have:=hk.1; omega,by have:=hk.2.1; omega⟩
  ·have:=G2.gw.lt hk
   exact ⟨by omega,by omega⟩
end Gx
namespace Gx
open Go Go.Proofs Go.Shelf Go.RowKit Go.Lib
set_option linter.unusedVariables false
set_option linter.unusedSimpArgs false
set_option maxRecDepth 100000
theorem Rd.upd {h h':Heap} {b g:Nat} {s:List UInt8} {i:Nat} (R:Rd h b s i) (u:Upd g h h') (hg:b≠g):Rd h' b s i:=⟨(u.ne b hg).trans R.blk,R.le,R.small⟩
theorem KCc (s:List UInt8):∀ d,d≤8→KMT s d
 | 0,_=>fun i h Q b R he hb H1 H2=>by
  unfold Ji
  refine Zu (fun h1 e1 hs1 g1=>iteT (by rfl) (Ge (WC (R.ext e1) (H2 i h1 rfl (Km.ext e1)))))
 | d+1,hd=>fun i h Q b R he hb H1 H2=>by
  have IH:=KCc s d (by omega)
  unfold Ji
  refine Zu (fun h1 e1 hs1 g1=>iteF (decide_eq_false (by omega)) ?_)
  have R1:=R.ext e1
  have hbl:=R.lt
  have he1:=he.ext e1
  have K1:Kb b h h1:=Km.ext e1
  have fin:∀ (v:Vl) (cs:Array Value) (j:Nat) (h2:Heap),pval s (d+1) i=.ok (v,j)→Kb b h1 h2→Rd h2 b s j→Zp (fun k=>h1.size≤k∧k < h2.size) h2 v cs →
    (M.need (cs.size=4)>>=fun _=>stG ⟨h.size,0,none⟩ cs>>=fun _=>ldG 4 ⟨h.size,0,none⟩>>=fun r=>(M.pure (.inr r):M (Value ⊕ Array Value))).wp h2 Q:=by
   intro v cs j h2 hv K2 R2 V2
   have g2:=K2.blk g1 (show ¬ h.size=b by omega)
   refine KJ3 g2 rfl V2.size V2.to.one (fun h3 u3=>H1 v j h3 cs hv ?_ (R2.upd u3 (by omega)) ?_)
   ·have:=K1.trans K2
    exact ⟨by rw [u3.size]; exact this.size,fun q hq hqb=>(u3.ne q (by omega)).trans (this.same q hq hqb)⟩
   ·have hu:=u3.size
    exact (V2.same (fun k hk=>u3.ne k (by omega))).mono (fun k hk=>⟨by omega,by omega⟩)
  have scal:∀ {k n:Int} {t:List UInt8} {S:Nat→Prop} {h2:Heap},I64 k→I64 n→t.length≤1099511627776→Zp S h2 (.mk k n t []) (ZO k n t Sl.nil):=fun hk hn ht=>KF0 _ _ hk hn (by omega)
  have hle:=R.le
  have hsm:=R.small
  rw [pval] at H1 H2 fin
  unfold Jc
  refine KJ (U1 R1 ?_)
  refine or_b (c:=digB (KY s i)) (fun _ Q' hq=>KJ (KAm (KF hq))) ?_
  rw [u8_c (d:=45) (n:=45) rfl]
  refine KZ (fun hc=>?_) (fun hc=>?_)
  ·have hc:KY s i=45∨digB (KY s i)=true:=by rwa [Bool.or_eq_true,decide_eq_true_iff] at hc
   rw [if_pos hc] at H1 H2 fin
   refine Ge (KBw R1 he1 hb (fun n j h2 hn K2 R2=>?_) (fun e h2 hn K2=>H2 e h2 (by rw [hn]) (K1.trans K2)))
   refine KIH (fun h3 e3=>fin (.mk 1 n [] []) _ j h3 (by rw [hn]) (K2.trans (Km.ext e3)) (R2.ext e3) (scal ⟨by decide,by decide⟩ (KFC hn hle).1 (by decide)))
  have hc:¬ (KY s i=45∨digB (KY s i)=true):=fun hh=>by
   rw [← decide_eq_true_iff (p:=KY s i=45),← Bool.or_eq_true,hc] at hh
   cases hh
  rw [if_neg hc] at H1 H2 fin
  rw [u8_c (d:=39) (n:=39) rfl]
  refine KZ (fun hc=>?_) (fun hc=>?_)
  ·rw [if_pos (of_decide_eq_true hc)] at H1 H2 fin
   refine Ge (KJU R1 (fun t j h2 ht K2 R2=>?_) (fun e h2 ht K2=>H2 e h2 (by rw [ht]) (K1.trans K2)))
   refine KII (fun h3 e3=>fin (.mk 2 0 t []) _ j h3 (by rw [ht]) (K2.trans (Km.ext e3)) (R2.ext e3) (scal ⟨by decide,by decide⟩ ⟨by decide,by decide⟩ (by have:=(KFE ht).2.2; omega)))
  rw [if_neg (of_decide_eq_false hc)] at H1 H2 fin
  rw [u8_c (d:=116) (n:=116) rfl]
  refine KZ (fun hc=>?_) (fun hc=>?_)
  ·rw [if_pos (of_decide_eq_true hc)] at H1 H2 fin
   refine Ge (Yk (lit:=[116,114,117,101]) R1 (by decide) (fun j h2 hj K2 R2=>?_) (fun e h2 hj K2=>H2 e h2 (by rw [hj]) (K1.trans K2)))
   refine KFF (fun h3 e3=>fin (.mk 3 1 [] []) _ j h3 (by rw [hj]) (K2.trans (Km.ext e3)) (R2.ext e3) (scal ⟨by decide,by decide⟩ ⟨by decide,by decide⟩ (by decide)))
  rw [if_neg (of_decide_eq_false hc)] at H1 H2 fin
  rw [u8_c (d:=102) (n:=102) rfl]
  refine KZ (fun hc=>?_) (fun hc=>?_)
  ·rw [if_pos (of_decide_eq_true hc)] at H1 H2 fin
   refine Ge (Yk (lit:=[102,97,108,115,101]) R1 (by decide) (fun j h2 hj K2 R2=>?_) (fun e h2 hj K2=>H2 e h2 (by rw [hj]) (K1.trans K2)))
   refine KFF (fun h3 e3=>fin (.mk 3 0 [] []) _ j h3 (by rw [hj]) (K2.trans (Km.ext e3)) (R2.ext e3) (scal ⟨by decide,by decide⟩ ⟨by decide,by decide⟩ (by decide)))
  rw [if_neg (of_decide_eq_false hc)] at H1 H2 fin
  rw [u8_c (d:=118) (n:=118) rfl]
  refine KZ (fun hc=>?_) (fun hc=>?_)
  ·have hcc:=of_decide_eq_true hc
   rw [if_pos hcc] at H1 H2 fin
   refine Ge (KET (k:=6) R1 (WR (by rw [hcc]; decide)) he1 hb (fun n j h2 hn K2 R2=>fin _ _ j h2 hn K2 R2 ?_) (fun e h2 hn K2=>H2 e h2 hn (K1.trans K2)))
   obtain ⟨n',hv,hn',_⟩:=KBF hn
   cases hv
   exact scal ⟨by decide,by decide⟩ hn' (by decide)
  rw [if_neg (of_decide_eq_false hc)] at H1 H2 fin
  rw [u8_c (d:=101) (n:=101) rfl]
  refine KZ (fun hc=>?_) (fun hc=>?_)
  ·have hcc:=of_decide_eq_true hc
   rw [if_pos hcc] at H1 H2 fin
   refine Ge (KET (k:=7) R1 (WR (by rw [hcc]; decide)) he1 hb (fun n j h2 hn K2 R2=>fin _ _ j h2 hn K2 R2 ?_) (fun e h2 hn K2=>H2 e h2 hn (K1.trans K2)))
   obtain ⟨n',hv,hn',_⟩:=KBF hn
   cases hv
   exact scal ⟨by decide,by decide⟩ hn' (by decide)
  rw [if_neg (of_decide_eq_false hc)] at H1 H2 fin
  rw [u8_c (d:=91) (n:=91) rfl,show ((9 - (d+1):Nat):Int)=((8 - d:Nat):Int) by omega]
  refine KZ (fun hc=>?_) (fun hc=>?_)
  ·have hcc:=of_decide_eq_true hc
   rw [if_pos hcc] at H1 H2 fin
   refine Ge (KCg (Xo _ _ _ _) (KEU (two:=false) (en:=93) (by omega) IH (by decide) R1 (WR (by rw [hcc]; decide)) he1 hb (fun l j h2 r hl K2 R2 V2=>?_) (fun e h2 hl K2=>H2 e h2 (by rw [hl]) (K1.trans K2))))
   exact fin (.mk 4 0 [] l) _ j h2 (by rw [hl]) K2 R2 (KF1 ⟨by decide,by decide⟩ ⟨by decide,by decide⟩ V2)
  rw [if_neg (of_decide_eq_false hc)] at H1 H2 fin
  rw [u8_c (d:=123) (n:=123) rfl]
  refine KZ (fun hc=>?_) (fun hc=>?_)
  ·have hcc:=of_decide_eq_true hc
   rw [if_pos hcc] at H1 H2 fin
   refine Ge (KCg (Xo _ _ _ _) (KEU (two:=true) (en:=125) (by omega) IH (by decide) R1 (WR (by rw [hcc]; decide)) he1 hb (fun l j h2 r hl K2 R2 V2=>?_) (fun e h2 hl K2=>H2 e h2 (by rw [hl]) (K1.trans K2))))
   exact fin (.mk 5 0 [] l) _ j h2 (by rw [hl]) K2 R2 (KF1 ⟨by decide,by decide⟩ ⟨by decide,by decide⟩ V2)
  rw [if_neg (of_decide_eq_false hc)] at H1 H2 fin
  exact Ge (WC R1 (H2 i h1 rfl K1))
def KFG (s:List UInt8):Except Nat Vl:=match pval s 8 0 with | .error e=>.error e | .ok (v,j)=>if j < s.length then .error j else .ok v
theorem KCd {h:Heap} {Q:Array Value × Int × Bool→Heap→Prop} {b2 b3 b4 e:Nat} {z2:Array Value} {v3 v4:Value} (g2:h[b2]?=some (.cells z2 KB (0,0))) (hz:z2.size=4) (g3:h[b3]?=some (.cells #[v3] Nb (0,0))) (g4:h[b4]?=some (.cells #[v4] KBW (0,0))) (h23:b2≠b3) (h24:b2≠b4) (h34:b3≠b4)
  (H:∀ h',h.size≤h'.size→(∀ i,i < h.size→i≠b2→i≠b3→i≠b4→h'[i]?=h[i]?)→Q (vz,(e:Int),false) h'):(Ga ⟨b2,0,none⟩ ⟨b3,0,none⟩ ⟨b4,0,none⟩ (Nr e)>>=fun _=>NB ⟨b2,0,none⟩ ⟨b3,0,none⟩ ⟨b4,0,none⟩).wp h Q:=by
 have l2:=ND g2
 have l3:=ND g3
 have l4:=ND g4
 unfold Ga
 refine ⟨(e:Int),rfl,?_⟩
 refine KJ (Zu (fun h1 e1 hs1 g1=>ZQ rfl (stR g1 (Nat.le_refl 1) (by intro v hv; simp at hv; subst hv; rfl) (fun h2' u2 g2'=>?_))))
 rw [KS (cs:=#[.int .i64 0]) (vs:=(#[.int .i64 (e:Int)]:Array Value).toList) rfl] at g2'
 unfold KFu
 refine Jx (n:=(e:Int)) (by rw [ZE,KP g2']; rfl) (ZQ rfl ?_)
 have k2:h2'[b2]?=some (.cells z2 KB (0,0)):=(u2.ne b2 (by omega)).trans (e1.blk g2)
 refine stR k2 (by rw [hz]; exact Nat.le_refl 4) (ZR 0 0 [] Sl.nil) (fun h3 u3 g3'=>?_)
 rw [KS (cs:=z2) (vs:=(vz:Array Value).toList) (by rw [hz]; rfl)] at g3'
 have kq:h3[h.size]?=some (.cells #[.int .i64 (e:Int)] JF (0,0)):=(u3.ne h.size (by omega)).trans g2'
 refine KEo (by rw [ZE,KP kq]; rfl) ?_
 have k3:h3[b3]?=some (.cells #[v3] Nb (0,0)):=(u3.ne b3 (by omega)).trans ((u2.ne b3 (by omega)).trans (e1.blk g3))
 refine NF (x:=v3) (by rw [KP k3]; rfl) (ZS k3) rfl ?_
 have g5:=Vh (o:=0) (v:=.int .i64 (e:Int)) k3
 have u5:=Upd.hset h3 b3 0 (.int .i64 (e:Int))
 generalize hset h3 ⟨b3,0,none⟩ (.int .i64 (e:Int))=h5 at g5 u5 ⊢
 have k4:h5[b4]?=some (.cells #[v4] KBW (0,0)):=(u5.ne b4 (by omega)).trans ((u3.ne b4 (by omega)).trans ((u2.ne b4 (by omega)).trans (e1.blk g4)))
 refine NF (x:=v4) (by rw [KP k4]; rfl) (ZS k4) rfl ?_
 have g6:=Vh (o:=0) (v:=.bool false) k4
 have u6:=Upd.hset h5 b4 0 (.bool false)
 generalize hset h5 ⟨b4,0,none⟩ (.bool false)=h6 at g6 u6 ⊢
 refine KF ?_
 unfold NB
 have m2:h6[b2]?=some (.cells vz KB (0,0)):=(u6.ne b2 (by omega)).trans ((u5.ne b2 (by omega)).trans g3')
 have m3:h6[b3]?=some (.cells (#[v3].setIfInBounds 0 (.int .i64 (e:Int))) Nb (0,0)):=(u6.ne b3 (by omega)).trans g5
 refine ldR m2 rfl (Jx (n:=(e:Int)) (by rw [KP m3]; rfl) (KLz (n:=false) (by rw [KP g6]; rfl) (KF (H _ ?_ ?_))))
 ·have a1:=u6.size; have a2:=u5.size; have a3:=u3.size; have a4:=u2.size; omega
 ·intro i hi n2 n3 n4
  rw [u6.ne i n4,u5.ne i n3,u3.ne i n2,u2.ne i (by omega)]
  exact e1.same i hi
theorem KIJ {s:List UInt8} {h:Heap} {Q:Array Value × Int × Bool→Heap→Prop} (hs:s.length≤1099511627776) (he:ErrV h)
  (H1:∀ v h' c,KFG s=.ok v→Ext h h'→Zp (h.size≤·) h' v c→Q (c,0,true) h') (H2:∀ e h',KFG s=.error e→Ext h h'→Q (vz,(e:Int),false) h'):(KK7 (bs s)).wp h Q:=by
 unfold KK7
 refine Zu (fun h1 e1 s1 g1=>Zu (fun h2 e2 s2 g2=>Zu (fun h3 e3 s3 g3=>Zu (fun h4 e4 s4 g4=>?_))))
 obtain ⟨t5,p5,hc5⟩:=id he
 have h5:5 < h.size:=z7 hc5
 have R4:Rd h4 h3.size s 0:=⟨g4,Nat.zero_le _,hs⟩
 have E4:Ext h h4:=((e1.trans e2).trans e3).trans e4
 have b1:h4[h.size]?=some (.cells vz KB (0,0)):=((e2.trans e3).trans e4).blk g1
 have b2:h4[h1.size]?=some (.cells #[.int .i64 0] Nb (0,0)):=(e3.trans e4).blk g2
 have b3:h4[h2.size]?=some (.cells #[.bool false] KBW (0,0)):=e4.blk g3
 refine KJ (KCc s 8 (Nat.le_refl _) 0 h4 _ h3.size R4 (he.ext E4) (by omega) (fun v j h6 c hv K6 R6 V6=>?_) (fun e h6 hv K6=>?_))
 ·have c1:=K6.blk b1 (show ¬ h.size=h3.size by omega)
  have c2:=K6.blk b2 (show ¬ h1.size=h3.size by omega)
  have c3:=K6.blk b3 (show ¬ h2.size=h3.size by omega)
  have hs6:=K6.size
  refine ZQ V6.size (stR c1 (by rw [V6.size]; exact Nat.le_refl 4) V6.to.one (fun h7 u7 g7=>?_))
  rw [KS (cs:=vz) (vs:=c.toList) (by rw [Array.length_toList,V6.size]; rfl)] at g7
  have hs7:=u7.size
  have R7:=R6.upd u7 (show h3.size≠h.size by omega)
  refine KA6 R7 ?_
  rw [JL]
  refine KZ (fun hlt=>?_) (fun hge=>?_)
  ·have hlt:j < s.length:=by have:=of_decide_eq_true hlt; omega
   refine KJ (WC R7 ?_)
   refine KCd g7 V6.size ((u7.ne _ (by omega)).trans c2) ((u7.ne _ (by omega)).trans c3) (by omega) (by omega) (by omega) (fun h8 s8 same8=>H2 j h8 ?_ ⟨by omega,fun i hi=>?_⟩)
   ·unfold KFG; rw [hv]; dsimp only; rw [if_pos hlt]
   ·rw [same8 i (by omega) (by omega) (by omega) (by omega),u7.ne i (by omega),K6.same i (by omega) (by omega)]
    exact E4.same i hi
  ·have hge:¬ j < s.length:=by have:=of_decide_eq_false hge; omega
   unfold KDS
   refine ldR g7 V6.size (ZQ V6.size (stR g7 (by rw [V6.size]; exact Nat.le_refl 4) V6.to.one (fun h8 u8 g8=>?_)))
   rw [KS (cs:=c) (vs:=c.toList) (by rw [Array.length_toList])] at g8
   have d2:h8[h1.size]?=some (.cells #[.int .i64 0] Nb (0,0)):=(u8.ne _ (by omega)).trans ((u7.ne _ (by omega)).trans c2)
   refine NF (x:=.int .i64 0) (by rw [KP d2]; rfl) (ZS d2) rfl ?_
   have g9:=Vh (o:=0) (v:=.int .i64 0) d2
   have u9:=Upd.hset h8 h1.size 0 (.int .i64 0)
   generalize hset h8 ⟨h1.size,0,none⟩ (.int .i64 0)=h9 at g9 u9 ⊢
   have d3:h9[h2.size]?=some (.cells #[.bool false] KBW (0,0)):=(u9.ne _ (by omega)).trans ((u8.ne _ (by omega)).trans ((u7.ne _ (by omega)).trans c3))
   refine NF (x:=.bool false) (by rw [KP d3]; rfl) (ZS d3) rfl ?_
   have g10:=Vh (o:=0) (v:=.bool true) d3
   have u10:=Upd.hset h9 h2.size 0 (.bool true)
   generalize hset h9 ⟨h2.size,0,none⟩ (.bool true)=h10 at g10 u10 ⊢
   unfold NB
   have m1:h10[h.size]?=some (.cells c KB (0,0)):=(u10.ne _ (by omega)).trans ((u9.ne _ (by omega)).trans g8)
   have m2:=(u10.ne h1.size (by omega)).trans g9
   refine ldR m1 V6.size (Jx (n:=0) (by rw [KP m2]; rfl) (KLz (n:=true) (by rw [KP g10]; rfl) (KF (H1 v _ c ?_ ⟨?_,fun i hi=>?_⟩ ?_))))
   ·unfold KFG; rw [hv]; dsimp only; rw [if_neg hge]
   ·have a1:=u10.size; have a2:=u9.size; have a3:=u8.size; omega
   ·rw [u10.ne i (by omega),u9.ne i (by omega),u8.ne i (by omega),u7.ne i (by omega),K6.same i (by omega) (by omega)]
    exact E4.same i hi
   ·refine (V6.same (fun k hk=>?_)).mono (fun k hk=>by have:=hk.1; omega)
    have:=hk.1
    rw [u10.ne k (by omega),u9.ne k (by omega),u8.ne k (by omega),u7.ne k (by omega)]
 ·have c1:=K6.blk b1 (show ¬ h.size=h3.size by omega)
  have c2:=K6.blk b2 (show ¬ h1.size=h3.size by omega)
  have c3:=K6.blk b3 (show ¬ h2.size=h3.size by omega)
  have hs6:=K6.size
  refine KCd c1 rfl c2 c3 (by omega) (by omega) (by omega) (fun h8 s8 same8=>H2 e h8 ?_ ⟨by omega,fun i hi=>?_⟩)
  ·unfold KFG; rw [hv]
  ·rw [same8 i (by omega) (by omega) (by omega) (by omega),K6.same i (by omega) (by omega)]
   exact E4.same i hi
def Nt (s:List UInt8):Vl × Nat × Int:=match KFG s with | .error e=>(vl0,e,22) | .ok v=>if mayV 8 v=true then (v,0,0) else (vl0,0,20)
theorem KFH {s:List UInt8} {h:Heap} {Q:Array Value × Int × Int→Heap→Prop} (hs:s.length≤1099511627776) (he:ErrV h)
  (H:∀ h' c,Ext h h'→Zp (h.size≤·) h' (Nt s).1 c→Q (c,((Nt s).2.1:Int),(Nt s).2.2) h'):(Xf (bs s)).wp h Q:=by
 unfold Xf
 refine Zu (fun h1 e1 s1 g1=>?_)
 refine KJ (qS (KMS _) (KIJ hs (he.ext e1) (fun v h2 c hv e2 V2=>?_) (fun e h2 hv e2=>?_)))
 ·refine Zu (fun h3 e3 s3 g3=>ZQ V2.size (stR g3 (by rw [V2.size]; exact Nat.le_refl 4) V2.to.one (fun h4 u4 g4=>?_)))
  rw [KS (cs:=vz) (vs:=c.toList) (by rw [Array.length_toList,V2.size]; rfl)] at g4
  have E4:Ext h h4:=((e1.trans e2).trans e3).upd u4 (by have:=e1.size; have:=e2.size; omega)
  have V4:Zp (fun k=>h1.size≤k∧k < h2.size) h4 v c:=((V2.lt2).same (fun k hk=>(u4.ne k (by omega)).trans (e3.same k hk.2)))
  refine iteF rfl (ldR g4 V2.size (KJ (KBm V4.to (fun h5 e5=>?_))))
  have g5:h5[h.size]?=some (.cells vz KB (0,0)):=e5.blk ((u4.ne _ (by have:=e2.size; omega)).trans ((e2.trans e3).blk g1))
  have gc5:=e5.blk g4
  unfold qO
  by_cases hm:mayV 8 v=true
  ·rw [if_pos hm]
   have hP:Nt s=(v,0,0):=by unfold Nt; rw [hv]; dsimp only; rw [if_pos hm]
   rw [hP] at H
   refine iteF rfl (ldR gc5 V2.size (ZQ V2.size (stR g5 (by rw [V2.size]; exact Nat.le_refl 4) V2.to.one (fun h6 u6 g6=>?_))))
   rw [KS (cs:=vz) (vs:=c.toList) (by rw [Array.length_toList,V2.size]; rfl)] at g6
   refine ldR g6 V2.size (KF (H h6 c ((E4.trans e5).upd u6 (Nat.le_refl _)) ?_))
   have hs2:=e2.size
   have hs3:=e3.size
   have hu4:=u4.size
   exact (V4.same (fun k hk=>(u6.ne k (by omega)).trans (e5.same k (by omega)))).mono (fun k hk=>by have:=hk.1; omega)
  ·rw [if_neg hm]
   have hP:Nt s=(vl0,0,20):=by unfold Nt; rw [hv]; dsimp only; rw [if_neg hm]
   rw [hP] at H
   refine iteT rfl (ZQ rfl (stR g5 (Nat.le_refl 4) (ZR 0 0 [] Sl.nil) (fun h6 u6 g6=>?_)))
   rw [KS (cs:=vz) (vs:=(vz:Array Value).toList) rfl] at g6
   exact ldR g6 rfl (KF (H h6 _ ((E4.trans e5).upd u6 (Nat.le_refl _)) (Xw _ _)))
 ·have hP:Nt s=(vl0,e,22):=by unfold Nt; rw [hv]
  rw [hP] at H
  refine Zu (fun h3 e3 s3 g3=>ZQ rfl (stR g3 (Nat.le_refl 4) (ZR 0 0 [] Sl.nil) (fun h4 u4 g4=>?_)))
  have E4:Ext h h4:=((e1.trans e2).trans e3).upd u4 (by have:=e1.size; have:=e2.size; omega)
  have g5:h4[h.size]?=some (.cells vz KB (0,0)):=(u4.ne _ (by have:=e2.size; omega)).trans ((e2.trans e3).blk g1)
  refine iteT rfl (ZQ rfl (stR g5 (Nat.le_refl 4) (ZR 0 0 [] Sl.nil) (fun h6 u6 g6=>?_)))
  rw [KS (cs:=vz) (vs:=(vz:Array Value).toList) rfl] at g6
  exact ldR g6 rfl (KF (H h6 _ (E4.upd u6 (Nat.le_refl _)) (Xw _ _)))
end Gx
namespace Gx
open Go
set_option linter.unusedVariables false
set_option linter.unusedSimpArgs false
def KT (h:Heap) (r:Sl) (e:TypeId):Prop:=∀ g,r.base=some ⟨g,0,none⟩→∃ c z,h[g]?=some (.cells c e z)
theorem KT.same {h h':Heap} {r:Sl} {e:TypeId} (k:KT h r e) (hs:∀ i,Sl.on r i→h'[i]?=h[i]?):KT h' r e:=fun g hg=>by
 obtain ⟨c,z,hh⟩:=k g hg
 exact ⟨c,z,(hs g ⟨_,hg,rfl⟩).trans hh⟩
theorem KEV {lo:Nat} {h:Heap} {Q:Sl→Heap→Prop} {e sz bytes k:Nat} {z:Array Value} {r:Sl} {vs news:List Value} (hz:z.size=sz) (H:Gw lo h r sz vs) (hn:news.length=k * sz) (h1:∀ v ∈ news,one v=true)
  (hb:(r.len+k) * bytes≤140737488355328) (hm:r.len+k≤9223372036854775807) (hlo:lo≤h.size) (hnz:r.cap=0→r=Sl.nil) (hk:KT h r e)
  (hq:∀ h' r',Gw lo h' r' sz (vs++news)→r'.len=r.len+k→h.size≤h'.size→(∀ i,i < h.size→¬ Sl.on r i→h'[i]?=h[i]?)→(∀ i,Sl.on r' i→Sl.on r i∨h.size≤i)→(r'.cap=0→r'=Sl.nil)→KT h' r' e→Q r' h'):apGo e sz bytes z r k news h Q:=by
 unfold apGo
 split
 ·rename_i hc
  have hz':(⟨r.base,r.len+k,r.cap⟩:Sl).cap=0→(⟨r.base,r.len+k,r.cap⟩:Sl)=Sl.nil:=fun h0=>by
   have h0:r.cap=0:=h0
   have:=hnz h0
   subst this
   have:k=0:=by simp [Sl.nil] at hc; exact hc
   subst this
   rfl
  rcases H with ⟨rfl,rfl⟩ | ⟨b,ty,cells,H⟩
  ·have h0:k=0:=by simp [Sl.nil] at hc; exact hc
   subst h0
   have:news=[]:=List.length_eq_zero_iff.1 (by rw [hn]; simp)
   subst this
   refine ⟨fun a ha=>(by cases ha),by simp,?_⟩
   exact hq h _ (.inl ⟨rfl,rfl⟩) rfl (Nat.le_refl _) (fun i _ _=>rfl) (fun i hi=>.inl hi) hz' hk
  ·have hsz:r.len * sz+news.length≤cells.size:=by
    rw [hn,H.size,← Nat.add_mul]
    exact Nat.mul_le_mul_right _ hc
   have hblk:(XB h r.base (r.len * sz) news)[b]?=some (.cells (lay cells (r.len * sz) news) ty (0,0)):=by
    rw [H.base]
    show (hsetL h ((⟨b,0,none⟩:Addr).add (r.len * sz)) news 0)[b]?=_
    rw [ZE,Nat.zero_add,zH _ _ _ _ H.blk,Nat.add_zero]
   have hne:∀ i,i≠b→(XB h r.base (r.len * sz) news)[i]?=h[i]?:=fun i hi=>by
    rw [H.base]
    show (hsetL h ((⟨b,0,none⟩:Addr).add (r.len * sz)) news 0)[i]?=_
    rw [ZE,zG hi]
   have hsize:(XB h r.base (r.len * sz) news).size=h.size:=by
    rw [H.base]
    exact XX _ _ _
   refine ⟨fun a ha j hj=>?_,h1,hq _ _ (.inr ⟨b,ty,_,H.base,H.lo,hblk,?_,hc,?_,fun j v hj=>?_⟩) rfl (by rw [hsize]; exact Nat.le_refl _) (fun i hi hno=>hne i (fun e=>hno ⟨_,H.base,e.symm⟩)) (fun i hi=>.inl hi) hz' (fun g hg=>?_)⟩
   ·rw [H.base] at ha; cases ha
    rw [ZE,ZE,Nat.zero_add,KP H.blk,ZS H.blk]
    exact ⟨⟨_,Array.getElem?_eq_getElem (by omega)⟩,rfl⟩
   ·rw [KA8]; exact H.size
   ·rw [List.length_append,H.len,hn,Nat.add_mul]
   ·rw [← Array.getElem?_toList,GL _ _ _ hsz]
    have hlen:(cells.toList.take (r.len * sz)).length=r.len * sz:=by rw [List.length_take,Array.length_toList]; omega
    by_cases hj1:j < vs.length
    ·rw [List.getElem?_append_left hj1] at hj
     have:=H.get j v hj
     rw [List.append_assoc,List.getElem?_append_left (by rw [hlen,← H.len]; exact hj1),List.getElem?_take,if_pos (by rw [← H.len]; exact hj1),Array.getElem?_toList]
     exact this
    ·rw [List.getElem?_append_right (by omega)] at hj
     have hjn:j - vs.length < news.length:=(List.getElem?_eq_some_iff.1 hj).1
     rw [List.append_assoc,List.getElem?_append_right (by rw [hlen,← H.len]; omega),hlen,List.getElem?_append_left (by rw [← H.len]; exact hjn),← H.len]
     exact hj
   ·have hg:r.base=some ⟨g,0,none⟩:=hg
    rw [H.base] at hg; cases hg
    obtain ⟨c,z,hh⟩:=hk b H.base
    rw [H.blk] at hh; cases hh
    exact ⟨_,_,hblk⟩
 ·rename_i hc
  refine ⟨hb,hm,vs,H.len,H.reads,fun cap hcap=>?_⟩
  have hl:=H.len
  refine hq _ _ (.inr ⟨h.size,e,_,rfl,hlo,ZJ,?_,hcap,?_,fun j v hj=>?_⟩) rfl (by simp) (fun i hi _=>qV hi) (fun i hi=>.inr ?_) (fun h0=>by have h0:cap=0:=h0; omega) (fun g hg=>by cases hg; exact ⟨_,_,ZJ⟩)
  ·rw [Array.size_append,Array.size_append,NY,List.size_toArray,List.size_toArray,hl,hn,hz]
   show r.len * sz+k * sz+(cap - (r.len+k)) * sz=cap * sz
   rw [← Nat.add_mul,← Nat.add_mul]
   congr 1
   omega
  ·rw [List.length_append,hl,hn,Nat.add_mul]
  ·have hlt:j < (vs++news).length:=(List.getElem?_eq_some_iff.1 hj).1
   rw [Array.getElem?_append_left (by simpa using hlt)]
   rw [← hj]
   simp
  ·obtain ⟨a,ha,rfl⟩:=hi
   cases ha
   exact Nat.le_refl _
theorem KNF {β:Type} {e:Nat} {s:Sl} {x:ByteArray} {h:Heap} {Q:β→Heap→Prop} {f:Sl→M β} (H:apGo e 1 1 #[.int .u8 0] s x.size (JG x) h (fun r h'=>(f r).wp h' Q)):(apS e s x>>=f).wp h Q:=H
theorem KNG {β:Type} {e sz bytes:Nat} {z:Array Value} {s x:Sl} {news:List Value} {h:Heap} {Q:β→Heap→Prop} {f:Sl→M β} (hn:news.length=x.len * sz) (hr:Gg h x.base news) (H:apGo e sz bytes z s x.len news h (fun r h'=>(f r).wp h' Q)):(apL e sz bytes z s x>>=f).wp h Q:=⟨news,hn,hr,H⟩
theorem KBx (l:List UInt8):JG (bs l)=l.map bv:=rfl
structure Bld (lo:Nat) (h:Heap) (b:Nat) (r:Sl) (l:List UInt8):Prop where
 low:lo≤b
 ptr:∃ p,h[b]?=some (.cells #[p,r.v] JH (0,0))∧(p=.pointer none∨p=.pointer (some ⟨b,0,none⟩))
 row:Gw lo h r 1 (l.map bv)
 off:¬ Sl.on r b
 nz:r.cap=0→r=Sl.nil
 kt:KT h r ZG
theorem Bld.len {lo:Nat} {h:Heap} {b:Nat} {r:Sl} {l:List UInt8} (B:Bld lo h b r l):r.len=l.length:=by
 have:=B.row.len
 simp at this
 exact this.symm
theorem Bld.lt {lo:Nat} {h:Heap} {b:Nat} {r:Sl} {l:List UInt8} (B:Bld lo h b r l):b < h.size:=by
 obtain ⟨p,h1,_⟩:=B.ptr
 exact ND h1
theorem Bld.ext {lo:Nat} {h h':Heap} {b:Nat} {r:Sl} {l:List UInt8} (B:Bld lo h b r l) (e:Ext h h'):Bld lo h' b r l:=by
 obtain ⟨p,h1,h2⟩:=B.ptr
 exact ⟨B.low,⟨p,e.blk h1,h2⟩,B.row.ext e,B.off,B.nz,B.kt.same (fun i hi=>e.same i (B.row.lt hi).1)⟩
theorem Bld.new {lo:Nat} {h h':Heap} (hl:lo≤h.size) (hb:h'[h.size]?=some (.cells #[.pointer none,.slice none 0 0] JH (0,0))):Bld lo h' h.size Sl.nil [] :=
 ⟨hl,⟨_,hb,.inl rfl⟩,Gw.nil _ _ _,fun ⟨a,ha,_⟩=>(by cases ha),fun _=>rfl,fun g hg=>by cases hg⟩
structure BKeep (b:Nat) (r r':Sl) (h h':Heap):Prop where
 size:h.size≤h'.size
 same:∀ i,i < h.size→i≠b→¬ Sl.on r i→h'[i]?=h[i]?
 on_:∀ i,Sl.on r' i→Sl.on r i∨h.size≤i
theorem BKeep.refl (b:Nat) (r:Sl) (h:Heap):BKeep b r r h h:=⟨Nat.le_refl _,fun _ _ _ _=>rfl,fun _ h=>.inl h⟩
theorem BKeep.trans {b:Nat} {r r' r'':Sl} {h h' h'':Heap} (k:BKeep b r r' h h') (k':BKeep b r' r'' h' h'') (hb:b < h.size):BKeep b r r'' h h'' :=
 ⟨Nat.le_trans k.size k'.size,fun i hi hne hno=>(k'.same i (Nat.lt_of_lt_of_le hi k.size) hne (fun ho=>(k.on_ i ho).elim hno (fun h=>by omega))).trans (k.same i hi hne hno),
  fun i hi=>(k'.on_ i hi).elim (fun h=>k.on_ i h) (fun h=>.inr (Nat.le_trans k.size h))⟩
theorem BKeep.ext {lo:Nat} {b:Nat} {r r':Sl} {h0 h h':Heap} {l:List UInt8} (e:Ext h0 h) (B:Bld lo h b r l) (hl:h0.size≤lo) (k:BKeep b r r' h h'):Ext h0 h' :=
 ⟨Nat.le_trans e.size k.size,fun i hi=>(k.same i (Nat.lt_of_lt_of_le hi e.size) (by have:=B.low; omega) (fun ho=>by have:=(B.row.lt ho).2; omega)).trans (e.same i hi)⟩
theorem BKeep.push {b:Nat} {r r':Sl} {h h' h'':Heap} (k:BKeep b r r' h h') (e:Ext h' h''):BKeep b r r' h h'' :=
 ⟨Nat.le_trans k.size e.size,fun i hi h1 h2=>(e.same i (Nat.lt_of_lt_of_le hi k.size)).trans (k.same i hi h1 h2),k.on_⟩
theorem KGn {h:Heap} {b:Nat} {p v u:Value} {t:TypeId} (hb:h[b]?=some (.cells #[p,v] t (0,0))):(hset h ⟨b,1,none⟩ u)[b]?=some (.cells #[p,u] t (0,0)):=by
 rw [Vh hb]; rfl
theorem KFI {h:Heap} {b:Nat} {p v u:Value} {t:TypeId} (hb:h[b]?=some (.cells #[p,v] t (0,0))):(hset h ⟨b,0,none⟩ u)[b]?=some (.cells #[u,v] t (0,0)):=by
 rw [Vh hb]; rfl
theorem q5 {β:Type} {lo:Nat} {h:Heap} {b:Nat} {r:Sl} {l:List UInt8} {Q:β→Heap→Prop} {f:Unit→M β} (B:Bld lo h b r l)
  (H:∀ h',Bld lo h' b r l→Upd b h h'→(f ()).wp h' Q):(K0 (some ⟨b,0,none⟩)>>=f).wp h Q:=by
 obtain ⟨p,h1,h2⟩:=B.ptr
 refine ⟨b,p,r.v,rfl,h1,?_⟩
 rcases h2 with rfl | rfl
 ·refine .inr ⟨rfl,H _ ⟨B.low,⟨_,KFI h1,.inr rfl⟩,B.row.same (fun i hi=>Gj (fun e=>B.off ((show i=b from e) ▸ hi))),B.off,B.nz,B.kt.same (fun i hi=>Gj (fun e=>B.off ((show i=b from e) ▸ hi)))⟩ (Upd.hset _ _ _ _)⟩
 ·exact .inl ⟨rfl,H _ B (Upd.refl _ _)⟩
theorem KFJ {lo:Nat} {h h0 h':Heap} {b:Nat} {r r':Sl} {l l':List UInt8} (B:Bld lo h0 b r l) (u:Upd b h h0) (hs:h0.size≤h'.size)
  (same:∀ i,i < h0.size→¬ Sl.on r i→h'[i]?=h0[i]?) (on_:∀ i,Sl.on r' i→Sl.on r i∨h0.size≤i) (G:Gw lo h' r' 1 (l'.map bv)) (nz:r'.cap=0→r'=Sl.nil) (kt:KT h' r' ZG) :
  Bld lo (hset h' ⟨b,1,none⟩ r'.v) b r' l'∧BKeep b r r' h (hset h' ⟨b,1,none⟩ r'.v):=by
 have hb:=B.lt
 obtain ⟨p,h1,h2⟩:=B.ptr
 have h1':h'[b]?=some (.cells #[p,r.v] JH (0,0)):=by rw [same b hb B.off]; exact h1
 have hoff:¬ Sl.on r' b:=fun ho=>(on_ b ho).elim B.off (fun h=>by omega)
 refine ⟨⟨B.low,⟨p,KGn h1',h2⟩,G.same (fun i hi=>Gj (fun e=>hoff ((show i=b from e) ▸ hi))),hoff,nz,kt.same (fun i hi=>Gj (fun e=>hoff ((show i=b from e) ▸ hi)))⟩,?_,fun i hi hne hno=>?_,fun i hi=>?_⟩
 ·rw [NX,← u.size]; exact hs
 ·rw [Gj hne,same i (by rw [u.size]; exact hi) hno,u.ne i hne]
 ·rw [← u.size]; exact on_ i hi
theorem Gb {lo:Nat} {h:Heap} {b:Nat} {r:Sl} {l s:List UInt8} {Q:Int × Value→Heap→Prop} (B:Bld lo h b r l) (hlo:lo≤h.size) (hm:l.length+s.length≤140737488355328)
  (H:∀ h' r' n,Bld lo h' b r' (l++s)→BKeep b r r' h h'→Q (n,Value.nilIface) h'):(KU (some ⟨b,0,none⟩) (bs s)).wp h Q:=by
 unfold KU
 refine q5 B (fun h0 B0 u=>J3 ?_)
 obtain ⟨p,h1,h2⟩:=B0.ptr
 have hl:=B0.len
 refine UO (n:=r) (by rw [ZE,KP h1]; rfl) ?_
 refine KNF ?_
 rw [KBx,JL]
 refine KEV (vs:=l.map bv) (z:=#[.int .u8 0]) rfl B0.row (by simp) (fun v hv=>by obtain ⟨x,_,rfl⟩:=List.mem_map.1 hv; rfl) (by omega) (by omega) (by rw [u.size]; exact hlo) B0.nz B0.kt (fun h' r' G hlen hs same on_ nz kt=>?_)
 refine J3 ?_
 rw [← List.map_append] at G
 obtain ⟨B',K⟩:=KFJ B0 u hs same on_ G nz kt
 have h1':h'[b]?=some (.cells #[p,r.v] JH (0,0)):=by rw [same b B0.lt B0.off]; exact h1
 refine NF (x:=r.v) (by rw [ZE,KP h1']; rfl) (by rw [ZE,ZS h1']) (KB3 _) (KF ?_)
 rw [ZE]
 exact H _ _ _ B' K
theorem Gc {lo:Nat} {h:Heap} {b:Nat} {r:Sl} {l:List UInt8} {c:UInt8} {n:Int} {Q:Value→Heap→Prop} (B:Bld lo h b r l) (hlo:lo≤h.size) (hm:l.length+1≤140737488355328) (hn:n=(c.toNat:Int))
  (H:∀ h' r',Bld lo h' b r' (l++[c])→BKeep b r r' h h'→Q Value.nilIface h'):(Kl (some ⟨b,0,none⟩) n).wp h Q:=by
 subst hn
 unfold Kl
 refine q5 B (fun h0 B0 u=>J3 ?_)
 have hl:=B0.len
 obtain ⟨p,h1,h2⟩:=B0.ptr
 refine UO (n:=r) (by rw [ZE,KP h1]; rfl) (KCq ?_)
 have e1:=Ext.push h0 (.cells #[.int .u8 (c.toNat:Int)] ZG)
 have B1:=B0.ext e1
 refine KNG (news:=[bv c]) rfl (.inr ⟨_,rfl,fun j v hj=>?_⟩) ?_
 ·rw [ZE,KP ZJ,Nat.zero_add]
  rw [show (#[Value.int .u8 (c.toNat:Int)]:Array Value)=[bv c].toArray from rfl]
  simpa using hj
 refine KEV (vs:=l.map bv) (news:=[bv c]) (z:=#[.int .u8 0]) rfl B1.row rfl (fun v hv=>by simp at hv; subst hv; rfl) (by show (r.len+1) * 1≤_; omega) (by show r.len+1≤_; omega) (by have:=e1.size; have:=u.size; omega) B1.nz B1.kt (fun h' r' G hlen hs same on_ nz kt=>?_)
 refine J3 ?_
 have G:Gw lo h' r' 1 ((l++[c]).map bv):=by rw [List.map_append]; exact G
 obtain ⟨p',h1',h2'⟩:=B1.ptr
 have:=KFJ B1 (Upd.refl _ _) hs same on_ G nz kt
 obtain ⟨B',K⟩:=this
 have h1'':h'[b]?=some (.cells #[p',r.v] JH (0,0)):=by rw [same b B1.lt B1.off]; exact h1'
 refine NF (x:=r.v) (by rw [ZE,KP h1'']; rfl) (by rw [ZE,ZS h1'']) (KB3 _) (KF ?_)
 rw [ZE,Nat.zero_add]
 refine H _ _ B' ?_
 refine ⟨?_,fun i hi hne hno=>?_,fun i hi=>(K.on_ i hi).imp id (fun hh=>?_)⟩
 ·have:=K.size; have:=e1.size; have:=u.size; omega
 ·rw [K.same i (by have:=e1.size; have:=u.size; omega) hne hno,e1.same i (by rw [u.size]; exact hi),u.ne i hne]
 ·have:=e1.size; have:=u.size; omega
theorem KEW {lo:Nat} {h:Heap} {b:Nat} {r:Sl} {l:List UInt8} {Q:ByteArray→Heap→Prop} (B:Bld lo h b r l) (hm:l.length≤140737488355328)
  (H:∀ h',BKeep b r r h h'→h'.size=h.size→Q (bs l) h'):(Z0 (some ⟨b,0,none⟩)).wp h Q:=by
 unfold Z0
 obtain ⟨p,h1,h2⟩:=B.ptr
 have hl:=B.len
 have c1:KO h ((⟨b,0,none⟩:Addr).add 1)=some r.v:=by rw [ZE,KP h1]; rfl
 refine J3 (J3 (UO (n:=r) c1 (UO (n:=r) c1 ?_)))
 rcases B.row with ⟨rfl,hv⟩ | ⟨g,ty,cells,R⟩
 ·have:l=[]:=by simpa using hv
  subst this
  exact ⟨none,.inl ⟨rfl,rfl⟩,.inl ⟨rfl,H h (BKeep.refl _ _ _) rfl⟩⟩
 ·have hc:r.cap≠0:=fun h0=>by
   have:=B.nz h0
   rw [this] at R
   have:=R.base
   cases this
  refine ⟨_,.inr ⟨hc,R.base⟩,?_⟩
  by_cases h0:l=[]
  ·subst h0
   refine .inl ⟨by rw [hl]; rfl,H h (BKeep.refl _ _ _) rfl⟩
  ·have hs:=R.size
   have:=R.cap
   refine .inr ⟨g,cells,(0,0),l,rfl,by rw [hl],h0,by omega,by omega,?_,fun j x hj=>?_,fun h' a1 a2=>KF (H _ ⟨by rw [a1]; exact Nat.le_refl _,fun i hi hne hno=>a2 i (fun e=>hno ⟨_,R.base,e.symm⟩),fun i hi=>.inl hi⟩ a1)⟩
   ·obtain ⟨c,z,hh⟩:=B.kt g R.base
    rw [R.blk] at hh; cases hh
    exact R.blk
   ·have:=R.get j (bv x) (by simp [hj])
    exact this
end Gx
namespace Gx
open Go
set_option linter.unusedVariables false
set_option linter.unusedSimpArgs false
def hexc (n:Nat):UInt8:=if n < 10 then UInt8.ofNat (48+n) else UInt8.ofNat (87+n)
theorem KJW:∀ n,n < 16→([48,49,50,51,52,53,54,55,56,57,97,98,99,100,101,102,103,104,105,106,107,108,109,110,111,112,113,114,115,116,117,118,119,120,121,122]:List UInt8)[n]?=some (hexc n):=by decide
theorem KMU {β:Type} {h:Heap} {Q:β→Heap→Prop} {l:List UInt8} {i:Nat} {t:Int} {c:UInt8} {f:Int→M β} (ht:t=(i:Int)) (hi:l[i]?=some c) (H:(f (c.toNat:Int)).wp h Q):(ixS (bs l) t>>=f).wp h Q:=by
 obtain ⟨h1,rfl⟩:=List.getElem?_eq_some_iff.1 hi
 exact qE ht h1 H
theorem KNH {β:Type} {h:Heap} {Q:β→Heap→Prop} {b i:Nat} {t:TypeId} {l:List UInt8} {c:UInt8} {f:Unit→M β} (hb:BB h b t l) (hi:i < l.length)
  (H:∀ h',BB h' b t (l.set i c)→Upd b h h'→(f ()).wp h' Q):(stV ⟨b,i,none⟩ (.int .u8 (c.toNat:Int))>>=f).wp h Q :=
 NF (hb.cell hi) (hb.frozen i) (KL1 c) (H _ (hb.set i c) (Upd.hset _ _ _ _))
theorem KJX:(⟨#[48,49,50,51,52,53,54,55,56,57,97,98,99,100,101,102,103,104,105,106,107,108,109,110,111,112,113,114,115,116,117,118,119,120,121,122]⟩:ByteArray)=bs [48,49,50,51,52,53,54,55,56,57,97,98,99,100,101,102,103,104,105,106,107,108,109,110,111,112,113,114,115,116,117,118,119,120,121,122]:=rfl
theorem KBb.ext {h h':Heap} (H:KBb h) (e:Ext h h'):KBb h':=by
 obtain ⟨cs,ty,fz,h1,h2⟩:=H
 exact ⟨cs,ty,fz,e.blk h1,h2⟩
theorem qN.ext {h h':Heap} (H:qN h) (e:Ext h h'):qN h':=by
 obtain ⟨fz,ty,h1⟩:=H
 exact ⟨fz,ty,e.blk h1⟩
theorem KGo {n:Nat} (hn:n < 16) {h:Heap} {Q:ByteArray→Heap→Prop} (hd:KBb h) (H:∀ h',Ext h h'→Q (bs [hexc n]) h'):(UL (n:Int) 16).wp h Q:=by
 unfold UL
 refine iteF (by decide) (KJ ?_)
 have w1:IntKind.wrap .u64 (n:Int)=(n:Int):=by rw [IntKind.wrap_u64]; omega
 rw [w1,show decide ((n:Int) < 0)=false by simp]
 unfold JK
 refine NW (by decide) (Zc (NW (by decide) (Zc (iteF (by decide) (KKj (iteF rfl ?_))))))
 have e1:=Ext.push h (.cells (Array.replicate 65 (.int .u8 0)) YG)
 have g1:(h.push (.cells (Array.replicate 65 (.int .u8 0)) YG))[h.size]?=some (.cells (Array.replicate 65 (.int .u8 0)) YG (0,0)):=ZJ
 generalize h.push (.cells (Array.replicate 65 (.int .u8 0)) YG)=h1 at e1 g1 ⊢
 unfold Zz Z5
 refine Zc (iteT (by decide) ?_)
 unfold J1 Ja
 obtain ⟨cs,ty,fz,d1,d2⟩:=hd.ext e1
 refine KJ (NW (by decide) (KA2 (by decide) (by decide) (Jx (n:=4) ?_ (Zc (KF ?_)))))
 ·rw [show ((iShr .u64 (IntKind.wrap .u64 ((iAnd .u64 (IntKind.wrap .u64 16) (IntKind.wrap .u64 (0 - (IntKind.wrap .u64 16)))) * 285870213051353865)) 58).toNat * 1)=15 by decide,ZE,KP d1]
  exact d2
 have b1:BB h1 h.size YG (List.replicate 65 0):=by
  unfold BB
  rw [g1]
  rfl
 refine M.loop_inv (fun (t:Int × Int) h'=>h'=h1∧t=((n:Int),65)) (fun _ _=>0) ?_ ⟨rfl,rfl⟩
 rintro t h' ⟨rfl,rfl⟩ self hself
 unfold Jd
 refine iteF (by simp [IntKind.wrap_u64]; omega) ?_
 rw [KJX]
 refine KMU rfl (KJW n hn) (KA2 (by decide) (by decide) ?_)
 rw [show (IntKind.wrap .i64 (65 - 1)).toNat * 1=64 by decide,ZE,Nat.zero_add]
 refine KNH b1 (by decide) (fun h2 b2 u2=>?_)
 unfold Zy Zx
 refine iteF rfl (iteF rfl (KMy (by decide) (by decide) (by decide) ?_))
 rw [show (IntKind.wrap .i64 (65 - 1)).toNat=64 by decide,if_neg (by decide),ZE]
 refine KL0 (ns:=[hexc n]) rfl ?_ (KF (KF (H _ (e1.upd u2 (Nat.le_refl _)))))
 have:=(b2.bys 64 1 1 (by simp)).at_
 exact this
end Gx
namespace Gx
open Go
set_option linter.unusedVariables false
set_option linter.unusedSimpArgs false
theorem KAn {n:Int} {h:Heap} {Q:ByteArray→Heap→Prop} (hn:I64 n) (hp:qN h) (H:∀ h',Ext h h'→Q (bs (Lib.itoa n)) h'):(Gz n).wp h Q:=by
 unfold Gz Z9
 refine KJ (KJ (qS (KAJ n) ⟨hn.1,hn.2,hp,fun h' h1 h2=>KF (KF (H _ ⟨h1,h2⟩))⟩))
theorem KIK {β:Type} {n:Nat} (hn:n < 16) {t:Int} (ht:t=(n:Int)) {h:Heap} {Q:β→Heap→Prop} {f:ByteArray→M β} (hd:KBb h) (H:∀ h',Ext h h'→(f (bs [hexc n])).wp h' Q):(Z9 t 16>>=f).wp h Q:=by
 subst ht
 unfold Z9
 exact KJ (KJ (qS (XV _ _) (KGo hn hd (fun h' e=>KF (H _ e)))))
def qc (c:UInt8):List UInt8:=if c < 32∨126 < c then [92,120,hexc (c.toNat / 16),hexc (c.toNat % 16)] else if c=39∨c=92 then [92,c] else [c]
def KCe (s:List UInt8):List UInt8:=39::s.flatMap qc++[39]
structure BW (h0:Heap) (b c:Nat) (o:Obj) (h:Heap) (r:Sl) (l:List UInt8):Prop where
 bld:Bld h0.size h b r l
 ext:Ext h0 h
 blk:h[c]?=some o
 off:¬ Sl.on r c
 ne:c≠b
theorem BW.keep {h0 h h':Heap} {b c:Nat} {o:Obj} {r r':Sl} {l l':List UInt8} (W:BW h0 b c o h r l) (B:Bld h0.size h' b r' l') (K:BKeep b r r' h h'):BW h0 b c o h' r' l' :=
 ⟨B,K.ext W.ext W.bld (Nat.le_refl _),(K.same c (ND W.blk) W.ne W.off).trans W.blk,fun ho=>(K.on_ c ho).elim W.off (fun h=>by have:=ND W.blk; omega),W.ne⟩
theorem BW.more {h0 h h':Heap} {b c:Nat} {o:Obj} {r:Sl} {l:List UInt8} (W:BW h0 b c o h r l) (e:Ext h h'):BW h0 b c o h' r l :=
 ⟨W.bld.ext e,W.ext.trans e,e.blk W.blk,W.off,W.ne⟩
theorem KMV (c:UInt8):iShr .u8 (c.toNat:Int) 4=((c.toNat / 16:Nat):Int):=by
 have h:(c.toNat:Int).fdiv 16=((c.toNat / 16:Nat):Int):=by
  rw [Int.fdiv_eq_ediv_of_nonneg _ (by decide)]; rfl
 exact h
set_option maxRecDepth 100000 in
theorem KMW:∀ c:UInt8,iAnd .u8 (c.toNat:Int) 15=((c.toNat % 16:Nat):Int):=by
 intro c
 have hk:∀ n,n < 256→iAnd .u8 ((n:Nat):Int) 15=((n % 16:Nat):Int):=by decide
 exact hk c.toNat c.toNat_lt
theorem KIL {l:List UInt8} {i:Nat} (hi:i < l.length) (f:UInt8→List UInt8):(l.take (i+1)).flatMap f=(l.take i).flatMap f++f l[i]:=by
 rw [KHS hi,List.flatMap_append]; simp
theorem KFK {s:List UInt8} {h:Heap} {Q:ByteArray→Heap→Prop} (hs:(KCe s).length≤140737488355328) (hd:KBb h) (H:∀ h',Ext h h'→Q (bs (KCe s)) h'):(Xj (bs s)).wp h Q:=by
 unfold Xj
 refine Zu (fun h1 e1 z1 g1=>?_)
 have B1:=Bld.new (Nat.le_refl _) g1
 refine KJ (Gc (c:=39) B1 (by omega) (by simp) rfl (fun h2 r2 B2 K2=>?_))
 refine fun cap hcap mk hmk=>?_
 have e3:=Ext.push h2 (.cells ((JG (bs s)).toArray++Array.replicate (cap - (bs s).size) (.int .u8 0)) ZG mk)
 have g3:(h2.push (.cells ((JG (bs s)).toArray++Array.replicate (cap - (bs s).size) (.int .u8 0)) ZG mk))[h2.size]?=some (.cells ((JG (bs s)).toArray++Array.replicate (cap - (bs s).size) (.int .u8 0)) ZG mk):=ZJ
 generalize h2.push (.cells ((JG (bs s)).toArray++Array.replicate (cap - (bs s).size) (.int .u8 0)) ZG mk)=h3 at e3 g3 ⊢
 have hlt:=B2.lt
 have W3:BW h h.size h2.size _ h3 r2 [39]:=⟨B2.ext e3,(K2.ext e1 B1 (Nat.le_refl _)).trans e3,g3,fun ho=>by have:=(B2.row.lt ho).1; omega,by omega⟩
 rw [JL]
 have hq:(KCe s).length=(s.flatMap qc).length+2:=by simp [KCe]
 have hsl:s.length≤(s.flatMap qc).length:=by
  rw [List.length_flatMap]
  clear hs H hcap W3 g3 e3 hq K2 B2 hlt
  induction s with
  | nil=>simp
  | cons a s ih=>rw [List.map_cons,List.sum_cons,List.length_cons]; have:1≤(qc a).length:=by { unfold qc; split <;> (try split) <;> simp }; omega
 have hpre:∀ i,((s.take i).flatMap qc).length≤(s.flatMap qc).length:=fun i=>by
  conv=>rhs; rw [← List.take_append_drop i s,List.flatMap_append,List.length_append]
  omega
 refine M.loop_inv (fun (t:Int) h'=>∃ i:Nat,t=(i:Int)∧i≤s.length∧∃ r,BW h h.size h2.size (.cells ((JG (bs s)).toArray++Array.replicate (cap - (bs s).size) (.int .u8 0)) ZG mk) h' r (39::(s.take i).flatMap qc)) (fun t _=>((s.length:Int) - t).toNat) ?_ ⟨0,rfl,Nat.zero_le _,r2,W3⟩
 rintro t h' ⟨i,rfl,hi,r,W⟩ self hself
 unfold GE
 have hpi:=hpre i
 refine KZ (fun hc=>?_) (fun hc=>?_)
 ·have hlt':i < s.length:=by have:=of_decide_eq_true hc; dsimp only at this; omega
  have hpj:=hpre (i+1)
  have htk:=KIL hlt' qc
  have cell:KO h' ((⟨h2.size,0,none⟩:Addr).add ((i:Int).toNat * 1))=some (.int .u8 (s[i].toNat:Int)):=by
   rw [ZE,KP W.blk,show 0+(i:Int).toNat * 1=i by omega,Array.getElem?_append_left (by rw [KBx]; simpa using hlt')]
   simp [KBx,hlt',bv]
  refine Gi (by omega) (by show (i:Int) < (s.length:Int); omega) rfl (Jx cell ?_)
  have hw64:IntKind.wrap .i64 ((i:Int)+1)=((i+1:Nat):Int):=by rw [w64 (by omega) (by omega)]; simp
  have hnext:∀ {h4:Heap} {r4:Sl},BW h h.size h2.size (.cells ((JG (bs s)).toArray++Array.replicate (cap - (bs s).size) (.int .u8 0)) ZG mk) h4 r4 (39::(s.take (i+1)).flatMap qc)→(U2 self (i:Int)).wp h4 Q:=fun W4=>by
   unfold U2
   rw [hw64]
   exact hself _ _ ⟨i+1,rfl,by omega,_,W4⟩ (by omega)
  rw [htk] at hnext hpj
  have c32:(decide ((s[i].toNat:Int) < 32))=decide (s[i] < 32):=by rw [Bool.eq_iff_iff]; simp [u8_lt_int]
  have c126:(decide ((s[i].toNat:Int) > 126))=decide (126 < s[i]):=by rw [Bool.eq_iff_iff]; simp [u8_lt_int]
  refine or_b (c:=decide (126 < s[i])) (fun _ Q' hq'=>KF (by rw [c126]; exact hq')) ?_
  rw [c32]
  have hlo:h.size≤h'.size:=W.ext.size
  refine KZ (fun hx=>?_) (fun hx=>?_)
  ·have hx':s[i] < 32∨126 < s[i]:=by simpa using hx
   have hqc:qc s[i]=[92,120,hexc (s[i].toNat / 16),hexc (s[i].toNat % 16)]:=by unfold qc; rw [if_pos hx']
   rw [hqc] at hnext hpj
   simp only [List.length_append,List.length_cons,List.length_nil] at hpj
   have hdiv:s[i].toNat / 16 < 16:=by have:=s[i].toNat_lt; omega
   refine KJ (Gb (s:=[92,120]) W.bld hlo (by simp only [List.length_cons,List.length_append,List.length_nil]; omega) (fun h4 r4 n4 B4 K4=>?_))
   have W4:=W.keep B4 K4
   refine KIK hdiv (by rw [KMV,w64 (by omega) (by omega)]) (hd.ext W4.ext) (fun h5 e5=>?_)
   have W5:=W4.more e5
   refine KJ (Gb W5.bld W5.ext.size (by simp only [List.length_cons,List.length_append,List.length_nil]; omega) (fun h6 r6 n6 B6 K6=>?_))
   have W6:=W5.keep B6 K6
   refine KIK (Nat.mod_lt _ (by decide)) (by rw [KMW,w64 (by omega) (by omega)]) (hd.ext W6.ext) (fun h7 e7=>?_)
   have W7:=W6.more e7
   refine KJ (Gb W7.bld W7.ext.size (by simp only [List.length_cons,List.length_append,List.length_nil]; omega) (fun h8 r8 n8 B8 K8=>?_))
   exact hnext (by have:=W7.keep B8 K8; simpa using this)
  ·have hx':¬ (s[i] < 32∨126 < s[i]):=by simpa using hx
   have c39:((s[i].toNat:Int) == 39)=decide (s[i]=39):=by
    rw [Bool.eq_iff_iff]; simp only [beq_iff_eq,decide_eq_true_eq]
    exact ⟨fun e=>UInt8.toNat_inj.1 (by simpa using (by omega:s[i].toNat=39)),fun e=>by rw [e]; rfl⟩
   have c92:((s[i].toNat:Int) == 92)=decide (s[i]=92):=by
    rw [Bool.eq_iff_iff]; simp only [beq_iff_eq,decide_eq_true_eq]
    exact ⟨fun e=>UInt8.toNat_inj.1 (by simpa using (by omega:s[i].toNat=92)),fun e=>by rw [e]; rfl⟩
   refine or_b (c:=decide (s[i]=92)) (fun _ Q' hq'=>KF (by rw [c92]; exact hq')) ?_
   rw [c39]
   refine KZ (fun hy=>?_) (fun hy=>?_)
   ·have hy':s[i]=39∨s[i]=92:=by simpa using hy
    have hqc:qc s[i]=[92,s[i]]:=by unfold qc; rw [if_neg hx',if_pos hy']
    rw [hqc] at hnext hpj
    simp only [List.length_append,List.length_cons,List.length_nil] at hpj
    refine KJ (Gc (c:=92) W.bld hlo (by simp only [List.length_cons,List.length_append,List.length_nil]; omega) rfl (fun h4 r4 B4 K4=>?_))
    have W4:=W.keep B4 K4
    refine KJ (Gc (c:=s[i]) W4.bld W4.ext.size (by simp only [List.length_cons,List.length_append,List.length_nil]; omega) rfl (fun h5 r5 B5 K5=>?_))
    exact hnext (by have:=W4.keep B5 K5; simpa using this)
   ·have hy':¬ (s[i]=39∨s[i]=92):=by simpa using hy
    have hqc:qc s[i]=[s[i]]:=by unfold qc; rw [if_neg hx',if_neg hy']
    rw [hqc] at hnext hpj
    simp only [List.length_append,List.length_cons,List.length_nil] at hpj
    refine KJ (Gc (c:=s[i]) W.bld hlo (by simp only [List.length_cons,List.length_append,List.length_nil]; omega) rfl (fun h4 r4 B4 K4=>?_))
    exact hnext (by have:=W.keep B4 K4; simpa using this)
 ·have hge:i=s.length:=by have:=of_decide_eq_false hc; dsimp only at this; omega
  subst hge
  rw [List.take_length] at W
  refine KJ (Gc (c:=39) W.bld W.ext.size (by simp only [List.length_cons,List.length_append,List.length_nil]; omega) rfl (fun h4 r4 B4 K4=>?_))
  have W4:=W.keep B4 K4
  refine KJ (KEW B4 (by simp only [List.length_cons,List.length_append,List.length_nil]; omega) (fun h5 K5 _=>KF ?_))
  exact H _ (K5.ext W4.ext B4 (Nat.le_refl _))
end Gx
namespace Gx
open Go
set_option linter.unusedVariables false
set_option linter.unusedSimpArgs false
end Gx
namespace Gx
open Go
set_option linter.unusedVariables false
set_option linter.unusedSimpArgs false
def dgt (u:Nat):List Nat:=if h:u < 10 then [u] else dgt (u / 10)++[u % 10]
termination_by u
decreasing_by omega
theorem KIM (u:Nat):Lib.decDigits u=(dgt u).map fun d=>UInt8.ofNat (48+d):=by
 induction u using Nat.strongRecOn with
 | _ u ih =>
  unfold dgt Lib.decDigits
  split
  ·rfl
  ·rw [ih (u / 10) (by omega)]; simp
theorem KFL:∀ (k u:Nat),u < 10 ^ k→1≤k→(dgt u).length≤k
 | 0,u,h,h1=>by omega
 | k+1,u,h,h1=>by
  unfold dgt
  split
  ·simp
  ·rename_i hu
   rw [List.length_append]
   have:1≤k:=by
    rcases Nat.eq_zero_or_pos k with h0 | h0
    ·subst h0; omega
    ·exact h0
   have:=KFL k (u / 10) (by rw [Nat.pow_succ] at h; omega) this
   simp; omega
theorem KF2 {β:Type} {h:Heap} {Q:β→Heap→Prop} {x y:List UInt8} {f:ByteArray→M β} (hm:x.length+y.length≤9223372036854775807) (H:(f (bs (x++y))).wp h Q):(sCat (bs x) (bs y)>>=f).wp h Q :=
 ⟨bs (x++y),⟨by rw [JL,JL]; omega,by apply ByteArray.ext; simp [bs]⟩,H⟩
theorem KJY {n:Int} (hn:I64 n):(Lib.itoa n).length≤21:=by
 obtain ⟨n1,n2⟩:=hn
 unfold Lib.itoa
 split
 ·rw [List.length_cons,KIM,List.length_map]
  have:=KFL 20 n.natAbs (by omega) (by decide)
  omega
 ·rw [KIM,List.length_map]
  have:=KFL 20 n.toNat (by omega) (by decide)
  omega
end Gx
namespace Gx
open Go
set_option linter.unusedVariables false
set_option linter.unusedSimpArgs false
def jn (sep:List UInt8):List (List UInt8)→List UInt8
 | []=>[]
 | [a]=>a
 | a::b::r=>a++(sep++jn sep (b::r))
def sv (s:List UInt8):Value:=.string (bs s)
theorem KFM (sep a:List UInt8) (l:List (List UInt8)):jn sep (a::l)=a++l.flatMap (fun s=>sep++s):=by
 induction l generalizing a with
 | nil=>simp [jn]
 | cons b r ih=>rw [jn,ih]; simp
theorem KGp {lo:Nat} {h:Heap} {b:Nat} {n:Int} {Q:Unit→Heap→Prop} (B:Bld lo h b Sl.nil []) (hlo:lo≤h.size) (h0:0≤n) (hn:n≤140737488355328)
  (H:∀ h' r',Bld lo h' b r' []→BKeep b Sl.nil r' h h'→Q () h'):(Jp (some ⟨b,0,none⟩) n).wp h Q:=by
 unfold Jp
 refine q5 B (fun h1 B1 u1=>iteF (by simp; omega) ?_)
 obtain ⟨p,q1,q2⟩:=B1.ptr
 have c1:KO h1 ((⟨b,0,none⟩:Addr).add 1)=some Sl.nil.v:=by rw [ZE,KP q1]; rfl
 refine J3 (J3 (UO (n:=Sl.nil) c1 (UO (n:=Sl.nil) c1 ?_)))
 have hK1:BKeep b Sl.nil Sl.nil h h1:=⟨by rw [u1.size]; exact Nat.le_refl _,fun i hi hne _=>u1.ne i hne,fun i hi=>.inl hi⟩
 refine KZ (fun hc=>?_) (fun hc=>KF (H _ _ B1 hK1))
 have hpos:0 < n:=of_decide_eq_true hc
 refine KJ ?_
 unfold UY
 refine J3 (J3 (UO (n:=Sl.nil) c1 (UO (n:=Sl.nil) c1 ?_)))
 have hw:IntKind.wrap .i64 ((IntKind.wrap .i64 (2 * ((Sl.nil:Sl).cap:Int)))+n)=n:=by
  rw [show IntKind.wrap .i64 (2 * ((Sl.nil:Sl).cap:Int))=0 by decide,w64 (by omega) (by omega)]; omega
 rw [hw]
 refine ⟨h0,by omega,fun cs hle hmax=>?_⟩
 have e2:=Ext.push h1 (.cells cs ZG)
 have g2:(h1.push (.cells cs ZG))[h1.size]?=some (.cells cs ZG (0,0)):=ZJ
 generalize h1.push (.cells cs ZG)=h2 at e2 g2 ⊢
 have c2:=e2.cell c1
 refine KEo ⟨c2,c2⟩ (KGI (by decide) (by decide) (by dsimp only [Sl.nil]; omega) (J3 (UO (n:=Sl.nil) c2 ?_)))
 have hcs:cs.size≠0:=by omega
 rw [if_neg (show ¬ cs.size=(0:Int).toNat by simpa using hcs)]
 have hbz:(Option.map (fun x:Addr=>x.add ((0:Int).toNat * 1)) (some ⟨h1.size,0,none⟩))=some ⟨h1.size,0,none⟩:=by simp [ZE]
 have hr:(⟨Option.map (fun x:Addr=>x.add ((0:Int).toNat * 1)) (some ⟨h1.size,0,none⟩),((Sl.nil:Sl).len:Int).toNat - (0:Int).toNat,cs.size - (0:Int).toNat⟩:Sl)=⟨some ⟨h1.size,0,none⟩,0,cs.size⟩:=by
  rw [hbz]; simp [Sl.nil]
 dsimp only
 rw [hr]
 refine ⟨[],by simp [Sl.nil],.inl rfl,fun a ha j hj=>by simp at hj,by simp,J3 ?_⟩
 rw [show XB h2 (⟨some ⟨h1.size,0,none⟩,0,cs.size⟩:Sl).base 0 []=h2 from rfl]
 obtain ⟨p',q1',q2'⟩:=(B1.ext e2).ptr
 refine NF (x:=Sl.nil.v) c2 (by rw [ZE,ZS q1']) (KB3 _) (KF (KF ?_))
 rw [ZE,Nat.zero_add]
 have hlt:=B1.lt
 have R:Gw lo h2 ⟨some ⟨h1.size,0,none⟩,0,cs.size⟩ 1 (([]:List UInt8).map bv):=.inr ⟨h1.size,_,_,rfl,by have:=u1.size; omega,g2,by simp,by simp,by simp,fun j v hj=>by simp at hj⟩
 obtain ⟨B3,K3⟩:=KFJ (h:=h1) (h':=h2) (l':=[]) B1 (Upd.refl _ _) e2.size (fun i hi _=>e2.same i hi) (fun i hi=>by obtain ⟨a,ha,rfl⟩:=hi; cases ha; exact .inr (Nat.le_refl _)) R (fun h=>absurd h hcs) (fun g hg=>by cases hg; exact ⟨_,_,g2⟩)
 exact H _ _ B3 (hK1.trans K3 B.lt)
def SsAt (h:Heap) (x:Sl) (ps:List (List UInt8)):Prop:=x.len=ps.length∧x.len≤x.cap∧Gg h x.base (ps.map sv)
theorem SsAt.ext {h h':Heap} {x:Sl} {ps:List (List UInt8)} (S:SsAt h x ps) (e:Ext h h'):SsAt h' x ps:=⟨S.1,S.2.1,e.reads S.2.2⟩
theorem SsAt.get {h:Heap} {x:Sl} {ps:List (List UInt8)} (S:SsAt h x ps) {i:Nat} (hi:i < ps.length):∃ a,x.base=some a∧KO h (a.add i)=some (.string (bs ps[i])):=by
 obtain ⟨_,_,R | ⟨a,ha,R⟩⟩:=S
 ·have:ps=[]:=by simpa using R
  subst this; simp at hi
 ·exact ⟨a,ha,R i _ (by simp [hi,sv])⟩
theorem KDU {ps:List (List UInt8)} {i:Nat} (hi:i < ps.length):((ps.take (i+1)).map List.length).sum=((ps.take i).map List.length).sum+ps[i].length:=by
 rw [List.take_succ_eq_append_getElem hi,List.map_append,List.sum_append]; simp only [List.map_cons,List.map_nil,List.sum_cons,List.sum_nil,Nat.add_zero]
theorem KFN (ps:List (List UInt8)) (i:Nat):((ps.take i).map List.length).sum≤(ps.map List.length).sum:=by
 conv=>rhs; rw [← List.take_append_drop i ps,List.map_append,List.sum_append]
 omega
theorem KLC (sep:List UInt8):∀ (l:List (List UInt8)) (h:0 < l.length),jn sep l=l[0]++(l.drop 1).flatMap (fun s=>sep++s)
 | [],h=>by simp at h
 | a::r,h=>by rw [KFM]; rfl
theorem KJ4 (sep:List UInt8):∀ ps:List (List UInt8),ps≠[]→(jn sep ps).length=(ps.map List.length).sum+sep.length * (ps.length - 1)
 | [],h=>absurd rfl h
 | [a],_=>by simp [jn]
 | a::b::r,_=>by
  rw [jn,List.length_append,List.length_append,KJ4 sep (b::r) (by simp)]
  simp only [List.map_cons,List.sum_cons,List.length_cons]
  rw [show r.length+1+1 - 1=(r.length+1 - 1)+1 by omega,Nat.mul_add]
  omega
theorem KIN {h:Heap} {x:Sl} {ps:List (List UInt8)} {sep:List UInt8} {Q:ByteArray→Heap→Prop} (S:SsAt h x ps) (hs1:1≤sep.length) (hs:sep.length≤16) (hp:ps.length≤1099511627776) (hm:(jn sep ps).length≤70368744177664)
  (H:∀ h',Ext h h'→Q (bs (jn sep ps)) h'):(Yd x (bs sep)).wp h Q:=by
 unfold Yd
 rw [S.1]
 match hps:ps with
 | []=>exact iteT rfl (KF (H _ (Ext.refl _)))
 | [a] =>
  obtain ⟨b,hb,hcell'⟩:=S.get (i:=0) (by simp)
  exact iteF rfl (iteT rfl (Gi (by decide) (by rw [S.1]; simp) hb (zF (n:=bs a) hcell' (KF (H _ (Ext.refl _))))))
 | a::b0::r0 =>
  rw [← hps] at S hp hm H ⊢
  have hne:ps≠[]:=by rw [hps]; simp
  have hl2:2≤ps.length:=by rw [hps]; simp
  have hjl:=KJ4 sep ps hne
  rw [JL]
  refine iteF (by rw [beq_eq_false_iff_ne]; omega) (iteF (by rw [beq_eq_false_iff_ne]; omega) (iteT (by simp; omega) ?_))
  have hw1:IntKind.wrap .i64 ((ps.length:Int) - 1)=((ps.length - 1:Nat):Int):=by rw [w64 (by omega) (by omega)]; omega
  rw [hw1]
  refine ⟨IntKind.wrap .i64 ((9223372036854775807:Int).tdiv ((ps.length - 1:Nat):Int)),⟨by omega,rfl⟩,?_⟩
  have hq:(sep.length:Int) < IntKind.wrap .i64 ((9223372036854775807:Int).tdiv ((ps.length - 1:Nat):Int)):=by
   rw [Int.tdiv_eq_ediv_of_nonneg (by decide)]
   have h1:(17:Int)≤9223372036854775807 / ((ps.length - 1:Nat):Int):=by
    rw [Int.le_ediv_iff_mul_le (by omega)]; omega
   have h2:9223372036854775807 / ((ps.length - 1:Nat):Int)≤9223372036854775807:=Int.ediv_le_self _ (by decide)
   rw [w64 (by omega) (by omega)]; omega
  have hsm:sep.length * (ps.length - 1)≤70368744177664:=by omega
  have hcast:(sep.length:Int) * ((ps.length - 1:Nat):Int)=((sep.length * (ps.length - 1):Nat):Int):=by simp
  refine iteF (by simp; omega) ?_
  unfold Wi
  rw [hcast,w64n (n:=sep.length * (ps.length - 1)) (by omega),Int.zero_add,w64n (n:=sep.length * (ps.length - 1)) (by omega)]
  refine M.loop_inv (fun (t:Int × Int) h'=>h'=h∧∃ i:Nat,t.2=(i:Int)∧i≤ps.length∧t.1=((sep.length * (ps.length - 1)+((ps.take i).map List.length).sum:Nat):Int)) (fun t _=>((ps.length:Int) - t.2).toNat) ?_ ⟨rfl,0,rfl,Nat.zero_le _,by simp⟩
  rintro ⟨m,t⟩ h' ⟨rfl,i,ht,hi,hmm⟩ self hself
  have ht:t=(i:Int):=ht
  have hmm:m=_:=hmm
  subst ht; subst hmm
  unfold Xl
  rw [S.1]
  have hpi:=KFN ps i
  refine KZ (fun hc=>?_) (fun hc=>?_)
  ·have hlt:i < ps.length:=by have:=of_decide_eq_true hc; omega
   have hpj:=KFN ps (i+1)
   rw [KDU hlt] at hpj
   obtain ⟨b,hb,hcell'⟩:=S.get hlt
   refine Gi (by omega) (by rw [S.1]; omega) hb (zF (n:=bs ps[i]) (by rw [show (i:Int).toNat * 1=i by omega]; exact hcell') ?_)
   rw [JL]
   refine iteF (by rw [w64 (by omega) (by omega),decide_eq_false_iff_not]; omega) ?_
   refine hself (_,_) _ ⟨rfl,i+1,by dsimp only; rw [w64 (by omega) (by omega)]; simp,by omega,?_⟩ (by dsimp only; rw [w64 (by omega) (by omega)]; omega)
   dsimp only
   rw [w64 (by omega) (by omega),KDU hlt]; omega
  ·have hge:i=ps.length:=by have:=of_decide_eq_false hc; omega
   subst hge
   rw [List.take_length]
   refine Zu (fun h1 e1 z1 g1=>?_)
   have B1:=Bld.new (Nat.le_refl _) g1
   refine KJ (KGp B1 (by omega) (by omega) (by omega) (fun h2 r2 B2 K2=>?_))
   have E2:=K2.ext e1 B1 (Nat.le_refl _)
   obtain ⟨b,hb,hcell'⟩:=(S.ext E2).get (i:=0) (by omega)
   have h0l:=KFN ps 1
   rw [KDU (i:=0) (by omega)] at h0l
   refine Gi (by decide) (by rw [S.1]; omega) hb (zF (n:=bs ps[0]) hcell' ?_)
   refine KJ (Gb B2 E2.size (by rw [List.length_nil]; omega) (fun h3 r3 n3 B3 K3=>?_))
   have E3:=K3.ext E2 B2 (Nat.le_refl _)
   have hcap:=S.2.1
   have hSl:=S.1
   refine KGI (by decide) (by omega) (by omega) ?_
   have hx:(⟨if x.cap=(1:Int).toNat then x.base else x.base.map (fun a=>a.add ((1:Int).toNat * 1)),(ps.length:Int).toNat - (1:Int).toNat,x.cap - (1:Int).toNat⟩:Sl)=⟨some (b.add 1),ps.length - 1,x.cap - 1⟩:=by
    have hl:=S.1
    rw [if_neg (show ¬ x.cap=(1:Int).toNat by have:(1:Int).toNat=1:=rfl; omega),hb]
    rfl
   rw [hx]
   have hj0:jn sep ps=ps[0]++(ps.drop 1).flatMap (fun s=>sep++s):=KLC sep ps (by omega)
   have hpre:∀ k,(ps[0]++((ps.drop 1).take k).flatMap (fun s=>sep++s)).length≤(jn sep ps).length:=fun k=>by
    rw [hj0,List.length_append,List.length_append]
    conv=>rhs; rw [← List.take_append_drop k (ps.drop 1),List.flatMap_append,List.length_append]
    omega
   refine M.loop_inv (fun (t:Int) hx=>∃ k:Nat,t=(k:Int)∧k≤ps.length - 1∧Ext h' hx∧∃ r,Bld h'.size hx h'.size r (ps[0]++((ps.drop 1).take k).flatMap (fun s=>sep++s))) (fun t _=>((ps.length:Int) - t).toNat) ?_ ⟨0,rfl,Nat.zero_le _,E3,r3,by simpa using B3⟩
   rintro t h4 ⟨k,rfl,hk,E4,r4,B4⟩ self2 hself2
   unfold Xk
   dsimp only
   have hpk:=hpre k
   refine KZ (fun hc=>?_) (fun hc=>?_)
   ·have hlt:k < ps.length - 1:=by have:=of_decide_eq_true hc; omega
    have hlt':1+k < ps.length:=by omega
    have hpk1:=hpre (k+1)
    have htk:((ps.drop 1).take (k+1)).flatMap (fun s=>sep++s)=((ps.drop 1).take k).flatMap (fun s=>sep++s)++(sep++ps[1+k]):=by
     rw [List.take_succ_eq_append_getElem (by simpa using hlt),List.flatMap_append]
     simp only [List.getElem_drop,List.flatMap_cons,List.flatMap_nil,List.append_nil]
    rw [htk,← List.append_assoc,← List.append_assoc,List.length_append,List.length_append] at hpk1
    obtain ⟨b',hb',hcell2⟩:=(S.ext E4).get hlt'
    rw [hb] at hb'
    cases hb'
    refine Gi (by omega) (by dsimp only; omega) rfl (zF (n:=bs ps[1+k]) (by rw [Addr.add_add,show 1+(k:Int).toNat * 1=1+k by omega]; exact hcell2) ?_)
    refine KJ (Gb B4 E4.size (by omega) (fun h5 r5 n5 B5 K5=>?_))
    have E5:=K5.ext E4 B4 (Nat.le_refl _)
    refine KJ (Gb B5 E5.size (by rw [List.length_append]; omega) (fun h6 r6 n6 B6 K6=>?_))
    have E6:=K6.ext E5 B5 (Nat.le_refl _)
    rw [w64 (by omega) (by omega)]
    refine hself2 _ _ ⟨k+1,by simp,by omega,E6,r6,?_⟩ (by omega)
    rw [htk,← List.append_assoc,← List.append_assoc]
    exact B6
   ·have hge:k=ps.length - 1:=by have:=of_decide_eq_false hc; omega
    subst hge
    rw [List.take_of_length_le (by simp),← hj0] at B4
    refine KJ (KEW B4 (by omega) (fun h5 K5 _=>KF (H _ (K5.ext E4 B4 (Nat.le_refl _)))))
end Gx
namespace Gx
open Go
set_option linter.unusedVariables false
set_option linter.unusedSimpArgs false
def shw (ev od:List UInt8):List (List UInt8)→List UInt8
 | []=>[]
 | [a]=>a
 | a::b::r=>a++(ev++shw od ev (b::r))
def prs:List (List UInt8)→List (List UInt8)
 | []=>[]
 | [a]=>[a]
 | a::b::r=>(a++([58,32]++b))::prs r
theorem KIO (sep:List UInt8):∀ l,jn sep l=shw sep sep l
 | []=>rfl
 | [a]=>rfl
 | a::b::r=>by rw [jn,shw,KIO sep (b::r)]
theorem KIP:∀ l:List (List UInt8),jn [44,32] (prs l)=shw [58,32] [44,32] l
 | []=>rfl
 | [a]=>rfl
 | [a,b]=>by simp [prs,jn,shw]
 | a::b::c::r=>by
  have ih:=KIP (c::r)
  rw [prs,KFM]
  rw [shw,shw,← ih]
  match hp:prs (c::r) with
  | []=>cases r <;> simp [prs] at hp
  | p::ps=>rw [KFM,List.flatMap_cons]; simp
theorem KDV:∀ (l:List (List UInt8)) (a:List UInt8),l.length % 2=0→prs (l++[a])=prs l++[a]
 | [],a,_=>rfl
 | [x],a,h=>by simp at h
 | x::y::r,a,h=>by
  rw [List.cons_append,List.cons_append,prs,prs,KDV r a (by simp at h; omega)]; rfl
theorem KIQ:∀ (l:List (List UInt8)) (a b:List UInt8),l.length % 2=0→prs (l++[a,b])=prs l++[a++([58,32]++b)]
 | [],a,b,_=>rfl
 | [x],a,b,h=>by simp at h
 | x::y::r,a,b,h=>by
  rw [List.cons_append,List.cons_append,prs,prs,KIQ r a b (by simp at h; omega)]; rfl
theorem KFO:∀ l:List (List UInt8),(prs l).length≤l.length
 | []=>by simp [prs]
 | [a]=>by simp [prs]
 | a::b::r=>by have:=KFO r; simp [prs]; omega
theorem KFP:∀ (ev od:List UInt8) (l:List (List UInt8)),(l.map List.length).sum≤(shw ev od l).length
 | _,_,[]=>by simp [shw]
 | _,_,[a]=>by simp [shw]
 | ev,od,a::b::r=>by
  have:=KFP od ev (b::r)
  rw [shw,List.length_append,List.length_append,List.map_cons,List.sum_cons]
  omega
theorem KLD {l:List (List UInt8)} {a:List UInt8} (h:a ∈ l):a.length≤(l.map List.length).sum:=by
 induction l with
 | nil=>cases h
 | cons x l ih =>
  rw [List.map_cons,List.sum_cons]
  rcases List.mem_cons.1 h with rfl | h
  ·omega
  ·have:=ih h; omega
theorem KLE {l:List (List UInt8)} (h:∀ a ∈ l,1≤a.length):l.length≤(l.map List.length).sum:=by
 induction l with
 | nil=>simp
 | cons x l ih =>
  rw [List.map_cons,List.sum_cons,List.length_cons]
  have:=ih (fun a ha=>h a (List.mem_cons_of_mem _ ha))
  have:=h x (by simp)
  omega
def txt:Nat→Vl→List UInt8
 | 0,_=>[63]
 | d+1,.mk k n s l =>
  if k=1 then Lib.itoa n else if k=2 then KCe s else if k=3 then (if n=1 then [116,114,117,101] else [102,97,108,115,101])
  else if k=6 then [118,91]++Lib.itoa n++[93] else if k=7 then [101,91]++Lib.itoa n++[93]
  else if k=4 then [91]++shw [44,32] [44,32] (l.map (txt d))++[93] else if k=5 then [123]++shw [58,32] [44,32] (l.map (txt d))++[125] else [63]
theorem KJZ (n:Int):1≤(Lib.itoa n).length:=by
 have:∀ u,1≤(Lib.decDigits u).length:=fun u=>by unfold Lib.decDigits; split <;> simp
 unfold Lib.itoa
 split
 ·simp
 ·exact this _
theorem KLF:∀ (d:Nat) (v:Vl),1≤(txt d v).length
 | 0,_=>by simp [txt]
 | d+1,.mk k n s l=>by
  unfold txt
  repeat' split
  all_goals first | exact KJZ n | (simp [KCe]; done) | (simp; omega)
theorem Gw.set {lo:Nat} {h:Heap} {r:Sl} {vs:List Value} {b j:Nat} {v:Value} (H:Gw lo h r 1 vs) (hb:r.base=some ⟨b,0,none⟩) (hj:j < vs.length):Gw lo (hset h ⟨b,j,none⟩ v) r 1 (vs.set j v):=by
 rcases H with ⟨rfl,rfl⟩ | ⟨g,ty,cells,H⟩
 ·cases hb
 ·rw [H.base] at hb
  cases hb
  refine .inr ⟨b,ty,_,H.base,H.lo,Vh H.blk,by rw [Array.size_setIfInBounds]; exact H.size,H.cap,by rw [List.length_set]; exact H.len,fun i x hx=>?_⟩
  rw [List.getElem?_set] at hx
  rw [Array.getElem?_setIfInBounds]
  split at hx
  ·rename_i hi
   subst hi
   cases hx
   have hc:=H.len
   have:=H.size
   have hcap:=H.cap
   rw [if_pos rfl,if_pos (by omega)]
  ·rename_i hi
   rw [if_neg hi]
   exact H.get i x hx
theorem ixS2 {β:Type} {lo:Nat} {h:Heap} {Q:β→Heap→Prop} {r:Sl} {ps:List (List UInt8)} {i:Nat} {t:Int} {f:Addr→M β} (G:Gw lo h r 1 (ps.map sv)) (hi:i < ps.length) (ht:t=(i:Int))
  (H:∀ b,r.base=some ⟨b,0,none⟩→KO h ⟨b,i,none⟩=some (.string (bs ps[i]))→Ub h ⟨b,i,none⟩=false→(f ⟨b,i,none⟩).wp h Q):(ixL r t 1>>=f).wp h Q:=by
 subst ht
 have hl:=G.len
 simp at hl
 obtain ⟨b,hb,hc⟩:=G.cell (j:=i) (v:=sv ps[i]) (by simp [hi])
 refine Gi (by omega) (by omega) hb ?_
 rw [ZE,show 0+(i:Int).toNat * 1=i by omega]
 refine H b hb hc ?_
 rcases G with ⟨rfl,_⟩ | ⟨g,ty,cells,R⟩
 ·cases hb
 ·rw [R.base] at hb; cases hb
  exact ZS R.blk
theorem KJa {β:Type} {h:Heap} {Q:β→Heap→Prop} {a c:List UInt8} {x:List UInt8} {f:ByteArray→M β} (hm:a.length+x.length+c.length≤9223372036854775807) (H:(f (bs (a++x++c))).wp h Q):(sCat (bs a) (bs x)>>=fun y=>sCat y (bs c)>>=f).wp h Q :=
 KF2 (by omega) (KF2 (by simp only [List.length_append]; omega) H)
def prt (k:Int) (l:List (List UInt8)):List (List UInt8):=if k=5 then prs l else l
theorem KGq:∀ (d:Nat) (v:Vl) {h:Heap} {Q:ByteArray→Heap→Prop} {x:Array Value},d≤8→VRep h v x→qN h→KBb h→(txt d v).length≤1099511627776→(∀ h',Ext h h'→Q (bs (txt d v)) h')→(XY x ((9 - d:Nat):Int)).wp h Q:=by
 intro d
 induction d with
 | zero =>
  rintro v h Q x _ hx _ _ _ H
  unfold XY
  exact Zu (fun h1 e1 z1 g1=>iteT rfl (KF (H _ e1)))
 | succ d ih =>
  rintro ⟨k,n,s,l⟩ h Q x hd hx hp hdb hm H
  obtain ⟨xs,rfl,k1,n1,s1,r1⟩:=VRep.eq.1 hx
  unfold XY
  refine Zu (fun h1 E z1 g1=>?_)
  have c0:KO h1 ((⟨h.size,0,none⟩:Addr).add 0)=some (.int .i64 k):=by rw [Ky g1]; rfl
  have c1:KO h1 ((⟨h.size,0,none⟩:Addr).add 1)=some (.int .i64 n):=by rw [Ky g1]; rfl
  have c2:KO h1 ((⟨h.size,0,none⟩:Addr).add 2)=some (.string (bs s)):=by rw [Ky g1]; rfl
  have c3:KO h1 ((⟨h.size,0,none⟩:Addr).add 3)=some xs.v:=by rw [Ky g1]; rfl
  have hpE:=hp.ext E
  have hdE:=hdb.ext E
  have hil:=KJY n1
  refine iteF (by simp; omega) (Jx c0 (KZ (fun h1k=>?_) (fun h1k=>?_)))
  ·have h1k:k=1:=by simpa using h1k
   unfold txt at H
   rw [if_pos h1k] at H
   exact Jx c1 (KJ (KAn n1 hpE (fun h2 e2=>KF (H _ (E.trans e2)))))
  have h1k:¬ k=1:=by simpa using h1k
  unfold txt at H hm
  rw [if_neg h1k] at H hm
  refine KZ (fun h2k=>?_) (fun h2k=>?_)
  ·have h2k:k=2:=by simpa using h2k
   rw [if_pos h2k] at H hm
   exact zF c2 (KJ (KFK (by omega) hdE (fun h2 e2=>KF (H _ (E.trans e2)))))
  have h2k:¬ k=2:=by simpa using h2k
  rw [if_neg h2k] at H hm
  refine KZ (fun h3k=>?_) (fun h3k=>?_)
  ·have h3k:k=3:=by simpa using h3k
   rw [if_pos h3k] at H
   refine Jx c1 (KZ (fun hn=>?_) (fun hn=>?_))
   ·have hn:n=1:=by simpa using hn
    rw [if_pos hn] at H
    exact KF (H _ E)
   ·have hn:¬ n=1:=by simpa using hn
    rw [if_neg hn] at H
    exact KF (H _ E)
  have h3k:¬ k=3:=by simpa using h3k
  rw [if_neg h3k] at H hm
  refine KZ (fun h6k=>?_) (fun h6k=>?_)
  ·have h6k:k=6:=by simpa using h6k
   rw [if_pos h6k] at H
   exact Jx c1 (KJ (KAn n1 hpE (fun h2 e2=>KJa (a:=[118,91]) (c:=[93]) (by simp; omega) (KF (H _ (E.trans e2))))))
  have h6k:¬ k=6:=by simpa using h6k
  rw [if_neg h6k] at H hm
  refine KZ (fun h7k=>?_) (fun h7k=>?_)
  ·have h7k:k=7:=by simpa using h7k
   rw [if_pos h7k] at H
   exact Jx c1 (KJ (KAn n1 hpE (fun h2 e2=>KJa (a:=[101,91]) (c:=[93]) (by simp; omega) (KF (H _ (E.trans e2))))))
  have h7k:¬ k=7:=by simpa using h7k
  rw [if_neg h7k] at H hm
  have j1:(Wk ((9 - (d+1):Nat):Int) ⟨h.size,0,none⟩ (decide (k=4∨k=5))).wp h1 Q:=by
   unfold Wk
   refine KZ (fun h45=>?_) (fun h45=>?_)
   ·have h45:k=4∨k=5:=by simpa using h45
    have hform:∃ a c,(∀ h',Ext h h'→Q (bs (a++jn [44,32] (prt k (l.map (txt d)))++c)) h')∧a.length=1∧c.length=1∧(jn [44,32] (prt k (l.map (txt d)))).length≤1099511627776∧((l.map (txt d)).map List.length).sum≤1099511627776∧(k=5→a=[123]∧c=[125])∧(¬ k=5→a=[91]∧c=[93]):=by
     rcases h45 with h4 | h5
     ·rw [if_pos h4] at H hm
      have h5:¬ k=5:=by omega
      have hs:=KFP [44,32] [44,32] (l.map (txt d))
      simp only [List.length_append,List.length_cons,List.length_nil] at hm
      refine ⟨[91],[93],?_,rfl,rfl,?_,by omega,fun h=>absurd h h5,fun _=>⟨rfl,rfl⟩⟩
      ·unfold prt; rw [if_neg h5,KIO]; exact H
      ·unfold prt; rw [if_neg h5,KIO]; omega
     ·have h4:¬ k=4:=by omega
      rw [if_neg h4,if_pos h5] at H hm
      have hs:=KFP [58,32] [44,32] (l.map (txt d))
      simp only [List.length_append,List.length_cons,List.length_nil] at hm
      refine ⟨[123],[125],?_,rfl,rfl,?_,by omega,fun _=>⟨rfl,rfl⟩,fun h=>absurd h5 h⟩
      ·unfold prt; rw [if_pos h5,KIP]; exact H
      ·unfold prt; rw [if_pos h5,KIP]; omega
    obtain ⟨a,c,HQ,ha,hc,hjm,hsum,h5a,h5b⟩:=hform
    have hcnt:l.length≤1099511627776:=by
     have:=KLE (l:=l.map (txt d)) (fun a ha=>by obtain ⟨y,_,rfl⟩:=List.mem_map.1 ha; exact KLF d y)
     rw [List.length_map] at this
     omega
    have hel:∀ i (hi:i < l.length),(txt d l[i]).length≤1099511627776:=fun i hi=>by
     have:=KLD (l:=l.map (txt d)) (a:=txt d l[i]) (List.mem_map.2 ⟨_,List.getElem_mem hi,rfl⟩)
     omega
    refine UO c3 ?_
    have hxl:=r1.len
    refine M.loop_inv (fun (t:Sl × Int) h2=>∃ i:Nat,t.2=(i:Int)∧i≤l.length∧Ext h1 h2∧Gw h1.size h2 t.1 1 ((prt k ((l.take i).map (txt d))).map sv)) (fun t _=>((l.length:Int) - t.2).toNat) ?_ ⟨0,rfl,Nat.zero_le _,Ext.refl _,by rw [show prt k (((l.take 0).map (txt d)))=[] by unfold prt; split <;> simp [prs]]; exact Gw.nil _ _ _⟩
    rintro ⟨r,t⟩ h2 ⟨i,hti,hi,E2,G⟩ self hself
    have hti:t=(i:Int):=hti
    subst hti
    have G:Gw h1.size h2 r 1 ((prt k ((l.take i).map (txt d))).map sv):=G
    unfold G0
    rw [hxl]
    have hrl:=G.len
    rw [List.length_map,Nat.mul_one] at hrl
    have hrl2:r.len≤i:=by
     have:(prt k ((l.take i).map (txt d))).length≤i:=by
      unfold prt
      split
      ·have:=KFO ((l.take i).map (txt d)); rw [List.length_map,List.length_take] at this; omega
      ·rw [List.length_map,List.length_take]; omega
     omega
    refine KZ (fun hlt=>?_) (fun hge=>?_)
    ·have hlt:i < l.length:=by have:=of_decide_eq_true hlt; omega
     refine KAi (r1.ext (E.trans E2)) hlt rfl (fun b cs hs hcs hv=>WF hs hcs (Zu (fun h3 e3 z3 g3=>ZQ hs (stR (vs:=cs) g3 (by rw [hs]; decide) hv.one (fun h4 u4 g4=>?_)))))
     rw [KS (by rw [Array.length_toList,hs]; rfl),Array.toArray_toList] at g4
     have E4:Ext h2 h4:=e3.upd u4 (Nat.le_refl _)
     refine KEN (v:=l[i]) g4 hs ?_
     rw [show IntKind.wrap .i64 (((9 - (d+1):Nat):Int)+1)=((9 - d:Nat):Int) by rw [w64 (by omega) (by omega)]; omega]
     have E24:=E2.trans E4
     refine KJ (qS (KAw _ _) (ih l[i] (by omega) (hv.ext E4) (hpE.ext E24) (hdE.ext E24) (hel i hlt) (fun h5 e5=>?_)))
     have E5:=E24.trans e5
     refine Jx (E5.cell c0) ?_
     have hr5:IntKind.wrap .i64 ((i:Int)+1)=((i+1:Nat):Int):=by rw [w64 (by omega) (by omega)]; simp
     have G5:=G.ext (E4.trans e5)
     have htk:(l.take (i+1)).map (txt d)=(l.take i).map (txt d)++[txt d l[i]]:=by
      rw [List.take_succ_eq_append_getElem hlt,List.map_append]; rfl
     refine z6 (c:=decide (i % 2=1)) (fun _ Q' hq=>KF (by rw [show ((Int.tmod (i:Int) 2) == 1)=decide (i % 2=1) by rw [Int.tmod_eq_emod_of_nonneg (by omega),Bool.eq_iff_iff]; simp; omega]; exact hq)) ?_
     refine KZ (fun hodd=>?_) (fun heven=>?_)
     ·obtain ⟨h5k,hodd⟩:k=5∧i % 2=1:=by simpa using hodd
      obtain ⟨i',rfl⟩:∃ i',i=i'+1:=⟨i - 1,by omega⟩
      have hti':(l.take (i'+1)).map (txt d)=(l.take i').map (txt d)++[txt d l[i']]:=by
       rw [List.take_succ_eq_append_getElem (by omega),List.map_append]; rfl
      have hlen':((l.take i').map (txt d)).length % 2=0:=by simp; omega
      have hp1:prt k ((l.take (i'+1)).map (txt d))=prs ((l.take i').map (txt d))++[txt d l[i']]:=by
       unfold prt; rw [if_pos h5k,hti',KDV _ _ hlen']
      have hp2:prt k ((l.take (i'+1+1)).map (txt d))=prs ((l.take i').map (txt d))++[txt d l[i']++([58,32]++txt d l[i'+1])]:=by
       unfold prt; rw [if_pos h5k,htk,hti',List.append_assoc]; exact KIQ _ _ _ hlen'
      rw [hp1] at G5 hrl
      have hlast:r.len=(prs ((l.take i').map (txt d))).length+1:=by rw [← G5.len.trans (Nat.mul_one _)]; simp
      have hidx:IntKind.wrap .i64 ((r.len:Int) - 1)=(((prs ((l.take i').map (txt d))).length:Nat):Int):=by rw [w64 (by omega) (by omega)]; omega
      rw [hidx]
      have hle0:=hel i' (by omega)
      have hle1:=hel (i'+1) hlt
      refine ixS2 (i:=(prs ((l.take i').map (txt d))).length) G5 (by simp) rfl (fun b' hb' hc' hf'=>zF hc' ?_)
      have hget:(prs ((l.take i').map (txt d))++[txt d l[i']])[(prs ((l.take i').map (txt d))).length]'(by simp)=txt d l[i']:=by simp
      rw [hget] at hc' ⊢
      refine KF2 (x:=[58,32]) (by simp; omega) (KF2 (by simp; omega) ?_)
      refine ixS2 (i:=(prs ((l.take i').map (txt d))).length) G5 (by simp) rfl (fun b2 hb2 hc2 hf2=>NF hc2 hf2 rfl ?_)
      rw [hb2] at hb'
      cases hb'
      unfold Wj
      rw [hr5]
      refine hself (_,_) _ ⟨i'+1+1,rfl,by omega,?_,?_⟩ (by dsimp only; omega)
      ·have hb3:h1.size≤b':=(G5.lt ⟨_,hb2,rfl⟩).2
       exact ⟨by rw [NX]; exact E5.size,fun j hj=>by rw [Gj (by show j≠b'; omega)]; exact E5.same j hj⟩
      ·have:=G5.set (v:=sv (txt d l[i']++([58,32]++txt d l[i'+1]))) (j:=(prs ((l.take i').map (txt d))).length) hb2 (by simp)
       dsimp only
       rw [hp2]
       rw [List.map_append,List.set_append_right _ _ (by simp)] at this
       simpa [sv] using this
     ·have heven:¬ (k=5∧i % 2=1):=by simpa using heven
      have hp2:prt k ((l.take (i+1)).map (txt d))=prt k ((l.take i).map (txt d))++[txt d l[i]]:=by
       unfold prt
       by_cases h5k:k=5
       ·rw [if_pos h5k,if_pos h5k,htk,KDV _ _ (by simp; omega)]
       ·rw [if_neg h5k,if_neg h5k,htk]
      refine KCq ?_
      have e6:=Ext.push h5 (.cells #[.string (bs (txt d l[i]))] GM)
      have g6:(h5.push (.cells #[.string (bs (txt d l[i]))] GM))[h5.size]?=some (.cells #[.string (bs (txt d l[i]))] GM (0,0)):=ZJ
      generalize h5.push (.cells #[.string (bs (txt d l[i]))] GM)=h6 at e6 g6 ⊢
      have E6:=E5.trans e6
      have G6:=G5.ext e6
      refine KBT (vs:=(prt k ((l.take i).map (txt d))).map sv) (news:=[sv (txt d l[i])]) rfl G6 rfl (.inr ⟨_,rfl,fun j v hj=>?_⟩) (fun v hv=>by simp at hv; subst hv; rfl) (by dsimp only; omega) (by dsimp only; omega) E6.size (fun h7 r7 G7 hlen7 hs7 same7 on7=>?_)
      ·rw [ZE,Nat.zero_add,KP g6]
       rw [show (#[.string (bs (txt d l[i]))]:Array Value)=[sv (txt d l[i])].toArray from rfl]
       simpa using hj
      ·unfold Wj
       rw [hr5]
       refine hself (_,_) _ ⟨i+1,rfl,by omega,?_,?_⟩ (by dsimp only; omega)
       ·exact ⟨Nat.le_trans E6.size hs7,fun j hj=>(same7 j (Nat.lt_of_lt_of_le hj E6.size) (fun ho=>by have:=(G6.lt ho).2; omega)).trans (E6.same j hj)⟩
       ·dsimp only
        rw [hp2,List.map_append]
        exact G7
    ·have hge:i=l.length:=by have:=of_decide_eq_false hge; omega
     subst hge
     rw [List.take_length] at G
     have S:SsAt h2 r (prt k (l.map (txt d))):=⟨by have:=G.len; rw [List.length_map,Nat.mul_one] at this; exact this.symm,G.cap,G.reads⟩
     have hpl:(prt k (l.map (txt d))).length≤l.length:=by
      unfold prt
      split
      ·have:=KFO (l.map (txt d)); simp at this; exact this
      ·simp
     refine KJ (KIN (sep:=[44,32]) S (by simp) (by simp) (by omega) (by omega) (fun h3 e3=>?_))
     refine Jx ((E2.trans e3).cell c0) (KZ (fun h5k=>?_) (fun h5k=>?_))
     ·have h5k:k=5:=by simpa using h5k
      obtain ⟨rfl,rfl⟩:=h5a h5k
      exact KJa (a:=[123]) (c:=[125]) (by simp; omega) (KF (HQ _ ((E.trans E2).trans e3)))
     ·have h5k:¬ k=5:=by simpa using h5k
      obtain ⟨rfl,rfl⟩:=h5b h5k
      exact KJa (a:=[91]) (c:=[93]) (by simp; omega) (KF (HQ _ ((E.trans E2).trans e3)))
   ·have h45:¬ (k=4∨k=5):=by simpa using h45
    rw [if_neg (fun h=>h45 (.inl h)),if_neg (fun h=>h45 (.inr h))] at H
    exact KF (H _ E)
  refine KZ (fun h4k=>?_) (fun h4k=>?_)
  ·have h4k:k=4:=by simpa using h4k
   have e:(k == 4)=decide (k=4∨k=5):=by subst h4k; rfl
   rw [e]
   exact j1
  ·have h4k:¬ k=4:=by simpa using h4k
   have e:(k == 5)=decide (k=4∨k=5):=by rw [eqI,Bool.eq_iff_iff]; simp [h4k]
   rw [e]
   exact j1
end Gx
namespace Gx
open Go
set_option linter.unusedVariables false
set_option linter.unusedSimpArgs false
abbrev txV (v:Vl):List UInt8:=txt 8 v
theorem KGr {v:Vl} {h:Heap} {Q:ByteArray→Heap→Prop} {x:Array Value} (hx:VRep h v x) (hp:qN h) (hd:KBb h) (hm:(txV v).length≤1099511627776) (H:∀ h',Ext h h'→Q (bs (txV v)) h'):(GP x).wp h Q:=by
 unfold GP
 exact Zu (fun h1 e1 z1 g1=>KEN (v:=v) g1 hx.size (KJ (KGq 8 v (Nat.le_refl _) (hx.ext e1) (hp.ext e1) (hd.ext e1) hm (fun h2 e2=>KF (H _ (e1.trans e2))))))
end Gx
namespace Gx
open Go Go.Proofs Go.Shelf Go.RowKit Go.Lib
set_option linter.unusedVariables false
set_option linter.unusedSimpArgs false
set_option maxRecDepth 100000
def KEX:List UInt8:=[123,39,97,39,58,32,116,114,117,101,44,32,39,98,39,58,32,49,125]
def vSa:Vl:=.mk 2 0 [97] []
def vSb:Vl:=.mk 2 0 [98] []
def vI1:Vl:=.mk 1 1 [] []
def vTr:Vl:=.mk 3 1 [] []
def KA7:Vl:=.mk 5 0 [] [vSa,vTr,vSb,vI1]
theorem KF3:cmpV vSa vSb < 0:=by
 rw [show vSa=.mk 2 0 [97] [] from rfl,show vSb=.mk 2 0 [98] [] from rfl,cmpV]
 decide
theorem KMX:mayV 8 KA7=true:=by
 have:=KF3
 simp only [KA7,mayV,zz]
 rw [decide_eq_true KF3]
 decide
theorem KJ5:txV KA7=KEX:=by
 have h1:Lib.itoa 1=[49]:=by
  unfold Lib.itoa
  rw [if_neg (by decide),Lib.decDigits_one (by decide)]
  decide
 show txt 8 KA7=KEX
 unfold KA7
 rw [txt]
 simp only [vSa,vTr,vSb,vI1,List.map_cons,List.map_nil,txt,h1]
 decide
theorem KLG:KFG KEX=.ok KA7:=by
 rfl
theorem KJb {α:Type} {ps:List α} {p q:α} (h:ps.Perm [p,q]):ps=[p,q]∨ps=[q,p]:=by
 have hl:=h.length_eq
 match ps,hl with
 | [x,y],_ =>
  have hx:x ∈ [p,q]:=h.mem_iff.1 (by simp)
  simp only [List.mem_cons,List.not_mem_nil,or_false] at hx
  rcases hx with rfl | rfl
  ·have:=(List.perm_singleton.1 (List.Perm.cons_inv h))
   left; rw [this]
  ·have h2:[x,y].Perm [x,p]:=h.trans (List.Perm.swap _ _ _)
   have:=(List.perm_singleton.1 (List.Perm.cons_inv h2))
   right; rw [this]
theorem KNI {v:Vl} {e:Int} (h:MapRes [vSb,vI1,vSa,vTr] v e):v=KA7∧e=0:=by
 have hp:KAx [vSb,vI1,vSa,vTr] ([vSb,vI1,vSa,vTr].length / 2)=[[vSb,vI1],[vSa,vTr]]:=rfl
 have key:∀ ps:List (List Vl),ps.Perm (KAx [vSb,vI1,vSa,vTr] ([vSb,vI1,vSa,vTr].length / 2))→ps.Pairwise (fun p q=>¬ cmpV (kOf q) (kOf p) < 0)→ps=[[vSa,vTr],[vSb,vI1]]:=by
  intro ps hperm hs
  rw [hp] at hperm
  rcases KJb hperm with rfl | rfl
  ·exfalso
   rw [List.pairwise_cons] at hs
   exact hs.1 [vSa,vTr] (by simp) KF3
  ·rfl
 cases h with
 | odd h=>exact absurd h (by decide)
 | twice ps h1 h2 h3 h4 =>
  obtain rfl:=key ps h2 h3
  obtain ⟨i,hi,heq⟩:=h4
  have:i=0:=by simp at hi; omega
  subst this
  exfalso
  have h5:vSa=vSb:=heq
  have:=KF3
  rw [h5,z8] at this
  omega
 | made ps h1 h2 h3 h4 =>
  obtain rfl:=key ps h2 h3
  have hf:([[vSa,vTr],[vSb,vI1]]:List (List Vl)).flatten=[vSa,vTr,vSb,vI1]:=rfl
  rw [hf]
  have hm:=KMX
  unfold KA7 at hm
  exact ⟨if_pos hm,by unfold qO; rw [if_pos hm]⟩
def c16:List (Array Value):=[ZO 2 0 [98] Sl.nil,ZO 1 1 [] Sl.nil,ZO 2 0 [97] Sl.nil,ZO 3 1 [] Sl.nil]
theorem KEY {h:Heap} {Q:Bool→Heap→Prop} (hp:qN h) (hd:KBb h) (he:ErrV h) (H:∀ h',Ext h h'→Q true h'):(Uh).wp h Q:=by
 unfold Uh
 refine KII (s:=[98]) (fun h1 e1=>KIH (fun h2 e2=>KII (s:=[97]) (fun h3 e3=>KFF (fun h4 e4=>?_))))
 have E4:=((e1.trans e2).trans e3).trans e4
 refine ⟨(WB c16).toArray,rfl,KCq ?_⟩
 have e5:=Ext.push h4 (.cells (WB c16).toArray KB)
 have g5:(h4.push (.cells (WB c16).toArray KB))[h4.size]?=some (.cells (WB c16).toArray KB (0,0)):=ZJ
 generalize h4.push (.cells (WB c16).toArray KB)=h5 at e5 g5 ⊢
 have sc:∀ {k n:Int} {t:List UInt8},I64 k→I64 n→t.length≤1099511627776→Zp (fun _=>False) h5 (.mk k n t []) (ZO k n t Sl.nil):=fun hk hn ht=>KF0 _ _ hk hn (by omega)
 have w4:W4 c16:=fun c hc=>by
  simp only [c16,List.mem_cons,List.not_mem_nil,or_false] at hc
  rcases hc with rfl | rfl | rfl | rfl <;> exact ⟨rfl,ZR _ _ _ _⟩
 have V5:VGw 0 (fun _=>False) h5 ⟨some ⟨h4.size,0,none⟩,4,4⟩ c16 [vSb,vI1,vSa,vTr]:=by
  refine ⟨.inr ⟨h4.size,KB,(WB c16).toArray,rfl,Nat.zero_le _,g5,rfl,Nat.le_refl _,rfl,fun j v hj=>by rw [List.getElem?_toArray]; exact hj⟩,w4,rfl,fun j h1 h2=>?_⟩
  have hj:j < 4:=h1
  match j,hj with
  | 0,_=>exact sc ⟨by decide,by decide⟩ ⟨by decide,by decide⟩ (by decide)
  | 1,_=>exact sc ⟨by decide,by decide⟩ ⟨by decide,by decide⟩ (by decide)
  | 2,_=>exact sc ⟨by decide,by decide⟩ ⟨by decide,by decide⟩ (by decide)
  | 3,_=>exact sc ⟨by decide,by decide⟩ ⟨by decide,by decide⟩ (by decide)
 have E5:=E4.trans e5
 refine KJ (KH4 (l:=[vSb,vI1,vSa,vTr]) (V5.rep_ (by decide)).to (KK4 (by decide)) (by simp [wt.wts,wt,vSb,vI1,vSa,vTr]) (fun h6 c6 v6 ev hres e6 V6=>?_))
 obtain ⟨rfl,rfl⟩:=KNI hres
 refine Zu (fun h7 e7 s7 g7=>ZQ V6.size (stR g7 (by rw [V6.size]; exact Nat.le_refl 4) V6.to.one (fun h8 u8 g8=>?_)))
 rw [KS (by rw [Array.length_toList,V6.size]; rfl)] at g8
 have e68:Ext h6 h8:=e7.upd u8 (Nat.le_refl _)
 have E8:=(E5.trans e6).trans e68
 have V8:VRep h8 KA7 c6:=V6.to.ext e68
 have hP:Nt KEX=(KA7,0,0):=by unfold Nt; rw [KLG]; dsimp only; rw [if_pos KMX]
 refine KJ (KFH (s:=KEX) (by decide) (he.ext E8) (fun h9 c9 e9 V9=>?_))
 rw [hP] at V9 ⊢
 refine Zu (fun h10 e10 s10 g10=>ZQ V9.size (stR g10 (by rw [V9.size]; exact Nat.le_refl 4) V9.to.one (fun h11 u11 g11=>?_)))
 rw [KS (by rw [Array.length_toList,V9.size]; rfl)] at g11
 have e911:Ext h9 h11:=e10.upd u11 (Nat.le_refl _)
 have E11:=(E8.trans e9).trans e911
 have g8':=(e9.trans e911).blk g8
 refine Y5 rfl (ldR g8' V6.size (KJ (KGr (V8.ext (e9.trans e911)) (hp.ext E11) (hd.ext E11) (by rw [KJ5]; decide) (fun h12 e12=>Zc ?_))))
 rw [KJ5,show sEq (bs KEX) (⟨#[123,39,97,39,58,32,116,114,117,101,44,32,39,98,39,58,32,49,125]⟩:ByteArray)=true by
  show sEq (bs KEX) (bs KEX)=true
  rw [KHp]
  exact decide_eq_true rfl]
 dsimp only
 refine iteT rfl (KF ?_)
 refine Y5 rfl ?_
 refine Zc ?_
 refine Y5 rfl ?_
 have g8'':=e12.blk g8'
 have g11':=e12.blk g11
 refine ZZ (ldR g8'' V6.size (ZZ (ldR g11' V9.size (ZZ (KJ (KCY ((V8.ext (e9.trans e911)).ext e12) ((V9.to.ext e911).ext e12) (fun h13 e13=>Zc (KF ?_))))))))
 rw [show decide (cmpV KA7 KA7=0)=true from decide_eq_true (z8 _)]
 exact H _ ((E11.trans e12).trans e13)
end Gx
namespace Gx
open Go Go.Proofs Go.Shelf Go.RowKit Go.Lib
set_option linter.unusedVariables false
set_option linter.unusedSimpArgs false
set_option maxRecDepth 100000
def Rng (x:Int):Prop:=-1≤x∧x≤1
theorem KDW {a b:Int} (ha:Rng a) (hb:Rng b):Rng (cOr a b):=by unfold cOr; split; exact hb; exact ha
theorem KDX (a b:Int):Rng (cmpI a b):=by unfold cmpI Rng; split; decide; split <;> decide
theorem KDY {α:Type} {f:α→α→Int}:∀ {l l':List α},(∀ a ∈ l,∀ b ∈ l',Rng (f a b))→Rng (cmpL f l l')
 | [],[],_=>by unfold cmpL Rng; decide
 | [],_::_,_=>by unfold cmpL Rng; decide
 | _::_,[],_=>by unfold cmpL Rng; decide
 | a::l,b::l',h=>by
  rw [cmpL]
  exact KDW (h a (by simp) b (by simp)) (KDY (fun x hx y hy=>h x (by simp [hx]) y (by simp [hy])))
theorem KJc (a b:UInt8):Rng (cmpU a b):=by unfold cmpU; exact KDX _ _
theorem KIR:∀ (m:Nat) (a b:Vl),sizeOf a < m→Rng (cmpV a b):=by
 intro m
 induction m with
 | zero=>intro a b h; omega
 | succ m ih =>
  rintro ⟨k,n,s,l⟩ ⟨k',n',s',l'⟩ hm
  rw [qy]
  exact KDW (KDX _ _) (KDW (KDX _ _) (KDW (KDY (fun _ _ _ _=>KJc _ _)) (KDY (fun a ha b _=>ih a b (KFr hm ha)))))
theorem KF4 (a b:Vl):Rng (cmpV a b):=KIR _ a b (Nat.lt_succ_self _)
end Gx
namespace Gx
open Go Go.Proofs Go.Shelf Go.RowKit Go.Lib
set_option linter.unusedVariables false
set_option linter.unusedSimpArgs false
set_option maxRecDepth 100000
theorem KAC {β:Type} {S:Nat→Prop} {h:Heap} {Q:β→Heap→Prop} {x:Sl} {l:List Vl} {i:Nat} {t:Int} {f:Addr→M β} (H:VsRepS S h x l) (hi:i < l.length) (ht:t=(i:Int))
  (hq:∀ a c,c.size=4→(∀ m,m < 4→KO h (a.add m)=c[m]?)→Zp S h l[i] c→(f a).wp h Q):(ixL x t 4>>=f).wp h Q:=by
 obtain ⟨a,c,ha,_,hs,hcs,hv⟩:=H.get hi
 have:=H.len
 subst ht
 refine Gi (by omega) (by omega) ha (hq _ c hs (fun m hm=>?_) hv)
 rw [Addr.add_add,show (i:Int).toNat * 4=i * 4 by omega]
 exact hcs m hm
end Gx
namespace Gx
open Go Go.Proofs Go.Shelf Go.RowKit Go.Lib
set_option linter.unusedVariables false
set_option linter.unusedSimpArgs false
set_option maxRecDepth 100000
theorem KLH {h:Heap} {k n:Int} {s:List UInt8} (hk:I64 k) (hn:I64 n) (hs:s.length≤9223372036854775807):VRep h (.mk k n s []) (ZO k n s Sl.nil) :=
 (Zp.eq.2 ⟨Sl.nil,rfl,hk,hn,hs,rfl,Nat.le_refl _,by decide,by rw [YQ]; trivial⟩:Zp (fun _=>True) h _ _).to
end Gx
namespace Gx
open Go Go.Proofs Go.Shelf Go.RowKit Go.Lib
set_option linter.unusedVariables false
set_option linter.unusedSimpArgs false
set_option maxRecDepth 100000
def iv (n:Int):Value:=.int .i64 n
def sumI:List Int→Int
 | []=>0
 | n::l=>n+sumI l
theorem KF5:∀ a b:List Int,sumI (a++b)=sumI a+sumI b
 | [],b=>by simp [sumI]
 | n::a,b=>by rw [List.cons_append,sumI,sumI,KF5 a b]; omega
theorem KAD (a:List Int) (n:Int):sumI (a++[n])=sumI a+n:=by rw [KF5]; simp [sumI]
def inI (n:Int):Bool:=decide (-9223372036854775808≤n∧n≤9223372036854775807)
def sumT (l:List Int):Int × Int:=if inI (sumI l)=true then (sumI l,0) else (0,7)
theorem KGs {l:List Int} (h:∀ n ∈ l,I64 n):-(l.length:Int) * 9223372036854775808≤sumI l∧sumI l≤(l.length:Int) * 9223372036854775808:=by
 induction l with
 | nil=>simp [sumI]
 | cons n l ih =>
  have h1:=h n List.mem_cons_self
  have h2:=ih (fun m hm=>h m (List.mem_cons_of_mem _ hm))
  unfold I64 at h1
  rw [sumI,List.length_cons]
  omega
theorem KJd {β:Type} {lo:Nat} {h:Heap} {Q:β→Heap→Prop} {r:Sl} {l:List Int} {n:Int} {f:Sl→M β} (G:Gw lo h r 1 (l.map iv)) (hlo:lo≤h.size) (hl:l.length≤1099511627776)
  (H:∀ h' r',Gw lo h' r' 1 ((l++[n]).map iv)→h.size≤h'.size→(∀ i,i < h.size→¬ Sl.on r i→h'[i]?=h[i]?)→(∀ i,Sl.on r' i→Sl.on r i∨h.size≤i)→(f r').wp h' Q) :
  (bdL U9 1 #[.int .i64 n]>>=fun x=>apL U9 1 8 (#[.int .i64 0]:Array Value) r x>>=f).wp h Q:=by
 refine KCq ?_
 have e1:=Ext.push h (.cells #[.int .i64 n] U9)
 have g1:(h.push (.cells #[.int .i64 n] U9))[h.size]?=some (.cells #[.int .i64 n] U9 (0,0)):=ZJ
 generalize h.push (.cells #[.int .i64 n] U9)=h1 at e1 g1 ⊢
 have hs1:=e1.size
 have G1:=G.ext e1
 have hrl:=G1.len
 rw [List.length_map,Nat.mul_one] at hrl
 refine KJ (KBT (news:=[iv n]) rfl G1 rfl (.inr ⟨_,rfl,fun j u hj=>?_⟩) (fun v hv=>by rw [List.mem_singleton.1 hv]; rfl) (by show (r.len+1) * 8≤_; omega) (by show r.len+1≤_; omega) (by omega) (fun h2 r2 G2 _ hs2 same2 on2=>?_))
 ·rw [ZE,Nat.zero_add,KP g1]
  have hj0:=(List.getElem?_eq_some_iff.1 hj).1
  have hj1:j=0:=by simpa using hj0
  subst hj1
  simpa [iv] using hj
 ·refine H h2 r2 (by rw [List.map_append]; exact G2) (by omega) (fun i hi ho=>(same2 i (by omega) ho).trans (e1.same i hi)) (fun i hi=>(on2 i hi).imp id (fun h=>by omega))
theorem Gw.ixI {β:Type} {lo:Nat} {h:Heap} {Q:β→Heap→Prop} {r:Sl} {l:List Int} {i:Nat} {t:Int} {f:Int→M β} (G:Gw lo h r 1 (l.map iv)) (hi:i < l.length) (ht:t=(i:Int)) (H:(f l[i]).wp h Q):(ixL r t 1>>=fun a=>ldI .i64 a>>=f).wp h Q:=by
 have hg:(l.map iv)[i]?=some (iv l[i]):=by rw [List.getElem?_map,List.getElem?_eq_getElem hi]; rfl
 exact G.ix1 hg ht (fun b hb hc hf=>Jx hc H)
theorem KJ6 {n:Int} {c:Bool} {h:Heap} {Q:Int × Int→Heap→Prop} (H:Q (if c=true then (n,0) else (0,7)) h):(YS n c).wp h Q:=by
 unfold YS
 cases c with
 | true=>exact iteF rfl (KF H)
 | false=>exact iteT rfl (KF H)
theorem u64m (n:Int):IntKind.wrap .u64 n=n % 18446744073709551616:=by
 rw [IntKind.wrap_u64]
theorem i64m {n:Int} (h0:0≤n) (h1:n < 18446744073709551616):IntKind.wrap .i64 n=if n < 9223372036854775808 then n else n - 18446744073709551616:=by
 rw [IntKind.wrap_i64]
 split <;> omega
theorem KFQ {lo:Nat} {h:Heap} {Q:Int × Int→Heap→Prop} {r:Sl} {l:List Int} (G:Gw lo h r 1 (l.map iv)) (hl:l.length≤1099511627776) (hi:∀ n ∈ l,I64 n) (H:∀ h',Ext h h'→Q (sumT l) h'):(KBi r).wp h Q:=by
 have hrl:=G.len
 rw [List.length_map,Nat.mul_one] at hrl
 unfold KBi
 refine Zu (fun h1 e1 s1 g1=>?_)
 rw [← hrl]
 refine M.loop_inv (fun (t:Int) hh=>∃ i:Nat,t=(i:Int)∧i≤l.length∧Ext h hh∧hh[h.size]?=some (.cells #[.int .u64 (sumI (l.take i) % 18446744073709551616),.int .u64 (sumI (l.take i) / 18446744073709551616 % 18446744073709551616)] J4 (0,0))) (fun t _=>((l.length:Int) - t).toNat) ?_
  ⟨0,rfl,Nat.zero_le _,e1,g1⟩
 rintro t hh ⟨i,rfl,hi2,E,g⟩ self hself
 obtain ⟨T,hT⟩:∃ T,T=sumI (l.take i):=⟨_,rfl⟩
 rw [← hT] at g
 have c0:∀ {h2:Heap} {a b:Value},h2[h.size]?=some (.cells #[a,b] J4 (0,0))→KO h2 ((⟨h.size,0,none⟩:Addr).add ((0:Int).toNat * 1))=some a:=fun hb=>by rw [Ky hb]; rfl
 have c1:∀ {h2:Heap} {a b:Value},h2[h.size]?=some (.cells #[a,b] J4 (0,0))→KO h2 ((⟨h.size,0,none⟩:Addr).add ((1:Int).toNat * 1))=some b:=fun hb=>by rw [Ky hb]; rfl
 have f_:∀ {h2:Heap} {cs:Array Value} {k:Nat},h2[h.size]?=some (.cells cs J4 (0,0))→Ub h2 ((⟨h.size,0,none⟩:Addr).add k)=false:=fun hb=>by rw [ZE]; exact ZS hb
 have a0:(⟨h.size,0,none⟩:Addr).add ((0:Int).toNat * 1)=⟨h.size,0,none⟩:=rfl
 have a1:(⟨h.size,0,none⟩:Addr).add ((1:Int).toNat * 1)=⟨h.size,1,none⟩:=by rw [ZE]; rfl
 have st0:∀ {h2:Heap} {a b v:Value},h2[h.size]?=some (.cells #[a,b] J4 (0,0))→(hset h2 ⟨h.size,0,none⟩ v)[h.size]?=some (.cells #[v,b] J4 (0,0)):=fun hb=>by rw [Vh hb]; rfl
 have st1:∀ {h2:Heap} {a b v:Value},h2[h.size]?=some (.cells #[a,b] J4 (0,0))→(hset h2 ⟨h.size,1,none⟩ v)[h.size]?=some (.cells #[a,v] J4 (0,0)):=fun hb=>by rw [Vh hb]; rfl
 have EU:∀ {h2 h3:Heap},Ext h h2→Upd h.size h2 h3→Ext h h3:=fun e u=>e.upd u (Nat.le_refl _)
 unfold KAT
 refine KZ (fun hc=>?_) (fun hc=>?_)
 ·have hlt:i < l.length:=by have:=of_decide_eq_true hc; omega
  obtain ⟨n,hn⟩:∃ n,n=l[i]:=⟨_,rfl⟩
  have hni:=hi n (hn ▸ List.getElem_mem hlt)
  unfold I64 at hni
  have hT':sumI (l.take (i+1))=T+n:=by rw [List.take_succ_eq_append_getElem hlt,KAD,← hn,← hT]
  refine (G.ext E).ixI hlt rfl ?_
  rw [← hn]
  refine KA2 (by decide) (by decide) (Jx (c0 g) (KA2 (by decide) (by decide) (Jx (c0 g) ?_)))
  rw [u64m n,u64m]
  have fin:∀ (h2:Heap) (b:Int),Ext h h2→h2[h.size]?=some (.cells #[.int .u64 (T % 18446744073709551616),.int .u64 b] J4 (0,0))→b=(T+n) / 18446744073709551616 % 18446744073709551616 →
    (GU self ⟨h.size,0,none⟩ ((T % 18446744073709551616+n % 18446744073709551616) % 18446744073709551616) (i:Int)).wp h2 Q:=by
   intro h2 b E2 g2 hb
   unfold GU
   refine KA2 (by decide) (by decide) (NF (c0 g2) (f_ g2) rfl ?_)
   rw [a0,w64 (by omega) (by omega)]
   refine hself _ _ ⟨i+1,by simp,by omega,EU E2 (Upd.hset _ _ _ _),?_⟩ (by omega)
   rw [st0 g2,hT',hb,show (T % 18446744073709551616+n % 18446744073709551616) % 18446744073709551616=(T+n) % 18446744073709551616 by omega]
  have j1:∀ (h2:Heap) (b:Int),Ext h h2→h2[h.size]?=some (.cells #[.int .u64 (T % 18446744073709551616),.int .u64 b] J4 (0,0))→0≤b→b < 18446744073709551616→(b - (if n < 0 then 1 else 0)) % 18446744073709551616=(T+n) / 18446744073709551616 % 18446744073709551616 →
    (GV self ⟨h.size,0,none⟩ n ((T % 18446744073709551616+n % 18446744073709551616) % 18446744073709551616) (i:Int)).wp h2 Q:=by
   intro h2 b E2 g2 hb0 hb1 hb
   unfold GV
   refine KZ (fun hneg=>?_) (fun hpos=>?_)
   ·have hneg:=of_decide_eq_true hneg
    refine KA2 (by decide) (by decide) (Jx (c1 g2) (KA2 (by decide) (by decide) (NF (c1 g2) (f_ g2) rfl ?_)))
    rw [a1,u64m]
    exact fin _ _ (EU E2 (Upd.hset _ _ _ _)) (st1 g2) (by rw [if_pos hneg] at hb; exact hb)
   ·have hpos:=of_decide_eq_false hpos
    refine fin h2 b E2 g2 ?_
    rw [if_neg hpos] at hb
    omega
  refine KZ (fun hcar=>?_) (fun hcar=>?_)
  ·have hcar:=of_decide_eq_true hcar
   refine KA2 (by decide) (by decide) (Jx (c1 g) (KA2 (by decide) (by decide) (NF (c1 g) (f_ g) rfl ?_)))
   rw [a1,u64m]
   refine j1 _ _ (EU E (Upd.hset _ _ _ _)) (st1 g) (by omega) (by omega) ?_
   split <;> omega
  ·have hcar:=of_decide_eq_false hcar
   refine j1 _ _ E g (by omega) (by omega) ?_
   split <;> omega
 ·have hge:i=l.length:=by have:=of_decide_eq_false hc; omega
  rw [hge,List.take_of_length_le (Nat.le_refl _)] at hT
  have hb:=KGs hi
  rw [← hT] at hb
  unfold sumT inI at H
  rw [← hT] at H
  refine KA2 (by decide) (by decide) (Jx (c0 g) ?_)
  rw [i64m (by omega) (by omega)]
  refine KZ (fun hneg=>?_) (fun hpos=>?_)
  ·have hneg:=of_decide_eq_true hneg
   refine KA2 (by decide) (by decide) (Jx (c1 g) (KJ (KJ6 (KF ?_))))
   have h5:=H _ E
   by_cases hin:-9223372036854775808≤T∧T≤9223372036854775807
   ·rw [decide_eq_true hin,if_pos rfl] at h5
    have e1:T / 18446744073709551616 % 18446744073709551616=18446744073709551615:=by split at hneg <;> omega
    rw [e1,show ((18446744073709551615:Int) == 18446744073709551615)=true from rfl,if_pos rfl]
    rw [show (if T % 18446744073709551616 < 9223372036854775808 then T % 18446744073709551616 else T % 18446744073709551616 - 18446744073709551616)=T by split at hneg <;> split <;> omega]
    exact h5
   ·rw [decide_eq_false hin,if_neg (by decide)] at h5
    rw [show (T / 18446744073709551616 % 18446744073709551616 == 18446744073709551615)=false by rw [eqI,decide_eq_false_iff_not]; split at hneg <;> omega,if_neg (by decide)]
    exact h5
  ·have hpos:=of_decide_eq_false hpos
   refine KA2 (by decide) (by decide) (Jx (c1 g) (KJ (KJ6 (KF ?_))))
   have h5:=H _ E
   by_cases hin:-9223372036854775808≤T∧T≤9223372036854775807
   ·rw [decide_eq_true hin,if_pos rfl] at h5
    have e1:T / 18446744073709551616 % 18446744073709551616=0:=by split at hpos <;> omega
    rw [e1,show ((0:Int) == 0)=true from rfl,if_pos rfl]
    rw [show (if T % 18446744073709551616 < 9223372036854775808 then T % 18446744073709551616 else T % 18446744073709551616 - 18446744073709551616)=T by split at hpos <;> split <;> omega]
    exact h5
   ·rw [decide_eq_false hin,if_neg (by decide)] at h5
    rw [show (T / 18446744073709551616 % 18446744073709551616 == 0)=false by rw [eqI,decide_eq_false_iff_not]; split at hpos <;> omega,if_neg (by decide)]
    exact h5
end Gx
namespace Gx
open Go Go.Proofs Go.Shelf Go.RowKit Go.Lib
set_option linter.unusedVariables false
set_option linter.unusedSimpArgs false
set_option maxRecDepth 100000
def sum2 (n:Int):Int × Int:=if inI n=true then (n,0) else (0,7)
theorem KJ7 {x y:Int} {h:Heap} {Q:Int × Int→Heap→Prop} (hx:I64 x) (hy:I64 y) (H:Q (sum2 (x+y)) h):(Ui x y).wp h Q:=by
 unfold I64 at hx hy
 unfold Ui
 unfold sum2 inI at H
 rw [IntKind.wrap_i64 (9223372036854775807 - y),IntKind.wrap_i64 (-9223372036854775808 - y)]
 refine KFt ?_
 by_cases h1:y > 0∧x > (9223372036854775807 - y+9223372036854775808) % 18446744073709551616 - 9223372036854775808
 ·rw [decide_eq_true h1]
  refine Y5 rfl (Zc (iteT rfl (KF ?_)))
  rw [if_neg (by rw [decide_eq_true_iff]; omega)] at H
  exact H
 ·rw [decide_eq_false h1]
  refine NW rfl (ZZ (KFt (Zc ?_)))
  by_cases h2:y < 0∧x < (-9223372036854775808 - y+9223372036854775808) % 18446744073709551616 - 9223372036854775808
  ·rw [decide_eq_true h2]
   refine iteT rfl (KF ?_)
   rw [if_neg (by rw [decide_eq_true_iff]; omega)] at H
   exact H
  ·rw [decide_eq_false h2]
   refine iteF rfl (KF ?_)
   rw [if_pos (by rw [decide_eq_true_iff]; omega)] at H
   rw [w64 (by omega) (by omega)]
   exact H
structure Rds (h:Heap) (r:Sl) (l:List Int):Prop where
 len:r.len=l.length
 cap:r.len≤r.cap
 at_:Gg h r.base (l.map iv)
theorem Rds.hd {β:Type} {h:Heap} {Q:β→Heap→Prop} {r:Sl} {n:Int} {l:List Int} {f:Int→M β} (R:Rds h r (n::l)) (H:(f n).wp h Q):(ixL r 0 1>>=fun a=>ldI .i64 a>>=f).wp h Q:=by
 have hl:=R.len
 rw [List.length_cons] at hl
 rcases R.at_ with h1 | ⟨a,ha,hc⟩
 ·cases h1
 ·exact Gi (by decide) (by omega) ha (Jx (hc 0 (iv n) rfl) H)
theorem Rds.tl {β:Type} {h:Heap} {Q:β→Heap→Prop} {r:Sl} {n:Int} {l:List Int} {f:Sl→M β} (R:Rds h r (n::l)) (H:∀ r',Rds h r' l→(f r').wp h Q):(slL r 1 (r.len:Int) 1>>=f).wp h Q:=by
 have hl:=R.len
 have hc:=R.cap
 rw [List.length_cons] at hl
 refine KGI (by decide) (by omega) (by omega) (H _ ⟨by show (r.len:Int).toNat - (1:Int).toNat=_; omega,by show (r.len:Int).toNat - (1:Int).toNat≤r.cap - (1:Int).toNat; omega,?_⟩)
 show Gg h (if r.cap=(1:Int).toNat then r.base else r.base.map (·.add ((1:Int).toNat * 1))) _
 split
 ·rename_i h1
  refine .inl ?_
  have:l.length=0:=by have:(1:Int).toNat=1:=rfl; omega
  rw [List.length_eq_zero_iff.1 this]; rfl
 ·rcases R.at_ with h1 | ⟨a,ha,hr⟩
  ·cases h1
  ·refine .inr ⟨a.add 1,by rw [ha]; rfl,fun j v hj=>?_⟩
   rw [Addr.add_add,Nat.add_comm]
   exact hr (j+1) v hj
theorem KJe {l:List Int} (h:∀ n ∈ l,n < 0):sumI l≤0:=by
 induction l with
 | nil=>exact Int.le_refl _
 | cons n l ih =>
  have:=ih (fun m hm=>h m (List.mem_cons_of_mem _ hm))
  have:=h n List.mem_cons_self
  rw [sumI]; omega
theorem KJf {l:List Int} (h:∀ n ∈ l,0≤n):0≤sumI l:=by
 induction l with
 | nil=>exact Int.le_refl _
 | cons n l ih =>
  have:=ih (fun m hm=>h m (List.mem_cons_of_mem _ hm))
  have:=h n List.mem_cons_self
  rw [sumI]; omega
theorem KLI {β:Type} {c d:Prop} [Decidable c] [Decidable d] {h:Heap} {Q:β→Heap→Prop} {f:Bool→M β} (H:(f (decide (c∨d))).wp h Q):(M.ite (decide c) (M.pure true) (M.pure (decide d))>>=f).wp h Q:=by
 refine KHR (fun hc=>Zc ?_) (fun hc=>Zc ?_)
 ·have hc:=of_decide_eq_true hc
  rwa [show true=decide (c∨d) from (decide_eq_true (Or.inl hc)).symm]
 ·have hc:=of_decide_eq_false hc
  rwa [show decide d=decide (c∨d) from decide_eq_decide.2 ⟨Or.inr,fun h=>h.resolve_left hc⟩]
theorem KNJ {h0 h:Heap} {Q:Int × Int→Heap→Prop} {x y:Sl} {Lo Hi:List Int} {T:Int} (E:Ext h0 h) (hx:Rds h x Lo) (hy:Rds h y Hi) (hlo:∀ n ∈ Lo,n < 0) (hhi:∀ n ∈ Hi,0≤n) (hi:∀ n ∈ Lo++Hi,I64 n) (hT:sumI Lo+sumI Hi=T) (H:∀ h',Ext h0 h'→Q (sum2 T) h') :
  (M.loop VA (x,y,0)).wp h Q:=by
 refine M.loop_inv (fun (t:Sl × Sl × Int) hh=>hh=h∧∃ Lo Hi,Rds h t.1 Lo∧Rds h t.2.1 Hi∧(∀ n ∈ Lo,n < 0)∧(∀ n ∈ Hi,0≤n)∧(∀ n ∈ Lo++Hi,I64 n)∧I64 t.2.2∧t.2.2+sumI Lo+sumI Hi=T) (fun t _=>t.1.len+t.2.1.len) ?_
  ⟨rfl,Lo,Hi,hx,hy,hlo,hhi,hi,(⟨by decide,by decide⟩:I64 0),by dsimp only; omega⟩
 clear hx hy hlo hhi hi hT
 rintro ⟨x,y,s⟩ hh ⟨rfl,Lo,Hi,hx,hy,hlo,hhi,hi,hs,hT⟩ self hself
 dsimp only at hx hy hs hT
 have hxl:=hx.len
 have hyl:=hy.len
 have hsb:=hs
 unfold I64 at hsb
 unfold VA
 dsimp only
 refine KLI ?_
 refine KZ (fun hc=>?_) (fun hc=>?_)
 ·have hc:=of_decide_eq_true hc
  have key:(M.ite (decide ((x.len:Int) > 0)) (M.ite (decide (s ≥ 0)) (M.pure true) (M.pure ((y.len:Int) == 0))>>=fun x55=>M.pure x55) (M.pure false):M Bool)=(M.pure (decide (0 < x.len∧(0≤s∨y.len=0))):M Bool):=by
   by_cases h1:0 < x.len
   ·rw [decide_eq_true (show (x.len:Int) > 0 by omega)]
    show (M.ite (decide (s ≥ 0)) (M.pure true) (M.pure ((y.len:Int) == 0))>>=fun x55=>M.pure x55:M Bool)=_
    by_cases h2:0≤s
    ·rw [decide_eq_true (show s ≥ 0 from h2),decide_eq_true ⟨h1,Or.inl h2⟩]; rfl
    ·rw [decide_eq_false (show ¬ s ≥ 0 from h2),eqI]
     show (M.pure (decide ((y.len:Int)=0)):M Bool)=_
     congr 1
     exact decide_eq_decide.2 ⟨fun h=>⟨h1,Or.inr (by omega)⟩,fun h=>by rcases h.2 with h | h <;> omega⟩
   ·rw [decide_eq_false (show ¬ (x.len:Int) > 0 by omega),decide_eq_false (show ¬ (0 < x.len∧(0≤s∨y.len=0)) from fun h=>h1 h.1)]; rfl
  rw [key]
  refine Zc (KZ (fun hd=>?_) (fun hd=>?_))
  ·have hd:=of_decide_eq_true hd
   cases Lo with
   | nil=>rw [List.length_nil] at hxl; omega
   | cons n Lo =>
    have hn:=hlo n List.mem_cons_self
    have hni:=hi n (by simp)
    have hnb:=hni
    unfold I64 at hnb
    rw [sumI] at hT
    have hL:=KJe (fun m hm=>hlo m (List.mem_cons_of_mem _ hm))
    refine hx.hd (KJ (KJ7 hs hni ?_))
    unfold sum2 inI
    by_cases hin:-9223372036854775808≤s+n∧s+n≤9223372036854775807
    ·rw [decide_eq_true hin,if_pos rfl]
     refine iteF rfl (hx.tl (fun x' hx'=>?_))
     have hx'l:=hx'.len
     rw [List.length_cons] at hxl
     refine hself _ _ ⟨rfl,Lo,Hi,hx',hy,fun m hm=>hlo m (List.mem_cons_of_mem _ hm),hhi,fun m hm=>hi m (List.mem_cons_of_mem _ hm),⟨hin.1,hin.2⟩,by dsimp only; omega⟩ (by dsimp only; omega)
    ·rw [decide_eq_false hin,if_neg (by decide)]
     refine iteT rfl (KF ?_)
     have h5:=H hh E
     unfold sum2 inI at h5
     have hH:Hi=[]:=by
      rcases hd.2 with h6 | h6
      ·omega
      ·exact List.length_eq_zero_iff.1 (by omega)
     subst hH
     rw [sumI] at hT
     rw [decide_eq_false (by omega),if_neg (by decide)] at h5
     exact h5
  ·have hd:=of_decide_eq_false hd
   cases Hi with
   | nil=>rw [List.length_nil] at hyl; exfalso; exact hd ⟨by omega,Or.inr hyl⟩
   | cons n Hi =>
    have hn:=hhi n List.mem_cons_self
    have hni:=hi n (by simp)
    have hnb:=hni
    unfold I64 at hnb
    rw [sumI] at hT
    have hH:=KJf (fun m hm=>hhi m (List.mem_cons_of_mem _ hm))
    refine hy.hd (KJ (KJ7 hs hni ?_))
    unfold sum2 inI
    by_cases hin:-9223372036854775808≤s+n∧s+n≤9223372036854775807
    ·rw [decide_eq_true hin,if_pos rfl]
     refine iteF rfl (hy.tl (fun y' hy'=>?_))
     have hy'l:=hy'.len
     rw [List.length_cons] at hyl
     refine hself _ _ ⟨rfl,Lo,Hi,hx,hy',hlo,fun m hm=>hhi m (List.mem_cons_of_mem _ hm),fun m hm=>hi m (by rcases List.mem_append.1 hm with h | h <;> simp [h]),⟨hin.1,hin.2⟩,by dsimp only; omega⟩ (by dsimp only; omega)
    ·rw [decide_eq_false hin,if_neg (by decide)]
     refine iteT rfl (KF ?_)
     have h5:=H hh E
     unfold sum2 inI at h5
     have hL:Lo=[]:=by
      rcases Nat.eq_zero_or_pos x.len with h6 | h6
      ·exact List.length_eq_zero_iff.1 (by omega)
      ·exact absurd ⟨h6,Or.inl (by omega)⟩ hd
     subst hL
     rw [sumI] at hT
     rw [decide_eq_false (by omega),if_neg (by decide)] at h5
     exact h5
 ·have hc:=of_decide_eq_false hc
  have h1:Lo=[]:=List.length_eq_zero_iff.1 (by omega)
  have h2:Hi=[]:=List.length_eq_zero_iff.1 (by omega)
  subst h1; subst h2
  rw [sumI] at hT
  refine KF ?_
  have h5:=H hh E
  unfold sum2 inI at h5
  rw [show T=s by omega,decide_eq_true (by omega),if_pos rfl] at h5
  exact h5
theorem KIS {lo:Nat} {h:Heap} {Q:Int × Int→Heap→Prop} {r:Sl} {l:List Int} (G:Gw lo h r 1 (l.map iv)) (hl:l.length≤1099511627776) (hi:∀ n ∈ l,I64 n) (H:∀ h',Ext h h'→Q (sumT l) h'):(VQ r).wp h Q:=by
 have hrl:=G.len
 rw [List.length_map,Nat.mul_one] at hrl
 unfold VQ
 refine M.loop_inv (fun (t:Sl × Sl × Int) hh=>∃ (i:Nat) (Lo Hi:List Int),t.2.2=(i:Int)∧i≤l.length∧Gw h.size hh t.1 1 (Lo.map iv)∧Gw h.size hh t.2.1 1 (Hi.map iv)∧(∀ b,Sl.on t.1 b→¬ Sl.on t.2.1 b)∧(∀ n ∈ Lo,n < 0)∧(∀ n ∈ Hi,0≤n)∧(∀ n ∈ Lo++Hi,I64 n)∧sumI Lo+sumI Hi=sumI (l.take i)∧Lo.length+Hi.length=i∧Ext h hh) (fun t _=>((l.length:Int) - t.2.2).toNat) ?_
  ⟨0,[],[],rfl,Nat.zero_le _,Gw.nil _ _ _,Gw.nil _ _ _,(fun b hb=>by obtain ⟨a,ha,_⟩:=hb; cases ha),by simp,by simp,by simp,rfl,rfl,Ext.refl _⟩
 rintro ⟨x,y,t⟩ hh ⟨i,Lo,Hi,ht,hil,Gx',Gy,dis,hlo,hhi,hI,hT,hLH,E⟩ self hself
 dsimp only at ht Gx' Gy dis
 subst ht
 unfold Wn
 dsimp only
 have hE:=E.size
 refine KZ (fun hc=>?_) (fun hc=>?_)
 ·have hlt:i < l.length:=by have:=of_decide_eq_true hc; omega
  have hni:=hi _ (List.getElem_mem hlt)
  refine (G.ext E).ixI hlt rfl ?_
  have hT2:sumI (l.take (i+1))=sumI (l.take i)+l[i]:=by rw [List.take_succ_eq_append_getElem hlt,KAD]
  refine KZ (fun hneg=>?_) (fun hpos=>?_)
  ·have hneg:=of_decide_eq_true hneg
   refine (G.ext E).ixI hlt rfl (KJd Gx' hE (by omega) (fun h2 x2 G2 hs2 same2 on2=>?_))
   unfold UR
   rw [w64 (by omega) (by omega)]
   have E2:Ext h h2:=⟨by omega,fun k hk=>(same2 k (by omega) (fun ho=>by have:=(Gx'.lt ho).2; omega)).trans (E.same k hk)⟩
   refine hself _ _ ⟨i+1,Lo++[l[i]],Hi,by simp,by omega,G2,Gy.same (fun k hk=>same2 k (Gy.lt hk).1 (fun ho=>dis k ho hk)),fun b hb hb2=>?_,fun m hm=>?_,hhi,fun m hm=>?_,by rw [KAD,hT2]; omega,by rw [List.length_append,List.length_singleton]; omega,E2⟩ (by dsimp only; omega)
   ·dsimp only at hb hb2
    rcases on2 b hb with h5 | h5
    ·exact dis b h5 hb2
    ·have:=(Gy.lt hb2).1; omega
   ·rcases List.mem_append.1 hm with h5 | h5
    ·exact hlo m h5
    ·rw [List.mem_singleton.1 h5]; exact hneg
   ·rcases List.mem_append.1 hm with h5 | h5
    ·rcases List.mem_append.1 h5 with h6 | h6
     ·exact hI m (List.mem_append_left _ h6)
     ·rw [List.mem_singleton.1 h6]; exact hni
    ·exact hI m (List.mem_append_right _ h5)
  ·have hpos:=of_decide_eq_false hpos
   refine (G.ext E).ixI hlt rfl (KJd Gy hE (by omega) (fun h2 y2 G2 hs2 same2 on2=>?_))
   unfold UR
   rw [w64 (by omega) (by omega)]
   have E2:Ext h h2:=⟨by omega,fun k hk=>(same2 k (by omega) (fun ho=>by have:=(Gy.lt ho).2; omega)).trans (E.same k hk)⟩
   refine hself _ _ ⟨i+1,Lo,Hi++[l[i]],by simp,by omega,Gx'.same (fun k hk=>same2 k (Gx'.lt hk).1 (fun ho=>dis k hk ho)),G2,fun b hb hb2=>?_,hlo,fun m hm=>?_,fun m hm=>?_,by rw [KAD,hT2]; omega,by rw [List.length_append,List.length_singleton]; omega,E2⟩ (by dsimp only; omega)
   ·dsimp only at hb hb2
    rcases on2 b hb2 with h5 | h5
    ·exact dis b hb h5
    ·have:=(Gx'.lt hb).1; omega
   ·rcases List.mem_append.1 hm with h5 | h5
    ·exact hhi m h5
    ·rw [List.mem_singleton.1 h5]; omega
   ·rcases List.mem_append.1 hm with h5 | h5
    ·exact hI m (List.mem_append_left _ h5)
    ·rcases List.mem_append.1 h5 with h6 | h6
     ·exact hI m (List.mem_append_right _ h6)
     ·rw [List.mem_singleton.1 h6]; exact hni
 ·have hge:i=l.length:=by have:=of_decide_eq_false hc; omega
  rw [hge,List.take_of_length_le (Nat.le_refl _)] at hT
  have rd:∀ {z:Sl} {L:List Int},Gw h.size hh z 1 (L.map iv)→Rds hh z L:=fun g=>⟨by have:=g.len; rw [List.length_map,Nat.mul_one] at this; omega,g.cap,g.reads⟩
  exact KNJ E (rd Gx') (rd Gy) hlo hhi hI hT (fun h' e=>H h' e)
end Gx
