/- Own proofs: what those Lean programs compute. No condition. -/
import Derived.Test.YthelieedlghccaaGreatDoorP0
import Derived.Test.YthelieedlghccaaGreatDoorP1
import Derived.Test.YthelieedlghccaaGreatDoorP2
import Derived.Test.YthelieedlghccaaGreatDoorP3
import Derived.Test.YthelieedlghccaaGreatDoorP4
import Derived.Test.YthelieedlghccaaGreatDoorP5
import Derived.Test.YthelieedlghccaaGreatDoorP6
set_option linter.unusedVariables false
set_option linter.unusedSimpArgs false
namespace Gx
open Go Go.Proofs Go.Shelf Go.RowKit Go.Lib
set_option linter.unusedVariables false
set_option linter.unusedSimpArgs false
set_option maxRecDepth 100000
theorem KLI (S:Nat→Prop) (h:Heap) {k n:Int} {s:List UInt8} (hk:I64 k) (hn:I64 n) (hs:s.length≤9223372036854775807):ZK S h (.mk k n s []) (Jv k n s Sl.nil) :=
 ZK.eq.2 ⟨Sl.nil,rfl,hk,hn,hs,rfl,Nat.le_refl _,by decide,by rw [Vr]; trivial⟩
theorem KHQ {S:Nat→Prop} {h:Heap} {k n:Int} {l:List Vl} {x:Sl} (hk:I64 k) (hn:I64 n) (hl:VsRepS S h x l):ZK S h (.mk k n [] l) (Jv k n [] x) :=
 ZK.eq.2 ⟨x,rfl,hk,hn,by decide,hl⟩
theorem KMC {α:Type} {h:Heap} {Q:α ⊕ Array Value→Heap→Prop} {g:Nat} {z cs:Array Value} {t:TypeId} (hg:h[g]?=some (.cells z t (0,0))) (hz:z.size=4) (hc:cs.size=4) (h1:∀ v ∈ cs.toList,one v=true)
  (H:∀ h',Upd g h h'→Q (.inr cs) h'):(M.need (cs.size=4)>>=fun _=>stG ⟨g,0,none⟩ cs>>=fun _=>ldG 4 ⟨g,0,none⟩>>=fun r=>(M.pure (.inr r):M (α ⊕ Array Value))).wp h Q:=by
 refine JA hc (stR hg (by omega) h1 (fun h' u g'=>?_))
 have hl:lay z 0 cs.toList=cs:=by
  rw [ZD (by rw [Array.length_toList]; omega)]
 rw [hl] at g'
 exact ldR g' hc (KG (H _ u))
theorem KNE {β:Type} {lo:Nat} {S:Nat→Prop} {h:Heap} {Q:β→Heap→Prop} {r:Sl} {css:List (Array Value)} {l:List Vl} {v:Vl} {c:Array Value} {f:Sl→M β} (G:VGw lo S h r css l) (hS:∀ k,S k→k < h.size∧¬ Sl.on r k) (hv:ZK S h v c) (hlo:lo≤h.size) (hm:l.length≤1099511627776)
  (H:∀ h' r',VGw lo S h' r' (css++[c]) (l++[v])→h.size≤h'.size→(∀ i,i < h.size→¬ Sl.on r i→h'[i]?=h[i]?)→(∀ i,Sl.on r' i→Sl.on r i∨h.size≤i)→(f r').wp h' Q) :
  (GL 4 1 (#[.int .i64 0,.int .i64 0,.string ByteArray.empty,.slice none 0 0]:Array Value) [(0,.agg c)]>>=fun y=>bdL KB 1 y>>=fun x=>apL KB 4 56 (#[.int .i64 0,.int .i64 0,.string ByteArray.empty,.slice none 0 0]:Array Value) r x>>=f).wp h Q:=by
 have hc:=hv.size
 refine KBi hc (KAf ?_)
 have e1:=Ext.push h (.cells c KB)
 have g1:(h.push (.cells c KB))[h.size]?=some (.cells c KB (0,0)):=Ko
 generalize h.push (.cells c KB)=h1 at e1 g1 ⊢
 have hs1:=e1.size
 have G1:VGw lo S h1 r css l:=G.same (fun k hk=>e1.same k (G.gw.lt hk).1) (fun k hk=>e1.same k (hS k hk).1)
 refine KJ (KBm (l':=[v]) (css':=[c]) G1 (by omega) (fun k hk=>⟨by have:=(hS k hk).1; omega,(hS k hk).2⟩) (fun x hx=>by simp at hx; subst hx; exact ⟨hc,hv.to.one⟩) rfl rfl (.inr ⟨_,rfl,fun j u hj=>?_⟩) (fun j h1 h2=>?_) (by simp only [List.length_cons,List.length_nil]; omega) (fun h2 r2 G2 hs2 same2 on2=>?_))
 ·rw [Kg,Nat.zero_add,KS g1]
  have:Zx [c]=c.toList:=by simp [Zx]
  rw [this,Array.getElem?_toList] at hj
  exact hj
 ·have hj0:j=0:=by simp only [List.length_cons,List.length_nil] at h1; omega
  subst hj0
  exact hv.same (fun k hk=>e1.same k (hS k hk).1)
 ·exact H _ _ G2 (by omega) (fun i hi ho=>(same2 i (by omega) ho).trans (e1.same i hi)) (fun i hi=>(on2 i hi).imp id (fun h=>by omega))
abbrev HS (h h':Heap):Nat→Prop:=fun k=>h.size≤k∧k < h'.size
theorem KFa {h:Heap} {Q:Value ⊕ Array Value→Heap→Prop} {b i:Nat} {s:List UInt8} {k:Int} (R:Rd h b s i) (hi:i < s.length) (he:ErrV h) (hb:b≠5)
  (H1:∀ n j h',KAQ k s i=.ok (.mk k n [] [],j)→Kb b h h'→Rd h' b s j→Q (.inr (Jv k n [] Sl.nil)) h') (H2:∀ e h',KAQ k s i=.error e→Kb b h h'→Q (.inl (Nu e)) h'):(Z7 (some ⟨b,0,none⟩) k).wp h Q:=by
 unfold Z7
 refine ZW (fun h1 e1 hs1 g1=>?_)
 refine KCW (R.ext e1) hi (fun h2 u2 R2=>?_)
 have hbl:=R.lt
 have K2:Kb b h h2:=(Km.ext e1).trans (Km.upd u2 rfl)
 have g2:=(u2.ne h.size (by omega)).trans g1
 refine Gc (YW (lit:=[91]) R2 (by decide) (fun j h3 hj K3 R3=>?_) (fun e h3 hj K3=>H2 e h3 (by unfold KAQ; rw [hj]) (K2.trans K3)))
 have g3:=K3.blk g2 (show ¬ h.size=b by omega)
 have K3':=K2.trans K3
 refine Gc (KCX R3 (he.km K3' hb) hb (fun n j2 h4 hn K4 R4=>?_) (fun e h4 hn K4=>H2 e h4 (by unfold KAQ; rw [hj]; dsimp only; rw [hn]) (K3'.trans K4)))
 have g4:=K4.blk g3 (show ¬ h.size=b by omega)
 have K4':=K3'.trans K4
 have hs4:=K4'.size
 refine ZW (fun h5 e5 hs5 g5=>?_)
 refine JA rfl (stR g5 (Nat.le_refl 4) (by intro v hv; simp at hv; rcases hv with rfl | rfl | rfl | rfl <;> rfl) (fun h6 u6 g6=>?_))
 have hl6:lay (#[.int .i64 0,.int .i64 0,.string ByteArray.empty,.slice none 0 0]:Array Value) 0 (#[.int .i64 k,.int .i64 n,.string ByteArray.empty,.slice none 0 0]:Array Value).toList=Jv k n [] Sl.nil:=by
  exact ZD (cs:=vz) (vs:=(Jv k n [] Sl.nil).toList) rfl
 rw [hl6] at g6
 have hlt4:h.size < h4.size:=JX g4
 have K6:Kb b h h6:=⟨by have:=u6.size; have:=e5.size; omega,fun q hq hqb=>(u6.ne q (by omega)).trans ((e5.same q (by omega)).trans (K4'.same q hq hqb))⟩
 have R6:Rd h6 b s j2:=⟨(u6.ne b (by have:=R4.lt; omega)).trans (e5.blk R4.blk),R4.le,R4.small⟩
 have g6':h6[h.size]?=some (.cells (#[.int .i64 0,.int .i64 0,.string ByteArray.empty,.slice none 0 0]:Array Value) KB (0,0)):=(u6.ne h.size (by omega)).trans (e5.blk g4)
 refine Gc (YW (lit:=[93]) R6 (by decide) (fun j3 h7 hj3 K7 R7=>?_) (fun e h7 hj3 K7=>H2 e h7 (by unfold KAQ; rw [hj]; dsimp only; rw [hn]; dsimp only; rw [hj3]) (K6.trans K7)))
 have g7:=K7.blk g6 (show ¬ h4.size=b by have:=R4.lt; omega)
 have g7':=K7.blk g6' (show ¬ h.size=b by omega)
 refine ldR g7 rfl ?_
 refine KMC g7' rfl rfl (UV _ _ _ _) (fun h8 u8=>H1 n j3 h8 ?_ ?_ ?_)
 ·unfold KAQ; rw [hj]; dsimp only; rw [hn]; dsimp only; rw [hj3]
 ·have:=(K6.trans K7)
  exact ⟨by rw [u8.size]; exact this.size,fun q hq hqb=>(u8.ne q (by omega)).trans (this.same q hq hqb)⟩
 ·exact ⟨(u8.ne b (by omega)).trans R7.blk,R7.le,R7.small⟩
theorem KOb {β:Type} {h:Heap} {Q:β→Heap→Prop} {cs:Array Value} {f:Array Value→M β} (hc:cs.size=4) (h1:∀ v ∈ cs.toList,one v=true) (H:∀ h',Ext h h'→(f cs).wp h' Q) :
  ((mkB KB (#[.int .i64 0,.int .i64 0,.string ByteArray.empty,.slice none 0 0]:Array Value)>>=fun x=>M.need (cs.size=4)>>=fun _=>stG x cs>>=fun _=>ldG 4 x>>=fun r=>(M.pure r:M (Array Value)))>>=f).wp h Q:=by
 refine Jb (ZW (fun h1 e1 hs1 g1=>Jb (JA hc (Jb (stR g1 (by rw [hc]; exact Nat.le_refl 4) ‹_› (fun h2 u2 g2=>Jb ?_))))))
 rw [ZD (cs:=vz) (vs:=cs.toList) (by rw [Array.length_toList,hc]; rfl)] at g2
 exact ldR g2 hc (Jy (H _ (e1.upd u2 (Nat.le_refl _))))
theorem KOc {β:Type} {h:Heap} {Q:β→Heap→Prop} {n:Int} {f:Array Value→M β} (H:∀ h',Ext h h'→(f (Jv 1 n [] Sl.nil)).wp h' Q):(KCK n>>=f).wp h Q:=KOb (cs:=Jv 1 n [] Sl.nil) rfl (UV _ _ _ _) H
theorem KOd {β:Type} {h:Heap} {Q:β→Heap→Prop} {s:List UInt8} {f:Array Value→M β} (H:∀ h',Ext h h'→(f (Jv 2 0 s Sl.nil)).wp h' Q):(KCL (bs s)>>=f).wp h Q:=KOb (cs:=Jv 2 0 s Sl.nil) rfl (UV _ _ _ _) H
theorem KJe {β:Type} {h:Heap} {Q:β→Heap→Prop} {c:Bool} {f:Array Value→M β} (H:∀ h',Ext h h'→(f (Jv 3 (if c=true then 1 else 0) [] Sl.nil)).wp h' Q):(GT c>>=f).wp h Q:=by
 unfold GT
 refine Jb (ZW (fun h1 e1 hs1 g1=>Jb (ZW (fun h2 e2 hs2 g2=>Jb (JA rfl (Jb (stR (cs:=vz) (vs:=Jv 3 0 [] Sl.nil) g2 (Nat.le_refl 4) (UV _ _ _ _) (fun h3 u3 g3=>?_))))))))
 rw [ZD (cs:=vz) (vs:=(Jv 3 0 [] Sl.nil).toList) rfl] at g3
 have key:∀ (n:Int) (h4:Heap),Upd h1.size h2 h4→h4[h1.size]?=some (.cells (Jv 3 n [] Sl.nil) KB (0,0))→(∀ h',Ext h h'→(f (Jv 3 n [] Sl.nil)).wp h' Q)→(WR ⟨h.size,0,none⟩ ⟨h1.size,0,none⟩>>=f).wp h4 Q:=by
  intro n h4 u4 g4 HH
  unfold WR
  have g1':h4[h.size]?=some (.cells vz KB (0,0)):=(u4.ne _ (by omega)).trans (e2.blk g1)
  refine Jb (ldR g4 rfl (Jb (JA rfl (Jb (stR g1' (Nat.le_refl 4) (UV _ _ _ _) (fun h5 u5 g5=>Jb ?_))))))
  rw [ZD (cs:=vz) (vs:=(Jv 3 n [] Sl.nil).toList) rfl] at g5
  refine ldR g5 rfl (Jy (HH _ ?_))
  have a4:Ext h h4:=(e1.trans e2).upd u4 (by omega)
  exact a4.upd u5 (Nat.le_refl _)
 refine KMn (fun hc=>?_) (fun hc=>?_)
 ·subst hc
  refine Jb (Vj (x:=.int .i64 0) (by rw [Kg,KS g3]; rfl) (by rw [Kg]; exact KV g3) rfl ?_)
  rw [Kg,Nat.zero_add]
  exact key 1 _ (u3.trans (Upd.hset _ _ _ _)) (V5 g3) H
 ·subst hc
  exact key 0 _ u3 g3 H
def KOe (s:List UInt8) (d:Nat):Prop:=∀ (i:Nat) (h:Heap) (Q:Value ⊕ Array Value→Heap→Prop) (b:Nat),Rd h b s i→ErrV h→b≠5 →
 (∀ v j h' c,pval s d i=.ok (v,j)→Kb b h h'→Rd h' b s j→ZK (HS h h') h' v c→Q (.inr c) h') →
 (∀ e h',pval s d i=.error e→Kb b h h'→Q (.inl (Nu e)) h')→(JZ (some ⟨b,0,none⟩) ((9 - d:Nat):Int)).wp h Q
theorem KFb {s:List UInt8} {d:Nat} (hd:d≤8) (IH:KOe s d) {en:UInt8} (hen:en≠0) {two:Bool} {i:Nat} {h:Heap} {Q:Value ⊕ Sl→Heap→Prop} {b:Nat} (R:Rd h b s i) (hi:i < s.length) (he:ErrV h) (hb:b≠5)
  (H1:∀ l j h' r,VS (pval s d) en two s (s.length - i) [] (i+1)=.ok (l,j)→Kb b h h'→Rd h' b s j→VsRepS (HS h h') h' r l→Q (.inr r) h')
  (H2:∀ e h',VS (pval s d) en two s (s.length - i) [] (i+1)=.error e→Kb b h h'→Q (.inl (Nu e)) h') :
  (VR (some ⟨b,0,none⟩) ((8 - d:Nat):Int) (en.toNat:Int) (if two=true then 2 else 1)).wp h Q:=by
 unfold VR
 have hP:=KGY s d
 refine KCW R hi (fun h1 u1 R1=>?_)
 have K1:Kb b h h1:=Km.upd u1 rfl
 have hs1:=u1.size
 have hb1:=R1.lt
 refine M.loop_inv (fun (x:Sl) hh=>∃ (l:List Vl) (css:List (Array Value)) (f i':Nat),s.length < f+i'∧l.length≤i'∧Kb b h1 hh∧Rd hh b s i'∧VGw h1.size (fun k=>h1.size≤k∧k < hh.size∧¬ Sl.on x k) hh x css l∧VS (pval s d) en two s f l i'=VS (pval s d) en two s (s.length - i) [] (i+1))
  (fun x _=>s.length+1 - x.len) ?_ ⟨[],[],_,i+1,by omega,Nat.zero_le _,Km.refl _ _,R1,VGw.nil _ _ _,rfl⟩
 rintro x hh ⟨l,css,f,i',hf,hli,K,R',G,hm⟩ self hself
 have hsm:=R'.small
 have hle:=R'.le
 have hxl:x.len=l.length:=by rw [G.gw.len4 G.w4,G.len]
 obtain ⟨f,rfl⟩:∃ g,f=g+1:=⟨f - 1,by omega⟩
 rw [VS] at hm
 have hKs:=K.size
 unfold UL
 refine KJ (Un R' ?_)
 rw [show (((KR s i').toNat:Int) != (en.toNat:Int))=!decide (KR s i'=en) by rw [← u8_c (d:=en) (n:=(en.toNat:Int)) rfl]; rfl]
 refine Kc (fun hne=>?_) (fun heq=>?_)
 ·have hne:KR s i'≠en:=by simpa using hne
  rw [if_neg hne] at hm
  have test:∀ (l2:List Vl) (css2:List (Array Value)) (i2:Nat) (h2:Heap) (x2:Sl),i' < i2→l.length < l2.length→l2.length≤i2→Kb b h1 h2→Rd h2 b s i2→VGw h1.size (fun k=>h1.size≤k∧k < h2.size∧¬ Sl.on x2 k) h2 x2 css2 l2 →
    (if KR s i2≠en∧KR s i2≠44 then .error i2 else VS (pval s d) en two s f l2 i2)=VS (pval s d) en two s (s.length - i) [] (i+1)→(Z8 self (some ⟨b,0,none⟩) (en.toNat:Int) x2).wp h2 Q:=by
   intro l2 css2 i2 h2 x2 hi2 hl2 hli2 K2 R2 G2 hm2
   unfold Z8
   refine KJ (Un R2 ?_)
   rw [show (((KR s i2).toNat:Int) != (en.toNat:Int))=!decide (KR s i2=en) by rw [← u8_c (d:=en) (n:=(en.toNat:Int)) rfl]; rfl]
   refine Nr (c:=!decide (KR s i2=44)) (fun _ Q' hq=>KG ?_) ?_
   ·rw [show (((KR s i2).toNat:Int) != 44)=!decide (KR s i2=44) by rw [← u8_c (d:=44) (n:=44) rfl]; rfl]
    exact hq
   ·refine Kc (fun hbad=>?_) (fun hok=>?_)
    ·have hbad:KR s i2≠en∧KR s i2≠44:=by simpa using hbad
     rw [if_pos hbad] at hm2
     exact Vd R2 (H2 _ _ hm2.symm (K1.trans K2))
    ·have hok:¬ (KR s i2≠en∧KR s i2≠44):=by
      intro hh2
      rw [decide_eq_false hh2.1,decide_eq_false hh2.2] at hok
      cases hok
     rw [if_neg hok] at hm2
     have hx2:x2.len=l2.length:=by rw [G2.gw.len4 G2.w4,G2.len]
     have:=R2.le
     exact hself _ _ ⟨l2,css2,f,i2,by omega,hli2,K2,R2,G2,hm2⟩ (by omega)
  have one_:∀ {l2:List Vl} {css2:List (Array Value)} {i2:Nat} {h2:Heap} {x2:Sl} {Qs:Value ⊕ Sl→Heap→Prop} {F:Sl→M (Value ⊕ Sl)},l2.length≤i2→Kb b h1 h2→Rd h2 b s i2→VGw h1.size (fun k=>h1.size≤k∧k < h2.size∧¬ Sl.on x2 k) h2 x2 css2 l2 →
    (∀ v j h3 x3 css3,pval s d i2=.ok (v,j)→Kb b h1 h3→Rd h3 b s j→VGw h1.size (fun k=>h1.size≤k∧k < h3.size∧¬ Sl.on x3 k) h3 x3 css3 (l2++[v])→(F x3).wp h3 Qs) →
    (∀ e h3,pval s d i2=.error e→Kb b h1 h3→Qs (.inl (Nu e)) h3) →
    (thr (KBu Go.Proofs.Tryz.prog VF #[.pointer (some ⟨b,0,none⟩),.int .i64 (IntKind.wrap .i64 (((8 - d:Nat):Int)+1))] (fun r:Array Value=>.agg r)) fun Xx24 =>
     (GL 4 1 (#[.int .i64 0,.int .i64 0,.string ByteArray.empty,.slice none 0 0]:Array Value) [(0,.agg Xx24)]>>=fun y=>bdL KB 1 y>>=fun x=>apL KB 4 56 (#[.int .i64 0,.int .i64 0,.string ByteArray.empty,.slice none 0 0]:Array Value) x2 x>>=F)).wp h2 Qs:=by
   intro l2 css2 i2 h2 x2 Qs F hli2 K2 R2 G2 HF HE
   have hle2:=R2.le
   rw [w64 (by omega) (by omega),show (((8 - d:Nat):Int)+1)=((9 - d:Nat):Int) by omega]
   have hK2:=K2.size
   refine Gc (KDu (Yt _ _) (IH i2 h2 _ b R2 ((he.km K1 hb).km K2 hb) hb (fun v j h3 c hv K3 R3 V3=>?_) (fun e h3 hv K3=>HE e h3 hv (K2.trans K3))))
   have hK3:=K3.size
   have G3:VGw h1.size (fun k=>h1.size≤k∧k < h3.size∧¬ Sl.on x2 k) h3 x2 css2 l2 :=
    (G2.same (fun k hk=>K3.same k (G2.gw.lt hk).1 (fun e=>by have:=(G2.gw.lt hk).2; omega)) (fun k hk=>K3.same k hk.2.1 (fun e=>by have:=hk.1; omega))).mono (fun k hk=>⟨hk.1,by have:=hk.2.1; omega,hk.2.2⟩)
   refine KNE G3 (fun k hk=>hk.2) (V3.mono (fun k hk=>⟨by have:=hk.1; omega,hk.2,fun ho=>by have:=(G2.gw.lt ho).1; have:=hk.1; omega⟩)) (by omega) (by omega) (fun h4 x4 G4 hs4 same4 on4=>?_)
   refine HF v j h4 x4 _ hv ⟨by omega,fun k hk hkb=>(same4 k (by omega) (fun ho=>by have:=(G2.gw.lt ho).2; omega)).trans ((K2.trans K3).same k hk hkb)⟩ ⟨?_,R3.le,R3.small⟩ (G4.mono (fun k hk=>⟨hk.1,by have:=hk.2.1; omega,fun ho=>(on4 k ho).elim hk.2.2 (fun h=>by have:=hk.2.1; omega)⟩))
   rw [same4 b (by omega) (fun ho=>by have:=(G2.gw.lt ho).2; omega)]
   exact R3.blk
  have body:∀ (i1:Nat) (h2:Heap),i'≤i1→Kb b h1 h2→Rd h2 b s i1→VGw h1.size (fun k=>h1.size≤k∧k < h2.size∧¬ Sl.on x k) h2 x css l →
    (match Xq (pval s d) two s i1 with
     | .error e=>.error e
     | .ok (vs,i2)=>if KR s i2≠en∧KR s i2≠44 then .error i2 else VS (pval s d) en two s f (l++vs) i2)=VS (pval s d) en two s (s.length - i) [] (i+1) →
    (Z9 self (some ⟨b,0,none⟩) ((8 - d:Nat):Int) (en.toNat:Int) (if two=true then 2 else 1) x).wp h2 Q:=by
   intro i1 h2 hi1 K2 R2 G2 hm2
   unfold Z9
   refine one_ (by omega) K2 R2 G2 (fun v j h3 x3 css3 hv K3 R3 G3=>?_) (fun e h3 hv K3=>?_)
   ·have hvj:=hP _ _ _ hv
    cases two with
    | false =>
     refine iteF rfl ?_
     have hpair:Xq (pval s d) false s i1=.ok ([v],j):=by unfold Xq; rw [hv]; rfl
     rw [hpair] at hm2
     exact test _ _ j h3 x3 (by omega) (by simp) (by rw [List.length_append,List.length_singleton]; omega) K3 R3 G3 hm2
    | true =>
     refine iteT rfl ?_
     refine Gc (YW (lit:=[58,32]) R3 (by decide) (fun j2 h4 hj2 K4 R4=>?_) (fun e h4 hj2 K4=>?_))
     ·have hj2':j2=j+2:=(U4 hj2).1
      have hK3:=K3.size
      have hK4:=K4.size
      have G4:VGw h1.size (fun k=>h1.size≤k∧k < h4.size∧¬ Sl.on x3 k) h4 x3 css3 (l++[v]) :=
       (G3.same (fun k hk=>K4.same k (G3.gw.lt hk).1 (fun e=>by have:=(G3.gw.lt hk).2; omega)) (fun k hk=>K4.same k hk.2.1 (fun e=>by have:=hk.1; omega))).mono (fun k hk=>⟨hk.1,by have:=hk.2.1; omega,hk.2.2⟩)
      refine one_ (by rw [List.length_append,List.length_singleton]; omega) (K3.trans K4) R4 G4 (fun w j3 h5 x5 css5 hw K5 R5 G5=>?_) (fun e h5 hw K5=>?_)
      ·have hwj:=hP _ _ _ hw
       have hpair:Xq (pval s d) true s i1=.ok ([v,w],j3):=by unfold Xq; rw [hv]; dsimp only; rw [if_pos rfl,hj2]; dsimp only; rw [hw]
       rw [hpair] at hm2
       rw [List.append_assoc] at G5
       exact test _ _ j3 h5 x5 (by omega) (by simp) (by simp only [List.length_append,List.length_cons,List.length_nil]; omega) K5 R5 G5 hm2
      ·have hpair:Xq (pval s d) true s i1=.error e:=by unfold Xq; rw [hv]; dsimp only; rw [if_pos rfl,hj2]; dsimp only; rw [hw]
       rw [hpair] at hm2
       exact H2 _ _ hm2.symm (K1.trans K5)
     ·have hpair:Xq (pval s d) true s i1=.error e:=by unfold Xq; rw [hv]; dsimp only; rw [if_pos rfl,hj2]
      rw [hpair] at hm2
      exact H2 _ _ hm2.symm (K1.trans (K3.trans K4))
   ·have hpair:Xq (pval s d) two s i1=.error e:=by unfold Xq; rw [hv]
    rw [hpair] at hm2
    exact H2 _ _ hm2.symm (K1.trans K3)
  refine Kc (fun hpos=>?_) (fun hz=>?_)
  ·have hl0:¬ l.length=0:=by have:=of_decide_eq_true hpos; omega
   unfold sepP at hm
   rw [if_neg hl0] at hm
   refine Gc (YW (lit:=[44,32]) R' (by decide) (fun j h2 hj K2 R2=>?_) (fun e h2 hj K2=>?_))
   ·rw [hj] at hm
    have hj':j=i'+2:=(U4 hj).1
    have hK2:=K2.size
    exact body j h2 (by omega) (K.trans K2) R2 ((G.same (fun k hk=>K2.same k (G.gw.lt hk).1 (fun e=>by have:=(G.gw.lt hk).2; omega)) (fun k hk=>K2.same k hk.2.1 (fun e=>by have:=hk.1; omega))).mono (fun k hk=>⟨hk.1,by have:=hk.2.1; omega,hk.2.2⟩)) hm
   ·rw [hj] at hm
    exact H2 _ _ hm.symm (K1.trans (K.trans K2))
  ·have hl0:l.length=0:=by have:=of_decide_eq_false hz; omega
   unfold sepP at hm
   rw [if_pos hl0] at hm
   exact body i' hh (Nat.le_refl _) K R' G hm
 ·have heq:KR s i'=en:=by simpa using heq
  rw [if_pos heq] at hm
  have hil:i' < s.length:=U2 (by rw [heq]; exact hen)
  refine KCW R' hil (fun h2 u2 R2=>KG ?_)
  have hu2:=u2.size
  have G2:=G.same (fun k hk=>u2.ne k (fun e=>by have:=(G.gw.lt hk).2; omega)) (fun k hk=>u2.ne k (fun e=>by have:=hk.1; omega))
  refine H1 l (i'+1) h2 x hm.symm (K1.trans (K.trans (Km.upd u2 rfl))) R2 ?_
  refine (G2.rep_ (by omega)).same (fun _ _=>rfl) (fun k hk=>?_)
  rcases hk with hk | hk
  ·exact ⟨by have:=hk.1; omega,by have:=hk.2.1; omega⟩
  ·have:=G2.gw.lt hk
   exact ⟨by omega,by omega⟩
end Gx
namespace Gx
open Go Go.Proofs Go.Shelf Go.RowKit Go.Lib
set_option linter.unusedVariables false
set_option linter.unusedSimpArgs false
set_option maxRecDepth 100000
theorem Rd.upd {h h':Heap} {b g:Nat} {s:List UInt8} {i:Nat} (R:Rd h b s i) (u:Upd g h h') (hg:b≠g):Rd h' b s i:=⟨(u.ne b hg).trans R.blk,R.le,R.small⟩
theorem KDi (s:List UInt8):∀ d,d≤8→KOe s d
 | 0,_=>fun i h Q b R he hb H1 H2=>by
  unfold JZ
  refine ZW (fun h1 e1 hs1 g1=>iteT (by rfl) (Gc (Vd (R.ext e1) (H2 i h1 rfl (Km.ext e1)))))
 | d+1,hd=>fun i h Q b R he hb H1 H2=>by
  have IH:=KDi s d (by omega)
  unfold JZ
  refine ZW (fun h1 e1 hs1 g1=>iteF (decide_eq_false (by omega)) ?_)
  have R1:=R.ext e1
  have hbl:=R.lt
  have he1:=he.ext e1
  have K1:Kb b h h1:=Km.ext e1
  have fin:∀ (v:Vl) (cs:Array Value) (j:Nat) (h2:Heap),pval s (d+1) i=.ok (v,j)→Kb b h1 h2→Rd h2 b s j→ZK (fun k=>h1.size≤k∧k < h2.size) h2 v cs →
    (M.need (cs.size=4)>>=fun _=>stG ⟨h.size,0,none⟩ cs>>=fun _=>ldG 4 ⟨h.size,0,none⟩>>=fun r=>(M.pure (.inr r):M (Value ⊕ Array Value))).wp h2 Q:=by
   intro v cs j h2 hv K2 R2 V2
   have g2:=K2.blk g1 (show ¬ h.size=b by omega)
   refine KMC g2 rfl V2.size V2.to.one (fun h3 u3=>H1 v j h3 cs hv ?_ (R2.upd u3 (by omega)) ?_)
   ·have:=K1.trans K2
    exact ⟨by rw [u3.size]; exact this.size,fun q hq hqb=>(u3.ne q (by omega)).trans (this.same q hq hqb)⟩
   ·have hu:=u3.size
    exact (V2.same (fun k hk=>u3.ne k (by omega))).mono (fun k hk=>⟨by omega,by omega⟩)
  have scal:∀ {k n:Int} {t:List UInt8} {S:Nat→Prop} {h2:Heap},I64 k→I64 n→t.length≤1099511627776→ZK S h2 (.mk k n t []) (Jv k n t Sl.nil):=fun hk hn ht=>KLI _ _ hk hn (by omega)
  have hle:=R.le
  have hsm:=R.small
  rw [pval] at H1 H2 fin
  unfold JU
  refine KJ (Un R1 ?_)
  refine or_b (c:=digB (KR s i)) (fun _ Q' hq=>KJ (KA6 (KG hq))) ?_
  rw [u8_c (d:=45) (n:=45) rfl]
  refine Kc (fun hc=>?_) (fun hc=>?_)
  ·have hc:KR s i=45∨digB (KR s i)=true:=by rwa [Bool.or_eq_true,decide_eq_true_iff] at hc
   rw [if_pos hc] at H1 H2 fin
   refine Gc (KCX R1 he1 hb (fun n j h2 hn K2 R2=>?_) (fun e h2 hn K2=>H2 e h2 (by rw [hn]) (K1.trans K2)))
   refine KOc (fun h3 e3=>fin (.mk 1 n [] []) _ j h3 (by rw [hn]) (K2.trans (Km.ext e3)) (R2.ext e3) (scal ⟨by decide,by decide⟩ (KEf hn hle).1 (by decide)))
  have hc:¬ (KR s i=45∨digB (KR s i)=true):=fun hh=>by
   rw [← decide_eq_true_iff (p:=KR s i=45),← Bool.or_eq_true,hc] at hh
   cases hh
  rw [if_neg hc] at H1 H2 fin
  rw [u8_c (d:=39) (n:=39) rfl]
  refine Kc (fun hc=>?_) (fun hc=>?_)
  ·rw [if_pos (of_decide_eq_true hc)] at H1 H2 fin
   refine Gc (KLG R1 (fun t j h2 ht K2 R2=>?_) (fun e h2 ht K2=>H2 e h2 (by rw [ht]) (K1.trans K2)))
   refine KOd (fun h3 e3=>fin (.mk 2 0 t []) _ j h3 (by rw [ht]) (K2.trans (Km.ext e3)) (R2.ext e3) (scal ⟨by decide,by decide⟩ ⟨by decide,by decide⟩ (by have:=(KGX ht).2.2; omega)))
  rw [if_neg (of_decide_eq_false hc)] at H1 H2 fin
  rw [u8_c (d:=116) (n:=116) rfl]
  refine Kc (fun hc=>?_) (fun hc=>?_)
  ·rw [if_pos (of_decide_eq_true hc)] at H1 H2 fin
   refine Gc (YW (lit:=[116,114,117,101]) R1 (by decide) (fun j h2 hj K2 R2=>?_) (fun e h2 hj K2=>H2 e h2 (by rw [hj]) (K1.trans K2)))
   refine KJe (fun h3 e3=>fin (.mk 3 1 [] []) _ j h3 (by rw [hj]) (K2.trans (Km.ext e3)) (R2.ext e3) (scal ⟨by decide,by decide⟩ ⟨by decide,by decide⟩ (by decide)))
  rw [if_neg (of_decide_eq_false hc)] at H1 H2 fin
  rw [u8_c (d:=102) (n:=102) rfl]
  refine Kc (fun hc=>?_) (fun hc=>?_)
  ·rw [if_pos (of_decide_eq_true hc)] at H1 H2 fin
   refine Gc (YW (lit:=[102,97,108,115,101]) R1 (by decide) (fun j h2 hj K2 R2=>?_) (fun e h2 hj K2=>H2 e h2 (by rw [hj]) (K1.trans K2)))
   refine KJe (fun h3 e3=>fin (.mk 3 0 [] []) _ j h3 (by rw [hj]) (K2.trans (Km.ext e3)) (R2.ext e3) (scal ⟨by decide,by decide⟩ ⟨by decide,by decide⟩ (by decide)))
  rw [if_neg (of_decide_eq_false hc)] at H1 H2 fin
  rw [u8_c (d:=118) (n:=118) rfl]
  refine Kc (fun hc=>?_) (fun hc=>?_)
  ·have hcc:=of_decide_eq_true hc
   rw [if_pos hcc] at H1 H2 fin
   refine Gc (KFa (k:=6) R1 (U2 (by rw [hcc]; decide)) he1 hb (fun n j h2 hn K2 R2=>fin _ _ j h2 hn K2 R2 ?_) (fun e h2 hn K2=>H2 e h2 hn (K1.trans K2)))
   obtain ⟨n',hv,hn',_⟩:=KBn hn
   cases hv
   exact scal ⟨by decide,by decide⟩ hn' (by decide)
  rw [if_neg (of_decide_eq_false hc)] at H1 H2 fin
  rw [u8_c (d:=101) (n:=101) rfl]
  refine Kc (fun hc=>?_) (fun hc=>?_)
  ·have hcc:=of_decide_eq_true hc
   rw [if_pos hcc] at H1 H2 fin
   refine Gc (KFa (k:=7) R1 (U2 (by rw [hcc]; decide)) he1 hb (fun n j h2 hn K2 R2=>fin _ _ j h2 hn K2 R2 ?_) (fun e h2 hn K2=>H2 e h2 hn (K1.trans K2)))
   obtain ⟨n',hv,hn',_⟩:=KBn hn
   cases hv
   exact scal ⟨by decide,by decide⟩ hn' (by decide)
  rw [if_neg (of_decide_eq_false hc)] at H1 H2 fin
  rw [u8_c (d:=91) (n:=91) rfl,show ((9 - (d+1):Nat):Int)=((8 - d:Nat):Int) by omega]
  refine Kc (fun hc=>?_) (fun hc=>?_)
  ·have hcc:=of_decide_eq_true hc
   rw [if_pos hcc] at H1 H2 fin
   refine Gc (KDu (Xe _ _ _ _) (KFb (two:=false) (en:=93) (by omega) IH (by decide) R1 (U2 (by rw [hcc]; decide)) he1 hb (fun l j h2 r hl K2 R2 V2=>?_) (fun e h2 hl K2=>H2 e h2 (by rw [hl]) (K1.trans K2))))
   exact fin (.mk 4 0 [] l) _ j h2 (by rw [hl]) K2 R2 (KHQ ⟨by decide,by decide⟩ ⟨by decide,by decide⟩ V2)
  rw [if_neg (of_decide_eq_false hc)] at H1 H2 fin
  rw [u8_c (d:=123) (n:=123) rfl]
  refine Kc (fun hc=>?_) (fun hc=>?_)
  ·have hcc:=of_decide_eq_true hc
   rw [if_pos hcc] at H1 H2 fin
   refine Gc (KDu (Xe _ _ _ _) (KFb (two:=true) (en:=125) (by omega) IH (by decide) R1 (U2 (by rw [hcc]; decide)) he1 hb (fun l j h2 r hl K2 R2 V2=>?_) (fun e h2 hl K2=>H2 e h2 (by rw [hl]) (K1.trans K2))))
   exact fin (.mk 5 0 [] l) _ j h2 (by rw [hl]) K2 R2 (KHQ ⟨by decide,by decide⟩ ⟨by decide,by decide⟩ V2)
  rw [if_neg (of_decide_eq_false hc)] at H1 H2 fin
  exact Gc (Vd R1 (H2 i h1 rfl K1))
def KBg (s:List UInt8):Except Nat Vl:=match pval s 8 0 with | .error e=>.error e | .ok (v,j)=>if j < s.length then .error j else .ok v
theorem KDj {h:Heap} {Q:Array Value × Int × Bool→Heap→Prop} {b2 b3 b4 e:Nat} {z2:Array Value} {v3 v4:Value} (g2:h[b2]?=some (.cells z2 KB (0,0))) (hz:z2.size=4) (g3:h[b3]?=some (.cells #[v3] WB (0,0))) (g4:h[b4]?=some (.cells #[v4] KCB (0,0))) (h23:b2≠b3) (h24:b2≠b4) (h34:b3≠b4)
  (H:∀ h',h.size≤h'.size→(∀ i,i < h.size→i≠b2→i≠b3→i≠b4→h'[i]?=h[i]?)→Q (vz,(e:Int),false) h'):(GX ⟨b2,0,none⟩ ⟨b3,0,none⟩ ⟨b4,0,none⟩ (Nu e)>>=fun _=>G0 ⟨b2,0,none⟩ ⟨b3,0,none⟩ ⟨b4,0,none⟩).wp h Q:=by
 have l2:=JX g2
 have l3:=JX g3
 have l4:=JX g4
 unfold GX
 refine ⟨(e:Int),rfl,?_⟩
 refine KJ (ZW (fun h1 e1 hs1 g1=>JA rfl (stR g1 (Nat.le_refl 1) (by intro v hv; simp at hv; subst hv; rfl) (fun h2' u2 g2'=>?_))))
 rw [ZD (cs:=#[.int .i64 0]) (vs:=(#[.int .i64 (e:Int)]:Array Value).toList) rfl] at g2'
 unfold KHK
 refine Jc (n:=(e:Int)) (by rw [Kg,KS g2']; rfl) (JA rfl ?_)
 have k2:h2'[b2]?=some (.cells z2 KB (0,0)):=(u2.ne b2 (by omega)).trans (e1.blk g2)
 refine stR k2 (by rw [hz]; exact Nat.le_refl 4) (UV 0 0 [] Sl.nil) (fun h3 u3 g3'=>?_)
 rw [ZD (cs:=z2) (vs:=(vz:Array Value).toList) (by rw [hz]; rfl)] at g3'
 have kq:h3[h.size]?=some (.cells #[.int .i64 (e:Int)] Z0 (0,0)):=(u3.ne h.size (by omega)).trans g2'
 refine KCy (by rw [Kg,KS kq]; rfl) ?_
 have k3:h3[b3]?=some (.cells #[v3] WB (0,0)):=(u3.ne b3 (by omega)).trans ((u2.ne b3 (by omega)).trans (e1.blk g3))
 refine Vj (x:=v3) (by rw [KS k3]; rfl) (KV k3) rfl ?_
 have g5:=V5 (o:=0) (v:=.int .i64 (e:Int)) k3
 have u5:=Upd.hset h3 b3 0 (.int .i64 (e:Int))
 generalize hset h3 ⟨b3,0,none⟩ (.int .i64 (e:Int))=h5 at g5 u5 ⊢
 have k4:h5[b4]?=some (.cells #[v4] KCB (0,0)):=(u5.ne b4 (by omega)).trans ((u3.ne b4 (by omega)).trans ((u2.ne b4 (by omega)).trans (e1.blk g4)))
 refine Vj (x:=v4) (by rw [KS k4]; rfl) (KV k4) rfl ?_
 have g6:=V5 (o:=0) (v:=.bool false) k4
 have u6:=Upd.hset h5 b4 0 (.bool false)
 generalize hset h5 ⟨b4,0,none⟩ (.bool false)=h6 at g6 u6 ⊢
 refine KG ?_
 unfold G0
 have m2:h6[b2]?=some (.cells vz KB (0,0)):=(u6.ne b2 (by omega)).trans ((u5.ne b2 (by omega)).trans g3')
 have m3:h6[b3]?=some (.cells (#[v3].setIfInBounds 0 (.int .i64 (e:Int))) WB (0,0)):=(u6.ne b3 (by omega)).trans g5
 refine ldR m2 rfl (Jc (n:=(e:Int)) (by rw [KS m3]; rfl) (KOA (n:=false) (by rw [KS g6]; rfl) (KG (H _ ?_ ?_))))
 ·have a1:=u6.size; have a2:=u5.size; have a3:=u3.size; have a4:=u2.size; omega
 ·intro i hi n2 n3 n4
  rw [u6.ne i n4,u5.ne i n3,u3.ne i n2,u2.ne i (by omega)]
  exact e1.same i hi
theorem KJf {s:List UInt8} {h:Heap} {Q:Array Value × Int × Bool→Heap→Prop} (hs:s.length≤1099511627776) (he:ErrV h)
  (H1:∀ v h' c,KBg s=.ok v→Ext h h'→ZK (h.size≤·) h' v c→Q (c,0,true) h') (H2:∀ e h',KBg s=.error e→Ext h h'→Q (vz,(e:Int),false) h'):(KNB (bs s)).wp h Q:=by
 unfold KNB
 refine ZW (fun h1 e1 s1 g1=>ZW (fun h2 e2 s2 g2=>ZW (fun h3 e3 s3 g3=>ZW (fun h4 e4 s4 g4=>?_))))
 obtain ⟨t5,p5,hc5⟩:=id he
 have h5:5 < h.size:=N3 hc5
 have R4:Rd h4 h3.size s 0:=⟨g4,Nat.zero_le _,hs⟩
 have E4:Ext h h4:=((e1.trans e2).trans e3).trans e4
 have b1:h4[h.size]?=some (.cells vz KB (0,0)):=((e2.trans e3).trans e4).blk g1
 have b2:h4[h1.size]?=some (.cells #[.int .i64 0] WB (0,0)):=(e3.trans e4).blk g2
 have b3:h4[h2.size]?=some (.cells #[.bool false] KCB (0,0)):=e4.blk g3
 refine KJ (KDi s 8 (Nat.le_refl _) 0 h4 _ h3.size R4 (he.ext E4) (by omega) (fun v j h6 c hv K6 R6 V6=>?_) (fun e h6 hv K6=>?_))
 ·have c1:=K6.blk b1 (show ¬ h.size=h3.size by omega)
  have c2:=K6.blk b2 (show ¬ h1.size=h3.size by omega)
  have c3:=K6.blk b3 (show ¬ h2.size=h3.size by omega)
  have hs6:=K6.size
  refine JA V6.size (stR c1 (by rw [V6.size]; exact Nat.le_refl 4) V6.to.one (fun h7 u7 g7=>?_))
  rw [ZD (cs:=vz) (vs:=c.toList) (by rw [Array.length_toList,V6.size]; rfl)] at g7
  have hs7:=u7.size
  have R7:=R6.upd u7 (show h3.size≠h.size by omega)
  refine KBf R7 ?_
  rw [JD]
  refine Kc (fun hlt=>?_) (fun hge=>?_)
  ·have hlt:j < s.length:=by have:=of_decide_eq_true hlt; omega
   refine KJ (Vd R7 ?_)
   refine KDj g7 V6.size ((u7.ne _ (by omega)).trans c2) ((u7.ne _ (by omega)).trans c3) (by omega) (by omega) (by omega) (fun h8 s8 same8=>H2 j h8 ?_ ⟨by omega,fun i hi=>?_⟩)
   ·unfold KBg; rw [hv]; dsimp only; rw [if_pos hlt]
   ·rw [same8 i (by omega) (by omega) (by omega) (by omega),u7.ne i (by omega),K6.same i (by omega) (by omega)]
    exact E4.same i hi
  ·have hge:¬ j < s.length:=by have:=of_decide_eq_false hge; omega
   unfold KEd
   refine ldR g7 V6.size (JA V6.size (stR g7 (by rw [V6.size]; exact Nat.le_refl 4) V6.to.one (fun h8 u8 g8=>?_)))
   rw [ZD (cs:=c) (vs:=c.toList) (by rw [Array.length_toList])] at g8
   have d2:h8[h1.size]?=some (.cells #[.int .i64 0] WB (0,0)):=(u8.ne _ (by omega)).trans ((u7.ne _ (by omega)).trans c2)
   refine Vj (x:=.int .i64 0) (by rw [KS d2]; rfl) (KV d2) rfl ?_
   have g9:=V5 (o:=0) (v:=.int .i64 0) d2
   have u9:=Upd.hset h8 h1.size 0 (.int .i64 0)
   generalize hset h8 ⟨h1.size,0,none⟩ (.int .i64 0)=h9 at g9 u9 ⊢
   have d3:h9[h2.size]?=some (.cells #[.bool false] KCB (0,0)):=(u9.ne _ (by omega)).trans ((u8.ne _ (by omega)).trans ((u7.ne _ (by omega)).trans c3))
   refine Vj (x:=.bool false) (by rw [KS d3]; rfl) (KV d3) rfl ?_
   have g10:=V5 (o:=0) (v:=.bool true) d3
   have u10:=Upd.hset h9 h2.size 0 (.bool true)
   generalize hset h9 ⟨h2.size,0,none⟩ (.bool true)=h10 at g10 u10 ⊢
   unfold G0
   have m1:h10[h.size]?=some (.cells c KB (0,0)):=(u10.ne _ (by omega)).trans ((u9.ne _ (by omega)).trans g8)
   have m2:=(u10.ne h1.size (by omega)).trans g9
   refine ldR m1 V6.size (Jc (n:=0) (by rw [KS m2]; rfl) (KOA (n:=true) (by rw [KS g10]; rfl) (KG (H1 v _ c ?_ ⟨?_,fun i hi=>?_⟩ ?_))))
   ·unfold KBg; rw [hv]; dsimp only; rw [if_neg hge]
   ·have a1:=u10.size; have a2:=u9.size; have a3:=u8.size; omega
   ·rw [u10.ne i (by omega),u9.ne i (by omega),u8.ne i (by omega),u7.ne i (by omega),K6.same i (by omega) (by omega)]
    exact E4.same i hi
   ·refine (V6.same (fun k hk=>?_)).mono (fun k hk=>by have:=hk.1; omega)
    have:=hk.1
    rw [u10.ne k (by omega),u9.ne k (by omega),u8.ne k (by omega),u7.ne k (by omega)]
 ·have c1:=K6.blk b1 (show ¬ h.size=h3.size by omega)
  have c2:=K6.blk b2 (show ¬ h1.size=h3.size by omega)
  have c3:=K6.blk b3 (show ¬ h2.size=h3.size by omega)
  have hs6:=K6.size
  refine KDj c1 rfl c2 c3 (by omega) (by omega) (by omega) (fun h8 s8 same8=>H2 e h8 ?_ ⟨by omega,fun i hi=>?_⟩)
  ·unfold KBg; rw [hv]
  ·rw [same8 i (by omega) (by omega) (by omega) (by omega),K6.same i (by omega) (by omega)]
   exact E4.same i hi
def UE (s:List UInt8):Vl × Nat × Int:=match KBg s with | .error e=>(vl0,e,22) | .ok v=>if mayV 8 v=true then (v,0,0) else (vl0,0,20)
theorem KCZ {s:List UInt8} {h:Heap} {Q:Array Value × Int × Int→Heap→Prop} (hs:s.length≤1099511627776) (he:ErrV h)
  (H:∀ h' c,Ext h h'→ZK (h.size≤·) h' (UE s).1 c→Q (c,((UE s).2.1:Int),(UE s).2.2) h'):(Wu (bs s)).wp h Q:=by
 unfold Wu
 refine ZW (fun h1 e1 s1 g1=>?_)
 refine KJ (NR (KOa _) (KJf hs (he.ext e1) (fun v h2 c hv e2 V2=>?_) (fun e h2 hv e2=>?_)))
 ·refine ZW (fun h3 e3 s3 g3=>JA V2.size (stR g3 (by rw [V2.size]; exact Nat.le_refl 4) V2.to.one (fun h4 u4 g4=>?_)))
  rw [ZD (cs:=vz) (vs:=c.toList) (by rw [Array.length_toList,V2.size]; rfl)] at g4
  have E4:Ext h h4:=((e1.trans e2).trans e3).upd u4 (by have:=e1.size; have:=e2.size; omega)
  have V4:ZK (fun k=>h1.size≤k∧k < h2.size) h4 v c:=((V2.lt2).same (fun k hk=>(u4.ne k (by omega)).trans (e3.same k hk.2)))
  refine iteF rfl (ldR g4 V2.size (KJ (zG V4.to (fun h5 e5=>?_))))
  have g5:h5[h.size]?=some (.cells vz KB (0,0)):=e5.blk ((u4.ne _ (by have:=e2.size; omega)).trans ((e2.trans e3).blk g1))
  have gc5:=e5.blk g4
  unfold ND
  by_cases hm:mayV 8 v=true
  ·rw [if_pos hm]
   have hP:UE s=(v,0,0):=by unfold UE; rw [hv]; dsimp only; rw [if_pos hm]
   rw [hP] at H
   refine iteF rfl (ldR gc5 V2.size (JA V2.size (stR g5 (by rw [V2.size]; exact Nat.le_refl 4) V2.to.one (fun h6 u6 g6=>?_))))
   rw [ZD (cs:=vz) (vs:=c.toList) (by rw [Array.length_toList,V2.size]; rfl)] at g6
   refine ldR g6 V2.size (KG (H h6 c ((E4.trans e5).upd u6 (Nat.le_refl _)) ?_))
   have hs2:=e2.size
   have hs3:=e3.size
   have hu4:=u4.size
   exact (V4.same (fun k hk=>(u6.ne k (by omega)).trans (e5.same k (by omega)))).mono (fun k hk=>by have:=hk.1; omega)
  ·rw [if_neg hm]
   have hP:UE s=(vl0,0,20):=by unfold UE; rw [hv]; dsimp only; rw [if_neg hm]
   rw [hP] at H
   refine iteT rfl (JA rfl (stR g5 (Nat.le_refl 4) (UV 0 0 [] Sl.nil) (fun h6 u6 g6=>?_)))
   rw [ZD (cs:=vz) (vs:=(vz:Array Value).toList) rfl] at g6
   exact ldR g6 rfl (KG (H h6 _ ((E4.trans e5).upd u6 (Nat.le_refl _)) (zI _ _)))
 ·have hP:UE s=(vl0,e,22):=by unfold UE; rw [hv]
  rw [hP] at H
  refine ZW (fun h3 e3 s3 g3=>JA rfl (stR g3 (Nat.le_refl 4) (UV 0 0 [] Sl.nil) (fun h4 u4 g4=>?_)))
  have E4:Ext h h4:=((e1.trans e2).trans e3).upd u4 (by have:=e1.size; have:=e2.size; omega)
  have g5:h4[h.size]?=some (.cells vz KB (0,0)):=(u4.ne _ (by have:=e2.size; omega)).trans ((e2.trans e3).blk g1)
  refine iteT rfl (JA rfl (stR g5 (Nat.le_refl 4) (UV 0 0 [] Sl.nil) (fun h6 u6 g6=>?_)))
  rw [ZD (cs:=vz) (vs:=(vz:Array Value).toList) rfl] at g6
  exact ldR g6 rfl (KG (H h6 _ (E4.upd u6 (Nat.le_refl _)) (zI _ _)))
end Gx
namespace Gx
open Go Go.Proofs Go.Shelf Go.RowKit Go.Lib
set_option linter.unusedVariables false
set_option linter.unusedSimpArgs false
set_option maxRecDepth 100000
def dcv (acc:Nat) (l:List UInt8):Nat:=l.foldl (fun a c=>a * 10+(c.toNat - 48)) acc
theorem KJg (acc:Nat):dcv acc []=acc:=rfl
theorem KEh (acc:Nat) (c:UInt8) (r:List UInt8):dcv acc (c::r)=dcv (acc * 10+(c.toNat - 48)) r:=List.foldl_cons ..
theorem KHR (l:List UInt8) (acc:Nat) (c:UInt8):dcv acc (l++[c])=dcv acc l * 10+(c.toNat - 48):=by
 unfold dcv
 rw [List.foldl_append,List.foldl_cons,List.foldl_nil]
theorem KMD:∀ (l:List UInt8) (acc:Nat),acc≤dcv acc l
 | [],acc=>Nat.le_refl _
 | c::l,acc=>by rw [KEh]; have:=KMD l (acc * 10+(c.toNat - 48)); omega
theorem KHS {a b:List UInt8} (h:a≠[]):(a++b).head?=a.head?:=by cases a with | nil=>exact absurd rfl h | cons c r=>rfl
theorem zJ:∀ (m u:Nat),u < m→(decDigits u).all digB=true∧dcv 0 (decDigits u)=u∧decDigits u≠[]∧((decDigits u).head?=some 48→u=0):=by
 intro m
 induction m with
 | zero=>intro u h; omega
 | succ m ih =>
  intro u h
  have hd:∀ k,k < 10→digB (UInt8.ofNat (48+k))=true∧(UInt8.ofNat (48+k)).toNat=48+k:=fun k hk=>by
   have h1:(UInt8.ofNat (48+k)).toNat=48+k:=by
    rw [UInt8.toNat_ofNat']
    exact Nat.mod_eq_of_lt (by omega)
   exact ⟨by unfold digB; rw [h1,decide_eq_true (by omega),decide_eq_true (by omega)]; rfl,h1⟩
  rw [decDigits]
  by_cases h10:u < 10
  ·rw [dif_pos h10]
   obtain ⟨a,b⟩:=hd u h10
   refine ⟨by rw [List.all_cons,a]; rfl,?_,by simp,fun hh=>?_⟩
   ·rw [KEh,KJg,b]; omega
   ·have:UInt8.ofNat (48+u)=48:=by simpa using hh
    have h2:=congrArg UInt8.toNat this
    rw [b] at h2
    have:(48:UInt8).toNat=48:=rfl
    omega
  ·rw [dif_neg h10]
   obtain ⟨a1,a2,a3,a4⟩:=ih (u / 10) (by omega)
   obtain ⟨b1,b2⟩:=hd (u % 10) (Nat.mod_lt _ (by decide))
   refine ⟨by rw [List.all_append,a1,List.all_cons,b1]; rfl,?_,by simp,fun hh=>?_⟩
   ·rw [KHR,a2,b2]
    omega
   ·rw [KHS a3] at hh
    have:=a4 hh
    omega
theorem KJh:∀ (m:Nat) (l:List UInt8),l.length≤m→l≠[]→l.all digB=true→(l.head?=some 48→l=[48])→l=decDigits (dcv 0 l):=by
 intro m
 induction m with
 | zero=>intro l h hne; exact absurd (List.length_eq_zero_iff.1 (by omega)) hne
 | succ m ih =>
  intro l hl hne hd hz
  obtain ⟨a,c,rfl⟩:∃ a c,l=a++[c]:=⟨l.dropLast,l.getLast hne,(List.dropLast_concat_getLast hne).symm⟩
  rw [List.all_append,Bool.and_eq_true] at hd
  have hc:digB c=true:=by simpa using hd.2
  unfold digB at hc
  rw [Bool.and_eq_true,decide_eq_true_iff,decide_eq_true_iff] at hc
  have hcc:UInt8.ofNat (48+(c.toNat - 48))=c:=by
   rw [show 48+(c.toNat - 48)=c.toNat by omega,UInt8.ofNat_toNat]
  rw [KHR]
  by_cases ha:a=[]
  ·subst ha
   rw [KJg]
   rw [decDigits,dif_pos (by omega),Nat.zero_mul,Nat.zero_add,hcc]
   rfl
  ·rw [List.length_append,List.length_singleton] at hl
   have hh:a.head?=some 48→a=[48]:=fun h=>by
    have:=hz (by rw [KHS ha]; exact h)
    have hlen:=congrArg List.length this
    rw [List.length_append] at hlen
    simp at hlen
    exact absurd hlen ha
   have h1:=ih a (by omega) ha hd.1 hh
   have hpos:1≤dcv 0 a:=by
    by_cases h0:dcv 0 a=0
    ·rw [h0] at h1
     exfalso
     have hz0:decDigits 0=[48]:=by rw [decDigits,dif_pos (by decide)]; rfl
     rw [hz0] at h1
     have:=hz (by rw [h1]; rfl)
     rw [h1] at this
     simp at this
    ·omega
   rw [decDigits,dif_neg (by omega),show (dcv 0 a * 10+(c.toNat - 48)) / 10=dcv 0 a by omega,show (dcv 0 a * 10+(c.toNat - 48)) % 10=c.toNat - 48 by omega,hcc,← h1]
theorem KA7 (M:Nat):∀ (l:List UInt8) (acc u:Nat),parseUintM M acc l=.ok u→u=dcv acc l∧(acc≤M→u≤M)
 | [],acc,u,h=>by rw [parseUintM] at h; cases h; exact ⟨rfl,id⟩
 | c::r,acc,u,h=>by
  rw [parseUintM] at h
  split at h
  ·split at h
   ·cases h
   ·split at h
    ·cases h
    ·have:=KA7 M r _ _ h
     exact ⟨this.1,fun _=>this.2 (by omega)⟩
  ·cases h
theorem KCa (M:Nat) (hM:M < 18446744073709551616):∀ (l:List UInt8) (acc:Nat),l.all digB=true→dcv acc l≤M→parseUintM M acc l=.ok (dcv acc l)
 | [],acc,_,_=>by rw [parseUintM]; rfl
 | c::r,acc,h,hv=>by
  rw [List.all_cons,Bool.and_eq_true] at h
  have hc:=h.1
  unfold digB at hc
  rw [Bool.and_eq_true,decide_eq_true_iff,decide_eq_true_iff] at hc
  rw [KEh] at hv
  have hge:=KMD r (acc * 10+(c.toNat - 48))
  rw [parseUintM,if_pos hc,if_neg (by omega),if_neg (by omega),KCa M hM r _ h.2 hv]
  rfl
theorem KLJ {l:List UInt8} (h:l.all digB=true):numD l=l:=by
 unfold numD
 rw [if_neg]
 intro hh
 cases l with
 | nil=>cases hh
 | cons c r =>
  rw [List.all_cons,Bool.and_eq_true] at h
  have:c=45:=by simpa using hh
  subst this
  exact absurd h.1 (by decide)
theorem KAR {n:Int} (hn:I64 n):numP (itoa n)=(n,0):=by
 unfold I64 at hn
 have e63:(2:Nat) ^ (64 - 1)=9223372036854775808:=by decide
 have e64:(2:Nat) ^ 64 - 1=18446744073709551615:=by decide
 unfold itoa
 split
 ·rename_i hneg
  obtain ⟨a1,a2,a3,a4⟩:=zJ _ n.natAbs (Nat.lt_succ_self _)
  have hD:numD (45::decDigits n.natAbs)=decDigits n.natAbs:=rfl
  unfold numP
  rw [hD,if_neg a3,if_neg (by rw [a1]; decide),if_neg (fun hh=>by have:=a4 hh.1; omega)]
  have hp:parseIntB 64 (45::decDigits n.natAbs)=.ok n:=by
   unfold parseIntB
   dsimp only
   rw [if_pos (by right; rfl)]
   unfold parseUintB
   rw [if_neg a3,e64,KCa _ (by decide) _ _ a1 (by rw [a2]; omega),a2,e63]
   have h45:(45:UInt8).toNat=45:=rfl
   dsimp only
   rw [if_neg (fun hh=>hh.1 h45),if_neg (fun hh=>by have:=hh.2; omega),if_pos h45]
   congr 1
   omega
  rw [hp]
 ·rename_i hpos
  obtain ⟨a1,a2,a3,a4⟩:=zJ _ n.toNat (Nat.lt_succ_self _)
  unfold numP
  rw [KLJ a1,if_neg a3,if_neg (by rw [a1]; decide),if_neg (fun hh=>by
   have h0:=a4 hh.1
   rw [h0] at hh
   exact hh.2 (by rw [decDigits,dif_pos (by decide)]; rfl))]
  have hp:parseIntB 64 (decDigits n.toNat)=.ok n:=by
   cases hdd:decDigits n.toNat with
   | nil=>exact absurd hdd a3
   | cons c r =>
    rw [hdd] at a1 a2 a3
    have hc:digB c=true:=by rw [List.all_cons,Bool.and_eq_true] at a1; exact a1.1
    unfold digB at hc
    rw [Bool.and_eq_true,decide_eq_true_iff,decide_eq_true_iff] at hc
    unfold parseIntB
    dsimp only
    rw [if_neg (by omega)]
    unfold parseUintB
    rw [if_neg a3,e64,KCa _ (by decide) _ _ a1 (by rw [a2]; omega),a2,e63]
    dsimp only
    rw [if_neg (fun hh=>by have:=hh.2; omega),if_neg (fun hh=>by have:=hh.1; omega),if_neg (by omega)]
    congr 1
    omega
  rw [hp]
theorem KFc {t:List UInt8} {n:Int} (h:numP t=(n,0)):t=itoa n:=by
 have e63:(2:Nat) ^ (64 - 1)=9223372036854775808:=by decide
 unfold numP at h
 split at h
 ·cases h
 rename_i h1
 split at h
 ·cases h
 rename_i h2
 split at h
 ·cases h
 rename_i h3
 have h2:(numD t).all digB=true:=by
  cases hh:(numD t).all digB with
  | true=>rfl
  | false=>exact absurd hh h2
 split at h
 ·rename_i m hm
  cases h
  cases t with
  | nil=>exact absurd rfl h1
  | cons c r =>
   unfold parseIntB at hm
   dsimp only at hm
   by_cases h45:c=45
   ·subst h45
    have hD:numD (45::r)=r:=rfl
    rw [hD] at h1 h2 h3
    rw [if_pos (by right; rfl)] at hm
    unfold parseUintB at hm
    rw [if_neg h1] at hm
    split at hm
    ·cases hm
    ·cases hm
    ·rename_i u hu
     have hv:=(KA7 _ _ _ _ hu).1
     have hr:r=decDigits u:=by
      rw [hv]
      exact KJh _ r (Nat.le_refl _) h1 h2 (fun hh=>absurd ⟨hh,by simp⟩ h3)
     have h45':(45:UInt8).toNat=45:=rfl
     rw [if_neg (fun hh=>hh.1 h45'),e63] at hm
     split at hm
     ·cases hm
     ·cases hm
      have hu0:u≠0:=fun e=>by
       subst e
       have hz:r=[48]:=by rw [hr,decDigits,dif_pos (by decide)]; rfl
       exact h3 ⟨by rw [hz]; rfl,by simp⟩
      unfold itoa
      rw [if_pos (by omega),show (-(u:Int)).natAbs=u by omega,← hr]
   ·have hD:numD (c::r)=c::r:=by unfold numD; rw [List.head?_cons,if_neg (by simpa using h45)]
    rw [hD] at h1 h2 h3
    have hc:digB c=true:=by rw [List.all_cons,Bool.and_eq_true] at h2; exact h2.1
    unfold digB at hc
    rw [Bool.and_eq_true,decide_eq_true_iff,decide_eq_true_iff] at hc
    rw [if_neg (by omega)] at hm
    unfold parseUintB at hm
    rw [if_neg h1] at hm
    split at hm
    ·cases hm
    ·cases hm
    ·rename_i u hu
     have hv:=(KA7 _ _ _ _ hu).1
     have hr:c::r=decDigits u:=by
      rw [hv]
      refine KJh _ _ (Nat.le_refl _) h1 h2 (fun hh=>?_)
      by_cases he:c::r=[48]
      ·exact he
      ·exact absurd ⟨hh,he⟩ h3
     split at hm
     ·cases hm
     ·split at hm
      ·cases hm
      ·rw [if_neg (by omega)] at hm
       cases hm
       unfold itoa
       rw [if_neg (by omega),Int.toNat_natCast,← hr]
 ·cases h
end Gx
namespace Gx
open Go
set_option linter.unusedVariables false
set_option linter.unusedSimpArgs false
def KT (h:Heap) (r:Sl) (e:TypeId):Prop:=∀ g,r.base=some ⟨g,0,none⟩→∃ c z,h[g]?=some (.cells c e z)
theorem KT.same {h h':Heap} {r:Sl} {e:TypeId} (k:KT h r e) (hs:∀ i,Sl.on r i→h'[i]?=h[i]?):KT h' r e:=fun g hg=>by
 obtain ⟨c,z,hh⟩:=k g hg
 exact ⟨c,z,(hs g ⟨_,hg,rfl⟩).trans hh⟩
theorem KFd {lo:Nat} {h:Heap} {Q:Sl→Heap→Prop} {e sz bytes k:Nat} {z:Array Value} {r:Sl} {vs news:List Value} (hz:z.size=sz) (H:Gw lo h r sz vs) (hn:news.length=k * sz) (h1:∀ v ∈ news,one v=true)
  (hb:(r.len+k) * bytes≤140737488355328) (hm:r.len+k≤9223372036854775807) (hlo:lo≤h.size) (hnz:r.cap=0→r=Sl.nil) (hk:KT h r e)
  (hq:∀ h' r',Gw lo h' r' sz (vs++news)→r'.len=r.len+k→h.size≤h'.size→(∀ i,i < h.size→¬ Sl.on r i→h'[i]?=h[i]?)→(∀ i,Sl.on r' i→Sl.on r i∨h.size≤i)→(r'.cap=0→r'=Sl.nil)→KT h' r' e→Q r' h'):apGo e sz bytes z r k news h Q:=by
 unfold apGo
 split
 ·rename_i hc
  have hz':(⟨r.base,r.len+k,r.cap⟩:Sl).cap=0→(⟨r.base,r.len+k,r.cap⟩:Sl)=Sl.nil:=fun h0=>by
   have h0:r.cap=0:=h0
   have:=hnz h0
   subst this
   have:k=0:=by simp [Sl.nil] at hc; exact hc
   subst this
   rfl
  rcases H with ⟨rfl,rfl⟩ | ⟨b,ty,cells,H⟩
  ·have h0:k=0:=by simp [Sl.nil] at hc; exact hc
   subst h0
   have:news=[]:=List.length_eq_zero_iff.1 (by rw [hn]; simp)
   subst this
   refine ⟨fun a ha=>(by cases ha),by simp,?_⟩
   exact hq h _ (.inl ⟨rfl,rfl⟩) rfl (Nat.le_refl _) (fun i _ _=>rfl) (fun i hi=>.inl hi) hz' hk
  ·have hsz:r.len * sz+news.length≤cells.size:=by
    rw [hn,H.size,← Nat.add_mul]
    exact Nat.mul_le_mul_right _ hc
   have hblk:(Yv h r.base (r.len * sz) news)[b]?=some (.cells (lay cells (r.len * sz) news) ty (0,0)):=by
    rw [H.base]
    show (hsetL h ((⟨b,0,none⟩:Addr).add (r.len * sz)) news 0)[b]?=_
    rw [Kg,Nat.zero_add,N0 _ _ _ _ H.blk,Nat.add_zero]
   have hne:∀ i,i≠b→(Yv h r.base (r.len * sz) news)[i]?=h[i]?:=fun i hi=>by
    rw [H.base]
    show (hsetL h ((⟨b,0,none⟩:Addr).add (r.len * sz)) news 0)[i]?=_
    rw [Kg,zY hi]
   have hsize:(Yv h r.base (r.len * sz) news).size=h.size:=by
    rw [H.base]
    exact XI _ _ _
   refine ⟨fun a ha j hj=>?_,h1,hq _ _ (.inr ⟨b,ty,_,H.base,H.lo,hblk,?_,hc,?_,fun j v hj=>?_⟩) rfl (by rw [hsize]; exact Nat.le_refl _) (fun i hi hno=>hne i (fun e=>hno ⟨_,H.base,e.symm⟩)) (fun i hi=>.inl hi) hz' (fun g hg=>?_)⟩
   ·rw [H.base] at ha; cases ha
    rw [Kg,Kg,Nat.zero_add,KS H.blk,KV H.blk]
    exact ⟨⟨_,Array.getElem?_eq_getElem (by omega)⟩,rfl⟩
   ·rw [Yw]; exact H.size
   ·rw [List.length_append,H.len,hn,Nat.add_mul]
   ·rw [← Array.getElem?_toList,Uo _ _ _ hsz]
    have hlen:(cells.toList.take (r.len * sz)).length=r.len * sz:=by rw [List.length_take,Array.length_toList]; omega
    by_cases hj1:j < vs.length
    ·rw [List.getElem?_append_left hj1] at hj
     have:=H.get j v hj
     rw [List.append_assoc,List.getElem?_append_left (by rw [hlen,← H.len]; exact hj1),List.getElem?_take,if_pos (by rw [← H.len]; exact hj1),Array.getElem?_toList]
     exact this
    ·rw [List.getElem?_append_right (by omega)] at hj
     have hjn:j - vs.length < news.length:=(List.getElem?_eq_some_iff.1 hj).1
     rw [List.append_assoc,List.getElem?_append_right (by rw [hlen,← H.len]; omega),hlen,List.getElem?_append_left (by rw [← H.len]; exact hjn),← H.len]
     exact hj
   ·have hg:r.base=some ⟨g,0,none⟩:=hg
    rw [H.base] at hg; cases hg
    obtain ⟨c,z,hh⟩:=hk b H.base
    rw [H.blk] at hh; cases hh
    exact ⟨_,_,hblk⟩
 ·rename_i hc
  refine ⟨hb,hm,vs,H.len,H.reads,fun cap hcap=>?_⟩
  have hl:=H.len
  refine hq _ _ (.inr ⟨h.size,e,_,rfl,hlo,Ko,?_,hcap,?_,fun j v hj=>?_⟩) rfl (by simp) (fun i hi _=>Vk hi) (fun i hi=>.inr ?_) (fun h0=>by have h0:cap=0:=h0; omega) (fun g hg=>by cases hg; exact ⟨_,_,Ko⟩)
  ·rw [Array.size_append,Array.size_append,NY,List.size_toArray,List.size_toArray,hl,hn,hz]
   show r.len * sz+k * sz+(cap - (r.len+k)) * sz=cap * sz
   rw [← Nat.add_mul,← Nat.add_mul]
   congr 1
   omega
  ·rw [List.length_append,hl,hn,Nat.add_mul]
  ·have hlt:j < (vs++news).length:=(List.getElem?_eq_some_iff.1 hj).1
   rw [Array.getElem?_append_left (by simpa using hlt)]
   rw [← hj]
   simp
  ·obtain ⟨a,ha,rfl⟩:=hi
   cases ha
   exact Nat.le_refl _
theorem KPW {β:Type} {e:Nat} {s:Sl} {x:ByteArray} {h:Heap} {Q:β→Heap→Prop} {f:Sl→M β} (H:apGo e 1 1 #[.int .u8 0] s x.size (Z3 x) h (fun r h'=>(f r).wp h' Q)):(apS e s x>>=f).wp h Q:=H
theorem KPX {β:Type} {e sz bytes:Nat} {z:Array Value} {s x:Sl} {news:List Value} {h:Heap} {Q:β→Heap→Prop} {f:Sl→M β} (hn:news.length=x.len * sz) (hr:NV h x.base news) (H:apGo e sz bytes z s x.len news h (fun r h'=>(f r).wp h' Q)):(apL e sz bytes z s x>>=f).wp h Q:=⟨news,hn,hr,H⟩
theorem KCb (l:List UInt8):Z3 (bs l)=l.map bv:=rfl
structure Bld (lo:Nat) (h:Heap) (b:Nat) (r:Sl) (l:List UInt8):Prop where
 low:lo≤b
 ptr:∃ p,h[b]?=some (.cells #[p,r.v] ZJ (0,0))∧(p=.pointer none∨p=.pointer (some ⟨b,0,none⟩))
 row:Gw lo h r 1 (l.map bv)
 off:¬ Sl.on r b
 nz:r.cap=0→r=Sl.nil
 kt:KT h r K9
theorem Bld.len {lo:Nat} {h:Heap} {b:Nat} {r:Sl} {l:List UInt8} (B:Bld lo h b r l):r.len=l.length:=by
 have:=B.row.len
 simp at this
 exact this.symm
theorem Bld.lt {lo:Nat} {h:Heap} {b:Nat} {r:Sl} {l:List UInt8} (B:Bld lo h b r l):b < h.size:=by
 obtain ⟨p,h1,_⟩:=B.ptr
 exact JX h1
theorem Bld.ext {lo:Nat} {h h':Heap} {b:Nat} {r:Sl} {l:List UInt8} (B:Bld lo h b r l) (e:Ext h h'):Bld lo h' b r l:=by
 obtain ⟨p,h1,h2⟩:=B.ptr
 exact ⟨B.low,⟨p,e.blk h1,h2⟩,B.row.ext e,B.off,B.nz,B.kt.same (fun i hi=>e.same i (B.row.lt hi).1)⟩
theorem Bld.new {lo:Nat} {h h':Heap} (hl:lo≤h.size) (hb:h'[h.size]?=some (.cells #[.pointer none,.slice none 0 0] ZJ (0,0))):Bld lo h' h.size Sl.nil [] :=
 ⟨hl,⟨_,hb,.inl rfl⟩,Gw.nil _ _ _,fun ⟨a,ha,_⟩=>(by cases ha),fun _=>rfl,fun g hg=>by cases hg⟩
structure BKeep (b:Nat) (r r':Sl) (h h':Heap):Prop where
 size:h.size≤h'.size
 same:∀ i,i < h.size→i≠b→¬ Sl.on r i→h'[i]?=h[i]?
 on_:∀ i,Sl.on r' i→Sl.on r i∨h.size≤i
theorem BKeep.refl (b:Nat) (r:Sl) (h:Heap):BKeep b r r h h:=⟨Nat.le_refl _,fun _ _ _ _=>rfl,fun _ h=>.inl h⟩
theorem BKeep.trans {b:Nat} {r r' r'':Sl} {h h' h'':Heap} (k:BKeep b r r' h h') (k':BKeep b r' r'' h' h'') (hb:b < h.size):BKeep b r r'' h h'' :=
 ⟨Nat.le_trans k.size k'.size,fun i hi hne hno=>(k'.same i (Nat.lt_of_lt_of_le hi k.size) hne (fun ho=>(k.on_ i ho).elim hno (fun h=>by omega))).trans (k.same i hi hne hno),
  fun i hi=>(k'.on_ i hi).elim (fun h=>k.on_ i h) (fun h=>.inr (Nat.le_trans k.size h))⟩
theorem BKeep.ext {lo:Nat} {b:Nat} {r r':Sl} {h0 h h':Heap} {l:List UInt8} (e:Ext h0 h) (B:Bld lo h b r l) (hl:h0.size≤lo) (k:BKeep b r r' h h'):Ext h0 h' :=
 ⟨Nat.le_trans e.size k.size,fun i hi=>(k.same i (Nat.lt_of_lt_of_le hi e.size) (by have:=B.low; omega) (fun ho=>by have:=(B.row.lt ho).2; omega)).trans (e.same i hi)⟩
theorem BKeep.push {b:Nat} {r r':Sl} {h h' h'':Heap} (k:BKeep b r r' h h') (e:Ext h' h''):BKeep b r r' h h'' :=
 ⟨Nat.le_trans k.size e.size,fun i hi h1 h2=>(e.same i (Nat.lt_of_lt_of_le hi k.size)).trans (k.same i hi h1 h2),k.on_⟩
theorem KIF {h:Heap} {b:Nat} {p v u:Value} {t:TypeId} (hb:h[b]?=some (.cells #[p,v] t (0,0))):(hset h ⟨b,1,none⟩ u)[b]?=some (.cells #[p,u] t (0,0)):=by
 rw [V5 hb]; rfl
theorem KGZ {h:Heap} {b:Nat} {p v u:Value} {t:TypeId} (hb:h[b]?=some (.cells #[p,v] t (0,0))):(hset h ⟨b,0,none⟩ u)[b]?=some (.cells #[u,v] t (0,0)):=by
 rw [V5 hb]; rfl
theorem zK {β:Type} {lo:Nat} {h:Heap} {b:Nat} {r:Sl} {l:List UInt8} {Q:β→Heap→Prop} {f:Unit→M β} (B:Bld lo h b r l)
  (H:∀ h',Bld lo h' b r l→Upd b h h'→(f ()).wp h' Q):(Kx (some ⟨b,0,none⟩)>>=f).wp h Q:=by
 obtain ⟨p,h1,h2⟩:=B.ptr
 refine ⟨b,p,r.v,rfl,h1,?_⟩
 rcases h2 with rfl | rfl
 ·refine .inr ⟨rfl,H _ ⟨B.low,⟨_,KGZ h1,.inr rfl⟩,B.row.same (fun i hi=>XN (fun e=>B.off ((show i=b from e) ▸ hi))),B.off,B.nz,B.kt.same (fun i hi=>XN (fun e=>B.off ((show i=b from e) ▸ hi)))⟩ (Upd.hset _ _ _ _)⟩
 ·exact .inl ⟨rfl,H _ B (Upd.refl _ _)⟩
theorem KGa {lo:Nat} {h h0 h':Heap} {b:Nat} {r r':Sl} {l l':List UInt8} (B:Bld lo h0 b r l) (u:Upd b h h0) (hs:h0.size≤h'.size)
  (same:∀ i,i < h0.size→¬ Sl.on r i→h'[i]?=h0[i]?) (on_:∀ i,Sl.on r' i→Sl.on r i∨h0.size≤i) (G:Gw lo h' r' 1 (l'.map bv)) (nz:r'.cap=0→r'=Sl.nil) (kt:KT h' r' K9) :
  Bld lo (hset h' ⟨b,1,none⟩ r'.v) b r' l'∧BKeep b r r' h (hset h' ⟨b,1,none⟩ r'.v):=by
 have hb:=B.lt
 obtain ⟨p,h1,h2⟩:=B.ptr
 have h1':h'[b]?=some (.cells #[p,r.v] ZJ (0,0)):=by rw [same b hb B.off]; exact h1
 have hoff:¬ Sl.on r' b:=fun ho=>(on_ b ho).elim B.off (fun h=>by omega)
 refine ⟨⟨B.low,⟨p,KIF h1',h2⟩,G.same (fun i hi=>XN (fun e=>hoff ((show i=b from e) ▸ hi))),hoff,nz,kt.same (fun i hi=>XN (fun e=>hoff ((show i=b from e) ▸ hi)))⟩,?_,fun i hi hne hno=>?_,fun i hi=>?_⟩
 ·rw [GM,← u.size]; exact hs
 ·rw [XN hne,same i (by rw [u.size]; exact hi) hno,u.ne i hne]
 ·rw [← u.size]; exact on_ i hi
theorem Ve {lo:Nat} {h:Heap} {b:Nat} {r:Sl} {l s:List UInt8} {Q:Int × Value→Heap→Prop} (B:Bld lo h b r l) (hlo:lo≤h.size) (hm:l.length+s.length≤140737488355328)
  (H:∀ h' r' n,Bld lo h' b r' (l++s)→BKeep b r r' h h'→Q (n,Value.nilIface) h'):(KP (some ⟨b,0,none⟩) (bs s)).wp h Q:=by
 unfold KP
 refine zK B (fun h0 B0 u=>Jq ?_)
 obtain ⟨p,h1,h2⟩:=B0.ptr
 have hl:=B0.len
 refine Jp (n:=r) (by rw [Kg,KS h1]; rfl) ?_
 refine KPW ?_
 rw [KCb,JD]
 refine KFd (vs:=l.map bv) (z:=#[.int .u8 0]) rfl B0.row (by simp) (fun v hv=>by obtain ⟨x,_,rfl⟩:=List.mem_map.1 hv; rfl) (by omega) (by omega) (by rw [u.size]; exact hlo) B0.nz B0.kt (fun h' r' G hlen hs same on_ nz kt=>?_)
 refine Jq ?_
 rw [← List.map_append] at G
 obtain ⟨B',K⟩:=KGa B0 u hs same on_ G nz kt
 have h1':h'[b]?=some (.cells #[p,r.v] ZJ (0,0)):=by rw [same b B0.lt B0.off]; exact h1
 refine Vj (x:=r.v) (by rw [Kg,KS h1']; rfl) (by rw [Kg,KV h1']) (KAg _) (KG ?_)
 rw [Kg]
 exact H _ _ _ B' K
theorem YB {lo:Nat} {h:Heap} {b:Nat} {r:Sl} {l:List UInt8} {c:UInt8} {n:Int} {Q:Value→Heap→Prop} (B:Bld lo h b r l) (hlo:lo≤h.size) (hm:l.length+1≤140737488355328) (hn:n=(c.toNat:Int))
  (H:∀ h' r',Bld lo h' b r' (l++[c])→BKeep b r r' h h'→Q Value.nilIface h'):(KY (some ⟨b,0,none⟩) n).wp h Q:=by
 subst hn
 unfold KY
 refine zK B (fun h0 B0 u=>Jq ?_)
 have hl:=B0.len
 obtain ⟨p,h1,h2⟩:=B0.ptr
 refine Jp (n:=r) (by rw [Kg,KS h1]; rfl) (KAf ?_)
 have e1:=Ext.push h0 (.cells #[.int .u8 (c.toNat:Int)] K9)
 have B1:=B0.ext e1
 refine KPX (news:=[bv c]) rfl (.inr ⟨_,rfl,fun j v hj=>?_⟩) ?_
 ·rw [Kg,KS Ko,Nat.zero_add]
  rw [show (#[Value.int .u8 (c.toNat:Int)]:Array Value)=[bv c].toArray from rfl]
  simpa using hj
 refine KFd (vs:=l.map bv) (news:=[bv c]) (z:=#[.int .u8 0]) rfl B1.row rfl (fun v hv=>by simp at hv; subst hv; rfl) (by show (r.len+1) * 1≤_; omega) (by show r.len+1≤_; omega) (by have:=e1.size; have:=u.size; omega) B1.nz B1.kt (fun h' r' G hlen hs same on_ nz kt=>?_)
 refine Jq ?_
 have G:Gw lo h' r' 1 ((l++[c]).map bv):=by rw [List.map_append]; exact G
 obtain ⟨p',h1',h2'⟩:=B1.ptr
 have:=KGa B1 (Upd.refl _ _) hs same on_ G nz kt
 obtain ⟨B',K⟩:=this
 have h1'':h'[b]?=some (.cells #[p',r.v] ZJ (0,0)):=by rw [same b B1.lt B1.off]; exact h1'
 refine Vj (x:=r.v) (by rw [Kg,KS h1'']; rfl) (by rw [Kg,KV h1'']) (KAg _) (KG ?_)
 rw [Kg,Nat.zero_add]
 refine H _ _ B' ?_
 refine ⟨?_,fun i hi hne hno=>?_,fun i hi=>(K.on_ i hi).imp id (fun hh=>?_)⟩
 ·have:=K.size; have:=e1.size; have:=u.size; omega
 ·rw [K.same i (by have:=e1.size; have:=u.size; omega) hne hno,e1.same i (by rw [u.size]; exact hi),u.ne i hne]
 ·have:=e1.size; have:=u.size; omega
theorem Nv {lo:Nat} {h:Heap} {b:Nat} {r:Sl} {l:List UInt8} {Q:ByteArray→Heap→Prop} (B:Bld lo h b r l) (hm:l.length≤140737488355328)
  (H:∀ h',BKeep b r r h h'→h'.size=h.size→Q (bs l) h'):(Ky (some ⟨b,0,none⟩)).wp h Q:=by
 unfold Ky
 obtain ⟨p,h1,h2⟩:=B.ptr
 have hl:=B.len
 have c1:KN h ((⟨b,0,none⟩:Addr).add 1)=some r.v:=by rw [Kg,KS h1]; rfl
 refine Jq (Jq (Jp (n:=r) c1 (Jp (n:=r) c1 ?_)))
 rcases B.row with ⟨rfl,hv⟩ | ⟨g,ty,cells,R⟩
 ·have:l=[]:=by simpa using hv
  subst this
  exact ⟨none,.inl ⟨rfl,rfl⟩,.inl ⟨rfl,H h (BKeep.refl _ _ _) rfl⟩⟩
 ·have hc:r.cap≠0:=fun h0=>by
   have:=B.nz h0
   rw [this] at R
   have:=R.base
   cases this
  refine ⟨_,.inr ⟨hc,R.base⟩,?_⟩
  by_cases h0:l=[]
  ·subst h0
   refine .inl ⟨by rw [hl]; rfl,H h (BKeep.refl _ _ _) rfl⟩
  ·have hs:=R.size
   have:=R.cap
   refine .inr ⟨g,cells,(0,0),l,rfl,by rw [hl],h0,by omega,by omega,?_,fun j x hj=>?_,fun h' a1 a2=>KG (H _ ⟨by rw [a1]; exact Nat.le_refl _,fun i hi hne hno=>a2 i (fun e=>hno ⟨_,R.base,e.symm⟩),fun i hi=>.inl hi⟩ a1)⟩
   ·obtain ⟨c,z,hh⟩:=B.kt g R.base
    rw [R.blk] at hh; cases hh
    exact R.blk
   ·have:=R.get j (bv x) (by simp [hj])
    exact this
end Gx
namespace Gx
open Go
set_option linter.unusedVariables false
set_option linter.unusedSimpArgs false
def hexc (n:Nat):UInt8:=if n < 10 then UInt8.ofNat (48+n) else UInt8.ofNat (87+n)
theorem KLK:∀ n,n < 16→([48,49,50,51,52,53,54,55,56,57,97,98,99,100,101,102,103,104,105,106,107,108,109,110,111,112,113,114,115,116,117,118,119,120,121,122]:List UInt8)[n]?=some (hexc n):=by decide
theorem KOf {β:Type} {h:Heap} {Q:β→Heap→Prop} {l:List UInt8} {i:Nat} {t:Int} {c:UInt8} {f:Int→M β} (ht:t=(i:Int)) (hi:l[i]?=some c) (H:(f (c.toNat:Int)).wp h Q):(ixS (bs l) t>>=f).wp h Q:=by
 obtain ⟨h1,rfl⟩:=List.getElem?_eq_some_iff.1 hi
 exact KDM ht h1 H
theorem KPY {β:Type} {h:Heap} {Q:β→Heap→Prop} {b i:Nat} {t:TypeId} {l:List UInt8} {c:UInt8} {f:Unit→M β} (hb:BB h b t l) (hi:i < l.length)
  (H:∀ h',BB h' b t (l.set i c)→Upd b h h'→(f ()).wp h' Q):(stV ⟨b,i,none⟩ (.int .u8 (c.toNat:Int))>>=f).wp h Q :=
 Vj (hb.cell hi) (hb.frozen i) (KOD c) (H _ (hb.set i c) (Upd.hset _ _ _ _))
theorem KLL:(⟨#[48,49,50,51,52,53,54,55,56,57,97,98,99,100,101,102,103,104,105,106,107,108,109,110,111,112,113,114,115,116,117,118,119,120,121,122]⟩:ByteArray)=bs [48,49,50,51,52,53,54,55,56,57,97,98,99,100,101,102,103,104,105,106,107,108,109,110,111,112,113,114,115,116,117,118,119,120,121,122]:=rfl
theorem X9.ext {h h':Heap} (H:X9 h) (e:Ext h h'):X9 h':=by
 obtain ⟨cs,ty,fz,h1,h2⟩:=H
 exact ⟨cs,ty,fz,e.blk h1,h2⟩
theorem Vt.ext {h h':Heap} (H:Vt h) (e:Ext h h'):Vt h':=by
 obtain ⟨fz,ty,h1⟩:=H
 exact ⟨fz,ty,e.blk h1⟩
theorem KIG {n:Nat} (hn:n < 16) {h:Heap} {Q:ByteArray→Heap→Prop} (hd:X9 h) (H:∀ h',Ext h h'→Q (bs [hexc n]) h'):(J3 (n:Int) 16).wp h Q:=by
 unfold J3
 refine iteF (by decide) (KJ ?_)
 have w1:IntKind.wrap .u64 (n:Int)=(n:Int):=by rw [IntKind.wrap_u64]; omega
 rw [w1,show decide ((n:Int) < 0)=false by simp]
 unfold Z6
 refine zX (by decide) (Jy (zX (by decide) (Jy (iteF (by decide) (KMo (iteF rfl ?_))))))
 have e1:=Ext.push h (.cells (Array.replicate 65 (.int .u8 0)) Wo)
 have g1:(h.push (.cells (Array.replicate 65 (.int .u8 0)) Wo))[h.size]?=some (.cells (Array.replicate 65 (.int .u8 0)) Wo (0,0)):=Ko
 generalize h.push (.cells (Array.replicate 65 (.int .u8 0)) Wo)=h1 at e1 g1 ⊢
 unfold Zj Zq
 refine Jy (iteT (by decide) ?_)
 unfold Jl JR
 obtain ⟨cs,ty,fz,d1,d2⟩:=hd.ext e1
 refine KJ (zX (by decide) (KOB (by decide) (by decide) (Jc (n:=4) ?_ (Jy (KG ?_)))))
 ·rw [show ((iShr .u64 (IntKind.wrap .u64 ((iAnd .u64 (IntKind.wrap .u64 16) (IntKind.wrap .u64 (0 - (IntKind.wrap .u64 16)))) * 285870213051353865)) 58).toNat * 1)=15 by decide,Kg,KS d1]
  exact d2
 have b1:BB h1 h.size Wo (List.replicate 65 0):=by
  unfold BB
  rw [g1]
  rfl
 refine M.loop_inv (fun (t:Int × Int) h'=>h'=h1∧t=((n:Int),65)) (fun _ _=>0) ?_ ⟨rfl,rfl⟩
 rintro t h' ⟨rfl,rfl⟩ self hself
 unfold JV
 refine iteF (by simp [IntKind.wrap_u64]; omega) ?_
 rw [KLL]
 refine KOf rfl (KLK n hn) (KOB (by decide) (by decide) ?_)
 rw [show (IntKind.wrap .i64 (65 - 1)).toNat * 1=64 by decide,Kg,Nat.zero_add]
 refine KPY b1 (by decide) (fun h2 b2 u2=>?_)
 unfold Zi Zh
 refine iteF rfl (iteF rfl (KPG (by decide) (by decide) (by decide) ?_))
 rw [show (IntKind.wrap .i64 (65 - 1)).toNat=64 by decide,if_neg (by decide),Kg]
 refine KOC (ns:=[hexc n]) rfl ?_ (KG (KG (H _ (e1.upd u2 (Nat.le_refl _)))))
 have:=(b2.bys 64 1 1 (by simp)).at_
 exact this
end Gx
namespace Gx
open Go
set_option linter.unusedVariables false
set_option linter.unusedSimpArgs false
theorem N5 {n:Int} {h:Heap} {Q:ByteArray→Heap→Prop} (hn:I64 n) (hp:Vt h) (H:∀ h',Ext h h'→Q (bs (Lib.itoa n)) h'):(Xz n).wp h Q:=by
 unfold Xz Zs
 refine KJ (KJ (NR (KAl n) ⟨hn.1,hn.2,hp,fun h' h1 h2=>KG (KG (H _ ⟨h1,h2⟩))⟩))
theorem KJi {β:Type} {n:Nat} (hn:n < 16) {t:Int} (ht:t=(n:Int)) {h:Heap} {Q:β→Heap→Prop} {f:ByteArray→M β} (hd:X9 h) (H:∀ h',Ext h h'→(f (bs [hexc n])).wp h' Q):(Zs t 16>>=f).wp h Q:=by
 subst ht
 unfold Zs
 exact KJ (KJ (NR (XG _ _) (KIG hn hd (fun h' e=>KG (H _ e)))))
def qc (c:UInt8):List UInt8:=if c < 32∨126 < c then [92,120,hexc (c.toNat / 16),hexc (c.toNat % 16)] else if c=39∨c=92 then [92,c] else [c]
def VN (s:List UInt8):List UInt8:=39::s.flatMap qc++[39]
theorem KPZ (c:UInt8):(qc c).length≤4:=by unfold qc; split <;> (try split) <;> simp
structure BW (h0:Heap) (b c:Nat) (o:Obj) (h:Heap) (r:Sl) (l:List UInt8):Prop where
 bld:Bld h0.size h b r l
 ext:Ext h0 h
 blk:h[c]?=some o
 off:¬ Sl.on r c
 ne:c≠b
theorem BW.keep {h0 h h':Heap} {b c:Nat} {o:Obj} {r r':Sl} {l l':List UInt8} (W:BW h0 b c o h r l) (B:Bld h0.size h' b r' l') (K:BKeep b r r' h h'):BW h0 b c o h' r' l' :=
 ⟨B,K.ext W.ext W.bld (Nat.le_refl _),(K.same c (JX W.blk) W.ne W.off).trans W.blk,fun ho=>(K.on_ c ho).elim W.off (fun h=>by have:=JX W.blk; omega),W.ne⟩
theorem BW.more {h0 h h':Heap} {b c:Nat} {o:Obj} {r:Sl} {l:List UInt8} (W:BW h0 b c o h r l) (e:Ext h h'):BW h0 b c o h' r l :=
 ⟨W.bld.ext e,W.ext.trans e,e.blk W.blk,W.off,W.ne⟩
theorem KOg (c:UInt8):iShr .u8 (c.toNat:Int) 4=((c.toNat / 16:Nat):Int):=by
 have h:(c.toNat:Int).fdiv 16=((c.toNat / 16:Nat):Int):=by
  rw [Int.fdiv_eq_ediv_of_nonneg _ (by decide)]; rfl
 exact h
set_option maxRecDepth 100000 in
theorem KOh:∀ c:UInt8,iAnd .u8 (c.toNat:Int) 15=((c.toNat % 16:Nat):Int):=by
 intro c
 have hk:∀ n,n < 256→iAnd .u8 ((n:Nat):Int) 15=((n % 16:Nat):Int):=by decide
 exact hk c.toNat c.toNat_lt
theorem KJj {l:List UInt8} {i:Nat} (hi:i < l.length) (f:UInt8→List UInt8):(l.take (i+1)).flatMap f=(l.take i).flatMap f++f l[i]:=by
 rw [KI2 hi,List.flatMap_append]; simp
theorem KGb {s:List UInt8} {h:Heap} {Q:ByteArray→Heap→Prop} (hs:(VN s).length≤140737488355328) (hd:X9 h) (H:∀ h',Ext h h'→Q (bs (VN s)) h'):(XV (bs s)).wp h Q:=by
 unfold XV
 refine ZW (fun h1 e1 z1 g1=>?_)
 have B1:=Bld.new (Nat.le_refl _) g1
 refine KJ (YB (c:=39) B1 (by omega) (by simp) rfl (fun h2 r2 B2 K2=>?_))
 refine fun cap hcap mk hmk=>?_
 have e3:=Ext.push h2 (.cells ((Z3 (bs s)).toArray++Array.replicate (cap - (bs s).size) (.int .u8 0)) K9 mk)
 have g3:(h2.push (.cells ((Z3 (bs s)).toArray++Array.replicate (cap - (bs s).size) (.int .u8 0)) K9 mk))[h2.size]?=some (.cells ((Z3 (bs s)).toArray++Array.replicate (cap - (bs s).size) (.int .u8 0)) K9 mk):=Ko
 generalize h2.push (.cells ((Z3 (bs s)).toArray++Array.replicate (cap - (bs s).size) (.int .u8 0)) K9 mk)=h3 at e3 g3 ⊢
 have hlt:=B2.lt
 have W3:BW h h.size h2.size _ h3 r2 [39]:=⟨B2.ext e3,(K2.ext e1 B1 (Nat.le_refl _)).trans e3,g3,fun ho=>by have:=(B2.row.lt ho).1; omega,by omega⟩
 rw [JD]
 have hq:(VN s).length=(s.flatMap qc).length+2:=by simp [VN]
 have hsl:s.length≤(s.flatMap qc).length:=by
  rw [List.length_flatMap]
  clear hs H hcap W3 g3 e3 hq K2 B2 hlt
  induction s with
  | nil=>simp
  | cons a s ih=>rw [List.map_cons,List.sum_cons,List.length_cons]; have:1≤(qc a).length:=by { unfold qc; split <;> (try split) <;> simp }; omega
 have hpre:∀ i,((s.take i).flatMap qc).length≤(s.flatMap qc).length:=fun i=>by
  conv=>rhs; rw [← List.take_append_drop i s,List.flatMap_append,List.length_append]
  omega
 refine M.loop_inv (fun (t:Int) h'=>∃ i:Nat,t=(i:Int)∧i≤s.length∧∃ r,BW h h.size h2.size (.cells ((Z3 (bs s)).toArray++Array.replicate (cap - (bs s).size) (.int .u8 0)) K9 mk) h' r (39::(s.take i).flatMap qc)) (fun t _=>((s.length:Int) - t).toNat) ?_ ⟨0,rfl,Nat.zero_le _,r2,W3⟩
 rintro t h' ⟨i,rfl,hi,r,W⟩ self hself
 unfold GA
 have hpi:=hpre i
 refine Kc (fun hc=>?_) (fun hc=>?_)
 ·have hlt':i < s.length:=by have:=of_decide_eq_true hc; dsimp only at this; omega
  have hpj:=hpre (i+1)
  have htk:=KJj hlt' qc
  have cell:KN h' ((⟨h2.size,0,none⟩:Addr).add ((i:Int).toNat * 1))=some (.int .u8 (s[i].toNat:Int)):=by
   rw [Kg,KS W.blk,show 0+(i:Int).toNat * 1=i by omega,Array.getElem?_append_left (by rw [KCb]; simpa using hlt')]
   simp [KCb,hlt',bv]
  refine Xl (by omega) (by show (i:Int) < (s.length:Int); omega) rfl (Jc cell ?_)
  have hw64:IntKind.wrap .i64 ((i:Int)+1)=((i+1:Nat):Int):=by rw [w64 (by omega) (by omega)]; simp
  have hnext:∀ {h4:Heap} {r4:Sl},BW h h.size h2.size (.cells ((Z3 (bs s)).toArray++Array.replicate (cap - (bs s).size) (.int .u8 0)) K9 mk) h4 r4 (39::(s.take (i+1)).flatMap qc)→(Up self (i:Int)).wp h4 Q:=fun W4=>by
   unfold Up
   rw [hw64]
   exact hself _ _ ⟨i+1,rfl,by omega,_,W4⟩ (by omega)
  rw [htk] at hnext hpj
  have c32:(decide ((s[i].toNat:Int) < 32))=decide (s[i] < 32):=by rw [Bool.eq_iff_iff]; simp [u8_lt_int]
  have c126:(decide ((s[i].toNat:Int) > 126))=decide (126 < s[i]):=by rw [Bool.eq_iff_iff]; simp [u8_lt_int]
  refine or_b (c:=decide (126 < s[i])) (fun _ Q' hq'=>KG (by rw [c126]; exact hq')) ?_
  rw [c32]
  have hlo:h.size≤h'.size:=W.ext.size
  refine Kc (fun hx=>?_) (fun hx=>?_)
  ·have hx':s[i] < 32∨126 < s[i]:=by simpa using hx
   have hqc:qc s[i]=[92,120,hexc (s[i].toNat / 16),hexc (s[i].toNat % 16)]:=by unfold qc; rw [if_pos hx']
   rw [hqc] at hnext hpj
   simp only [List.length_append,List.length_cons,List.length_nil] at hpj
   have hdiv:s[i].toNat / 16 < 16:=by have:=s[i].toNat_lt; omega
   refine KJ (Ve (s:=[92,120]) W.bld hlo (by simp only [List.length_cons,List.length_append,List.length_nil]; omega) (fun h4 r4 n4 B4 K4=>?_))
   have W4:=W.keep B4 K4
   refine KJi hdiv (by rw [KOg,w64 (by omega) (by omega)]) (hd.ext W4.ext) (fun h5 e5=>?_)
   have W5:=W4.more e5
   refine KJ (Ve W5.bld W5.ext.size (by simp only [List.length_cons,List.length_append,List.length_nil]; omega) (fun h6 r6 n6 B6 K6=>?_))
   have W6:=W5.keep B6 K6
   refine KJi (Nat.mod_lt _ (by decide)) (by rw [KOh,w64 (by omega) (by omega)]) (hd.ext W6.ext) (fun h7 e7=>?_)
   have W7:=W6.more e7
   refine KJ (Ve W7.bld W7.ext.size (by simp only [List.length_cons,List.length_append,List.length_nil]; omega) (fun h8 r8 n8 B8 K8=>?_))
   exact hnext (by have:=W7.keep B8 K8; simpa using this)
  ·have hx':¬ (s[i] < 32∨126 < s[i]):=by simpa using hx
   have c39:((s[i].toNat:Int) == 39)=decide (s[i]=39):=by
    rw [Bool.eq_iff_iff]; simp only [beq_iff_eq,decide_eq_true_eq]
    exact ⟨fun e=>UInt8.toNat_inj.1 (by simpa using (by omega:s[i].toNat=39)),fun e=>by rw [e]; rfl⟩
   have c92:((s[i].toNat:Int) == 92)=decide (s[i]=92):=by
    rw [Bool.eq_iff_iff]; simp only [beq_iff_eq,decide_eq_true_eq]
    exact ⟨fun e=>UInt8.toNat_inj.1 (by simpa using (by omega:s[i].toNat=92)),fun e=>by rw [e]; rfl⟩
   refine or_b (c:=decide (s[i]=92)) (fun _ Q' hq'=>KG (by rw [c92]; exact hq')) ?_
   rw [c39]
   refine Kc (fun hy=>?_) (fun hy=>?_)
   ·have hy':s[i]=39∨s[i]=92:=by simpa using hy
    have hqc:qc s[i]=[92,s[i]]:=by unfold qc; rw [if_neg hx',if_pos hy']
    rw [hqc] at hnext hpj
    simp only [List.length_append,List.length_cons,List.length_nil] at hpj
    refine KJ (YB (c:=92) W.bld hlo (by simp only [List.length_cons,List.length_append,List.length_nil]; omega) rfl (fun h4 r4 B4 K4=>?_))
    have W4:=W.keep B4 K4
    refine KJ (YB (c:=s[i]) W4.bld W4.ext.size (by simp only [List.length_cons,List.length_append,List.length_nil]; omega) rfl (fun h5 r5 B5 K5=>?_))
    exact hnext (by have:=W4.keep B5 K5; simpa using this)
   ·have hy':¬ (s[i]=39∨s[i]=92):=by simpa using hy
    have hqc:qc s[i]=[s[i]]:=by unfold qc; rw [if_neg hx',if_neg hy']
    rw [hqc] at hnext hpj
    simp only [List.length_append,List.length_cons,List.length_nil] at hpj
    refine KJ (YB (c:=s[i]) W.bld hlo (by simp only [List.length_cons,List.length_append,List.length_nil]; omega) rfl (fun h4 r4 B4 K4=>?_))
    exact hnext (by have:=W.keep B4 K4; simpa using this)
 ·have hge:i=s.length:=by have:=of_decide_eq_false hc; dsimp only at this; omega
  subst hge
  rw [List.take_length] at W
  refine KJ (YB (c:=39) W.bld W.ext.size (by simp only [List.length_cons,List.length_append,List.length_nil]; omega) rfl (fun h4 r4 B4 K4=>?_))
  have W4:=W.keep B4 K4
  refine KJ (Nv B4 (by simp only [List.length_cons,List.length_append,List.length_nil]; omega) (fun h5 K5 _=>KG ?_))
  exact H _ (K5.ext W4.ext B4 (Nat.le_refl _))
end Gx
namespace Gx
open Go
set_option linter.unusedVariables false
set_option linter.unusedSimpArgs false
theorem KJk (s:List UInt8):(VN s).length=(s.flatMap qc).length+2:=by simp [VN]
end Gx
namespace Gx
open Go
set_option linter.unusedVariables false
set_option linter.unusedSimpArgs false
def dgt (u:Nat):List Nat:=if h:u < 10 then [u] else dgt (u / 10)++[u % 10]
termination_by u
decreasing_by omega
theorem KGc (u:Nat):Lib.decDigits u=(dgt u).map fun d=>UInt8.ofNat (48+d):=by
 induction u using Nat.strongRecOn with
 | _ u ih =>
  unfold dgt Lib.decDigits
  split
  ·rfl
  ·rw [ih (u / 10) (by omega)]; simp
theorem KOi (u:Nat):∀ d ∈ dgt u,d < 10:=by
 induction u using Nat.strongRecOn with
 | _ u ih =>
  unfold dgt
  split
  ·intro d hd; simp at hd; omega
  ·intro d hd
   rcases List.mem_append.1 hd with hd | hd
   ·exact ih (u / 10) (by omega) d hd
   ·simp at hd; omega
theorem KGd:∀ (k u:Nat),u < 10 ^ k→1≤k→(dgt u).length≤k
 | 0,u,h,h1=>by omega
 | k+1,u,h,h1=>by
  unfold dgt
  split
  ·simp
  ·rename_i hu
   rw [List.length_append]
   have:1≤k:=by
    rcases Nat.eq_zero_or_pos k with h0 | h0
    ·subst h0; omega
    ·exact h0
   have:=KGd k (u / 10) (by rw [Nat.pow_succ] at h; omega) this
   simp; omega
theorem KCc {β:Type} {h:Heap} {Q:β→Heap→Prop} {x y:List UInt8} {f:ByteArray→M β} (hm:x.length+y.length≤9223372036854775807) (H:(f (bs (x++y))).wp h Q):(sCat (bs x) (bs y)>>=f).wp h Q :=
 ⟨bs (x++y),⟨by rw [JD,JD]; omega,by apply ByteArray.ext; simp [bs]⟩,H⟩
theorem KEi {n:Int} (hn:I64 n):(Lib.itoa n).length≤21:=by
 obtain ⟨n1,n2⟩:=hn
 unfold Lib.itoa
 split
 ·rw [List.length_cons,KGc,List.length_map]
  have:=KGd 20 n.natAbs (by omega) (by decide)
  omega
 ·rw [KGc,List.length_map]
  have:=KGd 20 n.toNat (by omega) (by decide)
  omega
end Gx
namespace Gx
open Go
set_option linter.unusedVariables false
set_option linter.unusedSimpArgs false
def jn (sep:List UInt8):List (List UInt8)→List UInt8
 | []=>[]
 | [a]=>a
 | a::b::r=>a++(sep++jn sep (b::r))
def sv (s:List UInt8):Value:=.string (bs s)
theorem KCd (sep a:List UInt8) (l:List (List UInt8)):jn sep (a::l)=a++l.flatMap (fun s=>sep++s):=by
 induction l generalizing a with
 | nil=>simp [jn]
 | cons b r ih=>rw [jn,ih]; simp
theorem KIH {lo:Nat} {h:Heap} {b:Nat} {n:Int} {Q:Unit→Heap→Prop} (B:Bld lo h b Sl.nil []) (hlo:lo≤h.size) (h0:0≤n) (hn:n≤140737488355328)
  (H:∀ h' r',Bld lo h' b r' []→BKeep b Sl.nil r' h h'→Q () h'):(Jg (some ⟨b,0,none⟩) n).wp h Q:=by
 unfold Jg
 refine zK B (fun h1 B1 u1=>iteF (by simp; omega) ?_)
 obtain ⟨p,q1,q2⟩:=B1.ptr
 have c1:KN h1 ((⟨b,0,none⟩:Addr).add 1)=some Sl.nil.v:=by rw [Kg,KS q1]; rfl
 refine Jq (Jq (Jp (n:=Sl.nil) c1 (Jp (n:=Sl.nil) c1 ?_)))
 have hK1:BKeep b Sl.nil Sl.nil h h1:=⟨by rw [u1.size]; exact Nat.le_refl _,fun i hi hne _=>u1.ne i hne,fun i hi=>.inl hi⟩
 refine Kc (fun hc=>?_) (fun hc=>KG (H _ _ B1 hK1))
 have hpos:0 < n:=of_decide_eq_true hc
 refine KJ ?_
 unfold UJ
 refine Jq (Jq (Jp (n:=Sl.nil) c1 (Jp (n:=Sl.nil) c1 ?_)))
 have hw:IntKind.wrap .i64 ((IntKind.wrap .i64 (2 * ((Sl.nil:Sl).cap:Int)))+n)=n:=by
  rw [show IntKind.wrap .i64 (2 * ((Sl.nil:Sl).cap:Int))=0 by decide,w64 (by omega) (by omega)]; omega
 rw [hw]
 refine ⟨h0,by omega,fun cs hle hmax=>?_⟩
 have e2:=Ext.push h1 (.cells cs K9)
 have g2:(h1.push (.cells cs K9))[h1.size]?=some (.cells cs K9 (0,0)):=Ko
 generalize h1.push (.cells cs K9)=h2 at e2 g2 ⊢
 have c2:=e2.cell c1
 refine KCy ⟨c2,c2⟩ (KHv (by decide) (by decide) (by dsimp only [Sl.nil]; omega) (Jq (Jp (n:=Sl.nil) c2 ?_)))
 have hcs:cs.size≠0:=by omega
 rw [if_neg (show ¬ cs.size=(0:Int).toNat by simpa using hcs)]
 have hbz:(Option.map (fun x:Addr=>x.add ((0:Int).toNat * 1)) (some ⟨h1.size,0,none⟩))=some ⟨h1.size,0,none⟩:=by simp [Kg]
 have hr:(⟨Option.map (fun x:Addr=>x.add ((0:Int).toNat * 1)) (some ⟨h1.size,0,none⟩),((Sl.nil:Sl).len:Int).toNat - (0:Int).toNat,cs.size - (0:Int).toNat⟩:Sl)=⟨some ⟨h1.size,0,none⟩,0,cs.size⟩:=by
  rw [hbz]; simp [Sl.nil]
 dsimp only
 rw [hr]
 refine ⟨[],by simp [Sl.nil],.inl rfl,fun a ha j hj=>by simp at hj,by simp,Jq ?_⟩
 rw [show Yv h2 (⟨some ⟨h1.size,0,none⟩,0,cs.size⟩:Sl).base 0 []=h2 from rfl]
 obtain ⟨p',q1',q2'⟩:=(B1.ext e2).ptr
 refine Vj (x:=Sl.nil.v) c2 (by rw [Kg,KV q1']) (KAg _) (KG (KG ?_))
 rw [Kg,Nat.zero_add]
 have hlt:=B1.lt
 have R:Gw lo h2 ⟨some ⟨h1.size,0,none⟩,0,cs.size⟩ 1 (([]:List UInt8).map bv):=.inr ⟨h1.size,_,_,rfl,by have:=u1.size; omega,g2,by simp,by simp,by simp,fun j v hj=>by simp at hj⟩
 obtain ⟨B3,K3⟩:=KGa (h:=h1) (h':=h2) (l':=[]) B1 (Upd.refl _ _) e2.size (fun i hi _=>e2.same i hi) (fun i hi=>by obtain ⟨a,ha,rfl⟩:=hi; cases ha; exact .inr (Nat.le_refl _)) R (fun h=>absurd h hcs) (fun g hg=>by cases hg; exact ⟨_,_,g2⟩)
 exact H _ _ B3 (hK1.trans K3 B.lt)
def SsAt (h:Heap) (x:Sl) (ps:List (List UInt8)):Prop:=x.len=ps.length∧x.len≤x.cap∧NV h x.base (ps.map sv)
theorem SsAt.ext {h h':Heap} {x:Sl} {ps:List (List UInt8)} (S:SsAt h x ps) (e:Ext h h'):SsAt h' x ps:=⟨S.1,S.2.1,e.reads S.2.2⟩
theorem SsAt.get {h:Heap} {x:Sl} {ps:List (List UInt8)} (S:SsAt h x ps) {i:Nat} (hi:i < ps.length):∃ a,x.base=some a∧KN h (a.add i)=some (.string (bs ps[i])):=by
 obtain ⟨_,_,R | ⟨a,ha,R⟩⟩:=S
 ·have:ps=[]:=by simpa using R
  subst this; simp at hi
 ·exact ⟨a,ha,R i _ (by simp [hi,sv])⟩
theorem KEj {ps:List (List UInt8)} {i:Nat} (hi:i < ps.length):((ps.take (i+1)).map List.length).sum=((ps.take i).map List.length).sum+ps[i].length:=by
 rw [List.take_succ_eq_append_getElem hi,List.map_append,List.sum_append]; simp only [List.map_cons,List.map_nil,List.sum_cons,List.sum_nil,Nat.add_zero]
theorem KGe (ps:List (List UInt8)) (i:Nat):((ps.take i).map List.length).sum≤(ps.map List.length).sum:=by
 conv=>rhs; rw [← List.take_append_drop i ps,List.map_append,List.sum_append]
 omega
theorem KGf (sep:List UInt8):∀ (l:List (List UInt8)) (h:0 < l.length),jn sep l=l[0]++(l.drop 1).flatMap (fun s=>sep++s)
 | [],h=>by simp at h
 | a::r,h=>by rw [KCd]; rfl
theorem KJl (sep:List UInt8):∀ ps:List (List UInt8),ps≠[]→(jn sep ps).length=(ps.map List.length).sum+sep.length * (ps.length - 1)
 | [],h=>absurd rfl h
 | [a],_=>by simp [jn]
 | a::b::r,_=>by
  rw [jn,List.length_append,List.length_append,KJl sep (b::r) (by simp)]
  simp only [List.map_cons,List.sum_cons,List.length_cons]
  rw [show r.length+1+1 - 1=(r.length+1 - 1)+1 by omega,Nat.mul_add]
  omega
theorem KJm {h:Heap} {x:Sl} {ps:List (List UInt8)} {sep:List UInt8} {Q:ByteArray→Heap→Prop} (S:SsAt h x ps) (hs1:1≤sep.length) (hs:sep.length≤16) (hp:ps.length≤1099511627776) (hm:(jn sep ps).length≤70368744177664)
  (H:∀ h',Ext h h'→Q (bs (jn sep ps)) h'):(YO x (bs sep)).wp h Q:=by
 unfold YO
 rw [S.1]
 match hps:ps with
 | []=>exact iteT rfl (KG (H _ (Ext.refl _)))
 | [a] =>
  obtain ⟨b,hb,hcell'⟩:=S.get (i:=0) (by simp)
  exact iteF rfl (iteT rfl (Xl (by decide) (by rw [S.1]; simp) hb (Gg (n:=bs a) hcell' (KG (H _ (Ext.refl _))))))
 | a::b0::r0 =>
  rw [← hps] at S hp hm H ⊢
  have hne:ps≠[]:=by rw [hps]; simp
  have hl2:2≤ps.length:=by rw [hps]; simp
  have hjl:=KJl sep ps hne
  rw [JD]
  refine iteF (by rw [beq_eq_false_iff_ne]; omega) (iteF (by rw [beq_eq_false_iff_ne]; omega) (iteT (by simp; omega) ?_))
  have hw1:IntKind.wrap .i64 ((ps.length:Int) - 1)=((ps.length - 1:Nat):Int):=by rw [w64 (by omega) (by omega)]; omega
  rw [hw1]
  refine ⟨IntKind.wrap .i64 ((9223372036854775807:Int).tdiv ((ps.length - 1:Nat):Int)),⟨by omega,rfl⟩,?_⟩
  have hq:(sep.length:Int) < IntKind.wrap .i64 ((9223372036854775807:Int).tdiv ((ps.length - 1:Nat):Int)):=by
   rw [Int.tdiv_eq_ediv_of_nonneg (by decide)]
   have h1:(17:Int)≤9223372036854775807 / ((ps.length - 1:Nat):Int):=by
    rw [Int.le_ediv_iff_mul_le (by omega)]; omega
   have h2:9223372036854775807 / ((ps.length - 1:Nat):Int)≤9223372036854775807:=Int.ediv_le_self _ (by decide)
   rw [w64 (by omega) (by omega)]; omega
  have hsm:sep.length * (ps.length - 1)≤70368744177664:=by omega
  have hcast:(sep.length:Int) * ((ps.length - 1:Nat):Int)=((sep.length * (ps.length - 1):Nat):Int):=by simp
  refine iteF (by simp; omega) ?_
  unfold WK
  rw [hcast,w64n (n:=sep.length * (ps.length - 1)) (by omega),Int.zero_add,w64n (n:=sep.length * (ps.length - 1)) (by omega)]
  refine M.loop_inv (fun (t:Int × Int) h'=>h'=h∧∃ i:Nat,t.2=(i:Int)∧i≤ps.length∧t.1=((sep.length * (ps.length - 1)+((ps.take i).map List.length).sum:Nat):Int)) (fun t _=>((ps.length:Int) - t.2).toNat) ?_ ⟨rfl,0,rfl,Nat.zero_le _,by simp⟩
  rintro ⟨m,t⟩ h' ⟨rfl,i,ht,hi,hmm⟩ self hself
  have ht:t=(i:Int):=ht
  have hmm:m=_:=hmm
  subst ht; subst hmm
  unfold XX
  rw [S.1]
  have hpi:=KGe ps i
  refine Kc (fun hc=>?_) (fun hc=>?_)
  ·have hlt:i < ps.length:=by have:=of_decide_eq_true hc; omega
   have hpj:=KGe ps (i+1)
   rw [KEj hlt] at hpj
   obtain ⟨b,hb,hcell'⟩:=S.get hlt
   refine Xl (by omega) (by rw [S.1]; omega) hb (Gg (n:=bs ps[i]) (by rw [show (i:Int).toNat * 1=i by omega]; exact hcell') ?_)
   rw [JD]
   refine iteF (by rw [w64 (by omega) (by omega),decide_eq_false_iff_not]; omega) ?_
   refine hself (_,_) _ ⟨rfl,i+1,by dsimp only; rw [w64 (by omega) (by omega)]; simp,by omega,?_⟩ (by dsimp only; rw [w64 (by omega) (by omega)]; omega)
   dsimp only
   rw [w64 (by omega) (by omega),KEj hlt]; omega
  ·have hge:i=ps.length:=by have:=of_decide_eq_false hc; omega
   subst hge
   rw [List.take_length]
   refine ZW (fun h1 e1 z1 g1=>?_)
   have B1:=Bld.new (Nat.le_refl _) g1
   refine KJ (KIH B1 (by omega) (by omega) (by omega) (fun h2 r2 B2 K2=>?_))
   have E2:=K2.ext e1 B1 (Nat.le_refl _)
   obtain ⟨b,hb,hcell'⟩:=(S.ext E2).get (i:=0) (by omega)
   have h0l:=KGe ps 1
   rw [KEj (i:=0) (by omega)] at h0l
   refine Xl (by decide) (by rw [S.1]; omega) hb (Gg (n:=bs ps[0]) hcell' ?_)
   refine KJ (Ve B2 E2.size (by rw [List.length_nil]; omega) (fun h3 r3 n3 B3 K3=>?_))
   have E3:=K3.ext E2 B2 (Nat.le_refl _)
   have hcap:=S.2.1
   have hSl:=S.1
   refine KHv (by decide) (by omega) (by omega) ?_
   have hx:(⟨if x.cap=(1:Int).toNat then x.base else x.base.map (fun a=>a.add ((1:Int).toNat * 1)),(ps.length:Int).toNat - (1:Int).toNat,x.cap - (1:Int).toNat⟩:Sl)=⟨some (b.add 1),ps.length - 1,x.cap - 1⟩:=by
    have hl:=S.1
    rw [if_neg (show ¬ x.cap=(1:Int).toNat by have:(1:Int).toNat=1:=rfl; omega),hb]
    rfl
   rw [hx]
   have hj0:jn sep ps=ps[0]++(ps.drop 1).flatMap (fun s=>sep++s):=KGf sep ps (by omega)
   have hpre:∀ k,(ps[0]++((ps.drop 1).take k).flatMap (fun s=>sep++s)).length≤(jn sep ps).length:=fun k=>by
    rw [hj0,List.length_append,List.length_append]
    conv=>rhs; rw [← List.take_append_drop k (ps.drop 1),List.flatMap_append,List.length_append]
    omega
   refine M.loop_inv (fun (t:Int) hx=>∃ k:Nat,t=(k:Int)∧k≤ps.length - 1∧Ext h' hx∧∃ r,Bld h'.size hx h'.size r (ps[0]++((ps.drop 1).take k).flatMap (fun s=>sep++s))) (fun t _=>((ps.length:Int) - t).toNat) ?_ ⟨0,rfl,Nat.zero_le _,E3,r3,by simpa using B3⟩
   rintro t h4 ⟨k,rfl,hk,E4,r4,B4⟩ self2 hself2
   unfold XW
   dsimp only
   have hpk:=hpre k
   refine Kc (fun hc=>?_) (fun hc=>?_)
   ·have hlt:k < ps.length - 1:=by have:=of_decide_eq_true hc; omega
    have hlt':1+k < ps.length:=by omega
    have hpk1:=hpre (k+1)
    have htk:((ps.drop 1).take (k+1)).flatMap (fun s=>sep++s)=((ps.drop 1).take k).flatMap (fun s=>sep++s)++(sep++ps[1+k]):=by
     rw [List.take_succ_eq_append_getElem (by simpa using hlt),List.flatMap_append]
     simp only [List.getElem_drop,List.flatMap_cons,List.flatMap_nil,List.append_nil]
    rw [htk,← List.append_assoc,← List.append_assoc,List.length_append,List.length_append] at hpk1
    obtain ⟨b',hb',hcell2⟩:=(S.ext E4).get hlt'
    rw [hb] at hb'
    cases hb'
    refine Xl (by omega) (by dsimp only; omega) rfl (Gg (n:=bs ps[1+k]) (by rw [Addr.add_add,show 1+(k:Int).toNat * 1=1+k by omega]; exact hcell2) ?_)
    refine KJ (Ve B4 E4.size (by omega) (fun h5 r5 n5 B5 K5=>?_))
    have E5:=K5.ext E4 B4 (Nat.le_refl _)
    refine KJ (Ve B5 E5.size (by rw [List.length_append]; omega) (fun h6 r6 n6 B6 K6=>?_))
    have E6:=K6.ext E5 B5 (Nat.le_refl _)
    rw [w64 (by omega) (by omega)]
    refine hself2 _ _ ⟨k+1,by simp,by omega,E6,r6,?_⟩ (by omega)
    rw [htk,← List.append_assoc,← List.append_assoc]
    exact B6
   ·have hge:k=ps.length - 1:=by have:=of_decide_eq_false hc; omega
    subst hge
    rw [List.take_of_length_le (by simp),← hj0] at B4
    refine KJ (Nv B4 (by omega) (fun h5 K5 _=>KG (H _ (K5.ext E4 B4 (Nat.le_refl _)))))
end Gx
namespace Gx
open Go
set_option linter.unusedVariables false
set_option linter.unusedSimpArgs false
def shw (ev od:List UInt8):List (List UInt8)→List UInt8
 | []=>[]
 | [a]=>a
 | a::b::r=>a++(ev++shw od ev (b::r))
def prs:List (List UInt8)→List (List UInt8)
 | []=>[]
 | [a]=>[a]
 | a::b::r=>(a++([58,32]++b))::prs r
theorem KJn (sep:List UInt8):∀ l,jn sep l=shw sep sep l
 | []=>rfl
 | [a]=>rfl
 | a::b::r=>by rw [jn,shw,KJn sep (b::r)]
theorem KJo:∀ l:List (List UInt8),jn [44,32] (prs l)=shw [58,32] [44,32] l
 | []=>rfl
 | [a]=>rfl
 | [a,b]=>by simp [prs,jn,shw]
 | a::b::c::r=>by
  have ih:=KJo (c::r)
  rw [prs,KCd]
  rw [shw,shw,← ih]
  match hp:prs (c::r) with
  | []=>cases r <;> simp [prs] at hp
  | p::ps=>rw [KCd,List.flatMap_cons]; simp
theorem KEk:∀ (l:List (List UInt8)) (a:List UInt8),l.length % 2=0→prs (l++[a])=prs l++[a]
 | [],a,_=>rfl
 | [x],a,h=>by simp at h
 | x::y::r,a,h=>by
  rw [List.cons_append,List.cons_append,prs,prs,KEk r a (by simp at h; omega)]; rfl
theorem KJp:∀ (l:List (List UInt8)) (a b:List UInt8),l.length % 2=0→prs (l++[a,b])=prs l++[a++([58,32]++b)]
 | [],a,b,_=>rfl
 | [x],a,b,h=>by simp at h
 | x::y::r,a,b,h=>by
  rw [List.cons_append,List.cons_append,prs,prs,KJp r a b (by simp at h; omega)]; rfl
theorem KGg:∀ l:List (List UInt8),(prs l).length≤l.length
 | []=>by simp [prs]
 | [a]=>by simp [prs]
 | a::b::r=>by have:=KGg r; simp [prs]; omega
theorem KGh:∀ (ev od:List UInt8) (l:List (List UInt8)),(l.map List.length).sum≤(shw ev od l).length
 | _,_,[]=>by simp [shw]
 | _,_,[a]=>by simp [shw]
 | ev,od,a::b::r=>by
  have:=KGh od ev (b::r)
  rw [shw,List.length_append,List.length_append,List.map_cons,List.sum_cons]
  omega
theorem KNF {l:List (List UInt8)} {a:List UInt8} (h:a ∈ l):a.length≤(l.map List.length).sum:=by
 induction l with
 | nil=>cases h
 | cons x l ih =>
  rw [List.map_cons,List.sum_cons]
  rcases List.mem_cons.1 h with rfl | h
  ·omega
  ·have:=ih h; omega
theorem KNG {l:List (List UInt8)} (h:∀ a ∈ l,1≤a.length):l.length≤(l.map List.length).sum:=by
 induction l with
 | nil=>simp
 | cons x l ih =>
  rw [List.map_cons,List.sum_cons,List.length_cons]
  have:=ih (fun a ha=>h a (List.mem_cons_of_mem _ ha))
  have:=h x (by simp)
  omega
def txt:Nat→Vl→List UInt8
 | 0,_=>[63]
 | d+1,.mk k n s l =>
  if k=1 then Lib.itoa n else if k=2 then VN s else if k=3 then (if n=1 then [116,114,117,101] else [102,97,108,115,101])
  else if k=6 then [118,91]++Lib.itoa n++[93] else if k=7 then [101,91]++Lib.itoa n++[93]
  else if k=4 then [91]++shw [44,32] [44,32] (l.map (txt d))++[93] else if k=5 then [123]++shw [58,32] [44,32] (l.map (txt d))++[125] else [63]
theorem KLM (n:Int):1≤(Lib.itoa n).length:=by
 have:∀ u,1≤(Lib.decDigits u).length:=fun u=>by unfold Lib.decDigits; split <;> simp
 unfold Lib.itoa
 split
 ·simp
 ·exact this _
theorem KEl:∀ (d:Nat) (v:Vl),1≤(txt d v).length
 | 0,_=>by simp [txt]
 | d+1,.mk k n s l=>by
  unfold txt
  repeat' split
  all_goals first | exact KLM n | (simp [VN]; done) | (simp; omega)
theorem Gw.set {lo:Nat} {h:Heap} {r:Sl} {vs:List Value} {b j:Nat} {v:Value} (H:Gw lo h r 1 vs) (hb:r.base=some ⟨b,0,none⟩) (hj:j < vs.length):Gw lo (hset h ⟨b,j,none⟩ v) r 1 (vs.set j v):=by
 rcases H with ⟨rfl,rfl⟩ | ⟨g,ty,cells,H⟩
 ·cases hb
 ·rw [H.base] at hb
  cases hb
  refine .inr ⟨b,ty,_,H.base,H.lo,V5 H.blk,by rw [Array.size_setIfInBounds]; exact H.size,H.cap,by rw [List.length_set]; exact H.len,fun i x hx=>?_⟩
  rw [List.getElem?_set] at hx
  rw [Array.getElem?_setIfInBounds]
  split at hx
  ·rename_i hi
   subst hi
   cases hx
   have hc:=H.len
   have:=H.size
   have hcap:=H.cap
   rw [if_pos rfl,if_pos (by omega)]
  ·rename_i hi
   rw [if_neg hi]
   exact H.get i x hx
theorem ixS2 {β:Type} {lo:Nat} {h:Heap} {Q:β→Heap→Prop} {r:Sl} {ps:List (List UInt8)} {i:Nat} {t:Int} {f:Addr→M β} (G:Gw lo h r 1 (ps.map sv)) (hi:i < ps.length) (ht:t=(i:Int))
  (H:∀ b,r.base=some ⟨b,0,none⟩→KN h ⟨b,i,none⟩=some (.string (bs ps[i]))→Uu h ⟨b,i,none⟩=false→(f ⟨b,i,none⟩).wp h Q):(ixL r t 1>>=f).wp h Q:=by
 subst ht
 have hl:=G.len
 simp at hl
 obtain ⟨b,hb,hc⟩:=G.cell (j:=i) (v:=sv ps[i]) (by simp [hi])
 refine Xl (by omega) (by omega) hb ?_
 rw [Kg,show 0+(i:Int).toNat * 1=i by omega]
 refine H b hb hc ?_
 rcases G with ⟨rfl,_⟩ | ⟨g,ty,cells,R⟩
 ·cases hb
 ·rw [R.base] at hb; cases hb
  exact KV R.blk
theorem KLN {β:Type} {h:Heap} {Q:β→Heap→Prop} {a c:List UInt8} {x:List UInt8} {f:ByteArray→M β} (hm:a.length+x.length+c.length≤9223372036854775807) (H:(f (bs (a++x++c))).wp h Q):(sCat (bs a) (bs x)>>=fun y=>sCat y (bs c)>>=f).wp h Q :=
 KCc (by omega) (KCc (by simp only [List.length_append]; omega) H)
def prt (k:Int) (l:List (List UInt8)):List (List UInt8):=if k=5 then prs l else l
theorem KII:∀ (d:Nat) (v:Vl) {h:Heap} {Q:ByteArray→Heap→Prop} {x:Array Value},d≤8→VRep h v x→Vt h→X9 h→(txt d v).length≤1099511627776→(∀ h',Ext h h'→Q (bs (txt d v)) h')→(XJ x ((9 - d:Nat):Int)).wp h Q:=by
 intro d
 induction d with
 | zero =>
  rintro v h Q x _ hx _ _ _ H
  unfold XJ
  exact ZW (fun h1 e1 z1 g1=>iteT rfl (KG (H _ e1)))
 | succ d ih =>
  rintro ⟨k,n,s,l⟩ h Q x hd hx hp hdb hm H
  obtain ⟨xs,rfl,k1,n1,s1,r1⟩:=VRep.eq.1 hx
  unfold XJ
  refine ZW (fun h1 E z1 g1=>?_)
  have c0:KN h1 ((⟨h.size,0,none⟩:Addr).add 0)=some (.int .i64 k):=by rw [Kt g1]; rfl
  have c1:KN h1 ((⟨h.size,0,none⟩:Addr).add 1)=some (.int .i64 n):=by rw [Kt g1]; rfl
  have c2:KN h1 ((⟨h.size,0,none⟩:Addr).add 2)=some (.string (bs s)):=by rw [Kt g1]; rfl
  have c3:KN h1 ((⟨h.size,0,none⟩:Addr).add 3)=some xs.v:=by rw [Kt g1]; rfl
  have hpE:=hp.ext E
  have hdE:=hdb.ext E
  have hil:=KEi n1
  refine iteF (by simp; omega) (Jc c0 (Kc (fun h1k=>?_) (fun h1k=>?_)))
  ·have h1k:k=1:=by simpa using h1k
   unfold txt at H
   rw [if_pos h1k] at H
   exact Jc c1 (KJ (N5 n1 hpE (fun h2 e2=>KG (H _ (E.trans e2)))))
  have h1k:¬ k=1:=by simpa using h1k
  unfold txt at H hm
  rw [if_neg h1k] at H hm
  refine Kc (fun h2k=>?_) (fun h2k=>?_)
  ·have h2k:k=2:=by simpa using h2k
   rw [if_pos h2k] at H hm
   exact Gg c2 (KJ (KGb (by omega) hdE (fun h2 e2=>KG (H _ (E.trans e2)))))
  have h2k:¬ k=2:=by simpa using h2k
  rw [if_neg h2k] at H hm
  refine Kc (fun h3k=>?_) (fun h3k=>?_)
  ·have h3k:k=3:=by simpa using h3k
   rw [if_pos h3k] at H
   refine Jc c1 (Kc (fun hn=>?_) (fun hn=>?_))
   ·have hn:n=1:=by simpa using hn
    rw [if_pos hn] at H
    exact KG (H _ E)
   ·have hn:¬ n=1:=by simpa using hn
    rw [if_neg hn] at H
    exact KG (H _ E)
  have h3k:¬ k=3:=by simpa using h3k
  rw [if_neg h3k] at H hm
  refine Kc (fun h6k=>?_) (fun h6k=>?_)
  ·have h6k:k=6:=by simpa using h6k
   rw [if_pos h6k] at H
   exact Jc c1 (KJ (N5 n1 hpE (fun h2 e2=>KLN (a:=[118,91]) (c:=[93]) (by simp; omega) (KG (H _ (E.trans e2))))))
  have h6k:¬ k=6:=by simpa using h6k
  rw [if_neg h6k] at H hm
  refine Kc (fun h7k=>?_) (fun h7k=>?_)
  ·have h7k:k=7:=by simpa using h7k
   rw [if_pos h7k] at H
   exact Jc c1 (KJ (N5 n1 hpE (fun h2 e2=>KLN (a:=[101,91]) (c:=[93]) (by simp; omega) (KG (H _ (E.trans e2))))))
  have h7k:¬ k=7:=by simpa using h7k
  rw [if_neg h7k] at H hm
  have j1:(WM ((9 - (d+1):Nat):Int) ⟨h.size,0,none⟩ (decide (k=4∨k=5))).wp h1 Q:=by
   unfold WM
   refine Kc (fun h45=>?_) (fun h45=>?_)
   ·have h45:k=4∨k=5:=by simpa using h45
    have hform:∃ a c,(∀ h',Ext h h'→Q (bs (a++jn [44,32] (prt k (l.map (txt d)))++c)) h')∧a.length=1∧c.length=1∧(jn [44,32] (prt k (l.map (txt d)))).length≤1099511627776∧((l.map (txt d)).map List.length).sum≤1099511627776∧(k=5→a=[123]∧c=[125])∧(¬ k=5→a=[91]∧c=[93]):=by
     rcases h45 with h4 | h5
     ·rw [if_pos h4] at H hm
      have h5:¬ k=5:=by omega
      have hs:=KGh [44,32] [44,32] (l.map (txt d))
      simp only [List.length_append,List.length_cons,List.length_nil] at hm
      refine ⟨[91],[93],?_,rfl,rfl,?_,by omega,fun h=>absurd h h5,fun _=>⟨rfl,rfl⟩⟩
      ·unfold prt; rw [if_neg h5,KJn]; exact H
      ·unfold prt; rw [if_neg h5,KJn]; omega
     ·have h4:¬ k=4:=by omega
      rw [if_neg h4,if_pos h5] at H hm
      have hs:=KGh [58,32] [44,32] (l.map (txt d))
      simp only [List.length_append,List.length_cons,List.length_nil] at hm
      refine ⟨[123],[125],?_,rfl,rfl,?_,by omega,fun _=>⟨rfl,rfl⟩,fun h=>absurd h5 h⟩
      ·unfold prt; rw [if_pos h5,KJo]; exact H
      ·unfold prt; rw [if_pos h5,KJo]; omega
    obtain ⟨a,c,HQ,ha,hc,hjm,hsum,h5a,h5b⟩:=hform
    have hcnt:l.length≤1099511627776:=by
     have:=KNG (l:=l.map (txt d)) (fun a ha=>by obtain ⟨y,_,rfl⟩:=List.mem_map.1 ha; exact KEl d y)
     rw [List.length_map] at this
     omega
    have hel:∀ i (hi:i < l.length),(txt d l[i]).length≤1099511627776:=fun i hi=>by
     have:=KNF (l:=l.map (txt d)) (a:=txt d l[i]) (List.mem_map.2 ⟨_,List.getElem_mem hi,rfl⟩)
     omega
    refine Jp c3 ?_
    have hxl:=r1.len
    refine M.loop_inv (fun (t:Sl × Int) h2=>∃ i:Nat,t.2=(i:Int)∧i≤l.length∧Ext h1 h2∧Gw h1.size h2 t.1 1 ((prt k ((l.take i).map (txt d))).map sv)) (fun t _=>((l.length:Int) - t.2).toNat) ?_ ⟨0,rfl,Nat.zero_le _,Ext.refl _,by rw [show prt k (((l.take 0).map (txt d)))=[] by unfold prt; split <;> simp [prs]]; exact Gw.nil _ _ _⟩
    rintro ⟨r,t⟩ h2 ⟨i,hti,hi,E2,G⟩ self hself
    have hti:t=(i:Int):=hti
    subst hti
    have G:Gw h1.size h2 r 1 ((prt k ((l.take i).map (txt d))).map sv):=G
    unfold Gt
    rw [hxl]
    have hrl:=G.len
    rw [List.length_map,Nat.mul_one] at hrl
    have hrl2:r.len≤i:=by
     have:(prt k ((l.take i).map (txt d))).length≤i:=by
      unfold prt
      split
      ·have:=KGg ((l.take i).map (txt d)); rw [List.length_map,List.length_take] at this; omega
      ·rw [List.length_map,List.length_take]; omega
     omega
    refine Kc (fun hlt=>?_) (fun hge=>?_)
    ·have hlt:i < l.length:=by have:=of_decide_eq_true hlt; omega
     refine KBe (r1.ext (E.trans E2)) hlt rfl (fun b cs hs hcs hv=>UW hs hcs (ZW (fun h3 e3 z3 g3=>JA hs (stR (vs:=cs) g3 (by rw [hs]; decide) hv.one (fun h4 u4 g4=>?_)))))
     rw [ZD (by rw [Array.length_toList,hs]; rfl),Array.toArray_toList] at g4
     have E4:Ext h2 h4:=e3.upd u4 (Nat.le_refl _)
     refine zE (v:=l[i]) g4 hs ?_
     rw [show IntKind.wrap .i64 (((9 - (d+1):Nat):Int)+1)=((9 - d:Nat):Int) by rw [w64 (by omega) (by omega)]; omega]
     have E24:=E2.trans E4
     refine KJ (NR (KBN _ _) (ih l[i] (by omega) (hv.ext E4) (hpE.ext E24) (hdE.ext E24) (hel i hlt) (fun h5 e5=>?_)))
     have E5:=E24.trans e5
     refine Jc (E5.cell c0) ?_
     have hr5:IntKind.wrap .i64 ((i:Int)+1)=((i+1:Nat):Int):=by rw [w64 (by omega) (by omega)]; simp
     have G5:=G.ext (E4.trans e5)
     have htk:(l.take (i+1)).map (txt d)=(l.take i).map (txt d)++[txt d l[i]]:=by
      rw [List.take_succ_eq_append_getElem hlt,List.map_append]; rfl
     refine Nr (c:=decide (i % 2=1)) (fun _ Q' hq=>KG (by rw [show ((Int.tmod (i:Int) 2) == 1)=decide (i % 2=1) by rw [Int.tmod_eq_emod_of_nonneg (by omega),Bool.eq_iff_iff]; simp; omega]; exact hq)) ?_
     refine Kc (fun hodd=>?_) (fun heven=>?_)
     ·obtain ⟨h5k,hodd⟩:k=5∧i % 2=1:=by simpa using hodd
      obtain ⟨i',rfl⟩:∃ i',i=i'+1:=⟨i - 1,by omega⟩
      have hti':(l.take (i'+1)).map (txt d)=(l.take i').map (txt d)++[txt d l[i']]:=by
       rw [List.take_succ_eq_append_getElem (by omega),List.map_append]; rfl
      have hlen':((l.take i').map (txt d)).length % 2=0:=by simp; omega
      have hp1:prt k ((l.take (i'+1)).map (txt d))=prs ((l.take i').map (txt d))++[txt d l[i']]:=by
       unfold prt; rw [if_pos h5k,hti',KEk _ _ hlen']
      have hp2:prt k ((l.take (i'+1+1)).map (txt d))=prs ((l.take i').map (txt d))++[txt d l[i']++([58,32]++txt d l[i'+1])]:=by
       unfold prt; rw [if_pos h5k,htk,hti',List.append_assoc]; exact KJp _ _ _ hlen'
      rw [hp1] at G5 hrl
      have hlast:r.len=(prs ((l.take i').map (txt d))).length+1:=by rw [← G5.len.trans (Nat.mul_one _)]; simp
      have hidx:IntKind.wrap .i64 ((r.len:Int) - 1)=(((prs ((l.take i').map (txt d))).length:Nat):Int):=by rw [w64 (by omega) (by omega)]; omega
      rw [hidx]
      have hle0:=hel i' (by omega)
      have hle1:=hel (i'+1) hlt
      refine ixS2 (i:=(prs ((l.take i').map (txt d))).length) G5 (by simp) rfl (fun b' hb' hc' hf'=>Gg hc' ?_)
      have hget:(prs ((l.take i').map (txt d))++[txt d l[i']])[(prs ((l.take i').map (txt d))).length]'(by simp)=txt d l[i']:=by simp
      rw [hget] at hc' ⊢
      refine KCc (x:=[58,32]) (by simp; omega) (KCc (by simp; omega) ?_)
      refine ixS2 (i:=(prs ((l.take i').map (txt d))).length) G5 (by simp) rfl (fun b2 hb2 hc2 hf2=>Vj hc2 hf2 rfl ?_)
      rw [hb2] at hb'
      cases hb'
      unfold WL
      rw [hr5]
      refine hself (_,_) _ ⟨i'+1+1,rfl,by omega,?_,?_⟩ (by dsimp only; omega)
      ·have hb3:h1.size≤b':=(G5.lt ⟨_,hb2,rfl⟩).2
       exact ⟨by rw [GM]; exact E5.size,fun j hj=>by rw [XN (by show j≠b'; omega)]; exact E5.same j hj⟩
      ·have:=G5.set (v:=sv (txt d l[i']++([58,32]++txt d l[i'+1]))) (j:=(prs ((l.take i').map (txt d))).length) hb2 (by simp)
       dsimp only
       rw [hp2]
       rw [List.map_append,List.set_append_right _ _ (by simp)] at this
       simpa [sv] using this
     ·have heven:¬ (k=5∧i % 2=1):=by simpa using heven
      have hp2:prt k ((l.take (i+1)).map (txt d))=prt k ((l.take i).map (txt d))++[txt d l[i]]:=by
       unfold prt
       by_cases h5k:k=5
       ·rw [if_pos h5k,if_pos h5k,htk,KEk _ _ (by simp; omega)]
       ·rw [if_neg h5k,if_neg h5k,htk]
      refine KAf ?_
      have e6:=Ext.push h5 (.cells #[.string (bs (txt d l[i]))] VY)
      have g6:(h5.push (.cells #[.string (bs (txt d l[i]))] VY))[h5.size]?=some (.cells #[.string (bs (txt d l[i]))] VY (0,0)):=Ko
      generalize h5.push (.cells #[.string (bs (txt d l[i]))] VY)=h6 at e6 g6 ⊢
      have E6:=E5.trans e6
      have G6:=G5.ext e6
      refine KD6 (vs:=(prt k ((l.take i).map (txt d))).map sv) (news:=[sv (txt d l[i])]) rfl G6 rfl (.inr ⟨_,rfl,fun j v hj=>?_⟩) (fun v hv=>by simp at hv; subst hv; rfl) (by dsimp only; omega) (by dsimp only; omega) E6.size (fun h7 r7 G7 hlen7 hs7 same7 on7=>?_)
      ·rw [Kg,Nat.zero_add,KS g6]
       rw [show (#[.string (bs (txt d l[i]))]:Array Value)=[sv (txt d l[i])].toArray from rfl]
       simpa using hj
      ·unfold WL
       rw [hr5]
       refine hself (_,_) _ ⟨i+1,rfl,by omega,?_,?_⟩ (by dsimp only; omega)
       ·exact ⟨Nat.le_trans E6.size hs7,fun j hj=>(same7 j (Nat.lt_of_lt_of_le hj E6.size) (fun ho=>by have:=(G6.lt ho).2; omega)).trans (E6.same j hj)⟩
       ·dsimp only
        rw [hp2,List.map_append]
        exact G7
    ·have hge:i=l.length:=by have:=of_decide_eq_false hge; omega
     subst hge
     rw [List.take_length] at G
     have S:SsAt h2 r (prt k (l.map (txt d))):=⟨by have:=G.len; rw [List.length_map,Nat.mul_one] at this; exact this.symm,G.cap,G.reads⟩
     have hpl:(prt k (l.map (txt d))).length≤l.length:=by
      unfold prt
      split
      ·have:=KGg (l.map (txt d)); simp at this; exact this
      ·simp
     refine KJ (KJm (sep:=[44,32]) S (by simp) (by simp) (by omega) (by omega) (fun h3 e3=>?_))
     refine Jc ((E2.trans e3).cell c0) (Kc (fun h5k=>?_) (fun h5k=>?_))
     ·have h5k:k=5:=by simpa using h5k
      obtain ⟨rfl,rfl⟩:=h5a h5k
      exact KLN (a:=[123]) (c:=[125]) (by simp; omega) (KG (HQ _ ((E.trans E2).trans e3)))
     ·have h5k:¬ k=5:=by simpa using h5k
      obtain ⟨rfl,rfl⟩:=h5b h5k
      exact KLN (a:=[91]) (c:=[93]) (by simp; omega) (KG (HQ _ ((E.trans E2).trans e3)))
   ·have h45:¬ (k=4∨k=5):=by simpa using h45
    rw [if_neg (fun h=>h45 (.inl h)),if_neg (fun h=>h45 (.inr h))] at H
    exact KG (H _ E)
  refine Kc (fun h4k=>?_) (fun h4k=>?_)
  ·have h4k:k=4:=by simpa using h4k
   have e:(k == 4)=decide (k=4∨k=5):=by subst h4k; rfl
   rw [e]
   exact j1
  ·have h4k:¬ k=4:=by simpa using h4k
   have e:(k == 5)=decide (k=4∨k=5):=by rw [eqI,Bool.eq_iff_iff]; simp [h4k]
   rw [e]
   exact j1
end Gx
namespace Gx
open Go
set_option linter.unusedVariables false
set_option linter.unusedSimpArgs false
abbrev txV (v:Vl):List UInt8:=txt 8 v
theorem N6 {v:Vl} {h:Heap} {Q:ByteArray→Heap→Prop} {x:Array Value} (hx:VRep h v x) (hp:Vt h) (hd:X9 h) (hm:(txV v).length≤1099511627776) (H:∀ h',Ext h h'→Q (bs (txV v)) h'):(Wr x).wp h Q:=by
 unfold Wr
 exact ZW (fun h1 e1 z1 g1=>zE (v:=v) g1 hx.size (KJ (KII 8 v (Nat.le_refl _) (hx.ext e1) (hp.ext e1) (hd.ext e1) hm (fun h2 e2=>KG (H _ (e1.trans e2))))))
theorem KLO (ev od a:List UInt8) (r:List (List UInt8)):shw ev od (a::r)=if r=[] then a else a++(ev++shw od ev r):=by
 cases r with
 | nil=>rfl
 | cons b r=>rw [if_neg (by simp)]; rfl
end Gx
namespace Gx
open Go Go.Proofs Go.Shelf Go.RowKit Go.Lib
set_option linter.unusedVariables false
set_option linter.unusedSimpArgs false
set_option maxRecDepth 100000
def At (s:List UInt8) (i:Nat) (w:List UInt8):Prop:=(s.drop i).take w.length=w
theorem At.nil (s:List UInt8) (i:Nat):At s i []:=by unfold At; simp
theorem KA8 {s:List UInt8} {i:Nat} {c:UInt8} {r:List UInt8}:At s i (c::r)↔s[i]?=some c∧At s (i+1) r:=by
 unfold At
 by_cases hi:i < s.length
 ·rw [List.drop_eq_getElem_cons hi,List.length_cons,List.take_succ_cons,List.getElem?_eq_getElem hi]
  simp
 ·rw [List.drop_of_length_le (by omega),List.getElem?_eq_none (by omega)]
  simp
theorem Zo {s:List UInt8}:∀ {a b:List UInt8} {i:Nat},At s i (a++b)↔At s i a∧At s (i+a.length) b
 | [],b,i=>by simp [At.nil]
 | c::a,b,i=>by
  rw [List.cons_append,KA8,KA8,Zo,List.length_cons,show i+1+a.length=i+(a.length+1) by omega,and_assoc]
theorem At.here {s:List UInt8} {i:Nat} {c:UInt8} {r:List UInt8} (h:At s i (c::r)):KR s i=c:=by
 unfold KR
 rw [(KA8.1 h).1]
 rfl
theorem At.len {s:List UInt8} {i:Nat} {w:List UInt8} (h:At s i w) (hw:w≠[]):i+w.length≤s.length:=by
 have:=congrArg List.length h
 rw [List.length_take,List.length_drop] at this
 have:0 < w.length:=List.length_pos_iff.2 hw
 omega
theorem WX {s:List UInt8}:∀ {lit:List UInt8} {i:Nat},At s i lit→GH s lit i=.ok (i+lit.length)
 | [],i,h=>rfl
 | c::r,i,h=>by
  rw [KA8] at h
  rw [GH,if_pos h.1,WX h.2,List.length_cons]
  congr 1
  omega
theorem Ur {s lit:List UInt8} {i j:Nat} (h:GH s lit i=.ok j):At s i lit∧j=i+lit.length:=⟨(U4 h).2.2,(U4 h).1⟩
theorem WY {s:List UInt8} {i:Nat} {c:UInt8} (h:KR s i=c) (hc:c≠0):At s i [c]:=by
 have hi:i < s.length:=U2 (by rw [h]; exact hc)
 rw [KA8]
 refine ⟨?_,At.nil _ _⟩
 rw [List.getElem?_eq_getElem hi,← X3 hi,h]
theorem At.get {s:List UInt8} {i:Nat} {w:List UInt8} (h:At s i w) {k:Nat} (hk:k < w.length):KR s (i+k)=w[k]:=by
 have h1:At s i (w.take k++w.drop k):=by rw [List.take_append_drop]; exact h
 rw [Zo,List.length_take,Nat.min_eq_left (by omega),List.drop_eq_getElem_cons hk] at h1
 exact h1.2.here
theorem At.cut {s:List UInt8} {i:Nat} {w:List UInt8} (h:At s i w) {k:Nat} (hk:k≤w.length):(s.drop i).take (i+k - i)=w.take k:=by
 unfold At at h
 rw [show i+k - i=k by omega,← h,List.take_take,Nat.min_eq_left hk]
theorem KDk:∀ (m u:Nat) (p:List UInt8),u < m→p≠[]→p <+: decDigits u→∃ u',u'≤u∧p=decDigits u':=by
 intro m
 induction m with
 | zero=>intro u p h; omega
 | succ m ih =>
  intro u p h hp hpre
  by_cases h10:u < 10
  ·rw [decDigits,dif_pos h10] at hpre
   refine ⟨u,Nat.le_refl _,?_⟩
   rw [decDigits,dif_pos h10]
   obtain ⟨q,hq⟩:=hpre
   cases p with
   | nil=>exact absurd rfl hp
   | cons a r =>
    obtain ⟨q1,q2⟩:=List.cons.inj hq
    rw [q1,(List.append_eq_nil_iff.1 q2).1]
  ·rw [decDigits,dif_neg h10] at hpre
   rcases List.prefix_concat_iff.1 hpre with he | hpre
   ·exact ⟨u,Nat.le_refl _,by rw [he]; conv=>rhs; rw [decDigits,dif_neg h10]⟩
   ·obtain ⟨u',h1,h2⟩:=ih (u / 10) p (by omega) hp hpre
    exact ⟨u',by omega,h2⟩
def sgn (n:Int):Nat:=if n < 0 then 1 else 0
theorem KBo {n:Int} (hn:I64 n) {k:Nat} (h1:sgn n≤k) (h2:k < (itoa n).length):digB (itoa n)[k]=true∧∃ m,numP ((itoa n).take (k+1))=(m,0):=by
 unfold I64 at hn
 unfold sgn at h1
 by_cases hneg:n < 0
 ·have hT:itoa n=45::decDigits n.natAbs:=by unfold itoa; rw [if_pos hneg]
  obtain ⟨a1,a2,a3,a4⟩:=zJ _ n.natAbs (Nat.lt_succ_self _)
  rw [if_pos hneg] at h1
  obtain ⟨k,rfl⟩:∃ q,k=q+1:=⟨k - 1,by omega⟩
  simp only [hT]
  rw [hT,List.length_cons] at h2
  have hk:k < (decDigits n.natAbs).length:=by omega
  refine ⟨?_,?_⟩
  ·rw [List.getElem_cons_succ]
   exact List.all_eq_true.1 a1 _ (List.getElem_mem hk)
  ·rw [List.take_succ_cons]
   have hne:(decDigits n.natAbs).take (k+1)≠[]:=by
    intro e
    have:=congrArg List.length e
    rw [List.length_take,List.length_nil] at this
    omega
   obtain ⟨u',hu,hp⟩:=KDk _ n.natAbs _ (Nat.lt_succ_self _) hne (List.take_prefix _ _)
   have hu0:u'≠0:=fun e=>by
    subst e
    have hz:decDigits 0=[48]:=by rw [decDigits,dif_pos (by decide)]; rfl
    rw [hz] at hp
    have:(decDigits n.natAbs).head?=some 48:=by
     have:=congrArg List.head? hp
     rw [List.head?_take] at this
     simpa using this
    have:=a4 this
    omega
   refine ⟨-(u':Int),?_⟩
   rw [hp]
   have:=KAR (n:=-(u':Int)) ⟨by omega,by omega⟩
   rw [itoa,if_pos (by omega),show (-(u':Int)).natAbs=u' by omega] at this
   exact this
 ·have hT:itoa n=decDigits n.toNat:=by unfold itoa; rw [if_neg hneg]
  obtain ⟨a1,a2,a3,a4⟩:=zJ _ n.toNat (Nat.lt_succ_self _)
  simp only [hT]
  rw [hT] at h2
  refine ⟨List.all_eq_true.1 a1 _ (List.getElem_mem h2),?_⟩
  have hne:(decDigits n.toNat).take (k+1)≠[]:=by
   intro e
   have:=congrArg List.length e
   rw [List.length_take,List.length_nil] at this
   omega
  obtain ⟨u',hu,hp⟩:=KDk _ n.toNat _ (Nat.lt_succ_self _) hne (List.take_prefix _ _)
  refine ⟨(u':Int),?_⟩
  rw [hp]
  have:=KAR (n:=(u':Int)) ⟨by omega,by omega⟩
  rw [itoa,if_neg (by omega),Int.toNat_natCast] at this
  exact this
theorem KFe {s:List UInt8} {fr:Nat} {N:Int} (hN:I64 N) (ha:At s fr (itoa N)) (hf:digB (KR s (fr+(itoa N).length))=false):∀ (f k:Nat) (n:Int),sgn N≤k→k≤(itoa N).length→(itoa N).length≤k+f→(k=(itoa N).length→n=N)→numL s fr f (fr+k) n=.ok (N,fr+(itoa N).length)
 | 0,k,n,h1,h2,h3,h4=>by
  have:k=(itoa N).length:=by omega
  rw [numL,h4 this,this]
 | f+1,k,n,h1,h2,h3,h4=>by
  rw [numL]
  by_cases hk:k=(itoa N).length
  ·rw [hk,if_neg (by rw [hf]; decide),h4 hk]
  ·have hkl:k < (itoa N).length:=by omega
   obtain ⟨hd,m,hm⟩:=KBo hN h1 hkl
   rw [ha.get hkl,if_pos hd,show fr+k+1 - fr=fr+(k+1) - fr by omega,ha.cut (k:=k+1) hkl,hm,if_neg (show ¬ ((0:Int)=7) by decide),if_neg (show ¬ ((0:Int)≠0) by decide)]
   refine KFe hN ha hf f (k+1) m (by omega) hkl (by omega) (fun he=>?_)
   rw [he,List.take_length,KAR hN] at hm
   cases hm
   rfl
theorem KGi (n:Int):itoa n≠[]:=by
 unfold itoa
 split
 ·simp
 ·exact (zJ _ _ (Nat.lt_succ_self _)).2.2.1
theorem KHT {s:List UInt8} {i:Nat} {n:Int} (hn:I64 n) (ha:At s i (itoa n)) (hf:digB (KR s (i+(itoa n).length))=false):numF s i=.ok (n,i+(itoa n).length):=by
 have hlen:=ha.len (KGi n)
 have hpos:0 < (itoa n).length:=List.length_pos_iff.2 (KGi n)
 have h0:=ha.get hpos
 have hJ:numJ s i=i+sgn n:=by
  unfold numJ sgn
  rw [Nat.add_zero] at h0
  by_cases hneg:n < 0
  ·have hT:itoa n=45::decDigits n.natAbs:=by unfold itoa; rw [if_pos hneg]
   have:KR s i=45:=by rw [h0]; simp only [hT]; rfl
   rw [if_pos this,if_pos hneg]
  ·have hT:itoa n=decDigits n.toNat:=by unfold itoa; rw [if_neg hneg]
   obtain ⟨hd,_⟩:=KBo hn (k:=0) (by unfold sgn; rw [if_neg hneg]; exact Nat.le_refl _) hpos
   have:KR s i≠45:=by
    rw [h0]
    intro e
    rw [e] at hd
    exact absurd hd (by decide)
   rw [if_neg this,if_neg hneg]
   rfl
 have hs:sgn n < (itoa n).length:=by
  unfold sgn
  split
  ·rename_i hneg
   have hT:itoa n=45::decDigits n.natAbs:=by unfold itoa; rw [if_pos hneg]
   have:=List.length_pos_iff.2 (zJ _ n.natAbs (Nat.lt_succ_self _)).2.2.1
   rw [hT,List.length_cons]
   omega
  ·exact hpos
 obtain ⟨hd,_⟩:=KBo hn (Nat.le_refl _) hs
 unfold numF
 rw [hJ,ha.get hs,if_neg]
 ·exact KFe hn ha hf _ _ _ (Nat.le_refl _) (by omega) (by omega) (fun he=>by omega)
 ·intro hh
  rcases hh with hh | ⟨h1,h2⟩
  ·rw [hd] at hh; cases hh
  ·have hneg:n < 0:=by
    unfold sgn at h1
    by_cases h:n < 0
    ·exact h
    ·rw [if_neg h] at h1; omega
   have hT:itoa n=45::decDigits n.natAbs:=by unfold itoa; rw [if_pos hneg]
   have hs1:sgn n=1:=by unfold sgn; rw [if_pos hneg]
   simp only [hs1,hT,List.getElem_cons_succ] at h2
   obtain ⟨_,_,a3,a4⟩:=zJ _ n.natAbs (Nat.lt_succ_self _)
   have:(decDigits n.natAbs).head?=some 48:=by
    rw [List.head?_eq_getElem?,List.getElem?_eq_getElem (List.length_pos_iff.2 a3),h2]
   have:=a4 this
   omega
theorem KFf {s:List UInt8} {fr:Nat}:∀ {f i:Nat} {n m:Int} {j:Nat},numL s fr f i n=.ok (m,j)→numP ((s.drop fr).take (i - fr))=(n,0)→numP ((s.drop fr).take (j - fr))=(m,0)
 | 0,i,n,m,j,h,hp=>by cases h; exact hp
 | f+1,i,n,m,j,h,hp=>by
  rw [numL] at h
  split at h
  ·split at h
   ·cases h
   ·split at h
    ·cases h; exact hp
    ·rename_i h0
     refine KFf h ?_
     have h0:=Classical.not_not.1 h0
     rw [← h0]
  ·cases h; exact hp
theorem KHU {s:List UInt8} {i j:Nat} {n:Int} (h:numF s i=.ok (n,j)) (hi:i≤s.length):At s i (itoa n)∧j=i+(itoa n).length:=by
 have hok:=KEf h hi
 have key:numP ((s.drop i).take (j - i))=(n,0):=by
  unfold numF at h
  split at h
  ·cases h
  ·rename_i hb
   have hd:digB (KR s (numJ s i))=true:=by
    cases hh:digB (KR s (numJ s i)) with
    | true=>rfl
    | false=>exact absurd (.inl hh) hb
   have hil:=KHO hd
   rw [show s.length - numJ s i=(s.length - (numJ s i+1))+1 by omega,numL,if_pos hd] at h
   split at h
   ·cases h
   ·split at h
    ·rename_i h7 h0
     exfalso
     cases h
     by_cases h45:KR s i=45
     ·have hJ:numJ s i=i+1:=by unfold numJ; rw [if_pos h45]
      rw [hJ] at hb hd hil h0
      have h2:(s.drop i).take (i+1+1 - i)=[45,KR s (i+1)]:=by
       rw [show i+1+1 - i=2 by omega,List.drop_eq_getElem_cons (by omega),List.drop_eq_getElem_cons hil]
       rw [X3 hil,← h45,X3 (by omega)]
       rfl
      rw [h2] at h0
      exact h0 ((N4 hd).2 (fun e=>hb (.inr ⟨by omega,e⟩)))
     ·have hJ:numJ s i=i:=by unfold numJ; rw [if_neg h45]
      rw [hJ] at hd hil h0
      have h2:(s.drop i).take (i+1 - i)=[KR s i]:=by
       rw [show i+1 - i=1 by omega,List.drop_eq_getElem_cons hil,X3 hil]
       rfl
      rw [h2] at h0
      exact h0 (N4 hd).1
    ·rename_i h0
     have h0:=Classical.not_not.1 h0
     exact KFf h (by rw [← h0])
 have ht:=KFc key
 have hl:=congrArg List.length ht
 rw [List.length_take,List.length_drop] at hl
 have hj:j=i+(itoa n).length:=by omega
 refine ⟨?_,hj⟩
 unfold At
 rw [← ht]
 conv=>lhs; rw [List.length_take,List.length_drop,Nat.min_eq_left (by omega)]
end Gx
namespace Gx
open Go Go.Proofs Go.Shelf Go.RowKit Go.Lib
set_option linter.unusedVariables false
set_option linter.unusedSimpArgs false
set_option maxRecDepth 100000
theorem KJq:∀ k:Fin 16,hexN (hexc k.val)=(k.val:Int):=by decide +kernel
theorem KME {k:Nat} (h:k < 16):hexN (hexc k)=(k:Int):=KJq ⟨k,h⟩
theorem KLP:∀ k:Fin 16,hexD[k.val]?=some (hexc k.val):=by decide +kernel
theorem KHV {c:UInt8} (h:0≤hexN c):c=hexc (hexN c).toNat:=by
 have hle:=KCY c
 have h1:Lib.indexByte hexD c=(((hexN c).toNat:Nat):Int):=by rw [Int.toNat_of_nonneg h]; rfl
 have h2:=(Lib.indexByte_some h1).1
 rw [KLP ⟨(hexN c).toNat,by omega⟩] at h2
 exact (Option.some.inj h2).symm
theorem KIJ {a b:UInt8}:a < b↔a.toNat < b.toNat:=UInt8.lt_iff_toNat_lt
theorem KJr {c:UInt8} (h:c.toNat < 32∨126 < c.toNat):qc c=[92,120,hexc (c.toNat / 16),hexc (c.toNat % 16)]:=by
 unfold qc
 rw [if_pos (by rw [KIJ,KIJ]; exact h)]
theorem KJs {c:UInt8} (h:c=39∨c=92):qc c=[92,c]:=by
 unfold qc
 rw [if_neg (by rw [KIJ,KIJ]; rcases h with rfl | rfl <;> decide),if_pos h]
theorem KOj {c:UInt8} (h:¬ (c.toNat < 32∨126 < c.toNat)) (h2:¬ (c=39∨c=92)):qc c=[c]:=by
 unfold qc
 rw [if_neg (by rw [KIJ,KIJ]; exact h),if_neg h2]
theorem KLQ {s:List UInt8} {i:Nat} {c:UInt8} {w:List UInt8} (hq:qc c=92::w) (ha:At s i w) (hw:w≠[]) (hne:c.toNat < 32∨126 < c.toNat∨c=39∨c=92):escP s i=.ok (c,i+w.length):=by
 by_cases h:c.toNat < 32∨126 < c.toNat
 ·rw [KJr h] at hq
  cases hq
  have hlt:c.toNat < 256:=c.toNat_lt
  have a0:=ha.get (k:=0) (by simp)
  have a1:=ha.get (k:=1) (by simp)
  have a2:=ha.get (k:=2) (by simp)
  simp only [Nat.add_zero,List.getElem_cons_zero,List.getElem_cons_succ] at a0 a1 a2
  have hm:GH s [120] i=.ok (i+1):=WX (lit:=[120]) ((Zo (a:=[120]) (b:=[hexc (c.toNat / 16),hexc (c.toNat % 16)])).1 ha).1
  have e1:hexN (KR s (i+1))=((c.toNat / 16:Nat):Int):=by rw [a1,KME (by omega)]
  have e2:hexN (KR s (i+1+1))=((c.toNat % 16:Nat):Int):=by rw [show i+1+1=i+2 by omega,a2,KME (by omega)]
  unfold escP
  rw [a0,if_neg (by decide),hm]
  dsimp only
  rw [e1,e2,if_neg (by omega),if_neg (by omega)]
  have:UInt8.ofNat ((((c.toNat / 16:Nat):Int) * 16+((c.toNat % 16:Nat):Int)).toNat)=c:=by
   rw [show (((c.toNat / 16:Nat):Int) * 16+((c.toNat % 16:Nat):Int)).toNat=c.toNat by omega,UInt8.ofNat_toNat]
  rw [this]
  rfl
 ·have h2:c=39∨c=92:=by
   rcases hne with h3 | h3 | h3 | h3
   ·exact absurd (.inl h3) h
   ·exact absurd (.inr h3) h
   ·exact .inl h3
   ·exact .inr h3
  rw [KJs h2] at hq
  cases hq
  unfold escP
  rw [ha.here,if_pos h2]
  rfl
theorem KFg {s:List UInt8}:∀ (t:List UInt8) (f i:Nat) (acc:List UInt8),At s i (t.flatMap qc++[39])→t.length < f→strL s f i acc=.ok (acc++t,i+(t.flatMap qc).length+1)
 | [],f,i,acc,ha,hf=>by
  obtain ⟨f,rfl⟩:∃ g,f=g+1:=⟨f - 1,by omega⟩
  rw [List.flatMap_nil,List.nil_append] at ha
  rw [strL,if_pos ha.here]
  simp
 | c::t,f,i,acc,ha,hf=>by
  obtain ⟨f,rfl⟩:∃ g,f=g+1:=⟨f - 1,by omega⟩
  rw [List.length_cons] at hf
  rw [List.flatMap_cons,List.append_assoc] at ha
  have ha2:=Zo.1 ha
  have ih:=KFg t f (i+(qc c).length) (acc++[c]) ha2.2 (by omega)
  have hres:(Except.ok (acc++[c]++t,i+(qc c).length+(t.flatMap qc).length+1):Except Nat (List UInt8 × Nat))=.ok (acc++c::t,i+((c::t).flatMap qc).length+1):=by
   rw [List.flatMap_cons,List.length_append,List.append_assoc,Nat.add_assoc i]
   rfl
  rw [hres] at ih
  rw [strL]
  by_cases h:(c.toNat < 32∨126 < c.toNat)∨(c=39∨c=92)
  ·have hw:∃ w,qc c=92::w∧w≠[]:=by
    rcases h with h | h
    ·exact ⟨_,KJr h,by simp⟩
    ·exact ⟨_,KJs h,by simp⟩
   obtain ⟨w,hq,hwn⟩:=hw
   rw [hq] at ha2
   have h92:=ha2.1.here
   have hesc:=KLQ hq (KA8.1 ha2.1).2 hwn (by rcases h with (h | h) | (h | h) <;> simp [h])
   rw [h92,if_neg (by decide),if_neg (by decide),if_pos rfl,hesc]
   dsimp only
   rw [hq,List.length_cons] at ih
   rw [show i+1+w.length=i+(w.length+1) by omega]
   exact ih
  ·have h1:¬ (c.toNat < 32∨126 < c.toNat):=fun hh=>h (.inl hh)
   have h2:¬ (c=39∨c=92):=fun hh=>h (.inr hh)
   rw [KOj h1 h2] at ha2 ih
   have hh:=ha2.1.here
   rw [hh,if_neg (fun e=>h2 (.inl e)),if_neg h1,if_neg (fun e=>h2 (.inr e))]
   exact ih
theorem KOk (t:List UInt8):t.length≤(t.flatMap qc).length:=by
 induction t with
 | nil=>simp
 | cons c t ih =>
  rw [List.flatMap_cons,List.length_append,List.length_cons]
  have:1≤(qc c).length:=by unfold qc; split <;> (try split) <;> simp
  omega
theorem KLR {s t:List UInt8} {i:Nat} (ha:At s i (VN t)):strP s i=.ok (t,i+(VN t).length):=by
 unfold VN at ha ⊢
 have hl:=ha.len (by simp)
 have h1:At s i [39]∧At s (i+1) (t.flatMap qc++[39]):=by
  have:=(Zo (a:=[39]) (b:=t.flatMap qc++[39]) (i:=i) (s:=s)).1 (by simpa using ha)
  exact this
 have hq:=KOk t
 simp only [List.length_cons,List.length_append,List.length_nil,List.cons_append] at hl
 unfold strP
 rw [WX h1.1]
 dsimp only
 rw [List.length_singleton,KFg t _ (i+1) [] h1.2 (by omega)]
 simp only [List.nil_append,List.cons_append,List.length_cons,List.length_append,List.length_nil]
 congr 2
 omega
theorem KLS {s:List UInt8} {i j:Nat} {c:UInt8} (h:escP s i=.ok (c,j)):∃ w,qc c=92::w∧At s i w∧j=i+w.length:=by
 unfold escP at h
 split at h
 ·rename_i hc
  cases h
  refine ⟨[KR s i],KJs hc,WY rfl (by rcases hc with h | h <;> (rw [h]; decide)),rfl⟩
 ·split at h
  ·cases h
  ·rename_i j' hj
   obtain ⟨a1,a2⟩:=Ur hj
   have a2:j'=i+1:=a2
   subst a2
   split at h
   ·cases h
   ·rename_i hb1
    split at h
    ·cases h
    ·rename_i hb2
     cases h
     have l1:=KCY (KR s (i+1))
     have l2:=KCY (KR s (i+1+1))
     have c1:0≤hexN (KR s (i+1)):=by omega
     have c2:0≤hexN (KR s (i+1+1)):=by omega
     generalize hx:hexN (KR s (i+1))=x at *
     generalize hy:hexN (KR s (i+1+1))=y at *
     have hv:(UInt8.ofNat ((x * 16+y).toNat)).toNat=(x * 16+y).toNat:=by
      rw [UInt8.toNat_ofNat']
      exact Nat.mod_eq_of_lt (by omega)
     refine ⟨[120,KR s (i+1),KR s (i+1+1)],?_,?_,rfl⟩
     ·rw [KJr (by rw [hv]; omega),hv]
      have e1:=KHV (c:=KR s (i+1)) (by rw [hx]; exact c1)
      have e2:=KHV (c:=KR s (i+1+1)) (by rw [hy]; exact c2)
      rw [hx] at e1
      rw [hy] at e2
      rw [e1,e2,show (x * 16+y).toNat / 16=x.toNat by omega,show (x * 16+y).toNat % 16=y.toNat by omega]
     ·have hz1:KR s (i+1)≠0:=fun e=>by rw [e,KFZ] at hx; omega
      have hz2:KR s (i+1+1)≠0:=fun e=>by rw [e,KFZ] at hy; omega
      have b1:=WY (s:=s) (i:=i+1) rfl hz1
      have b2:=WY (s:=s) (i:=i+1+1) rfl hz2
      exact (Zo (a:=[120]) (b:=[_,_])).2 ⟨a1,(Zo (a:=[_]) (b:=[_])).2 ⟨b1,b2⟩⟩
theorem KCe {s:List UInt8}:∀ {f i:Nat} {acc t:List UInt8} {j:Nat},strL s f i acc=.ok (t,j)→∃ t',t=acc++t'∧At s i (t'.flatMap qc++[39])∧j=i+(t'.flatMap qc).length+1
 | 0,i,acc,t,j,h=>by cases h
 | f+1,i,acc,t,j,h=>by
  rw [strL] at h
  split at h
  ·rename_i h39
   cases h
   exact ⟨[],by simp,WY h39 (by decide),rfl⟩
  ·rename_i h39
   split at h
   ·cases h
   ·rename_i hr
    split at h
    ·rename_i h92
     split at h
     ·cases h
     ·rename_i c j2 he
      obtain ⟨w,hq,hw,hj⟩:=KLS he
      obtain ⟨t',h1,h2,h3⟩:=KCe h
      refine ⟨c::t',by rw [h1]; simp,?_,?_⟩
      ·rw [List.flatMap_cons,List.append_assoc,Zo,hq,List.length_cons]
       refine ⟨(Zo (a:=[92]) (b:=w)).2 ⟨WY h92 (by decide),hw⟩,?_⟩
       rw [hj] at h2
       rw [show i+(w.length+1)=i+1+w.length by omega]
       exact h2
      ·rw [h3,hj,List.flatMap_cons,List.length_append,hq,List.length_cons]
       omega
    ·rename_i h92
     obtain ⟨t',h1,h2,h3⟩:=KCe h
     have hq:=KOj (c:=KR s i) hr (fun hh=>hh.elim h39 h92)
     refine ⟨KR s i::t',by rw [h1]; simp,?_,?_⟩
     ·rw [List.flatMap_cons,List.append_assoc,Zo,hq]
      exact ⟨WY rfl (fun e=>hr (.inl (by rw [e]; decide))),h2⟩
     ·rw [h3,List.flatMap_cons,List.length_append,hq]
      simp only [List.length_singleton]
      omega
theorem KLT {s t:List UInt8} {i j:Nat} (h:strP s i=.ok (t,j)):At s i (VN t)∧j=i+(VN t).length:=by
 unfold strP at h
 split at h
 ·cases h
 ·rename_i j1 hj
  obtain ⟨a1,a2⟩:=Ur hj
  have a2:j1=i+1:=a2
  subst a2
  obtain ⟨t',h1,h2,h3⟩:=KCe h
  rw [List.nil_append] at h1
  subst h1
  unfold VN
  refine ⟨?_,by rw [h3]; simp; omega⟩
  have:=(Zo (a:=[39]) (b:=t.flatMap qc++[39]) (i:=i) (s:=s)).2 ⟨a1,h2⟩
  simpa using this
end Gx
namespace Gx
open Go Go.Proofs Go.Shelf Go.RowKit Go.Lib
set_option linter.unusedVariables false
set_option linter.unusedSimpArgs false
set_option maxRecDepth 100000
def WfV:Nat→Vl→Prop
 | 0,_=>True
 | d+1,.mk _ n _ l=>I64 n∧∀ x ∈ l,WfV d x
def sepT (d:Nat) (l:List Vl):List UInt8:=l.flatMap (fun x=>[44,32]++txt d x)
def mapT (d:Nat):List Vl→List UInt8
 | a::b::r=>[44,32]++(txt d a++([58,32]++(txt d b++mapT d r)))
 | _=>[]
theorem KEm (d:Nat):∀ (l:List Vl) (a:Vl),shw [44,32] [44,32] ((a::l).map (txt d))=txt d a++sepT d l
 | [],a=>by simp [shw,sepT]
 | b::l,a=>by
  have:=KEm d l b
  simp only [List.map_cons] at this ⊢
  rw [shw,this]
  simp [sepT]
theorem KEn (d:Nat):∀ (n:Nat) (l:List Vl) (a b:Vl),l.length=2 * n→shw [58,32] [44,32] ((a::b::l).map (txt d))=txt d a++([58,32]++(txt d b++mapT d l))
 | 0,l,a,b,h=>by
  obtain rfl:l=[]:=List.length_eq_zero_iff.1 h
  simp [shw,mapT]
 | n+1,l,a,b,h=>by
  match l,h with
  | x::y::r,h =>
   have:=KEn d n r x y (by simp only [List.length_cons] at h; omega)
   simp only [List.map_cons] at this ⊢
   rw [shw,shw,this,mapT]
theorem KHW (d:Nat) (n:Int) (s:List UInt8) (l:List Vl):txt (d+1) (.mk 4 n s l)=[91]++(shw [44,32] [44,32] (l.map (txt d))++[93]):=by
 rw [txt]
 simp
theorem KJt (d:Nat) (n:Int) (s:List UInt8) (l:List Vl):txt (d+1) (.mk 5 n s l)=[123]++(shw [58,32] [44,32] (l.map (txt d))++[125]):=by
 rw [txt]
 simp
theorem KFh {s:List UInt8} {d i j:Nat} {v:Vl} (h:pval s d i=.ok (v,j)):KR s i≠93∧KR s i≠125∧i < s.length:=by
 cases d with
 | zero=>cases h
 | succ d =>
  refine ⟨fun e=>?_,fun e=>?_,U2 (fun e=>?_)⟩ <;>
  ·rw [pval,e,if_neg (by decide),if_neg (by decide),if_neg (by decide),if_neg (by decide),if_neg (by decide),if_neg (by decide),if_neg (by decide),if_neg (by decide)] at h
   cases h
def Rds (s:List UInt8) (d:Nat) (v:Vl):Prop:=∀ i,At s i (txt d v)→digB (KR s (i+(txt d v).length))=false→pval s d i=.ok (v,i+(txt d v).length)
theorem KFi {s:List UInt8} {d:Nat}:∀ (l2 l1:List Vl) (f i:Nat),l1≠[]→(∀ x ∈ l2,Rds s d x)→At s i (sepT d l2++[93])→l2.length < f→VS (pval s d) 93 false s f l1 i=.ok (l1++l2,i+(sepT d l2).length+1)
 | [],l1,f,i,h1,hr,ha,hf=>by
  obtain ⟨f,rfl⟩:∃ g,f=g+1:=⟨f - 1,by omega⟩
  rw [VS,if_pos (At.here ha)]
  simp [sepT]
 | x::l2,l1,f,i,h1,hr,ha,hf=>by
  obtain ⟨f,rfl⟩:∃ g,f=g+1:=⟨f - 1,by omega⟩
  rw [List.length_cons] at hf
  have hst:sepT d (x::l2)++[93]=[44,32]++(txt d x++(sepT d l2++[93])):=by simp [sepT]
  rw [hst] at ha
  obtain ⟨a1,a2⟩:=Zo.1 ha
  obtain ⟨a3,a4⟩:=Zo.1 a2
  have hnext:KR s (i+2+(txt d x).length)=44∨KR s (i+2+(txt d x).length)=93:=by
   cases l2 with
   | nil=>exact .inr (At.here a4)
   | cons y l2 =>
    rw [show sepT d (y::l2)++[93]=44::(32::(txt d y++(sepT d l2++[93]))) by simp [sepT]] at a4
    exact .inl (At.here a4)
  have hp:=hr x (by simp) (i+2) a3 (by rcases hnext with h | h <;> (rw [h]; decide))
  have ih:=KFi l2 (l1++[x]) f (i+2+(txt d x).length) (by simp) (fun y hy=>hr y (by simp [hy])) a4 (by omega)
  have hl1:¬ l1.length=0:=fun e=>h1 (List.length_eq_zero_iff.1 e)
  rw [VS,if_neg (by rw [At.here a1]; decide)]
  unfold sepP
  rw [if_neg hl1,WX a1]
  dsimp only
  unfold Xq
  rw [show i+([44,32]:List UInt8).length=i+2 from rfl,hp]
  dsimp only
  rw [if_neg (by decide)]
  dsimp only
  rw [if_neg (by rcases hnext with h | h <;> (rw [h]; decide)),ih]
  have:(sepT d (x::l2)).length=2+(txt d x).length+(sepT d l2).length:=by simp [sepT]; omega
  rw [this,List.append_assoc]
  congr 2
  omega
theorem KHX {s:List UInt8} {d:Nat}:∀ (n:Nat) (l2 l1:List Vl) (f i:Nat),l2.length=2 * n→l1≠[]→(∀ x ∈ l2,Rds s d x)→At s i (mapT d l2++[125])→l2.length < f→VS (pval s d) 125 true s f l1 i=.ok (l1++l2,i+(mapT d l2).length+1)
 | 0,l2,l1,f,i,hn,h1,hr,ha,hf=>by
  obtain rfl:l2=[]:=List.length_eq_zero_iff.1 hn
  obtain ⟨f,rfl⟩:∃ g,f=g+1:=⟨f - 1,by omega⟩
  rw [VS,if_pos (At.here ha)]
  simp [mapT]
 | n+1,l2,l1,f,i,hn,h1,hr,ha,hf=>by
  match l2,hn with
  | x::y::l2,hn =>
   obtain ⟨f,rfl⟩:∃ g,f=g+1:=⟨f - 1,by omega⟩
   simp only [List.length_cons] at hf hn
   have hst:mapT d (x::y::l2)++[125]=[44,32]++(txt d x++([58,32]++(txt d y++(mapT d l2++[125])))):=by rw [mapT]; simp
   rw [hst] at ha
   obtain ⟨a1,a2⟩:=Zo.1 ha
   obtain ⟨a3,a4⟩:=Zo.1 a2
   obtain ⟨a5,a6⟩:=Zo.1 a4
   obtain ⟨a7,a8⟩:=Zo.1 a6
   have hnext:KR s (i+2+(txt d x).length+2+(txt d y).length)=44∨KR s (i+2+(txt d x).length+2+(txt d y).length)=125:=by
    match l2,hn with
    | [],_=>exact .inr (At.here a8)
    | u::w::l2,_ =>
     rw [show mapT d (u::w::l2)++[125]=44::(32::(txt d u++([58,32]++(txt d w++(mapT d l2++[125]))))) by rw [mapT]; simp] at a8
     exact .inl (At.here a8)
    | [u],hn=>exact absurd hn (by simp; omega)
   have hp:=hr x (by simp) (i+2) a3 (by rw [show i+2+(txt d x).length=i+([44,32]:List UInt8).length+(txt d x).length from rfl,At.here a5]; decide)
   have hp2:=hr y (by simp) (i+2+(txt d x).length+2) a7 (by rcases hnext with h | h <;> (rw [h]; decide))
   have ih:=KHX n l2 (l1++[x,y]) f (i+2+(txt d x).length+2+(txt d y).length) (by omega) (by simp) (fun z hz=>hr z (by simp [hz])) a8 (by omega)
   have hl1:¬ l1.length=0:=fun e=>h1 (List.length_eq_zero_iff.1 e)
   rw [VS,if_neg (by rw [At.here a1]; decide)]
   unfold sepP
   rw [if_neg hl1,WX a1]
   dsimp only
   unfold Xq
   rw [show i+([44,32]:List UInt8).length=i+2 from rfl,hp]
   dsimp only
   have hm:=WX a5
   rw [if_pos rfl,show i+2+(txt d x).length=i+([44,32]:List UInt8).length+(txt d x).length from rfl,hm]
   dsimp only
   rw [show i+([44,32]:List UInt8).length+(txt d x).length+([58,32]:List UInt8).length=i+2+(txt d x).length+2 from rfl,hp2]
   dsimp only
   rw [if_neg (by rcases hnext with h | h <;> (rw [h]; decide)),ih]
   have:(mapT d (x::y::l2)).length=2+(txt d x).length+2+(txt d y).length+(mapT d l2).length:=by rw [mapT]; simp; omega
   rw [this,List.append_assoc]
   congr 2
   omega
theorem KJu {s:List UInt8} {d:Nat} {l:List Vl} {i:Nat} (hr:∀ x ∈ l,Rds s d x) (ha:At s i (shw [44,32] [44,32] (l.map (txt d))++[93])) (f:Nat) (hf:l.length < f) :
  VS (pval s d) 93 false s f [] i=.ok (l,i+(shw [44,32] [44,32] (l.map (txt d))).length+1):=by
 obtain ⟨f,rfl⟩:∃ g,f=g+1:=⟨f - 1,by omega⟩
 cases l with
 | nil =>
  rw [VS,if_pos (At.here ha)]
  rfl
 | cons x l =>
  rw [KEm] at ha ⊢
  rw [List.append_assoc] at ha
  obtain ⟨a3,a4⟩:=Zo.1 ha
  have hnext:KR s (i+(txt d x).length)=44∨KR s (i+(txt d x).length)=93:=by
   cases l with
   | nil=>exact .inr (At.here a4)
   | cons y l =>
    rw [show sepT d (y::l)++[93]=44::(32::(txt d y++(sepT d l++[93]))) by simp [sepT]] at a4
    exact .inl (At.here a4)
  have hp:=hr x (by simp) i a3 (by rcases hnext with h | h <;> (rw [h]; decide))
  have ih:=KFi l [x] f (i+(txt d x).length) (by simp) (fun y hy=>hr y (by simp [hy])) a4 (by simp only [List.length_cons] at hf; omega)
  rw [VS,if_neg (KFh hp).1]
  unfold sepP
  rw [if_pos (show ([]:List Vl).length=0 from rfl)]
  dsimp only
  unfold Xq
  rw [hp]
  dsimp only
  rw [if_neg (by decide)]
  dsimp only
  rw [if_neg (by rcases hnext with h | h <;> (rw [h]; decide)),List.nil_append,ih,List.length_append]
  congr 2
  omega
theorem KLU {s:List UInt8} {d:Nat} {l:List Vl} {i:Nat} (he:l.length % 2=0) (hr:∀ x ∈ l,Rds s d x) (ha:At s i (shw [58,32] [44,32] (l.map (txt d))++[125])) (f:Nat) (hf:l.length < f) :
  VS (pval s d) 125 true s f [] i=.ok (l,i+(shw [58,32] [44,32] (l.map (txt d))).length+1):=by
 obtain ⟨f,rfl⟩:∃ g,f=g+1:=⟨f - 1,by omega⟩
 match l,he with
 | [],_ =>
  rw [VS,if_pos (At.here ha)]
  rfl
 | [u],he=>exact absurd he (by simp)
 | x::y::l,he =>
  simp only [List.length_cons] at he hf
  rw [KEn d (l.length / 2) l x y (by omega)] at ha ⊢
  rw [show txt d x++([58,32]++(txt d y++mapT d l))++[125]=txt d x++([58,32]++(txt d y++(mapT d l++[125]))) by simp] at ha
  obtain ⟨a3,a4⟩:=Zo.1 ha
  obtain ⟨a5,a6⟩:=Zo.1 a4
  obtain ⟨a7,a8⟩:=Zo.1 a6
  have hnext:KR s (i+(txt d x).length+2+(txt d y).length)=44∨KR s (i+(txt d x).length+2+(txt d y).length)=125:=by
   match l,he with
   | [],_=>exact .inr (At.here a8)
   | u::w::l2,_ =>
    rw [show mapT d (u::w::l2)++[125]=44::(32::(txt d u++([58,32]++(txt d w++(mapT d l2++[125]))))) by rw [mapT]; simp] at a8
    exact .inl (At.here a8)
   | [u],he=>exact absurd he (by simp)
  have hp:=hr x (by simp) i a3 (by rw [At.here a5]; decide)
  have hp2:=hr y (by simp) (i+(txt d x).length+2) a7 (by rcases hnext with h | h <;> (rw [h]; decide))
  have ih:=KHX (l.length / 2) l [x,y] f (i+(txt d x).length+2+(txt d y).length) (by omega) (by simp) (fun z hz=>hr z (by simp [hz])) a8 (by omega)
  rw [VS,if_neg (KFh hp).2.1]
  unfold sepP
  rw [if_pos (show ([]:List Vl).length=0 from rfl)]
  dsimp only
  unfold Xq
  rw [hp]
  dsimp only
  rw [if_pos rfl,WX a5]
  dsimp only
  rw [show i+(txt d x).length+([58,32]:List UInt8).length=i+(txt d x).length+2 from rfl,hp2]
  dsimp only
  rw [if_neg (by rcases hnext with h | h <;> (rw [h]; decide)),List.nil_append,ih]
  simp only [List.length_append,List.length_cons,List.length_nil]
  congr 2
  omega
theorem KEo {s:List UInt8} {l:List Vl} (h:KEa s l=true):s=[]∧l=[]:=by
 unfold KEa at h
 rw [Bool.and_eq_true,decide_eq_true_iff,List.isEmpty_iff] at h
 exact h
theorem KFj {s:List UInt8} {i:Nat} {k n:Int} {c:UInt8} (hn:I64 n) (ha:At s i ([c,91]++itoa n++[93])):KAQ k s i=.ok (.mk k n [] [],i+([c,91]++itoa n++[93]).length):=by
 rw [List.append_assoc] at ha
 obtain ⟨a1,a2⟩:=Zo.1 ha
 obtain ⟨a3,a4⟩:=Zo.1 a2
 have a1':At s (i+1) [91]:=((Zo (a:=[c]) (b:=[91])).1 a1).2
 have hnum:=KHT (i:=i+2) hn a3 (by rw [show i+2+(itoa n).length=i+([c,91]:List UInt8).length+(itoa n).length from rfl,At.here a4]; decide)
 unfold KAQ
 rw [WX a1']
 dsimp only
 rw [show i+1+([91]:List UInt8).length=i+2 from rfl,hnum]
 dsimp only
 have:=WX a4
 rw [show i+2+(itoa n).length=i+([c,91]:List UInt8).length+(itoa n).length from rfl,this]
 simp only [List.length_append,List.length_cons,List.length_nil]
 congr 2
 omega
theorem KHY (s:List UInt8):∀ (d:Nat) (v:Vl),mayV d v=true→WfV d v→Rds s d v
 | 0,v,hm,_=>by cases v; cases hm
 | d+1,.mk k n t l,hm,hw=>by
  have ih:=KHY s d
  intro i ha hf
  rw [WfV] at hw
  rw [mayV] at hm
  by_cases h1:k=1
  ·subst h1
   rw [if_pos rfl] at hm
   obtain ⟨rfl,rfl⟩:=KEo hm
   have ht:txt (d+1) (.mk 1 n [] [])=itoa n:=by rw [txt,if_pos rfl]
   rw [ht] at ha hf ⊢
   have hnum:=KHT hw.1 ha hf
   have hc:KR s i=45∨digB (KR s i)=true:=by
    have h0:=ha.get (k:=0) (List.length_pos_iff.2 (KGi n))
    rw [Nat.add_zero] at h0
    by_cases hneg:n < 0
    ·left
     have hT:itoa n=45::decDigits n.natAbs:=by unfold itoa; rw [if_pos hneg]
     rw [h0]
     simp only [hT]
     rfl
    ·right
     rw [h0]
     exact (KBo hw.1 (k:=0) (by unfold sgn; rw [if_neg hneg]; exact Nat.le_refl _) _).1
   rw [pval,if_pos hc,hnum]
  rw [if_neg h1] at hm
  by_cases h3:k=3
  ·subst h3
   rw [if_pos rfl,Bool.and_eq_true,Bool.or_eq_true,decide_eq_true_iff,decide_eq_true_iff] at hm
   obtain ⟨hb,hn⟩:=hm
   obtain ⟨rfl,rfl⟩:=KEo hb
   rcases hn with rfl | rfl
   ·have ht:txt (d+1) (.mk 3 0 [] [])=[102,97,108,115,101]:=by rw [txt]; rfl
    rw [ht] at ha ⊢
    rw [pval,At.here ha,if_neg (by decide),if_neg (by decide),if_neg (by decide),if_pos rfl,WX ha]
   ·have ht:txt (d+1) (.mk 3 1 [] [])=[116,114,117,101]:=by rw [txt]; rfl
    rw [ht] at ha ⊢
    rw [pval,At.here ha,if_neg (by decide),if_neg (by decide),if_pos rfl,WX ha]
  rw [if_neg h3] at hm
  by_cases h67:k=6∨k=7
  ·rw [if_pos h67,Bool.and_eq_true,Bool.and_eq_true,decide_eq_true_iff,decide_eq_true_iff] at hm
   obtain ⟨⟨hb,hn1⟩,hn2⟩:=hm
   obtain ⟨rfl,rfl⟩:=KEo hb
   rcases h67 with rfl | rfl
   ·have ht:txt (d+1) (.mk 6 n [] [])=[118,91]++itoa n++[93]:=by rw [txt]; rfl
    rw [ht] at ha ⊢
    have hh:KR s i=118:=by
     rw [List.append_assoc] at ha
     exact At.here (Zo.1 ha).1
    rw [pval,hh,if_neg (by decide),if_neg (by decide),if_neg (by decide),if_neg (by decide),if_pos rfl]
    exact KFj hw.1 ha
   ·have ht:txt (d+1) (.mk 7 n [] [])=[101,91]++itoa n++[93]:=by rw [txt]; rfl
    rw [ht] at ha ⊢
    have hh:KR s i=101:=by
     rw [List.append_assoc] at ha
     exact At.here (Zo.1 ha).1
    rw [pval,hh,if_neg (by decide),if_neg (by decide),if_neg (by decide),if_neg (by decide),if_neg (by decide),if_pos rfl]
    exact KFj hw.1 ha
  rw [if_neg h67] at hm
  by_cases h2:k=2
  ·subst h2
   rw [if_pos rfl,Bool.and_eq_true,Bool.and_eq_true,decide_eq_true_iff,List.isEmpty_iff,decide_eq_true_iff] at hm
   obtain ⟨⟨rfl,rfl⟩,_⟩:=hm
   have ht:txt (d+1) (.mk 2 0 t [])=VN t:=by rw [txt]; rfl
   rw [ht] at ha ⊢
   have hh:KR s i=39:=by
    have:VN t=39::(t.flatMap qc++[39]):=rfl
    rw [this] at ha
    exact At.here ha
   rw [pval,hh,if_neg (by decide),if_pos rfl,KLR ha]
  rw [if_neg h2] at hm
  by_cases h4:k=4
  ·subst h4
   rw [if_pos rfl,Bool.and_eq_true,Bool.and_eq_true,Bool.and_eq_true,decide_eq_true_iff,decide_eq_true_iff,decide_eq_true_iff,List.all_eq_true] at hm
   obtain ⟨hl,⟨rfl,rfl⟩,hall⟩:=hm
   rw [KHW] at ha ⊢
   obtain ⟨a1,a2⟩:=Zo.1 ha
   have hlen:=a2.len (by simp)
   have hcount:l.length≤(shw [44,32] [44,32] (l.map (txt d))).length:=by
    cases l with
    | nil=>simp
    | cons x l =>
     rw [KEm,List.length_append,List.length_cons]
     have:=KEl d x
     have h5:l.length≤(sepT d l).length:=by
      clear hall hl ha a1 a2 hlen hf hw
      induction l with
      | nil=>simp
      | cons y l ih2=>simp only [sepT,List.flatMap_cons,List.length_append,List.length_cons,List.length_nil] at ih2 ⊢; omega
     omega
   rw [List.length_append,List.length_singleton] at hlen
   have hlist:=KJu (fun x hx=>ih x (hall x hx) (hw.2 x hx)) a2 (s.length - i) (by have:([91]:List UInt8).length=1:=rfl; omega)
   rw [pval,At.here a1,if_neg (by decide),if_neg (by decide),if_neg (by decide),if_neg (by decide),if_neg (by decide),if_neg (by decide),if_pos rfl]
   rw [show i+([91]:List UInt8).length=i+1 from rfl] at hlist
   rw [hlist]
   simp only [List.length_append,List.length_cons,List.length_nil]
   congr 2
   omega
  rw [if_neg h4] at hm
  by_cases h5:k=5
  ·subst h5
   rw [if_pos rfl,Bool.and_eq_true,Bool.and_eq_true,Bool.and_eq_true,Bool.and_eq_true,Bool.and_eq_true,decide_eq_true_iff,decide_eq_true_iff,decide_eq_true_iff,decide_eq_true_iff,List.all_eq_true] at hm
   obtain ⟨⟨⟨hl,he⟩,_⟩,⟨rfl,rfl⟩,hall⟩:=hm
   rw [KJt] at ha ⊢
   obtain ⟨a1,a2⟩:=Zo.1 ha
   have hlen:=a2.len (by simp)
   have hcount:l.length≤(shw [58,32] [44,32] (l.map (txt d))).length:=by
    match l,he with
    | [],_=>simp
    | [u],he=>exact absurd he (by simp)
    | x::y::l,he =>
     simp only [List.length_cons] at he
     rw [KEn d (l.length / 2) l x y (by omega)]
     have h6:∀ (n:Nat) (l:List Vl),l.length=2 * n→l.length≤(mapT d l).length:=by
      intro n
      induction n with
      | zero=>intro l hl; omega
      | succ n ih2 =>
       intro l hl
       match l,hl with
       | a::b::r,hl =>
        simp only [List.length_cons] at hl
        have:=ih2 r (by omega)
        rw [mapT]
        simp only [List.length_append,List.length_cons,List.length_nil]
        omega
     have:=h6 (l.length / 2) l (by omega)
     have:=KEl d x
     have:=KEl d y
     simp only [List.length_append,List.length_cons,List.length_nil]
     omega
   rw [List.length_append,List.length_singleton] at hlen
   have hlist:=KLU he (fun x hx=>ih x (hall x hx) (hw.2 x hx)) a2 (s.length - i) (by have:([123]:List UInt8).length=1:=rfl; omega)
   rw [pval,At.here a1,if_neg (by decide),if_neg (by decide),if_neg (by decide),if_neg (by decide),if_neg (by decide),if_neg (by decide),if_neg (by decide),if_pos rfl]
   rw [show i+([123]:List UInt8).length=i+1 from rfl] at hlist
   rw [hlist]
   simp only [List.length_append,List.length_cons,List.length_nil]
   congr 2
   omega
  rw [if_neg h5] at hm
  cases hm
end Gx
namespace Gx
open Go Go.Proofs Go.Shelf Go.RowKit Go.Lib
set_option linter.unusedVariables false
set_option linter.unusedSimpArgs false
set_option maxRecDepth 100000
def Tx (s:List UInt8) (d:Nat) (pv:Nat→Except Nat (Vl × Nat)):Prop:=∀ i v j,pv i=.ok (v,j)→At s i (txt d v)∧j=i+(txt d v).length
theorem KFk {s:List UInt8} {d:Nat} {pv:Nat→Except Nat (Vl × Nat)} (hp:Tx s d pv):∀ {f i:Nat} {l1 t:List Vl} {j:Nat},l1≠[]→VS pv 93 false s f l1 i=.ok (t,j)→∃ l2,t=l1++l2∧At s i (sepT d l2++[93])∧j=i+(sepT d l2).length+1
 | 0,i,l1,t,j,h1,h=>by cases h
 | f+1,i,l1,t,j,h1,h=>by
  rw [VS] at h
  split at h
  ·rename_i hh
   cases h
   exact ⟨[],by simp,WY hh (by decide),rfl⟩
  ·have hl1:¬ l1.length=0:=fun e=>h1 (List.length_eq_zero_iff.1 e)
   unfold sepP at h
   rw [if_neg hl1] at h
   split at h
   ·cases h
   ·rename_i i1 hi1
    obtain ⟨a1,a2⟩:=Ur hi1
    split at h
    ·cases h
    ·rename_i vs i2 hv
     split at h
     ·cases h
     ·unfold Xq at hv
      split at hv
      ·cases hv
      ·rename_i v j1 hpv
       rw [if_neg (by decide)] at hv
       cases hv
       obtain ⟨b1,b2⟩:=hp _ _ _ hpv
       obtain ⟨l2,c1,c2,c3⟩:=KFk hp (by simp) h
       refine ⟨v::l2,by rw [c1]; simp,?_,?_⟩
       ·rw [show sepT d (v::l2)++[93]=[44,32]++(txt d v++(sepT d l2++[93])) by simp [sepT],Zo,Zo]
        subst a2
        rw [← b2]
        exact ⟨a1,b1,c2⟩
       ·have:(sepT d (v::l2)).length=2+(txt d v).length+(sepT d l2).length:=by simp [sepT]; omega
        have e2:([44,32]:List UInt8).length=2:=rfl
        omega
theorem KHZ {s:List UInt8} {d:Nat} {pv:Nat→Except Nat (Vl × Nat)} (hp:Tx s d pv):∀ {f i:Nat} {l1 t:List Vl} {j:Nat},l1≠[]→VS pv 125 true s f l1 i=.ok (t,j)→∃ l2,l2.length % 2=0∧t=l1++l2∧At s i (mapT d l2++[125])∧j=i+(mapT d l2).length+1
 | 0,i,l1,t,j,h1,h=>by cases h
 | f+1,i,l1,t,j,h1,h=>by
  rw [VS] at h
  split at h
  ·rename_i hh
   cases h
   exact ⟨[],rfl,by simp,WY hh (by decide),rfl⟩
  ·have hl1:¬ l1.length=0:=fun e=>h1 (List.length_eq_zero_iff.1 e)
   unfold sepP at h
   rw [if_neg hl1] at h
   split at h
   ·cases h
   ·rename_i i1 hi1
    obtain ⟨a1,a2⟩:=Ur hi1
    split at h
    ·cases h
    ·rename_i vs i2 hv
     split at h
     ·cases h
     ·unfold Xq at hv
      split at hv
      ·cases hv
      ·rename_i v j1 hpv
       rw [if_pos rfl] at hv
       split at hv
       ·cases hv
       ·rename_i j2 hj2
        obtain ⟨a3,a4⟩:=Ur hj2
        split at hv
        ·cases hv
        ·rename_i w j3 hpw
         cases hv
         obtain ⟨b1,b2⟩:=hp _ _ _ hpv
         obtain ⟨b3,b4⟩:=hp _ _ _ hpw
         obtain ⟨l2,c0,c1,c2,c3⟩:=KHZ hp (by simp) h
         refine ⟨v::w::l2,by simp only [List.length_cons]; omega,by rw [c1]; simp,?_,?_⟩
         ·rw [show mapT d (v::w::l2)++[125]=[44,32]++(txt d v++([58,32]++(txt d w++(mapT d l2++[125])))) by rw [mapT]; simp,Zo,Zo,Zo,Zo]
          subst a2
          rw [← b2,← a4,← b4]
          exact ⟨a1,b1,a3,b3,c2⟩
         ·have:(mapT d (v::w::l2)).length=2+(txt d v).length+2+(txt d w).length+(mapT d l2).length:=by rw [mapT]; simp; omega
          have e2:([44,32]:List UInt8).length=2:=rfl
          have e3:([58,32]:List UInt8).length=2:=rfl
          omega
theorem KJv {s:List UInt8} {d:Nat} {pv:Nat→Except Nat (Vl × Nat)} (hp:Tx s d pv) {f i:Nat} {t:List Vl} {j:Nat} (h:VS pv 93 false s f [] i=.ok (t,j)) :
  At s i (shw [44,32] [44,32] (t.map (txt d))++[93])∧j=i+(shw [44,32] [44,32] (t.map (txt d))).length+1:=by
 cases f with
 | zero=>cases h
 | succ f =>
  rw [VS] at h
  split at h
  ·rename_i hh
   cases h
   exact ⟨WY hh (by decide),rfl⟩
  ·unfold sepP at h
   rw [if_pos (show ([]:List Vl).length=0 from rfl)] at h
   dsimp only at h
   split at h
   ·cases h
   ·rename_i vs i2 hv
    split at h
    ·cases h
    ·unfold Xq at hv
     split at hv
     ·cases hv
     ·rename_i v j1 hpv
      rw [if_neg (by decide)] at hv
      cases hv
      obtain ⟨b1,b2⟩:=hp _ _ _ hpv
      obtain ⟨l2,c1,c2,c3⟩:=KFk hp (by simp) h
      rw [List.nil_append,List.singleton_append] at c1
      rw [c1,KEm,List.append_assoc,Zo,List.length_append]
      subst b2
      exact ⟨⟨b1,c2⟩,by omega⟩
theorem KLV {s:List UInt8} {d:Nat} {pv:Nat→Except Nat (Vl × Nat)} (hp:Tx s d pv) {f i:Nat} {t:List Vl} {j:Nat} (h:VS pv 125 true s f [] i=.ok (t,j)) :
  At s i (shw [58,32] [44,32] (t.map (txt d))++[125])∧j=i+(shw [58,32] [44,32] (t.map (txt d))).length+1:=by
 cases f with
 | zero=>cases h
 | succ f =>
  rw [VS] at h
  split at h
  ·rename_i hh
   cases h
   exact ⟨WY hh (by decide),rfl⟩
  ·unfold sepP at h
   rw [if_pos (show ([]:List Vl).length=0 from rfl)] at h
   dsimp only at h
   split at h
   ·cases h
   ·rename_i vs i2 hv
    split at h
    ·cases h
    ·unfold Xq at hv
     split at hv
     ·cases hv
     ·rename_i v j1 hpv
      rw [if_pos rfl] at hv
      split at hv
      ·cases hv
      ·rename_i j2 hj2
       obtain ⟨a3,a4⟩:=Ur hj2
       split at hv
       ·cases hv
       ·rename_i w j3 hpw
        cases hv
        obtain ⟨b1,b2⟩:=hp _ _ _ hpv
        obtain ⟨b3,b4⟩:=hp _ _ _ hpw
        obtain ⟨l2,c0,c1,c2,c3⟩:=KHZ hp (by simp) h
        rw [List.nil_append] at c1
        rw [c1,show [v,w]++l2=v::w::l2 from rfl,KEn d (l2.length / 2) l2 v w (by omega)]
        rw [show txt d v++([58,32]++(txt d w++mapT d l2))++[125]=txt d v++([58,32]++(txt d w++(mapT d l2++[125]))) by simp,Zo,Zo,Zo]
        subst b2
        subst a4
        subst b4
        refine ⟨⟨b1,a3,b3,c2⟩,?_⟩
        simp only [List.length_append,List.length_cons,List.length_nil] at c3 ⊢
        omega
theorem KFl {s:List UInt8} {i j:Nat} {k:Int} {c:UInt8} {v:Vl} (hc:At s i [c]) (h:KAQ k s i=.ok (v,j)):∃ n,v=.mk k n [] []∧At s i ([c,91]++itoa n++[93])∧j=i+([c,91]++itoa n++[93]).length:=by
 unfold KAQ at h
 split at h
 ·cases h
 ·rename_i j1 h1
  obtain ⟨a1,a2⟩:=Ur h1
  split at h
  ·cases h
  ·rename_i n j2 h2
   have hle:=(U4 h1).2.1 (by simp)
   obtain ⟨b1,b2⟩:=KHU h2 hle
   split at h
   ·cases h
   ·rename_i j3 h3
    obtain ⟨c1,c2⟩:=Ur h3
    cases h
    have a2:j1=i+2:=a2
    subst a2
    subst b2
    refine ⟨n,rfl,?_,?_⟩
    ·rw [show [c,91]++itoa n++[93]=[c]++([91]++(itoa n++[93])) by simp,Zo,Zo,Zo]
     exact ⟨hc,a1,b1,c1⟩
    ·rw [c2]
     simp only [List.length_append,List.length_cons,List.length_nil]
     omega
theorem KHa (s:List UInt8):∀ d,Tx s d (pval s d)
 | 0=>fun i v j h=>by cases h
 | d+1=>fun i v j h=>by
  have ih:=KHa s d
  rw [pval] at h
  split at h
  ·rename_i hc
   have hi:i < s.length:=U2 (fun e=>by rw [e] at hc; exact absurd hc (by decide))
   split at h
   ·cases h
   ·rename_i n j1 h1
    cases h
    have ht:txt (d+1) (.mk 1 n [] [])=itoa n:=by rw [txt,if_pos rfl]
    rw [ht]
    exact KHU h1 (by omega)
  split at h
  ·split at h
   ·cases h
   ·rename_i t j1 h1
    cases h
    have ht:txt (d+1) (.mk 2 0 t [])=VN t:=by rw [txt]; rfl
    rw [ht]
    exact KLT h1
  split at h
  ·split at h
   ·cases h
   ·rename_i j1 h1
    cases h
    have ht:txt (d+1) (.mk 3 1 [] [])=[116,114,117,101]:=by rw [txt]; rfl
    rw [ht]
    exact Ur h1
  split at h
  ·split at h
   ·cases h
   ·rename_i j1 h1
    cases h
    have ht:txt (d+1) (.mk 3 0 [] [])=[102,97,108,115,101]:=by rw [txt]; rfl
    rw [ht]
    exact Ur h1
  split at h
  ·rename_i hc
   obtain ⟨n,rfl,h2,h3⟩:=KFl (WY hc (by decide)) h
   have ht:txt (d+1) (.mk 6 n [] [])=[118,91]++itoa n++[93]:=by rw [txt]; rfl
   rw [ht]
   exact ⟨h2,h3⟩
  split at h
  ·rename_i hc
   obtain ⟨n,rfl,h2,h3⟩:=KFl (WY hc (by decide)) h
   have ht:txt (d+1) (.mk 7 n [] [])=[101,91]++itoa n++[93]:=by rw [txt]; rfl
   rw [ht]
   exact ⟨h2,h3⟩
  split at h
  ·rename_i hc
   split at h
   ·cases h
   ·rename_i l j1 h1
    cases h
    obtain ⟨a1,a2⟩:=KJv ih h1
    rw [KHW,Zo]
    exact ⟨⟨WY hc (by decide),a1⟩,by rw [a2]; simp only [List.length_append,List.length_cons,List.length_nil]; omega⟩
  split at h
  ·rename_i hc
   split at h
   ·cases h
   ·rename_i l j1 h1
    cases h
    obtain ⟨a1,a2⟩:=KLV ih h1
    rw [KJt,Zo]
    exact ⟨⟨WY hc (by decide),a1⟩,by rw [a2]; simp only [List.length_append,List.length_cons,List.length_nil]; omega⟩
  ·cases h
theorem KAS {v:Vl} (hm:mayV 8 v=true) (hw:WfV 8 v):UE (txV v)=(v,0,0):=by
 have hAt:At (txV v) 0 (txt 8 v):=by
  unfold At
  rw [List.drop_zero]
  exact List.take_length
 have h:=KHY (txV v) 8 v hm hw 0 hAt (by
  have:KR (txV v) (0+(txt 8 v).length)=0:=by
   unfold KR
   rw [List.getElem?_eq_none (by show (txt 8 v).length≤_; omega)]
   rfl
  rw [this]
  decide)
 have hr:KBg (txV v)=.ok v:=by
  unfold KBg
  rw [h]
  dsimp only
  rw [if_neg (by show ¬ (0+(txt 8 v).length < (txt 8 v).length); omega)]
 unfold UE
 rw [hr]
 dsimp only
 rw [if_pos hm]
theorem KAT {s:List UInt8} {v:Vl} (h:KBg s=.ok v):txV v=s:=by
 unfold KBg at h
 split at h
 ·cases h
 ·rename_i w j hp
  split at h
  ·cases h
  ·rename_i hj
   cases h
   obtain ⟨a1,a2⟩:=KHa s 8 0 _ _ hp
   have hle:=(KGY s 8 0 _ _ hp).2
   unfold At at a1
   rw [List.drop_zero,List.take_of_length_le (by omega)] at a1
   exact a1.symm
theorem KJw {h:Heap}:∀ (d:Nat) (v:Vl) (cs:Array Value),VRep h v cs→WfV d v
 | 0,v,_,_=>by cases v; trivial
 | d+1,.mk k n s l,cs,hv=>by
  rw [VRep.eq] at hv
  obtain ⟨x,_,_,hn,_,hx⟩:=hv
  rw [WfV]
  refine ⟨hn,fun y hy=>?_⟩
  obtain ⟨i,hi,rfl⟩:=List.getElem_of_mem hy
  obtain ⟨a,c,_,_,_,hvi⟩:=hx.get hi
  exact KJw d _ c hvi
end Gx
namespace Gx
open Go Go.Proofs Go.Shelf Go.RowKit Go.Lib
set_option linter.unusedVariables false
set_option linter.unusedSimpArgs false
set_option maxRecDepth 100000
theorem KAU {s:List UInt8} (h:(UE s).2.2=0):KBg s=.ok (UE s).1∧mayV 8 (UE s).1=true:=by
 unfold UE at h ⊢
 cases hr:KBg s with
 | error e =>
  rw [hr] at h
  have h:(22:Int)=0:=h
  exact absurd h (by decide)
 | ok v =>
  rw [hr] at h
  dsimp only at h ⊢
  by_cases hm:mayV 8 v=true
  ·rw [if_pos hm]
   exact ⟨rfl,hm⟩
  ·rw [if_neg hm] at h
   have h:(20:Int)=0:=h
   exact absurd h (by decide)
end Gx
namespace Gx
open Go
set_option linter.unusedVariables false
set_option linter.unusedSimpArgs false
theorem KDl (k n:Int) (s:ByteArray):∀ v ∈ (#[.int .i64 k,.int .i64 n,.string s,.slice none 0 0]:Array Value).toList,one v=true:=fun v hv=>by
 simp at hv; rcases hv with rfl | rfl | rfl | rfl <;> rfl
theorem KCf {s:List UInt8} {h:Heap} {Q:Array Value→Heap→Prop} (hs:s.length≤1048576) (H:∀ h' c,Ext h h'→(∀ S h2,ZK S h2 (.mk 2 0 s []) c)→Q c h'):(JT (bs s)).wp h Q:=by
 unfold JT
 refine ZW (fun h1 e1 z1 g1=>JA rfl (stR (vs:=(#[.int .i64 2,.int .i64 0,.string (bs s),.slice none 0 0]:Array Value)) (off:=0) g1 (Nat.le_refl 4) (KDl _ _ _) (fun h2 u2 g2=>?_)))
 rw [ZD (by rfl)] at g2
 refine ldR g2 rfl (KG (H _ _ (e1.upd u2 (Nat.le_refl _)) (fun S h3=>ZK.eq.2 ⟨Sl.nil,rfl,⟨by decide,by decide⟩,⟨by decide,by decide⟩,by omega,rfl,Nat.le_refl _,by decide,by rw [Vr]; trivial⟩)))
theorem KCg {n:Int} {h:Heap} {Q:Array Value→Heap→Prop} (hn:I64 n) (H:∀ h' c,Ext h h'→(∀ S h2,ZK S h2 (.mk 1 n [] []) c)→Q c h'):(JS n).wp h Q:=by
 unfold JS
 refine ZW (fun h1 e1 z1 g1=>JA rfl (stR (vs:=(#[.int .i64 1,.int .i64 n,.string ByteArray.empty,.slice none 0 0]:Array Value)) (off:=0) g1 (Nat.le_refl 4) (KDl _ _ _) (fun h2 u2 g2=>?_)))
 rw [ZD (by rfl)] at g2
 refine ldR g2 rfl (KG (H _ _ (e1.upd u2 (Nat.le_refl _)) (fun S h3=>ZK.eq.2 ⟨Sl.nil,rfl,⟨by decide,by decide⟩,hn,by decide,rfl,Nat.le_refl _,by decide,by rw [Vr]; trivial⟩)))
theorem KBp {β:Type} {h:Heap} {Q:β→Heap→Prop} {z a b:Array Value} {f:Array Value→M β} (ha:a.size=4) (hb:b.size=4) (H:(f (a++b)).wp h Q):(GL 4 2 z [(0,.agg a),(1,.agg b)]>>=f).wp h Q:=by
 refine ⟨a++b,?_,H⟩
 have hz:(zRow z (2 * 4)).size=8:=by simp [zRow]
 show Instr.fill (fun i=>some (i * 4,4)) (zRow z (2 * 4)) [(0,Value.agg a),(1,Value.agg b)]=some (a++b)
 rw [NX (off:=0) (size:=4) (v:=Value.agg a) (by simp) ha (by omega),NX (off:=4) (size:=4) (v:=Value.agg b) (by simp) hb (by rw [Yw]; omega)]
 show some _=some _
 rw [show (Value.agg a).cells=a from rfl,show (Value.agg b).cells=b from rfl]
 congr 1
 apply Array.ext'
 rw [Uo _ _ _ (by rw [Yw,Array.length_toList]; omega),Uo _ _ _ (by rw [Array.length_toList]; omega)]
 have h1:a.toList.length=4:=by rw [Array.length_toList]; exact ha
 have h2:b.toList.length=4:=by rw [Array.length_toList]; exact hb
 have h3:(zRow z (2 * 4)).toList.length=8:=by rw [Array.length_toList]; exact hz
 rw [List.take_zero,List.nil_append,Array.toList_append,List.take_append_of_le_length (by omega),List.take_of_length_le (by omega),h1,h2]
 rw [List.drop_eq_nil_iff.2 (by rw [List.length_append,List.length_drop]; omega),List.append_nil]
theorem KEp {S:Nat→Prop} {h:Heap} {b:Nat} {va vb:Vl} {a c:Array Value} {t:TypeId} (hb:h[b]?=some (.cells (a++c) t (0,0))) (ha:ZK S h va a) (hc:ZK S h vb c):VsRepS (fun i=>S i∨i=b) h ⟨some ⟨b,0,none⟩,2,2⟩ [va,vb]:=by
 refine ⟨rfl,Nat.le_refl _,by show (2:Nat)≤9223372036854775807; decide,?_⟩
 rw [Vr,Vr,Vr]
 have h1:=ha.size
 have h2:=hc.size
 refine ⟨⟨_,a,rfl,.inr rfl,h1,fun j hj=>?_,ha.mono (fun i hi=>.inl hi)⟩,⟨_,c,rfl,.inr rfl,h2,fun j hj=>?_,hc.mono (fun i hi=>.inl hi)⟩,trivial⟩
 ·rw [Kg,Nat.zero_add,KS hb,Array.getElem?_append_left (by omega)]
  congr 1; omega
 ·rw [Kg,Nat.zero_add,KS hb,Array.getElem?_append_right (by omega)]
  congr 1; omega
end Gx
namespace Gx
open Go
set_option linter.unusedVariables false
set_option linter.unusedSimpArgs false
structure Tri (ab bc ac:Int):Prop where
 tr:ab < 0→bc < 0→ac < 0
 z1:ab=0→ac=bc
 z2:bc=0→ac=ab
theorem Tri.cOr {x y z x' y' z':Int} (h:Tri x y z) (h':x=0→y=0→Tri x' y' z'):Tri (cOr x x') (cOr y y') (cOr z z'):=by
 unfold Gx.cOr
 obtain ⟨t,a,b⟩:=h
 by_cases hx:x=0
 ·have hz:=a hx
  by_cases hy:y=0
  ·have hz0:z=0:=by omega
   rw [if_pos hx,if_pos hy,if_pos hz0]
   exact h' hx hy
  ·have hz0:¬ z=0:=by omega
   rw [if_pos hx,if_neg hy,if_neg hz0]
   refine ⟨fun h1 h2=>by omega,fun h1=>hz,fun h1=>by omega⟩
 ·by_cases hy:y=0
  ·have hz:=b hy
   have hz0:¬ z=0:=by omega
   rw [if_neg hx,if_pos hy,if_neg hz0]
   exact ⟨fun h1 h2=>by omega,fun h1=>by omega,fun h1=>hz⟩
  ·rw [if_neg hx,if_neg hy]
   refine ⟨fun h1 h2=>?_,fun h1=>by omega,fun h1=>by omega⟩
   have:=t h1 h2
   rw [if_neg (by omega)]; exact this
theorem KEq (a b c:Int):Tri (cmpI a b) (cmpI b c) (cmpI a c):=by
 unfold cmpI
 constructor <;> (repeat' split) <;> intros <;> omega
theorem KCh (a b:Int):cmpI b a=- cmpI a b:=by
 unfold cmpI
 (repeat' split) <;> omega
theorem KEr (a b:Int):cmpI a b=0↔a=b:=by
 unfold cmpI
 (repeat' split) <;> omega
theorem KBq {x x' y y':Int} (h:x'=-x) (h':x=0→y'=-y):cOr x' y'=- cOr x y:=by
 unfold cOr
 by_cases hx:x=0
 ·rw [if_pos hx,if_pos (by omega)]; exact h' hx
 ·rw [if_neg hx,if_neg (by omega)]; exact h
theorem KBr {x y:Int}:cOr x y=0↔x=0∧y=0:=by
 unfold cOr
 by_cases hx:x=0
 ·rw [if_pos hx]; simp [hx]
 ·rw [if_neg hx]; simp [hx]
def cmpL {α:Type} (f:α→α→Int):List α→List α→Int
 | [],[]=>0
 | [],_::_=>-1
 | _::_,[]=>1
 | a::l,b::l'=>cOr (f a b) (cmpL f l l')
theorem KCi {α:Type} {f:α→α→Int}:∀ {l l':List α},(∀ a ∈ l,∀ b ∈ l',f b a=- f a b)→cmpL f l' l=- cmpL f l l'
 | [],[],_=>rfl
 | [],_::_,_=>rfl
 | _::_,[],_=>rfl
 | a::l,b::l',h=>KBq (h a (by simp) b (by simp)) (fun _=>KCi (fun x hx y hy=>h x (List.mem_cons_of_mem _ hx) y (List.mem_cons_of_mem _ hy)))
theorem KGj {α:Type} {f:α→α→Int}:∀ {l l':List α},(∀ a ∈ l,∀ b ∈ l',f a b=0↔a=b)→(cmpL f l l'=0↔l=l')
 | [],[],_=>by simp [cmpL]
 | [],_::_,_=>by simp [cmpL]
 | _::_,[],_=>by simp [cmpL]
 | a::l,b::l',h=>by
  rw [cmpL,KBr,h a (by simp) b (by simp),KGj (fun x hx y hy=>h x (List.mem_cons_of_mem _ hx) y (List.mem_cons_of_mem _ hy))]
  simp
theorem KEs {α:Type} {f:α→α→Int}:∀ {l l' l'':List α},(∀ a ∈ l,∀ b ∈ l',∀ c ∈ l'',Tri (f a b) (f b c) (f a c))→Tri (cmpL f l l') (cmpL f l' l'') (cmpL f l l'')
 | [],[],[],_=>by simp only [cmpL]; constructor <;> intros <;> omega
 | [],[],_::_,_=>by simp only [cmpL]; constructor <;> intros <;> omega
 | [],_::_,[],_=>by simp only [cmpL]; constructor <;> intros <;> omega
 | [],b::l',c::l'',_=>by
  show Tri (-1) (cmpL f (b::l') (c::l'')) (-1)
  constructor <;> intros <;> omega
 | _::_,[],[],_=>by simp only [cmpL]; constructor <;> intros <;> omega
 | _::_,[],_::_,_=>by simp only [cmpL]; constructor <;> intros <;> omega
 | a::l,b::l',[],_=>by
  show Tri (cmpL f (a::l) (b::l')) 1 1
  constructor <;> intros <;> omega
 | a::l,b::l',c::l'',h=>Tri.cOr (h a (by simp) b (by simp) c (by simp)) (fun _ _=>KEs (fun x hx y hy z hz=>h x (List.mem_cons_of_mem _ hx) y (List.mem_cons_of_mem _ hy) z (List.mem_cons_of_mem _ hz)))
def cmpU (a b:UInt8):Int:=cmpI (a.toNat:Int) (b.toNat:Int)
theorem KMF:∀ s t:List UInt8,Lib.compareBytes s t=cmpL cmpU s t
 | [],[]=>rfl
 | [],_::_=>rfl
 | _::_,[]=>rfl
 | a::s,b::t=>by
  rw [GW,cmpL,cOr,KMF s t]
  have:cmpU a b=0↔a=b:=by
   unfold cmpU
   rw [KEr,← UInt8.toNat_inj]; omega
  by_cases h:a=b
  ·rw [if_pos h,if_pos (this.2 h)]
  ·rw [if_neg h,if_neg (fun h'=>h (this.1 h'))]; rfl
theorem KNH (a b:UInt8):cmpU a b=0↔a=b:=by
 unfold cmpU
 rw [KEr,← UInt8.toNat_inj]; omega
theorem KJx:∀ l l':List Vl,Xi l l'=cmpL cmpV l l'
 | [],[]=>by simp [Xi,cmpL]
 | [],_::_=>by simp [Xi,cmpL]
 | _::_,[]=>by simp [Xi,cmpL]
 | a::l,b::l'=>by rw [Xi,cmpL,KJx l l']
theorem zL (k n k' n':Int) (s s':List UInt8) (l l':List Vl):cmpV (.mk k n s l) (.mk k' n' s' l')=cOr (cmpI k k') (cOr (cmpI n n') (cOr (cmpL cmpU s s') (cmpL cmpV l l'))):=by
 rw [cmpV,KMF,KJx]
theorem KJy {k n:Int} {s:List UInt8} {l:List Vl} {m:Nat} {v:Vl} (hm:sizeOf (Vl.mk k n s l) < m+1) (hv:v ∈ l):sizeOf v < m:=by
 have:=List.sizeOf_lt_of_mem hv
 simp only [Vl.mk.sizeOf_spec] at hm
 omega
theorem KIK:∀ (m:Nat) (a b:Vl),sizeOf a < m→cmpV b a=- cmpV a b:=by
 intro m
 induction m with
 | zero=>intro a b h; omega
 | succ m ih =>
  rintro ⟨k,n,s,l⟩ ⟨k',n',s',l'⟩ hm
  rw [zL,zL]
  exact KBq (KCh _ _) (fun _=>KBq (KCh _ _) (fun _=>KBq (KCi (fun a _ b _=>KCh _ _)) (fun _=>KCi (fun a ha b hb=>ih a b (KJy hm ha)))))
theorem GY (a b:Vl):cmpV b a=- cmpV a b:=KIK _ a b (Nat.lt_succ_self _)
theorem KLW:∀ (m:Nat) (a b:Vl),sizeOf a < m→(cmpV a b=0↔a=b):=by
 intro m
 induction m with
 | zero=>intro a b h; omega
 | succ m ih =>
  rintro ⟨k,n,s,l⟩ ⟨k',n',s',l'⟩ hm
  rw [zL,KBr,KBr,KBr,KEr,KEr,KGj (fun a _ b _=>KNH a b),KGj (fun a ha b hb=>ih a b (KJy hm ha))]
  simp
theorem KCj (a b:Vl):cmpV a b=0↔a=b:=KLW _ a b (Nat.lt_succ_self _)
theorem KJz:∀ (m:Nat) (a b c:Vl),sizeOf a < m→Tri (cmpV a b) (cmpV b c) (cmpV a c):=by
 intro m
 induction m with
 | zero=>intro a b c h; omega
 | succ m ih =>
  rintro ⟨k,n,s,l⟩ ⟨k',n',s',l'⟩ ⟨k'',n'',s'',l''⟩ hm
  rw [zL,zL,zL]
  exact Tri.cOr (KEq _ _ _) (fun _ _=>Tri.cOr (KEq _ _ _) (fun _ _=>Tri.cOr (KEs (fun a _ b _ c _=>KEq _ _ _)) (fun _ _=>KEs (fun a ha b hb c hc=>ih a b c (KJy hm ha)))))
theorem KHb (a b c:Vl):Tri (cmpV a b) (cmpV b c) (cmpV a c):=KJz _ a b c (Nat.lt_succ_self _)
theorem Nw (a:Vl):cmpV a a=0:=(KCj a a).2 rfl
theorem KDm {a b c:Vl} (h1:cmpV a b < 0) (h2:cmpV b c < 0):cmpV a c < 0:=(KHb a b c).tr h1 h2
end Gx
