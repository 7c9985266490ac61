/- Own proofs: what those Lean programs compute. No condition. -/
import Derived.Test.YthelieedlghccaaGreatDoorP0
import Derived.Test.YthelieedlghccaaGreatDoorP1
import Derived.Test.YthelieedlghccaaGreatDoorP2
import Derived.Test.YthelieedlghccaaGreatDoorP3
import Derived.Test.YthelieedlghccaaGreatDoorP4
import Derived.Test.YthelieedlghccaaGreatDoorP5
import Derived.Test.YthelieedlghccaaGreatDoorP6
import Derived.Test.YthelieedlghccaaGreatDoorP7
import Derived.Test.YthelieedlghccaaGreatDoorP8
import Derived.WalkKit
import Derived.ProofKit
import Derived.OpenShut
import Derived.ShutString
import Derived.ChangeOld
import Derived.Below
import Derived.SizedLaws
import Derived.Lib.SmallJoins
set_option linter.unusedVariables false
set_option linter.unusedSimpArgs false
namespace Gx
open Go
set_option linter.unusedVariables false
set_option linter.unusedSimpArgs false
def cutC (c:UInt8):List UInt8→List UInt8 × List UInt8
 | []=>([],[])
 | x::r=>if x=c then ([],r) else (x::(cutC c r).1,(cutC c r).2)
theorem KCq (c:UInt8):∀ s:List UInt8,Lib.indexByte s c=(if c ∈ s then ((cutC c s).1.length:Int) else -1)∧(if c ∈ s then s=(cutC c s).1++c::(cutC c s).2 else cutC c s=(s,[]))
 | []=>by simp [Lib.indexByte,cutC]
 | x::r=>by
  obtain ⟨h1,h2⟩:=KCq c r
  rw [Lib.indexByte,cutC]
  by_cases hc:x=c
  ·subst hc; simp
  ·have hb:(x == c)=false:=by simpa using hc
   have hm:(c ∈ x::r)↔c ∈ r:=by
    rw [List.mem_cons]
    exact ⟨fun h=>h.elim (fun e=>absurd e.symm hc) id,.inr⟩
   rw [hb,if_neg hc]
   by_cases hr:c ∈ r
   ·rw [if_pos hr] at h1 h2
    rw [if_pos (hm.2 hr),if_pos (hm.2 hr),h1]
    refine ⟨?_,?_⟩
    ·have:¬ (((cutC c r).1.length:Int) == -1)=true:=by simp
     simp only [Bool.false_eq_true,if_false]
     rw [if_neg this]; simp
    ·rw [List.cons_append,← h2]
   ·rw [if_neg hr] at h1 h2
    rw [if_neg (fun h=>hr (hm.1 h)),if_neg (fun h=>hr (hm.1 h)),h1,h2]
    simp
theorem KNU (c:UInt8) (s:List UInt8):(cutC c s).1.length≤s.length∧(cutC c s).2.length≤s.length:=by
 obtain ⟨_,h2⟩:=KCq c s
 by_cases hm:c ∈ s
 ·rw [if_pos hm] at h2
  have:=congrArg List.length h2
  rw [List.length_append,List.length_cons] at this
  omega
 ·rw [if_neg hm] at h2
  rw [h2]
  simp
theorem KIS {c:UInt8} {s:List UInt8} (hm:c ∈ s):s.take (cutC c s).1.length=(cutC c s).1∧s.drop ((cutC c s).1.length+1)=(cutC c s).2∧s.length=(cutC c s).1.length+(1+(cutC c s).2.length):=by
 obtain ⟨_,h2⟩:=KCq c s
 rw [if_pos hm] at h2
 refine ⟨(show ∀ p:List UInt8 × List UInt8,s=p.1++c::p.2→s.take p.1.length=p.1 by rintro p rfl; simp) _ h2,(show ∀ p:List UInt8 × List UInt8,s=p.1++c::p.2→s.drop (p.1.length+1)=p.2 by rintro p rfl; rw [List.drop_append,List.drop_eq_nil_iff.2 (by omega)]; simp) _ h2,?_⟩
 have:=congrArg List.length h2
 rw [List.length_append,List.length_cons] at this
 omega
theorem KKK {c:UInt8} {s:List UInt8} {h:Heap} {Q:ByteArray × ByteArray × Bool→Heap→Prop} (hs:s.length≤1099511627776) (H:Q (bs (cutC c s).1,bs (cutC c s).2,decide (c ∈ s)) h):(VL (bs s) (⟨#[c]⟩:ByteArray)).wp h Q:=by
 unfold VL
 obtain ⟨h1,h2⟩:=KCq c s
 refine KJ ?_
 unfold ZH
 refine KJ ⟨c,rfl,?_⟩
 rw [show (bs s).data.toList=s by simp [bs],h1]
 by_cases hm:c ∈ s
 ·obtain ⟨p1,p2,hl⟩:=KIS hm
  rw [if_pos hm] at h2 ⊢
  refine iteT (decide_eq_true (by omega)) ?_
  have hw:IntKind.wrap .i64 (((cutC c s).1.length:Int)+((⟨#[c]⟩:ByteArray).size:Int))=(((cutC c s).1.length+1:Nat):Int):=by
   rw [show ((⟨#[c]⟩:ByteArray).size:Int)=1 from rfl,w64 (by omega) (by omega)]; simp
  rw [hw]
  refine KKD (a:=0) (b:=(cutC c s).1.length) rfl rfl (Nat.zero_le _) (by omega) (KKD (a:=(cutC c s).1.length+1) (b:=s.length) rfl (by rw [JD]) (by omega) (Nat.le_refl _) (KG (KG ?_)))
  have e1:(s.drop 0).take ((cutC c s).1.length - 0)=(cutC c s).1:=by
   rw [List.drop_zero,Nat.sub_zero]; exact p1
  have e2:(s.drop ((cutC c s).1.length+1)).take (s.length - ((cutC c s).1.length+1))=(cutC c s).2:=by
   rw [List.take_of_length_le (by rw [List.length_drop]; omega)]; exact p2
  rw [e1,e2]
  rw [decide_eq_true hm] at H
  exact H
 ·rw [if_neg hm] at h2 ⊢
  refine iteF (by decide) (KG (KG ?_))
  rw [h2,decide_eq_false hm] at H
  exact H
def W5 (css:List (Array Value)):Prop:=∀ c ∈ css,c.size=5∧∀ u ∈ c.toList,one u=true
theorem KAY:∀ {css:List (Array Value)},W5 css→(Zx css).length=css.length * 5
 | [],_=>rfl
 | c::r,h=>by
  have:=KAY (css:=r) (fun x hx=>h x (List.mem_cons_of_mem _ hx))
  have hc:=(h c (by simp)).1
  unfold Zx at this ⊢
  rw [List.flatMap_cons,List.length_append,this,Array.length_toList,hc,List.length_cons]; omega
theorem KF0:∀ {css:List (Array Value)},W5 css→∀ (i j:Nat),j < 5→(Zx css)[i * 5+j]?=(css[i]?).bind (fun c=>c[j]?)
 | [],_,i,j,_=>by simp [Zx]
 | c::r,h,i,j,hj=>by
  have hc:=(h c (by simp)).1
  unfold Zx
  rw [List.flatMap_cons]
  cases i with
  | zero=>rw [List.getElem?_append_left (by rw [Array.length_toList]; omega)]; simp
  | succ i =>
   rw [List.getElem?_append_right (by rw [Array.length_toList]; omega),Array.length_toList,hc,show (i+1) * 5+j - 5=i * 5+j by omega]
   have:=KF0 (css:=r) (fun x hx=>h x (List.mem_cons_of_mem _ hx)) i j hj
   unfold Zx at this
   rw [this]; simp
theorem KKL {css:List (Array Value)} (h:W5 css):∀ v ∈ Zx css,one v=true:=fun v hv=>by
 obtain ⟨c,hc,hv⟩:=List.mem_flatMap.1 hv
 exact (h c hc).2 v hv
theorem W5.append {a b:List (Array Value)} (ha:W5 a) (hb:W5 b):W5 (a++b):=fun c hc=>(List.mem_append.1 hc).elim (ha c) (hb c)
theorem Gw.row5 {lo:Nat} {h:Heap} {r:Sl} {css:List (Array Value)} (G:Gw lo h r 5 (Zx css)) (hw:W5 css) {i:Nat} (hi:i < css.length):∃ b,r.base=some ⟨b,0,none⟩∧Sl.on r b∧∀ j,j < 5→KN h ((⟨b,0,none⟩:Addr).add (i * 5+j))=css[i][j]?:=by
 have hl:=KAY hw
 rcases G with ⟨rfl,he⟩ | ⟨b,ty,cells,R⟩
 ·rw [he] at hl; simp at hl; omega
 ·refine ⟨b,R.base,⟨_,R.base,rfl⟩,fun j hj=>?_⟩
  rw [Kg,Nat.zero_add,KS R.blk]
  have h1:=KF0 hw i j hj
  rw [List.getElem?_eq_getElem hi] at h1
  have hc:=(hw _ (List.getElem_mem hi)).1
  have h2:css[i][j]?=some (css[i][j]'(by omega)):=Array.getElem?_eq_getElem (by omega)
  rw [h2]
  refine R.get _ _ ?_
  rw [h1]
  exact h2
theorem Gw.len5 {lo:Nat} {h:Heap} {r:Sl} {css:List (Array Value)} (G:Gw lo h r 5 (Zx css)) (hw:W5 css):r.len=css.length:=by
 have:=G.len
 rw [KAY hw] at this
 omega
structure CGw (lo:Nat) (S:Nat→Prop) (h:Heap) (r:Sl) (css:List (Array Value)) (l:List Ct):Prop where
 gw:Gw lo h r 5 (Zx css)
 w5:W5 css
 len:css.length=l.length
 rep:∀ j (h1:j < l.length) (h2:j < css.length),∃ c,css[j]=crow c l[j].2∧I64 l[j].2∧ZK S h l[j].1 c
theorem CGw.nil (lo:Nat) (S:Nat→Prop) (h:Heap):CGw lo S h Sl.nil [] []:=⟨Gw.nil _ _ _,fun c hc=>(by cases hc),rfl,fun j h1=>(by cases h1)⟩
theorem CGw.to {lo:Nat} {S:Nat→Prop} {h:Heap} {r:Sl} {css:List (Array Value)} {l:List Ct} (G:CGw lo S h r css l) (hl:l.length≤9223372036854775807):CsRep h r l :=
 ⟨by rw [G.gw.len5 G.w5,G.len],G.gw.cap,by rw [G.gw.len5 G.w5,G.len]; exact hl,fun j hj=>by
  have hj':j < css.length:=by rw [G.len]; exact hj
  obtain ⟨b,hb,hon,hc⟩:=G.gw.row5 G.w5 (i:=j) hj'
  obtain ⟨c,e,hI,hv⟩:=G.rep j hj hj'
  rw [e] at hc
  exact ⟨_,c,hb,hv.size,fun m hm=>(hc m (by omega)).trans (KLd hv.size m hm),(hc 4 (by omega)).trans (KLe hv.size),hI,hv.to⟩⟩
theorem CGw.same {lo:Nat} {S:Nat→Prop} {h h':Heap} {r:Sl} {css:List (Array Value)} {l:List Ct} (G:CGw lo S h r css l) (e1:∀ b,Sl.on r b→h'[b]?=h[b]?) (e2:∀ b,S b→h'[b]?=h[b]?):CGw lo S h' r css l :=
 ⟨G.gw.same e1,G.w5,G.len,fun j h1 h2=>by
  obtain ⟨c,e,hI,hv⟩:=G.rep j h1 h2
  exact ⟨c,e,hI,hv.same e2⟩⟩
theorem CGw.mono {lo:Nat} {S T:Nat→Prop} {h:Heap} {r:Sl} {css:List (Array Value)} {l:List Ct} (G:CGw lo S h r css l) (e:∀ b,S b→T b):CGw lo T h r css l :=
 ⟨G.gw,G.w5,G.len,fun j h1 h2=>by
  obtain ⟨c,e',hI,hv⟩:=G.rep j h1 h2
  exact ⟨c,e',hI,hv.mono e⟩⟩
theorem KLf {β:Type} {lo:Nat} {S:Nat→Prop} {h:Heap} {Q:β→Heap→Prop} {r:Sl} {css:List (Array Value)} {l:List Ct} {v:Vl} {n:Int} {c:Array Value} {f:Sl→M β} (G:CGw lo S h r css l) (hS:∀ k,S k→k < h.size∧¬ Sl.on r k) (hv:ZK S h v c) (hn:I64 n) (hlo:lo≤h.size) (hm:l.length≤1099511627776)
  (H:∀ h' r',CGw lo S h' r' (css++[crow c n]) (l++[(v,n)])→h.size≤h'.size→(∀ i,i < h.size→¬ Sl.on r i→h'[i]?=h[i]?)→(∀ i,Sl.on r' i→Sl.on r i∨h.size≤i)→(f r').wp h' Q) :
  (KKk [(0,4),(4,1)] (#[.int .i64 0,.int .i64 0,.string ByteArray.empty,.slice none 0 0,.int .i64 0]:Array Value) [(0,.agg c),(1,.int .i64 n)]>>=fun x32 =>
   GL 5 1 (#[.int .i64 0,.int .i64 0,.string ByteArray.empty,.slice none 0 0,.int .i64 0]:Array Value) [(0,.agg x32)]>>=fun y=>bdL Jm 1 y>>=fun x=>apL Jm 5 64 (#[.int .i64 0,.int .i64 0,.string ByteArray.empty,.slice none 0 0,.int .i64 0]:Array Value) r x>>=f).wp h Q:=by
 have hc:=hv.size
 refine ⟨crow c n,?_,?_⟩
 ·show Instr.fill _ _ _=_
  rw [NX (off:=0) (size:=4) (v:=Value.agg c) rfl hc (by decide),NX (off:=4) (size:=1) (v:=Value.int .i64 n) rfl rfl (by rw [Yw]; exact Nat.le_refl 5)]
  show some _=some _
  congr 1
  apply Array.ext'
  rw [Uo _ _ _ (by rw [Yw]; exact Nat.le_refl 5),Uo _ _ _ (by show 0+c.toList.length≤_; rw [Array.length_toList,hc]; decide)]
  have hcl:c.toList.length=4:=by rw [Array.length_toList,hc]
  show List.take 4 (_++c.toList++_)++_++_=_
  unfold crow
  rw [Array.toList_push]
  match hcc:c.toList,hcl with
  | [a,b,d,e],_=>rfl
 refine KBi (Vh hc) (KAf ?_)
 have e1:=Ext.push h (.cells (crow c n) Jm)
 have g1:(h.push (.cells (crow c n) Jm))[h.size]?=some (.cells (crow c n) Jm (0,0)):=Ko
 generalize h.push (.cells (crow c n) Jm)=h1 at e1 g1 ⊢
 have hs1:=e1.size
 have hrl:=G.gw.len5 G.w5
 have hgl:=G.len
 have hw':W5 [crow c n]:=fun x hx=>by simp at hx; subst hx; exact ⟨Vh hc,KEy hv.to⟩
 have G1:Gw lo h1 r 5 (Zx css):=G.gw.same (fun k hk=>e1.same k (G.gw.lt hk).1)
 refine KJ (KD6 (vs:=Zx css) (news:=Zx [crow c n]) rfl G1 (by rw [KAY hw']; rfl) (.inr ⟨_,rfl,fun j u hj=>?_⟩) (KKL hw') (by simp only []; omega) (by simp only []; omega) (by omega) (fun h' r' G' hlen hs same on_=>?_))
 ·rw [Kg,Nat.zero_add,KS g1]
  have:Zx [crow c n]=(crow c n).toList:=by simp [Zx]
  rw [this,Array.getElem?_toList] at hj
  exact hj
 ·have he:∀ b,S b→h'[b]?=h[b]?:=fun b hb=>(same b (by have:=(hS b hb).1; omega) (hS b hb).2).trans (e1.same b (hS b hb).1)
  refine H h' r' ⟨?_,G.w5.append hw',by simp [hgl],fun j h1 h2=>?_⟩ (by omega) (fun i hi ho=>(same i (by omega) ho).trans (e1.same i hi)) (fun i hi=>(on_ i hi).imp id (fun h=>by omega))
  ·unfold Zx at G' ⊢
   rw [List.flatMap_append]
   exact G'
  ·by_cases hj:j < l.length
   ·rw [List.getElem_append_left hj,List.getElem_append_left (by omega)]
    obtain ⟨c2,e,hI,hv2⟩:=G.rep j hj (by omega)
    exact ⟨c2,e,hI,hv2.same he⟩
   ·have hj':j=l.length:=by simp at h1; omega
    subst hj'
    rw [List.getElem_append_right (Nat.le_refl _),List.getElem_append_right (by omega)]
    have h0:l.length - css.length=0:=by omega
    simp only [Nat.sub_self,h0,List.getElem_cons_zero]
    exact ⟨c,rfl,hn,hv.same he⟩
end Gx
namespace Gx
open Go
set_option linter.unusedVariables false
set_option linter.unusedSimpArgs false
theorem KLg (t:List UInt8):(numP t).2=0∨(numP t).1=0:=by
 unfold numP
 split
 ·exact .inr rfl
 split
 ·exact .inr rfl
 split
 ·exact .inr rfl
 split
 ·exact .inl rfl
 ·exact .inr rfl
theorem KLh (t:List UInt8):I64 (numP t).1:=by
 rcases KLg t with h | h
 ·exact KEe h
 ·rw [h]; exact ⟨by decide,by decide⟩
def cntL (t:List UInt8):Ct:=((UE (cutC 32 t).2).1,(numP (cutC 32 t).1).1)
def KDR (t:List UInt8):Bool:=(decide ((32:UInt8) ∈ t) && decide ((numP (cutC 32 t).1).2=0)) && decide ((UE (cutC 32 t).2).2.2=0)
def KBB (ls:List (List UInt8)):List Ct:=ls.map cntL
def okB (ls:List (List UInt8)) (i:Nat):Bool:=KDR (ls.getD i []) && KAX (KBB (ls.take (i+1)))
def KDS (s:List UInt8):Option (List Ct) × Int:=match KFw (okB (Kv s)) (Kv s).length with
 | some i=>(none,((i+1:Nat):Int))
 | none=>if Ga s=true then (some (KBB (Kv s)),0) else (none,((Kv s).length:Int))
theorem KIT {ls:List (List UInt8)} {i:Nat} (hi:i < ls.length):KBB (ls.take (i+1))=KBB (ls.take i)++[cntL ls[i]]:=by
 unfold KBB
 rw [List.take_succ_eq_append_getElem hi,List.map_append]; rfl
theorem KLi (l:List Ct):(bagE l == 0)=KAX l:=by
 unfold bagE
 cases KAX l <;> rfl
theorem KIU {t:List UInt8} {p lo:Nat} {h:Heap} {Q:Bool→Heap→Prop} {r:Sl} {css:List (Array Value)} {l:List Ct} (ht:t.length≤1099511627776) (he:ErrV h) (hp:h[p]?=some (.cells #[r.v] XP (0,0))) (G:CGw lo (OwnS lo h r) h r css l) (hpl:p < lo) (hlo:lo≤h.size) (hm:l.length≤1099511627776)
  (H:∀ h' r' css',h.size≤h'.size→(∀ k,k < lo→k≠p→h'[k]?=h[k]?)→h'[p]?=some (.cells #[r'.v] XP (0,0))→CGw lo (OwnS lo h' r') h' r' css' (l++[cntL t])→Q (KDR t && KAX (l++[cntL t])) h'):(Wv (bs t) ⟨p,0,none⟩).wp h Q:=by
 unfold Wv
 have hcl:=KNU 32 t
 refine KJ (KKK (c:=32) (by omega) ?_)
 dsimp only
 refine KJ (NR (KCN _) (qW (by omega) he (fun h1 e1=>?_)))
 refine KJ (KCZ (by omega) (he.ext e1) (fun h2 c e2 V2=>?_))
 dsimp only
 refine ZW (fun h3 e3 s3 g3=>JA V2.size (stR g3 (by rw [V2.size]; exact Nat.le_refl 4) V2.to.one (fun h4 u4 g4=>?_)))
 rw [ZD (cs:=vz) (vs:=c.toList) (by rw [Array.length_toList,V2.size]; rfl),Array.toArray_toList] at g4
 have e4:Ext h h4:=((e1.trans e2).trans e3).upd u4 (e1.trans e2).size
 have hs1:=e1.size
 have hs2:=e2.size
 have hu4:=u4.size
 have hp4:=e4.blk hp
 refine Jp (Ke hp4) (ldR g4 V2.size ?_)
 have G4:CGw lo (OwnS lo h4 r) h4 r css l:=(G.same (fun k hk=>e4.same k (G.gw.lt hk).1) (fun k hk=>e4.same k hk.2.1)).mono (fun k hk=>⟨hk.1,by have:=hk.2.1; omega,hk.2.2⟩)
 have V4:ZK (OwnS lo h4 r) h4 (UE (cutC 32 t).2).1 c:=((V2.lt2).same (fun k hk=>(u4.ne k (by have:=hk.2; omega)).trans (e3.same k hk.2))).mono (fun k hk=>⟨by have:=hk.1; omega,by have:=hk.2; omega,fun ho=>by have:=(G.gw.lt ho).1; have:=hk.1; omega⟩)
 refine KLf G4 (fun k hk=>hk.2) V4 (KLh _) (by omega) hm (fun h5 r5 G5 hs5 same5 on5=>?_)
 have hps:=JX hp
 have hp5:h5[p]?=some (.cells #[r.v] XP (0,0)):=(same5 p (by omega) (fun ho=>by have:=(G.gw.lt ho).2; omega)).trans hp4
 refine Vj (Ke hp5) (KV hp5) (KAg _) ?_
 have u6:=Upd.hset h5 p 0 r5.v
 have hp6:=GI (u:=r5.v) hp5
 generalize hset h5 ⟨p,0,none⟩ r5.v=h6 at u6 hp6 ⊢
 have hu6:=u6.size
 have G6:CGw lo (OwnS lo h6 r5) h6 r5 (css++[crow c (numP (cutC 32 t).1).1]) (l++[cntL t]):=(G5.same (fun k hk=>u6.ne k (fun e=>by have:=(G5.gw.lt hk).2; omega)) (fun k hk=>u6.ne k (fun e=>by have:=hk.1; omega))).mono (fun k hk=>⟨hk.1,by have:=hk.2.1; omega,fun ho=>(on5 k ho).elim hk.2.2 (fun h=>by have:=hk.2.1; omega)⟩)
 have same6:∀ k,k < lo→k≠p→h6[k]?=h[k]?:=fun k hk hkp=>by
  rw [u6.ne k hkp,same5 k (by omega) (fun ho=>by have:=(G.gw.lt ho).2; omega),e4.same k (by omega)]
 refine Nr (c:=decide ((numP (cutC 32 t).1).2=0)) (fun _ Q' hq=>KG (by rw [eqI]; exact hq)) ?_
 refine Nr (c:=decide ((UE (cutC 32 t).2).2.2=0)) (fun _ Q' hq=>KG (by rw [eqI]; exact hq)) ?_
 show (M.ite (KDR t) _ _>>=_).wp h6 Q
 have hlen:(l++[cntL t]).length≤9223372036854775807:=by rw [List.length_append]; simp only [List.length_cons,List.length_nil]; omega
 refine KJ (Kc (fun hb=>Jp (Ke hp6) (KJ (KCp (G6.to hlen) (fun h7 e7=>KG (KG ?_))))) (fun hb=>KG (KG ?_)))
 ·rw [KLi]
  have G7:CGw lo (OwnS lo h7 r5) h7 r5 (css++[crow c (numP (cutC 32 t).1).1]) (l++[cntL t]):=(G6.same (fun k hk=>e7.same k (G6.gw.lt hk).1) (fun k hk=>e7.same k hk.2.1)).mono (fun k hk=>⟨hk.1,by have:=hk.2.1; have:=e7.size; omega,hk.2.2⟩)
  have:=H h7 r5 _ (by have:=e7.size; omega) (fun k hk hkp=>(e7.same k (by omega)).trans (same6 k hk hkp)) (e7.blk hp6) G7
  rw [hb,Bool.true_and] at this
  exact this
 ·have:=H h6 r5 _ (by omega) same6 hp6 G6
  rw [hb,Bool.false_and] at this
  exact this
theorem KAZ {s:List UInt8} {h:Heap} {Q:Sl × Int × Int→Heap→Prop} (hs:s.length≤1073741824) (he:ErrV h)
  (H1:∀ h' n,KDS s=(none,n)→Ext h h'→Q (Sl.nil,n,230) h')
  (H2:∀ h' r l,KDS s=(some l,0)→Ext h h'→CsRep h' r l→Q (r,0,0) h'):(US (bs s)).wp h Q:=by
 unfold US
 have hll:=GZ _ s (Nat.le_refl _)
 refine ZW (fun h1 e1 s1 g1=>?_)
 have hlen:∀ i (hi:i < (Kv s).length),(Kv s)[i].length≤s.length:=KHf s
 have hcl:∀ i,(KBB ((Kv s).take i)).length≤s.length:=fun i=>by unfold KBB; rw [List.length_map,List.length_take]; omega
 refine KJ (KCo (ok:=okB (Kv s)) (I:=fun i h2=>ErrV h2∧h1.size+7≤h2.size∧(∀ k,k < h.size→h2[k]?=h[k]?)∧∃ r css,h2[h.size]?=some (.cells #[r.v] XP (0,0))∧CGw (h1.size+7) (OwnS (h1.size+7) h2 r) h2 r css (KBB ((Kv s).take i)))
  (E:=fun h2=>h1.size+7≤h2.size∧∀ k,k < h.size→h2[k]?=h[k]?) hs rfl ?_ ?_ ?_ ?_ ?_ ?_)
 ·rintro i h2 h3 k ⟨a1,a2,a3,r,css,a4,G⟩ u k1 k2
  have hu:=u.size
  refine ⟨?_,by omega,fun j hj=>(u.ne j (by omega)).trans (a3 j hj),r,css,(u.ne _ (by omega)).trans a4,(G.same (fun j hj=>u.ne j (by have:=(G.gw.lt hj).2; omega)) (fun j hj=>u.ne j (by have:=hj.1; omega))).mono (fun j hj=>⟨hj.1,by rw [hu]; exact hj.2.1,hj.2.2⟩)⟩
  have h5:=he.lt5
  exact ErrV.km a1 (b:=k) (Km.upd u rfl) (by omega)
 ·rintro h2 h3 k ⟨a1,a2⟩ u k1 k2
  exact ⟨by rw [u.size]; exact a1,fun j hj=>(u.ne j (by omega)).trans (a2 j hj)⟩
 ·intro h2 e2 hs2
  exact ⟨(he.ext e1).ext e2,by omega,fun k hk=>(e2.same k (by omega)).trans (e1.same k hk),Sl.nil,[],e2.blk g1,CGw.nil _ _ _⟩
 ·rintro i hi h2 hz ⟨a1,a2,a3,r,css,a4,G⟩
  refine XM qG (q9 _ _) ?_
  refine KIU (by have:=hlen i hi; omega) a1 a4 G (by omega) (by omega) (by have:=hcl i; omega) (fun h3 r3 css3 hs3 same3 hp3 G3=>?_)
  have hget:(Kv s).getD i []=(Kv s)[i]:=by rw [List.getD_eq_getElem?_getD,List.getElem?_eq_getElem hi]; rfl
  have he3:ErrV h3:=by
   obtain ⟨t,q,hq⟩:=a1
   refine ⟨t,q,?_⟩
   have h5:=he.lt5
   unfold KN at hq ⊢
   rw [same3 5 (by omega) (by omega)]
   exact hq
  rw [← KIT hi] at G3 ⊢
  exact ⟨hs3,fun k k1 k2=>same3 k (by omega) (by omega),by unfold okB; rw [hget],fun _=>⟨he3,by omega,fun k hk=>(same3 k (by omega) (by omega)).trans (a3 k hk),r3,css3,hp3,G3⟩,fun _=>⟨by omega,fun k hk=>(same3 k (by omega) (by omega)).trans (a3 k hk)⟩⟩
 ·rintro hok h2 hz ⟨a1,a2,a3,r,css,a4,G⟩
  have hb:=N8 hok
  have E2:Ext h h2:=⟨by omega,a3⟩
  cases hend:Ga s with
  | true =>
   rw [if_pos rfl]
   rw [List.take_length] at G
   refine iteF rfl (Jp (Ke a4) (KG (H2 h2 r _ (by unfold KDS; rw [hb,hend]; rfl) E2 (G.to ?_))))
   unfold KBB; rw [List.length_map]; omega
  | false =>
   rw [if_neg (by decide)]
   exact iteT rfl (KG (H1 h2 _ (by unfold KDS; rw [hb,hend]; rfl) E2))
 ·rintro i hi hok hf h2 hz ⟨a1,a2⟩
  exact iteT rfl (KG (H1 h2 _ (by unfold KDS; rw [KDs hi hok hf]) ⟨by omega,a2⟩))
end Gx
namespace Gx
open Go
set_option linter.unusedVariables false
set_option linter.unusedSimpArgs false
theorem KKM (u:Nat):∀ c ∈ Lib.decDigits u,(45:UInt8)≤c:=fun c hc=>by
 rw [KGc] at hc
 obtain ⟨d,hd,rfl⟩:=List.mem_map.1 hc
 exact (by decide:∀ d,d < 10→(45:UInt8)≤UInt8.ofNat (48+d)) d (KOi u d hd)
theorem KCr (n:Int):∀ c ∈ Lib.itoa n,(45:UInt8)≤c:=fun c hc=>by
 unfold Lib.itoa at hc
 split at hc
 ·rcases List.mem_cons.1 hc with rfl | hc
  ·decide
  ·exact KKM _ c hc
 ·exact KKM _ c hc
theorem KKN:∀ n,n < 16→(32:UInt8)≤hexc n:=by decide
theorem KPf (c:UInt8):∀ x ∈ qc c,(32:UInt8)≤x:=fun x hx=>by
 unfold qc at hx
 split at hx
 ·simp only [List.mem_cons,List.not_mem_nil,or_false] at hx
  have hl:=UInt8.toNat_lt c
  rcases hx with rfl | rfl | rfl | rfl
  ·decide
  ·decide
  ·exact KKN _ (by omega)
  ·exact KKN _ (by omega)
 ·rename_i hc
  have h32:(32:UInt8)≤c:=UInt8.not_lt.1 (fun h=>hc (.inl h))
  split at hx
  ·simp only [List.mem_cons,List.not_mem_nil,or_false] at hx
   rcases hx with rfl | rfl
   ·decide
   ·exact h32
  ·simp only [List.mem_cons,List.not_mem_nil,or_false] at hx
   subst hx; exact h32
theorem KKO:∀ (l:List (List UInt8)) {ev od:List UInt8},(∀ c ∈ ev,(32:UInt8)≤c)→(∀ c ∈ od,(32:UInt8)≤c)→(∀ t ∈ l,∀ c ∈ t,(32:UInt8)≤c)→∀ c ∈ shw ev od l,(32:UInt8)≤c
 | [],_,_,_,_,_,c,h=>by rw [shw] at h; cases h
 | [a],_,_,_,_,hl,c,h=>by rw [shw] at h; exact hl a (by simp) c h
 | a::b::r,ev,od,h1,h2,hl,c,h=>by
  rw [shw,List.mem_append,List.mem_append] at h
  rcases h with h | h | h
  ·exact hl a (by simp) c h
  ·exact h1 c h
  ·exact KKO (b::r) h2 h1 (fun t ht=>hl t (List.mem_cons_of_mem _ ht)) c h
theorem le32 {c:UInt8} (h:(45:UInt8)≤c):(32:UInt8)≤c:=UInt8.le_trans (by decide) h
theorem KMI:∀ (d:Nat) (v:Vl),∀ c ∈ txt d v,(32:UInt8)≤c
 | 0,v,c,h=>by rw [txt] at h; simp at h; subst h; decide
 | d+1,.mk k n s l,c,h=>by
  rw [txt] at h
  have hm:∀ t ∈ l.map (txt d),∀ c ∈ t,(32:UInt8)≤c:=fun t ht=>by
   obtain ⟨v,_,rfl⟩:=List.mem_map.1 ht
   exact KMI d v
  have s1:∀ c ∈ ([44,32]:List UInt8),(32:UInt8)≤c:=by decide
  have s2:∀ c ∈ ([58,32]:List UInt8),(32:UInt8)≤c:=by decide
  have one:∀ {x:UInt8},(32:UInt8)≤x→c ∈ [x]→(32:UInt8)≤c:=fun hx hc=>by simp at hc; subst hc; exact hx
  have two:∀ {x y:UInt8},(32:UInt8)≤x→(32:UInt8)≤y→c ∈ [x,y]→(32:UInt8)≤c:=fun hx hy hc=>by
   simp only [List.mem_cons,List.not_mem_nil,or_false] at hc
   rcases hc with rfl | rfl
   ·exact hx
   ·exact hy
  split at h
  ·exact le32 (KCr n c h)
  split at h
  ·unfold VN at h
   rw [List.mem_append,List.mem_cons,List.mem_flatMap] at h
   rcases h with (rfl | ⟨x,_,h⟩) | h
   ·decide
   ·exact KPf x c h
   ·exact one (by decide) h
  split at h
  ·split at h
   ·exact (by decide:∀ c ∈ ([116,114,117,101]:List UInt8),(32:UInt8)≤c) c h
   ·exact (by decide:∀ c ∈ ([102,97,108,115,101]:List UInt8),(32:UInt8)≤c) c h
  split at h
  ·rw [List.mem_append,List.mem_append] at h
   rcases h with (h | h) | h
   ·exact two (by decide) (by decide) h
   ·exact le32 (KCr n c h)
   ·exact one (by decide) h
  split at h
  ·rw [List.mem_append,List.mem_append] at h
   rcases h with (h | h) | h
   ·exact two (by decide) (by decide) h
   ·exact le32 (KCr n c h)
   ·exact one (by decide) h
  split at h
  ·rw [List.mem_append,List.mem_append] at h
   rcases h with (h | h) | h
   ·exact one (by decide) h
   ·exact KKO _ s1 s1 hm c h
   ·exact one (by decide) h
  split at h
  ·rw [List.mem_append,List.mem_append] at h
   rcases h with (h | h) | h
   ·exact one (by decide) h
   ·exact KKO _ s2 s1 hm c h
   ·exact one (by decide) h
  ·exact one (by decide) h
theorem KHj (v:Vl):(10:UInt8) ∉ txV v:=fun h=>absurd (KMI 8 v _ h) (by decide)
def KBh (ts:List (List UInt8)):List UInt8:=ts.flatMap (·++[10])
theorem KBC (t:List UInt8) (ts:List (List UInt8)):KBh (t::ts)=t++10::KBh ts:=by simp [KBh]
theorem KBD:∀ {ts:List (List UInt8)},(∀ t ∈ ts,(10:UInt8) ∉ t)→Kv (KBh ts)=ts
 | [],_=>by rw [KBh,List.flatMap_nil,Us]
 | t::ts,h=>by
  rw [KBC,YC (by simp),KHe (h t (by simp)),KBD (fun x hx=>h x (List.mem_cons_of_mem _ hx))]
theorem KCs:∀ (ts:List (List UInt8)),Ga (KBh ts)=true
 | []=>by unfold Ga; rw [KBh,List.flatMap_nil]; simp
 | t::ts=>by
  have ih:=KCs ts
  unfold Ga at ih ⊢
  rw [decide_eq_true_iff] at ih ⊢
  rw [KBC]
  refine .inr ?_
  rcases ih with ih | ih
  ·rw [ih]; simp
  ·rw [List.getLast?_append,List.getLast?_cons]
   rw [ih]; rfl
theorem KBE:∀ (m:Nat) {s:List UInt8},s.length≤m→Ga s=true→KBh (Kv s)=s
 | 0,s,hm,_=>by
  have:s=[]:=List.length_eq_zero_iff.1 (by omega)
  subst this
  rw [Us]; rfl
 | m+1,s,hm,he=>by
  by_cases h0:s=[]
  ·subst h0; rw [Us]; rfl
  ·have hl:=N7 s h0
   obtain ⟨_,h2⟩:=KEw s
   unfold Ga at he
   rw [decide_eq_true_iff] at he
   have hg:s.getLast?=some 10:=he.resolve_left h0
   have hm10:(10:UInt8) ∈ s:=List.mem_of_getLast? hg
   rw [if_pos hm10] at h2
   have he2:Ga (cutL s).2=true:=by
    unfold Ga
    rw [decide_eq_true_iff]
    by_cases hb:(cutL s).2=[]
    ·exact .inl hb
    ·refine .inr ?_
     rw [h2,List.getLast?_append,List.getLast?_cons] at hg
     cases hc:(cutL s).2.getLast? with
     | none=>rw [List.getLast?_eq_none_iff] at hc; exact absurd hc hb
     | some x=>rw [hc] at hg; simpa using hg
   rw [YC h0,KBC,KBE m (by omega) he2]
   exact h2.symm
theorem KF1 {ok:Nat→Bool} {n:Nat} (h:KFw ok n=none):∀ i,i < n→ok i=true:=fun i hi=>by
 unfold KFw at h
 rw [List.find?_eq_none] at h
 have:=h i (List.mem_range.2 hi)
 simpa using this
theorem Nx:∀ {l:List Vl},Zr l=0↔∀ v ∈ l,mayV 8 v=true
 | []=>⟨fun _ v hv=>(by cases hv),fun _=>rfl⟩
 | v::l=>by
  rw [Zr]
  unfold ND
  cases hm:mayV 8 v with
  | true =>
   rw [if_pos rfl,if_neg (by decide),Nx]
   exact ⟨fun h x hx=>(List.mem_cons.1 hx).elim (fun e=>e ▸ hm) (h x),fun h x hx=>h x (List.mem_cons_of_mem _ hx)⟩
  | false =>
   show (if (20:Int)≠0 then 20 else Zr l)=0↔_
   rw [if_pos (by decide)]
   exact ⟨fun h=>absurd h (by decide),fun h=>by rw [h v (by simp)] at hm; cases hm⟩
theorem KBF (l:List Vl):Xk l=KBh (l.map txV):=by
 unfold Xk KBh
 rw [List.flatMap_map]
theorem KLj {l:List Vl} (hc:Zr l=0) (hw:∀ v ∈ l,WfV 8 v):KDQ (Xk l)=(some l,0):=by
 have hc:=Nx.1 hc
 have hlin:Kv (Xk l)=l.map txV:=by
  rw [KBF]
  exact KBD (fun t ht=>by obtain ⟨v,_,rfl⟩:=List.mem_map.1 ht; exact KHj v)
 have hp:∀ v ∈ l,UE (txV v)=(v,0,0):=fun v hv=>KAS (hc v hv) (hw v hv)
 unfold KDQ
 rw [hlin,N8 (fun i hi=>?_)]
 ·show (if Ga (Xk l)=true then _ else _)=_
  rw [if_pos (by rw [KBF]; exact KCs _)]
  unfold KDP
  rw [List.map_map]
  congr 2
  conv=>rhs; rw [← List.map_id l]
  exact List.map_congr_left (fun v hv=>by show (UE (txV v)).1=v; rw [hp v hv])
 ·rw [List.length_map] at hi
  unfold okL
  rw [List.getD_eq_getElem?_getD,List.getElem?_map,List.getElem?_eq_getElem hi]
  show decide ((UE (txV l[i])).2.2=0)=true
  rw [hp _ (List.getElem_mem hi)]; rfl
theorem KF2 {s:List UInt8} {l:List Vl} (h:KDQ s=(some l,0)):Zr l=0∧Xk l=s:=by
 unfold KDQ at h
 split at h
 ·cases h
 rename_i hb
 have hok:=KF1 hb
 by_cases he:Ga s=true
 ·rw [if_pos he] at h
  have h:KDP (Kv s)=l:=Option.some.inj (congrArg Prod.fst h)
  have hp:∀ t ∈ Kv s,(UE t).2.2=0:=fun t ht=>by
   obtain ⟨i,hi,rfl⟩:=List.getElem_of_mem ht
   have:=hok i hi
   unfold okL at this
   rw [List.getD_eq_getElem?_getD,List.getElem?_eq_getElem hi] at this
   exact of_decide_eq_true this
  subst h
  refine ⟨Nx.2 (fun v hv=>?_),?_⟩
  ·obtain ⟨t,ht,rfl⟩:=List.mem_map.1 hv
   exact (KAU (hp t ht)).2
  ·rw [KBF]
   unfold KDP
   rw [List.map_map]
   conv=>rhs; rw [← KBE _ (Nat.le_refl _) he,← List.map_id (Kv s)]
   congr 1
   exact List.map_congr_left (fun t ht=>KAT (KAU (hp t ht)).1)
 ·rw [if_neg he] at h
  cases h
def Yu (c:Ct):List UInt8:=Lib.itoa c.2++32::txV c.1
theorem KCt (l:List Ct):bagT l=KBh (l.map Yu):=by
 unfold bagT KBh
 rw [List.flatMap_map]
 congr 1
 funext c
 unfold ctT Yu
 simp
theorem KGq (c:Ct):(10:UInt8) ∉ Yu c:=fun h=>by
 unfold Yu at h
 rw [List.mem_append,List.mem_cons] at h
 rcases h with h | h | h
 ·exact absurd (KCr _ _ h) (by decide)
 ·cases h
 ·exact KHj _ h
theorem KLk {c:UInt8} {t r:List UInt8} (h:c ∉ t):cutC c (t++c::r)=(t,r):=by
 induction t with
 | nil=>simp [cutC]
 | cons x t ih =>
  rw [List.mem_cons,not_or] at h
  rw [List.cons_append,cutC,if_neg (fun e=>h.1 e.symm),ih h.2]
theorem KLl (c:Ct):cutC 32 (Yu c)=(Lib.itoa c.2,txV c.1):=KLk (fun h=>absurd (KCr _ _ h) (by decide))
theorem KNV {c:Ct} (hm:mayV 8 c.1=true) (hw:WfV 8 c.1) (hI:I64 c.2):cntL (Yu c)=c∧KDR (Yu c)=true:=by
 unfold cntL KDR
 rw [KLl]
 dsimp only
 rw [KAR hI,KAS hm hw,decide_eq_true (show (32:UInt8) ∈ Yu c by unfold Yu; simp)]
 exact ⟨rfl,rfl⟩
theorem KLm {t:List UInt8} (h:KDR t=true):Yu (cntL t)=t∧mayV 8 (cntL t).1=true:=by
 unfold KDR at h
 rw [Bool.and_eq_true,Bool.and_eq_true,decide_eq_true_iff,decide_eq_true_iff,decide_eq_true_iff] at h
 obtain ⟨⟨h1,h2⟩,h3⟩:=h
 obtain ⟨_,p⟩:=KCq 32 t
 rw [if_pos h1] at p
 have hn:(cutC 32 t).1=Lib.itoa (numP (cutC 32 t).1).1:=KFc (Prod.ext rfl h2)
 refine ⟨?_,(KAU h3).2⟩
 unfold Yu cntL
 dsimp only
 rw [← hn,KAT (KAU h3).1]
 exact p.symm
theorem KF3:∀ {l:List Ct} {left:Int} {p:Option Vl} (k:Nat),bagI left p l=true→bagI left p (l.take k)=true
 | [],_,_,k,h=>by rw [List.take_nil]; exact h
 | (v,n)::r,left,p,0,h=>by rw [List.take_zero,bagI]
 | (v,n)::r,left,p,k+1,h=>by
  rw [List.take_succ_cons]
  rw [bagI,Bool.and_eq_true,Bool.and_eq_true,Bool.and_eq_true,Bool.and_eq_true] at h ⊢
  exact ⟨h.1,h.2.1,h.2.2.1,KF3 k h.2.2.2⟩
theorem KHk:∀ {l:List Ct} {left:Int} {p:Option Vl},bagI left p l=true→∀ c ∈ l,mayV 8 c.1=true
 | [],_,_,h,c,hc=>by cases hc
 | (v,n)::r,left,p,h,c,hc=>by
  rw [bagI,Bool.and_eq_true,Bool.and_eq_true,Bool.and_eq_true,Bool.and_eq_true] at h
  rcases List.mem_cons.1 hc with rfl | hc
  ·exact h.2.1
  ·exact KHk h.2.2.2 c hc
theorem KLn {l:List Ct} (hc:KAX l=true) (hw:∀ c ∈ l,WfV 8 c.1∧I64 c.2):KDS (bagT l)=(some l,0):=by
 have hlin:Kv (bagT l)=l.map Yu:=by
  rw [KCt]
  exact KBD (fun t ht=>by obtain ⟨v,_,rfl⟩:=List.mem_map.1 ht; exact KGq v)
 have hp:∀ c ∈ l,cntL (Yu c)=c∧KDR (Yu c)=true:=fun c hcm=>KNV (KHk hc c hcm) (hw c hcm).1 (hw c hcm).2
 have hmap:∀ m:List Ct,(∀ c ∈ m,c ∈ l)→KBB (m.map Yu)=m:=fun m hm=>by
  unfold KBB
  rw [List.map_map]
  conv=>rhs; rw [← List.map_id m]
  exact List.map_congr_left (fun c hcm=>(hp c (hm c hcm)).1)
 unfold KDS
 rw [hlin,N8 (fun i hi=>?_)]
 ·show (if Ga (bagT l)=true then _ else _)=_
  rw [if_pos (by rw [KCt]; exact KCs _),hmap l (fun c h=>h)]
 ·rw [List.length_map] at hi
  unfold okB
  rw [List.getD_eq_getElem?_getD,List.getElem?_map,List.getElem?_eq_getElem hi,← List.map_take,hmap _ (fun c h=>List.mem_of_mem_take h)]
  show (KDR (Yu l[i]) && KAX (l.take (i+1)))=true
  rw [(hp _ (List.getElem_mem hi)).2,Bool.true_and]
  exact KF3 _ hc
theorem KF4 {s:List UInt8} {l:List Ct} (h:KDS s=(some l,0)):KAX l=true∧bagT l=s:=by
 unfold KDS at h
 split at h
 ·cases h
 rename_i hb
 have hok:=KF1 hb
 by_cases he:Ga s=true
 ·rw [if_pos he] at h
  have h:KBB (Kv s)=l:=Option.some.inj (congrArg Prod.fst h)
  have hp:∀ t ∈ Kv s,KDR t=true:=fun t ht=>by
   obtain ⟨i,hi,rfl⟩:=List.getElem_of_mem ht
   have:=hok i hi
   unfold okB at this
   rw [List.getD_eq_getElem?_getD,List.getElem?_eq_getElem hi,Bool.and_eq_true] at this
   exact this.1
  subst h
  refine ⟨?_,?_⟩
  ·by_cases h0:(Kv s).length=0
   ·rw [List.length_eq_zero_iff.1 h0]; rfl
   ·have:=hok ((Kv s).length - 1) (by omega)
    unfold okB at this
    rw [Bool.and_eq_true,show (Kv s).length - 1+1=(Kv s).length by omega,List.take_length] at this
    exact this.2
  ·rw [KCt]
   unfold KBB
   rw [List.map_map]
   conv=>rhs; rw [← KBE _ (Nat.le_refl _) he,← List.map_id (Kv s)]
   congr 1
   exact List.map_congr_left (fun t ht=>(KLm (hp t ht)).1)
 ·rw [if_neg he] at h
  cases h
end Gx
namespace Gx
open Go
set_option linter.unusedVariables false
set_option linter.unusedSimpArgs false
theorem sEqT (t:List UInt8):sEq (bs t) (bs t)=true:=by rw [KBR]; simp
theorem KKP {s:List UInt8} {l:List Vl} (h:KDQ s=(some l,0)):l.length≤s.length:=by
 have h2:=(KF2 h).2
 rw [← h2]
 unfold Xk
 clear h h2
 induction l with
 | nil=>exact Nat.zero_le _
 | cons v l ih=>rw [List.flatMap_cons,List.length_append,List.length_append,List.length_cons]; simp only [List.length_cons,List.length_nil]; omega
theorem KKQ {s:List UInt8} {l:List Ct} (h:KDS s=(some l,0)):l.length≤s.length:=by
 have h2:=(KF4 h).2
 rw [← h2]
 unfold bagT
 clear h h2
 induction l with
 | nil=>exact Nat.zero_le _
 | cons v l ih =>
  rw [List.flatMap_cons,List.length_append,List.length_cons]
  have:1≤(ctT v).length:=by unfold ctT; simp only [List.length_append,List.length_cons,List.length_nil]; omega
  omega
theorem KF5 {s:List UInt8} {h:Heap} {Q:Bool→Heap→Prop} (hs:s.length≤1048576) (hp:Vt h) (hd:X9 h) (he:ErrV h) (H:∀ h',Ext h h'→Q true h'):(Zn (bs s)).wp h Q:=by
 unfold Zn JQ
 refine KJ (KAZ (by omega) he (fun h2 n hr e2=>iteF rfl (KG (H _ e2))) (fun h2 r l hr e2 V2=>iteT rfl ?_))
 obtain ⟨hok,ht⟩:=KF4 hr
 have hl:=KKQ hr
 refine KJ (KDt V2 (hp.ext e2) (hd.ext e2) (by rw [ht]; omega) (by omega) (fun h3 e3 hne=>absurd (by unfold bagE; rw [hok]; rfl) hne) (fun h3 e3 _=>?_))
 rw [ht]
 refine zX rfl (Jy (iteF (by rw [sEqT]; rfl) (KG (H _ (e2.trans e3)))))
theorem KIV {s:List UInt8} {h:Heap} {Q:Bool→Heap→Prop} (hs:s.length≤1048576) (hp:Vt h) (hd:X9 h) (he:ErrV h) (H:∀ h',Ext h h'→Q true h'):(ZP (bs s)).wp h Q:=by
 unfold ZP
 refine KJ (qY (by omega) he (fun h2 n hr e2=>iteF rfl (KF5 hs (hp.ext e2) (hd.ext e2) (he.ext e2) (fun h3 e3=>H _ (e2.trans e3)))) (fun h2 r l hr e2 V2=>iteT rfl ?_))
 obtain ⟨hok,ht⟩:=KF2 hr
 have hl:=KKP hr
 refine KJ (KCn V2.to (hp.ext e2) (hd.ext e2) (by rw [ht]; omega) (by omega) (fun h3 e3 hne=>absurd hok hne) (fun h3 e3 _=>?_))
 rw [ht]
 have E:=e2.trans e3
 exact zX rfl (Jy (iteF (by rw [sEqT]; rfl) (KF5 hs (hp.ext E) (hd.ext E) (he.ext E) (fun h4 e4=>H _ (E.trans e4)))))
theorem KLo {x:Sl} {l:List Ct} {s:List UInt8} {h:Heap} {Q:Bool→Heap→Prop} (hx:CsRep h x l) (hW:bagW l≤4194304) (hs:s.length≤1048576) (hp:Vt h) (hd:X9 h) (he:ErrV h) (H:∀ h',Ext h h'→Q true h'):(ZQ x (bs s)).wp h Q:=by
 unfold ZQ
 have go:∀ {h1:Heap},Ext h h1→(ZP (bs s)).wp h1 Q:=fun {h1} e1=>KIV hs (hp.ext e1) (hd.ext e1) (he.ext e1) (fun h3 e3=>H _ (e1.trans e3))
 refine KJ (KKJ hx hp hd (by omega) (fun h1 e1 hne=>iteF (beq_eq_false_iff_ne.2 hne) (go e1)) (fun h1 e1 h0=>iteT rfl ?_))
 have hok:KAX l=true:=by
  rcases KIR l with ⟨_,h⟩ | ⟨h,_⟩
  ·exact h
  ·rw [h] at h0; exact absurd h0 (by decide)
 have hT:=KEz hx.all
 have hres:=KLn hok (fun c hc=>by
  obtain ⟨hI,h',cs,hv⟩:=hx.all c hc
  exact ⟨KJw 8 _ _ hv,hI⟩)
 dsimp only
 refine KJ (KAZ (by omega) (he.ext e1) (fun h2 n hr e2=>by rw [hres] at hr; cases hr) (fun h2 r m hr e2 V2=>?_))
 rw [hres] at hr
 cases hr
 refine zX rfl (Jy (zX rfl (Jb (KJ (KFz V2 (hx.ext (e1.trans e2)) (fun h3 e3=>Jy (iteF rfl (go ((e1.trans e2).trans e3)))))))))
theorem KKR {x y:Sl} {l:List Vl} {c:List Ct} {s:List UInt8} {h:Heap} {Q:Bool→Heap→Prop} (hx:VsRep h x l) (hy:CsRep h y c) (hWl:wt.wts l≤1048576) (hW:bagW c≤4194304) (hs:s.length≤1048576) (hp:Vt h) (hd:X9 h) (he:ErrV h) (H:∀ h',Ext h h'→Q true h'):(U0 x y (bs s)).wp h Q:=by
 unfold U0 WJ
 have hxl:=hx.len
 refine Jy (or_b (c:=decide ((y.len:Int) > 100)) (fun _ Q' hq=>KG hq) ?_)
 refine or_b (c:=decide ((Lib.countByte s 10:Int) > 200)) (fun _ Q' hq=>KJ ⟨10,rfl,?_⟩) ?_
 ·rw [show (bs s).data.toList=s by simp [bs]]
  exact KG hq
 refine Kc (fun hc=>KG (H _ (Ext.refl _))) (fun hc=>?_)
 refine KJ (KFv hp hd (fun h1 e1=>iteF rfl ?_))
 have go:∀ {h2:Heap},Ext h h2→(ZQ y (bs s)).wp h2 Q:=fun {h2} e2=>KLo (hy.ext e2) hW hs (hp.ext e2) (hd.ext e2) (he.ext e2) (fun h3 e3=>H _ (e2.trans e3))
 refine KJ (KDq (hx.ext e1) (hp.ext e1) (hd.ext e1) (by omega) (fun h2 e2 hne=>iteF (beq_eq_false_iff_ne.2 hne) (go (e1.trans e2))) (fun h2 e2 h0=>iteT rfl ?_))
 have hvr:∀ v ∈ l,∃ h cs,VRep h v cs:=fun v hv=>by
  obtain ⟨j,hj,rfl⟩:=List.getElem_of_mem hv
  obtain ⟨a,c,_,_,_,hv'⟩:=hx.get hj
  exact ⟨h,c,hv'⟩
 have hT:=KFu hvr
 have hres:=KLj h0 (fun v hv=>by
  obtain ⟨h',cs,hv⟩:=hvr v hv
  exact KJw 8 _ _ hv)
 have E2:=e1.trans e2
 dsimp only
 refine KJ (qY (by omega) (he.ext E2) (fun h3 n hr e3=>by rw [hres] at hr; cases hr) (fun h3 r m hr e3 V3=>?_))
 rw [hres] at hr
 cases hr
 refine zX rfl (Jy (zX rfl (Jb (KJ (KEx V3.to (hx.ext (E2.trans e3)) (fun h4 e4=>Jy (iteF rfl (go ((E2.trans e3).trans e4)))))))))
end Gx
namespace Go.Proofs.YthelieedlghccaaGreatDoor
open Go Go.RowKit Gx
set_option linter.unusedVariables false
set_option maxRecDepth 100000
theorem c124:Tryz.prog.cellsOf 124=5:=by kernel_rfl
theorem KF6 {H:Type}:∀ (l:List Ct) (es:List (DataW H)),l.length=es.length→(∀ i (h1:i < l.length) (h2:i < es.length),wt l[i].1+2≤Rows.uptoBulk es[i])→bagW l≤4 * Rows.uptoBulkAll es
 | [],[],_,_=>by simp [bagW]
 | [],_::_,h,_=>by simp at h
 | _::_,[],h,_=>by simp at h
 | (v,n)::l,d::es,h,hk=>by
  have h0:=hk 0 (by simp) (by simp)
  have:=KF6 l es (by simpa using h) (fun i h1 h2=>by
   have:=hk (i+1) (by simpa using h1) (by simpa using h2)
   simpa using this)
  simp only [List.getElem_cons_zero] at h0
  rw [bagW]
  simp only [Rows.uptoBulkAll]
  omega
section
variable {H:Type} {enc:TypeId × Value→H}
theorem KIW {W:World} {sp:Nat→Bool} {held:Bool} {base:Nat} (m:Nat) (cs:List Value) (x:DataW H × List MemPlace) (h:DataW.trod enc Tryz.prog W base sp held m 124 cs=some x):∃ (c:Ct) (c4:Array Value),cs.toArray=crow c4 c.2∧I64 c.2∧VRep W.heap c.1 c4∧wt c.1+2≤Rows.uptoBulk x.1:=by
 obtain ⟨xs,n,hn,hx,hcl,hxl,hf⟩:=DataW.trod_struct Tryz.underlying124 h
 rw [c124] at hcl
 have hxl:xs.length=2:=hxl
 match cs,hcl with
 | [a0,a1,a2,a3,a4],_ =>
 match xs,hxl with
 | [y0,y1],_ =>
 have f0:DataW.trod enc Tryz.prog W base sp held n 24 (([a0,a1,a2,a3,a4].drop 0).take (Tryz.prog.cellsOf 24))=some y0:=hf 0 _ rfl
 have f1:DataW.trod enc Tryz.prog W base sp held n 2 (([a0,a1,a2,a3,a4].drop 4).take (Tryz.prog.cellsOf 2))=some y1:=hf 1 _ rfl
 rw [c24] at f0
 rw [c2] at f1
 obtain ⟨v,hv,hw⟩:=(KFX n).1 _ _ f0
 obtain ⟨z,hz,hI,b1⟩:=KEb Tryz.underlying2 f1
 have hz:a4=.int .i64 z:=hz
 refine ⟨(v,z),#[a0,a1,a2,a3],by rw [hz]; rfl,hI,hv,?_⟩
 rw [hx]
 simp only [List.map_cons,List.map_nil,Rows.uptoBulk,Rows.uptoBulkAll]
 omega
theorem KKS {W:World} {sp:Nat→Bool} {held:Bool} {base:Nat} (m:Nat) (v:Value) (x:DataW H × List MemPlace) (h:DataW.trod enc Tryz.prog W base sp held m 57 [v]=some x):∃ (s:Sl) (l:List Ct),v=s.v∧CsRep W.heap s l∧bagW l+1≤4 * Rows.uptoBulk x.1:=by
 rcases DataW.trod_slice Tryz.underlying57 h with ⟨h0,hx⟩ | ⟨a,len,cap,elems,rest,n,hn,h1,hx,_,hle,hm,hlen,hel,_,_⟩
 ·cases h0
  refine ⟨Sl.nil,[],rfl,CsRep.nil _,?_⟩
  rw [hx]; simp [bagW,Rows.uptoBulk]
 ·cases h1
  rw [c124] at hel
  have key:∀ i,i < len→∃ (c:Ct) (c4:Array Value),c4.size=4∧(∀ j,j < 4→KN W.heap (a.add (i * 5+j))=c4[j]?)∧KN W.heap (a.add (i * 5+4))=some (.int .i64 c.2)∧I64 c.2∧VRep W.heap c.1 c4∧∀ (h:i < elems.length),wt c.1+2≤Rows.uptoBulk (elems[i]).1:=fun i hi=>by
   have h2:=hel i hi
   rw [List.getElem?_eq_getElem (by omega),Option.bind_eq_some_iff] at h2
   obtain ⟨cs,hcs,ht⟩:=h2
   obtain ⟨_,hl1,hc⟩:=World.cells?_some hcs
   obtain ⟨c,c4,e,hI,hv,hw⟩:=KIW _ _ _ ht
   have hg:∀ j,j < 5→KN W.heap (a.add (i * 5+j))=(crow c4 c.2)[j]?:=fun j hj=>by
    have:=hc j hj
    rw [Addr.add_add] at this
    rw [KBH] at this
    rw [this,← e]; simp
   exact ⟨c,c4,hv.size,fun j hj=>(hg j (by omega)).trans (KLd hv.size j hj),(hg 4 (by omega)).trans (KLe hv.size),hI,hv,fun _=>hw⟩
  let l:=List.ofFn (fun i:Fin len=>Classical.choose (key i i.2))
  have hL:l.length=len:=by simp [l]
  have hget:∀ i (h:i < l.length),∃ c4:Array Value,c4.size=4∧(∀ j,j < 4→KN W.heap (a.add (i * 5+j))=c4[j]?)∧KN W.heap (a.add (i * 5+4))=some (.int .i64 l[i].2)∧I64 l[i].2∧VRep W.heap l[i].1 c4∧∀ (h:i < elems.length),wt l[i].1+2≤Rows.uptoBulk (elems[i]).1:=fun i h=>by
   have:=Classical.choose_spec (key i (by omega))
   simpa [l] using this
  have hmx:len≤9223372036854775807:=by unfold maxLen at hm; omega
  refine ⟨⟨some a,len,cap⟩,l,rfl,⟨hL.symm,hle,hmx,fun j hj=>?_⟩,?_⟩
  ·obtain ⟨c4,h1,h2,h3,h4,h5,_⟩:=hget j hj
   exact ⟨a,c4,rfl,h1,h2,h3,h4,h5⟩
  ·rw [hx]
   have:=KF6 l (elems.map (·.1)) (by rw [hL,List.length_map,hlen]) (fun i h1 h2=>by
    obtain ⟨_,_,_,_,_,_,h6⟩:=hget i h1
    rw [List.getElem_map]
    exact h6 (by simpa using h2))
   simp only [Rows.uptoBulk]
   omega
end
end Go.Proofs.YthelieedlghccaaGreatDoor
namespace Gx
open Go Go.RowKit Go.ChangeShapes Go.WideShapes Go.ChangeAt Go.Joins
set_option linter.unusedVariables false
section
variable {H:Type} {enc:TypeId × Value→H} {P:Program}
theorem KLp {W W':World} (he:Ext W.heap W'.heap) {p:MemPlace} (hp:p.block < W.heap.size):W.sameAt W' p:=by
 cases p with
 | cell b o=>exact World.cell?_of_block (w:=W) (he.same b hp)
 | map b=>exact he.same b hp
theorem KE0 {t:TypeId} (hl:laidOutB P=true) (hr:P.readableRec t=true) (hrow:t < P.types.size) {W W':World} {v:Value} {d:DataW H} {ps:List MemPlace}
  (h:DataW.Trod enc P W 0 (fun _=>true) true t v d ps) (he:Ext W.heap W'.heap) :
  DataW.Trod enc P W' 0 (fun b=>decide (b < W.heap.size)) true t v d ps:=by
 have hlt:∀ x ∈ ps,x.block < W.heap.size:=by
  obtain ⟨m,hm⟩:=h
  exact DataW.trod_lt m _ _ _ hm
 exact WideElems.Trod_stays hl hr hrow h (fun x hx=>KLp he (hlt x hx)) (fun x hx=>by simpa using hlt x hx)
theorem KKT {W W':World} (he:Ext W.heap W'.heap) (hr:Rest W W') (may:MemPlace→Prop):W.keptBut W' may:=by
 refine ⟨hr.os,hr.output,fun i hi=>?_⟩
 rw [he.same i hi]
 split <;> simp_all
end
end Gx
