/- Own proofs: what those Lean programs compute. No condition. -/
import Derived.Test.YtpibdohdkfkcnaaGreatDoorP0
import Derived.Test.YtpibdohdkfkcnaaGreatDoorP1
import Derived.Test.YtpibdohdkfkcnaaGreatDoorP2
import Derived.Test.YtpibdohdkfkcnaaGreatDoorP3
import Derived.Test.YtpibdohdkfkcnaaGreatDoorP4
import Derived.Test.YtpibdohdkfkcnaaGreatDoorP5
import Derived.Test.YtpibdohdkfkcnaaGreatDoorP6
set_option linter.unusedVariables false
set_option linter.unusedSimpArgs false
namespace Gx
open Go
set_option linter.unusedVariables false
set_option linter.unusedSimpArgs false
def KT (h:Heap) (r:Sl) (e:TypeId):Prop:=∀ g,r.base=some ⟨g,0,none⟩→∃ c z,h[g]?=some (.cells c e z)
theorem KT.same {h h':Heap} {r:Sl} {e:TypeId} (k:KT h r e) (hs:∀ i,Sl.on r i→h'[i]?=h[i]?):KT h' r e:=fun g hg=>by
 obtain ⟨c,z,hh⟩:=k g hg
 exact ⟨c,z,(hs g ⟨_,hg,rfl⟩).trans hh⟩
theorem KCk {lo:Nat} {h:Heap} {Q:Sl→Heap→Prop} {e sz bytes k:Nat} {z:Array Value} {r:Sl} {vs news:List Value} (hz:z.size=sz) (H:Gw lo h r sz vs) (hn:news.length=k * sz) (h1:∀ v ∈ news,one v=true)
  (hb:(r.len+k) * bytes≤140737488355328) (hm:r.len+k≤9223372036854775807) (hlo:lo≤h.size) (hnz:r.cap=0→r=Sl.nil) (hk:KT h r e)
  (hq:∀ h' r',Gw lo h' r' sz (vs++news)→r'.len=r.len+k→h.size≤h'.size→(∀ i,i < h.size→¬ Sl.on r i→h'[i]?=h[i]?)→(∀ i,Sl.on r' i→Sl.on r i∨h.size≤i)→(r'.cap=0→r'=Sl.nil)→KT h' r' e→Q r' h'):apGo e sz bytes z r k news h Q:=by
 unfold apGo
 split
 ·rename_i hc
  have hz':(⟨r.base,r.len+k,r.cap⟩:Sl).cap=0→(⟨r.base,r.len+k,r.cap⟩:Sl)=Sl.nil:=fun h0=>by
   have h0:r.cap=0:=h0
   have:=hnz h0
   subst this
   have:k=0:=by simp [Sl.nil] at hc; exact hc
   subst this
   rfl
  rcases H with ⟨rfl,rfl⟩ | ⟨b,ty,cells,H⟩
  ·have h0:k=0:=by simp [Sl.nil] at hc; exact hc
   subst h0
   have:news=[]:=List.length_eq_zero_iff.1 (by rw [hn]; simp)
   subst this
   refine ⟨fun a ha=>(by cases ha),by simp,?_⟩
   exact hq h _ (.inl ⟨rfl,rfl⟩) rfl (Nat.le_refl _) (fun i _ _=>rfl) (fun i hi=>.inl hi) hz' hk
  ·have hsz:r.len * sz+news.length≤cells.size:=by
    rw [hn,H.size,← Nat.add_mul]
    exact Nat.mul_le_mul_right _ hc
   have hblk:(WT h r.base (r.len * sz) news)[b]?=some (.cells (lay cells (r.len * sz) news) ty (0,0)):=by
    rw [H.base]
    show (hsetL h ((⟨b,0,none⟩:Addr).add (r.len * sz)) news 0)[b]?=_
    rw [Kj,Nat.zero_add,NH _ _ _ _ H.blk,Nat.add_zero]
   have hne:∀ i,i≠b→(WT h r.base (r.len * sz) news)[i]?=h[i]?:=fun i hi=>by
    rw [H.base]
    show (hsetL h ((⟨b,0,none⟩:Addr).add (r.len * sz)) news 0)[i]?=_
    rw [Kj,NG hi]
   have hsize:(WT h r.base (r.len * sz) news).size=h.size:=by
    rw [H.base]
    exact Wo _ _ _
   refine ⟨fun a ha j hj=>?_,h1,hq _ _ (.inr ⟨b,ty,_,H.base,H.lo,hblk,?_,hc,?_,fun j v hj=>?_⟩) rfl (by rw [hsize]; exact Nat.le_refl _) (fun i hi hno=>hne i (fun e=>hno ⟨_,H.base,e.symm⟩)) (fun i hi=>.inl hi) hz' (fun g hg=>?_)⟩
   ·rw [H.base] at ha; cases ha
    rw [Kj,Kj,Nat.zero_add,KL H.blk,K9 H.blk]
    exact ⟨⟨_,Array.getElem?_eq_getElem (by omega)⟩,rfl⟩
   ·rw [KA1]; exact H.size
   ·rw [List.length_append,H.len,hn,Nat.add_mul]
   ·rw [← Array.getElem?_toList,X5 _ _ _ hsz]
    have hlen:(cells.toList.take (r.len * sz)).length=r.len * sz:=by rw [List.length_take,Array.length_toList]; omega
    by_cases hj1:j < vs.length
    ·rw [List.getElem?_append_left hj1] at hj
     have:=H.get j v hj
     rw [List.append_assoc,List.getElem?_append_left (by rw [hlen,← H.len]; exact hj1),List.getElem?_take,if_pos (by rw [← H.len]; exact hj1),Array.getElem?_toList]
     exact this
    ·rw [List.getElem?_append_right (by omega)] at hj
     have hjn:j - vs.length < news.length:=(List.getElem?_eq_some_iff.1 hj).1
     rw [List.append_assoc,List.getElem?_append_right (by rw [hlen,← H.len]; omega),hlen,List.getElem?_append_left (by rw [← H.len]; exact hjn),← H.len]
     exact hj
   ·have hg:r.base=some ⟨g,0,none⟩:=hg
    rw [H.base] at hg; cases hg
    obtain ⟨c,z,hh⟩:=hk b H.base
    rw [H.blk] at hh; cases hh
    exact ⟨_,_,hblk⟩
 ·rename_i hc
  refine ⟨hb,hm,vs,H.len,H.reads,fun cap hcap=>?_⟩
  have hl:=H.len
  refine hq _ _ (.inr ⟨h.size,e,_,rfl,hlo,ZI,?_,hcap,?_,fun j v hj=>?_⟩) rfl (by simp) (fun i hi _=>VR hi) (fun i hi=>.inr ?_) (fun h0=>by have h0:cap=0:=h0; omega) (fun g hg=>by cases hg; exact ⟨_,_,ZI⟩)
  ·rw [Array.size_append,Array.size_append,zK,List.size_toArray,List.size_toArray,hl,hn,hz]
   show r.len * sz+k * sz+(cap - (r.len+k)) * sz=cap * sz
   rw [← Nat.add_mul,← Nat.add_mul]
   congr 1
   omega
  ·rw [List.length_append,hl,hn,Nat.add_mul]
  ·have hlt:j < (vs++news).length:=(List.getElem?_eq_some_iff.1 hj).1
   rw [Array.getElem?_append_left (by simpa using hlt)]
   rw [← hj]
   simp
  ·obtain ⟨a,ha,rfl⟩:=hi
   cases ha
   exact Nat.le_refl _
theorem KL8 {β:Type} {e:Nat} {s:Sl} {x:ByteArray} {h:Heap} {Q:β→Heap→Prop} {f:Sl→M β} (H:apGo e 1 1 #[.int .u8 0] s x.size (Zi x) h (fun r h'=>(f r).wp h' Q)):(apS e s x>>=f).wp h Q:=H
theorem KL9 {β:Type} {e sz bytes:Nat} {z:Array Value} {s x:Sl} {news:List Value} {h:Heap} {Q:β→Heap→Prop} {f:Sl→M β} (hn:news.length=x.len * sz) (hr:Xi h x.base news) (H:apGo e sz bytes z s x.len news h (fun r h'=>(f r).wp h' Q)):(apL e sz bytes z s x>>=f).wp h Q:=⟨news,hn,hr,H⟩
theorem zo (l:List UInt8):Zi (bs l)=l.map bv:=rfl
structure Bld (lo:Nat) (h:Heap) (b:Nat) (r:Sl) (l:List UInt8):Prop where
 low:lo≤b
 ptr:∃ p,h[b]?=some (.cells #[p,r.v] ZN (0,0))∧(p=.pointer none∨p=.pointer (some ⟨b,0,none⟩))
 row:Gw lo h r 1 (l.map bv)
 off:¬ Sl.on r b
 nz:r.cap=0→r=Sl.nil
 kt:KT h r Kp
theorem Bld.len {lo:Nat} {h:Heap} {b:Nat} {r:Sl} {l:List UInt8} (B:Bld lo h b r l):r.len=l.length:=by
 have:=B.row.len
 simp at this
 exact this.symm
theorem Bld.lt {lo:Nat} {h:Heap} {b:Nat} {r:Sl} {l:List UInt8} (B:Bld lo h b r l):b < h.size:=by
 obtain ⟨p,h1,_⟩:=B.ptr
 exact Uj h1
theorem Bld.ext {lo:Nat} {h h':Heap} {b:Nat} {r:Sl} {l:List UInt8} (B:Bld lo h b r l) (e:Ext h h'):Bld lo h' b r l:=by
 obtain ⟨p,h1,h2⟩:=B.ptr
 exact ⟨B.low,⟨p,e.blk h1,h2⟩,B.row.ext e,B.off,B.nz,B.kt.same (fun i hi=>e.same i (B.row.lt hi).1)⟩
theorem Bld.new {lo:Nat} {h h':Heap} (hl:lo≤h.size) (hb:h'[h.size]?=some (.cells #[.pointer none,.slice none 0 0] ZN (0,0))):Bld lo h' h.size Sl.nil [] :=
 ⟨hl,⟨_,hb,.inl rfl⟩,Gw.nil _ _ _,fun ⟨a,ha,_⟩=>(by cases ha),fun _=>rfl,fun g hg=>by cases hg⟩
structure BKeep (b:Nat) (r r':Sl) (h h':Heap):Prop where
 size:h.size≤h'.size
 same:∀ i,i < h.size→i≠b→¬ Sl.on r i→h'[i]?=h[i]?
 on_:∀ i,Sl.on r' i→Sl.on r i∨h.size≤i
theorem BKeep.refl (b:Nat) (r:Sl) (h:Heap):BKeep b r r h h:=⟨Nat.le_refl _,fun _ _ _ _=>rfl,fun _ h=>.inl h⟩
theorem BKeep.trans {b:Nat} {r r' r'':Sl} {h h' h'':Heap} (k:BKeep b r r' h h') (k':BKeep b r' r'' h' h'') (hb:b < h.size):BKeep b r r'' h h'' :=
 ⟨Nat.le_trans k.size k'.size,fun i hi hne hno=>(k'.same i (Nat.lt_of_lt_of_le hi k.size) hne (fun ho=>(k.on_ i ho).elim hno (fun h=>by omega))).trans (k.same i hi hne hno),
  fun i hi=>(k'.on_ i hi).elim (fun h=>k.on_ i h) (fun h=>.inr (Nat.le_trans k.size h))⟩
theorem BKeep.ext {lo:Nat} {b:Nat} {r r':Sl} {h0 h h':Heap} {l:List UInt8} (e:Ext h0 h) (B:Bld lo h b r l) (hl:h0.size≤lo) (k:BKeep b r r' h h'):Ext h0 h' :=
 ⟨Nat.le_trans e.size k.size,fun i hi=>(k.same i (Nat.lt_of_lt_of_le hi e.size) (by have:=B.low; omega) (fun ho=>by have:=(B.row.lt ho).2; omega)).trans (e.same i hi)⟩
theorem BKeep.push {b:Nat} {r r':Sl} {h h' h'':Heap} (k:BKeep b r r' h h') (e:Ext h' h''):BKeep b r r' h h'' :=
 ⟨Nat.le_trans k.size e.size,fun i hi h1 h2=>(e.same i (Nat.lt_of_lt_of_le hi k.size)).trans (k.same i hi h1 h2),k.on_⟩
theorem KFG {h:Heap} {b:Nat} {p v u:Value} {t:TypeId} (hb:h[b]?=some (.cells #[p,v] t (0,0))):(hset h ⟨b,1,none⟩ u)[b]?=some (.cells #[p,u] t (0,0)):=by
 rw [Uv hb]; rfl
theorem KDY {h:Heap} {b:Nat} {p v u:Value} {t:TypeId} (hb:h[b]?=some (.cells #[p,v] t (0,0))):(hset h ⟨b,0,none⟩ u)[b]?=some (.cells #[u,v] t (0,0)):=by
 rw [Uv hb]; rfl
theorem Gu {β:Type} {lo:Nat} {h:Heap} {b:Nat} {r:Sl} {l:List UInt8} {Q:β→Heap→Prop} {f:Unit→M β} (B:Bld lo h b r l)
  (H:∀ h',Bld lo h' b r l→Upd b h h'→(f ()).wp h' Q):(Kn (some ⟨b,0,none⟩)>>=f).wp h Q:=by
 obtain ⟨p,h1,h2⟩:=B.ptr
 refine ⟨b,p,r.v,rfl,h1,?_⟩
 rcases h2 with rfl | rfl
 ·refine .inr ⟨rfl,H _ ⟨B.low,⟨_,KDY h1,.inr rfl⟩,B.row.same (fun i hi=>Y7 (fun e=>B.off ((show i=b from e) ▸ hi))),B.off,B.nz,B.kt.same (fun i hi=>Y7 (fun e=>B.off ((show i=b from e) ▸ hi)))⟩ (Upd.hset _ _ _ _)⟩
 ·exact .inl ⟨rfl,H _ B (Upd.refl _ _)⟩
theorem KDZ {lo:Nat} {h h0 h':Heap} {b:Nat} {r r':Sl} {l l':List UInt8} (B:Bld lo h0 b r l) (u:Upd b h h0) (hs:h0.size≤h'.size)
  (same:∀ i,i < h0.size→¬ Sl.on r i→h'[i]?=h0[i]?) (on_:∀ i,Sl.on r' i→Sl.on r i∨h0.size≤i) (G:Gw lo h' r' 1 (l'.map bv)) (nz:r'.cap=0→r'=Sl.nil) (kt:KT h' r' Kp) :
  Bld lo (hset h' ⟨b,1,none⟩ r'.v) b r' l'∧BKeep b r r' h (hset h' ⟨b,1,none⟩ r'.v):=by
 have hb:=B.lt
 obtain ⟨p,h1,h2⟩:=B.ptr
 have h1':h'[b]?=some (.cells #[p,r.v] ZN (0,0)):=by rw [same b hb B.off]; exact h1
 have hoff:¬ Sl.on r' b:=fun ho=>(on_ b ho).elim B.off (fun h=>by omega)
 refine ⟨⟨B.low,⟨p,KFG h1',h2⟩,G.same (fun i hi=>Y7 (fun e=>hoff ((show i=b from e) ▸ hi))),hoff,nz,kt.same (fun i hi=>Y7 (fun e=>hoff ((show i=b from e) ▸ hi)))⟩,?_,fun i hi hne hno=>?_,fun i hi=>?_⟩
 ·rw [Xm,← u.size]; exact hs
 ·rw [Y7 hne,same i (by rw [u.size]; exact hi) hno,u.ne i hne]
 ·rw [← u.size]; exact on_ i hi
theorem YK {lo:Nat} {h:Heap} {b:Nat} {r:Sl} {l s:List UInt8} {Q:Int × Value→Heap→Prop} (B:Bld lo h b r l) (hlo:lo≤h.size) (hm:l.length+s.length≤140737488355328)
  (H:∀ h' r' n,Bld lo h' b r' (l++s)→BKeep b r r' h h'→Q (n,Value.nilIface) h'):(KS (some ⟨b,0,none⟩) (bs s)).wp h Q:=by
 unfold KS
 refine Gu B (fun h0 B0 u=>ZK ?_)
 obtain ⟨p,h1,h2⟩:=B0.ptr
 have hl:=B0.len
 refine Vh (n:=r) (by rw [Kj,KL h1]; rfl) ?_
 refine KL8 ?_
 rw [zo,ZH]
 refine KCk (vs:=l.map bv) (z:=#[.int .u8 0]) rfl B0.row (by simp) (fun v hv=>by obtain ⟨x,_,rfl⟩:=List.mem_map.1 hv; rfl) (by omega) (by omega) (by rw [u.size]; exact hlo) B0.nz B0.kt (fun h' r' G hlen hs same on_ nz kt=>?_)
 refine ZK ?_
 rw [← List.map_append] at G
 obtain ⟨B',K⟩:=KDZ B0 u hs same on_ G nz kt
 have h1':h'[b]?=some (.cells #[p,r.v] ZN (0,0)):=by rw [same b B0.lt B0.off]; exact h1
 refine GY (x:=r.v) (by rw [Kj,KL h1']; rfl) (by rw [Kj,K9 h1']) (KAC _) (KG ?_)
 rw [Kj]
 exact H _ _ _ B' K
theorem Ws {lo:Nat} {h:Heap} {b:Nat} {r:Sl} {l:List UInt8} {c:UInt8} {n:Int} {Q:Value→Heap→Prop} (B:Bld lo h b r l) (hlo:lo≤h.size) (hm:l.length+1≤140737488355328) (hn:n=(c.toNat:Int))
  (H:∀ h' r',Bld lo h' b r' (l++[c])→BKeep b r r' h h'→Q Value.nilIface h'):(KY (some ⟨b,0,none⟩) n).wp h Q:=by
 subst hn
 unfold KY
 refine Gu B (fun h0 B0 u=>ZK ?_)
 have hl:=B0.len
 obtain ⟨p,h1,h2⟩:=B0.ptr
 refine Vh (n:=r) (by rw [Kj,KL h1]; rfl) (KEt ?_)
 have e1:=Ext.push h0 (.cells #[.int .u8 (c.toNat:Int)] Kp)
 have B1:=B0.ext e1
 refine KL9 (news:=[bv c]) rfl (.inr ⟨_,rfl,fun j v hj=>?_⟩) ?_
 ·rw [Kj,KL ZI,Nat.zero_add]
  rw [show (#[Value.int .u8 (c.toNat:Int)]:Array Value)=[bv c].toArray from rfl]
  simpa using hj
 refine KCk (vs:=l.map bv) (news:=[bv c]) (z:=#[.int .u8 0]) rfl B1.row rfl (fun v hv=>by simp at hv; subst hv; rfl) (by show (r.len+1) * 1≤_; omega) (by show r.len+1≤_; omega) (by have:=e1.size; have:=u.size; omega) B1.nz B1.kt (fun h' r' G hlen hs same on_ nz kt=>?_)
 refine ZK ?_
 have G:Gw lo h' r' 1 ((l++[c]).map bv):=by rw [List.map_append]; exact G
 obtain ⟨p',h1',h2'⟩:=B1.ptr
 have:=KDZ B1 (Upd.refl _ _) hs same on_ G nz kt
 obtain ⟨B',K⟩:=this
 have h1'':h'[b]?=some (.cells #[p',r.v] ZN (0,0)):=by rw [same b B1.lt B1.off]; exact h1'
 refine GY (x:=r.v) (by rw [Kj,KL h1'']; rfl) (by rw [Kj,K9 h1'']) (KAC _) (KG ?_)
 rw [Kj,Nat.zero_add]
 refine H _ _ B' ?_
 refine ⟨?_,fun i hi hne hno=>?_,fun i hi=>(K.on_ i hi).imp id (fun hh=>?_)⟩
 ·have:=K.size; have:=e1.size; have:=u.size; omega
 ·rw [K.same i (by have:=e1.size; have:=u.size; omega) hne hno,e1.same i (by rw [u.size]; exact hi),u.ne i hne]
 ·have:=e1.size; have:=u.size; omega
theorem zp {lo:Nat} {h:Heap} {b:Nat} {r:Sl} {l:List UInt8} {Q:ByteArray→Heap→Prop} (B:Bld lo h b r l) (hm:l.length≤140737488355328)
  (H:∀ h',BKeep b r r h h'→h'.size=h.size→Q (bs l) h'):(ZE (some ⟨b,0,none⟩)).wp h Q:=by
 unfold ZE
 obtain ⟨p,h1,h2⟩:=B.ptr
 have hl:=B.len
 have c1:KM h ((⟨b,0,none⟩:Addr).add 1)=some r.v:=by rw [Kj,KL h1]; rfl
 refine ZK (ZK (Vh (n:=r) c1 (Vh (n:=r) c1 ?_)))
 rcases B.row with ⟨rfl,hv⟩ | ⟨g,ty,cells,R⟩
 ·have:l=[]:=by simpa using hv
  subst this
  exact ⟨none,.inl ⟨rfl,rfl⟩,.inl ⟨rfl,H h (BKeep.refl _ _ _) rfl⟩⟩
 ·have hc:r.cap≠0:=fun h0=>by
   have:=B.nz h0
   rw [this] at R
   have:=R.base
   cases this
  refine ⟨_,.inr ⟨hc,R.base⟩,?_⟩
  by_cases h0:l=[]
  ·subst h0
   refine .inl ⟨by rw [hl]; rfl,H h (BKeep.refl _ _ _) rfl⟩
  ·have hs:=R.size
   have:=R.cap
   refine .inr ⟨g,cells,(0,0),l,rfl,by rw [hl],h0,by omega,by omega,?_,fun j x hj=>?_,fun h' a1 a2=>KG (H _ ⟨by rw [a1]; exact Nat.le_refl _,fun i hi hne hno=>a2 i (fun e=>hno ⟨_,R.base,e.symm⟩),fun i hi=>.inl hi⟩ a1)⟩
   ·obtain ⟨c,z,hh⟩:=B.kt g R.base
    rw [R.blk] at hh; cases hh
    exact R.blk
   ·have:=R.get j (bv x) (by simp [hj])
    exact this
end Gx
namespace Gx
open Go Go.Proofs Go.Shelf Go.RowKit Go.Lib
set_option linter.unusedVariables false
set_option linter.unusedSimpArgs false
set_option maxRecDepth 100000
theorem KMA {β:Type} {c d:Prop} [Decidable c] [Decidable d] {h:Heap} {Q:β→Heap→Prop} {f:Bool→M β} (H:(f (decide (c∨d))).wp h Q):(M.ite (decide c) (M.pure true) (M.pure (decide d))>>=f).wp h Q:=by
 refine KFv (fun hc=>ZY ?_) (fun hc=>ZY ?_)
 ·have hc:=of_decide_eq_true hc
  rwa [show true=decide (c∨d) from (decide_eq_true (Or.inl hc)).symm]
 ·have hc:=of_decide_eq_false hc
  rwa [show decide d=decide (c∨d) from decide_eq_decide.2 ⟨Or.inr,fun h=>h.resolve_left hc⟩]
def NCS:List UInt8:=[97,98,99,100,101,102,103,104,105,106,107,108,109,110,111,112,113,114,115,116,117,118,119,120,121,122,65,66,67,68,69,70,71,72,73,74,75,76,77,78,79,80,81,82,83,84,85,86,87,88,89,90,48,49,50,51,52,53,54,55,56,57,95]
def isLt (n:Nat):Bool:=decide ((n=95∨(97≤n∧n≤122))∨(65≤n∧n≤90))
def isDg (n:Nat):Bool:=decide (48≤n∧n≤57)
def KGX:List UInt8→Bool
 | []=>false
 | c::r=>decide ((c::r).length≤24) && isLt c.toNat && (c::r).all (fun d=>isLt d.toNat || isDg d.toNat)
theorem Yy (c:UInt8) (r:List UInt8):KGX (c::r)=(decide ((c::r).length≤24) && isLt c.toNat && (c::r).all (fun d=>isLt d.toNat || isDg d.toNat)):=rfl
theorem KGY:∀ c:UInt8,NCS.contains c=(isLt c.toNat || isDg c.toNat):=by
 intro c
 have hk:∀ n,n < 256→NCS.contains (UInt8.ofNat n)=(isLt n || isDg n):=by decide +kernel
 have:=hk c.toNat c.toNat_lt
 rwa [UInt8.ofNat_toNat] at this
theorem KIj {p:UInt8→Bool}:∀ {l:List UInt8},(∀ x ∈ l.dropWhile p,p x=true)→∀ x ∈ l,p x=true
 | [],_,x,hx=>by cases hx
 | a::l,h,x,hx=>by
  by_cases ha:p a=true
  ·rw [List.dropWhile_cons_of_pos ha] at h
   rcases List.mem_cons.1 hx with rfl | hx
   ·exact ha
   ·exact KIj h x hx
  ·rw [List.dropWhile_cons_of_neg ha] at h
   exact absurd (h a List.mem_cons_self) ha
theorem KLJ {p:UInt8→Bool} {l:List UInt8}:(l.dropWhile p=[]↔∀ x ∈ l,p x=true):=by
 induction l with
 | nil=>simp
 | cons a l ih =>
  by_cases ha:p a=true
  ·rw [List.dropWhile_cons_of_pos ha,ih]
   constructor
   ·intro h x hx
    rcases List.mem_cons.1 hx with rfl | hx
    ·exact ha
    ·exact h x hx
   ·intro h x hx
    exact h x (List.mem_cons_of_mem _ hx)
  ·rw [List.dropWhile_cons_of_neg ha]
   constructor
   ·intro h; cases h
   ·intro h
    exact absurd (h a List.mem_cons_self) ha
theorem KHw (l cs:List UInt8):(Lib.trimS l cs=[]↔∀ x ∈ l,cs.contains x=true):=by
 unfold Lib.trimS Lib.trimLeftS Lib.trimRightS
 rw [KLJ]
 constructor
 ·intro h x hx
  exact KIj (l:=l.reverse) (p:=(cs.contains ·)) (fun y hy=>h y (List.mem_reverse.2 hy)) x (List.mem_reverse.2 hx)
 ·intro h x hx
  have h1:=List.mem_reverse.1 hx
  exact h x (List.mem_reverse.1 ((List.dropWhile_sublist _).mem h1))
theorem KJo {s:List UInt8} {h:Heap} {Q:Bool→Heap→Prop} (h0:0 < s.length) (h1:s.length≤24) (H:∀ h',Ext h h'→Q (s.all (fun d=>isLt d.toNat || isDg d.toNat)) h') :
  (Uq (bs s) (⟨#[97,98,99,100,101,102,103,104,105,106,107,108,109,110,111,112,113,114,115,116,117,118,119,120,121,122,65,66,67,68,69,70,71,72,73,74,75,76,77,78,79,80,81,82,83,84,85,86,87,88,89,90,48,49,50,51,52,53,54,55,56,57,95]⟩:ByteArray)>>=fun x=>(M.pure (sEq x ByteArray.empty):M Bool)).wp h Q:=by
 refine KN (show (Uq _ _).wp h _ from ⟨by decide,by decide,by rw [ZH]; exact h0,by rw [ZH]; omega,?_,fun h' a b=>KG ?_⟩)
 ·exact ascii_of_all (l:=NCS) (by decide +kernel)
 ·have hs:(bs s).data.toList=s:=by simp [bs]
  have hc:((⟨#[97,98,99,100,101,102,103,104,105,106,107,108,109,110,111,112,113,114,115,116,117,118,119,120,121,122,65,66,67,68,69,70,71,72,73,74,75,76,77,78,79,80,81,82,83,84,85,86,87,88,89,90,48,49,50,51,52,53,54,55,56,57,95]⟩:ByteArray)).data.toList=NCS:=rfl
  rw [hs,hc]
  have:=H h' ⟨a,b⟩
  rw [show (⟨(Lib.trimS s NCS).toArray⟩:ByteArray)=bs (Lib.trimS s NCS) from rfl,sEq0]
  have e:decide (Lib.trimS s NCS=[])=s.all (fun d=>isLt d.toNat || isDg d.toNat):=by
   rw [Bool.eq_iff_iff,decide_eq_true_iff,KHw,List.all_eq_true]
   exact ⟨fun h x hx=>by rw [← KGY]; exact h x hx,fun h x hx=>by rw [KGY]; exact h x hx⟩
  rw [e]; exact this
theorem KFH {s:List UInt8} {h:Heap} {Q:Bool→Heap→Prop} (H:∀ h',Ext h h'→Q (KGX s) h'):(Yn (bs s)).wp h Q:=by
 unfold Yn
 rw [sEq0,ZH]
 refine KMA ?_
 cases s with
 | nil =>
  rw [decide_eq_true (show ([]:List UInt8)=[]∨((([]:List UInt8).length:Int) > 24) from .inl rfl)]
  exact Xk rfl (ZY (iteT rfl (KG (H _ (Ext.refl _)))))
 | cons c r =>
  by_cases hl:(c::r).length≤24
  ·rw [decide_eq_false (show ¬ (c::r=[]∨(((c::r).length:Int) > 24)) from fun h=>by rcases h with h | h; cases h; omega)]
   refine Xl rfl (ZG (Nj (i:=0) rfl (by simp) ?_))
   rw [show (c::r)[0]=c from rfl]
   have key:∀ b:Bool,b=isDg c.toNat→((M.ite b (M.pure false) (Uq (bs (c::r)) (⟨#[97,98,99,100,101,102,103,104,105,106,107,108,109,110,111,112,113,114,115,116,117,118,119,120,121,122,65,66,67,68,69,70,71,72,73,74,75,76,77,78,79,80,81,82,83,84,85,86,87,88,89,90,48,49,50,51,52,53,54,55,56,57,95]⟩:ByteArray)>>=fun x=>M.pure (sEq x ByteArray.empty)):M Bool)).wp h Q:=by
    intro b hb
    simp only [Yy] at H
    rw [decide_eq_true hl] at H
    simp only [Bool.true_and] at H
    by_cases hd:isDg c.toNat=true
    ·refine iteT (hb.trans hd) (KG ?_)
     have:=H h (Ext.refl _)
     rw [show isLt c.toNat=false by unfold isDg at hd; unfold isLt; have:=of_decide_eq_true hd; exact decide_eq_false (by omega),Bool.false_and] at this
     exact this
    ·refine iteF (hb.trans (by simpa using hd)) (KJo (by simp) hl (fun h' e=>?_))
     have:=H h' e
     by_cases hlt:isLt c.toNat=true
     ·rw [hlt,Bool.true_and] at this; exact this
     ·have h1:isLt c.toNat=false:=by simpa using hlt
      have h2:isDg c.toNat=false:=by simpa using hd
      rw [h1,Bool.false_and] at this
      rw [List.all_cons,h1,h2,Bool.or_false,Bool.false_and]
      exact this
   by_cases hge:(c.toNat:Int) ≥ 48
   ·refine ZG (Xk (decide_eq_true hge) (ZG (Nj (i:=0) rfl (by simp) (ZY (ZY (key _ ?_))))))
    rw [show (c::r)[0]=c from rfl]
    unfold isDg
    exact decide_eq_decide.2 (by omega)
   ·refine ZG (Xl (decide_eq_false hge) (ZY (ZY (key _ ?_))))
    unfold isDg
    exact (decide_eq_false (by omega)).symm
  ·rw [decide_eq_true (show (c::r=[]∨(((c::r).length:Int) > 24)) from .inr (by omega))]
   refine Xk rfl (ZY (iteT rfl (KG ?_)))
   have:=H _ (Ext.refl _)
   rw [Yy,decide_eq_false hl] at this
   exact this
end Gx
namespace Gx
open Go
set_option linter.unusedVariables false
set_option linter.unusedSimpArgs false
theorem KLK {s:List UInt8} {a b:Nat}:(bs s).extract a b=bs ((s.drop a).take (b - a)):=by
 apply ByteArray.ext
 simp [bs,ByteArray.extract,ByteArray.copySlice]
theorem KGZ {β:Type} {h:Heap} {Q:β→Heap→Prop} {s:List UInt8} {a b:Nat} {lo hi:Int} {f:ByteArray→M β} (hl:lo=(a:Int)) (hh:hi=(b:Int)) (h1:a≤b) (h2:b≤s.length) (H:(f (bs ((s.drop a).take (b - a)))).wp h Q):(slS (bs s) lo hi>>=f).wp h Q:=by
 subst hl; subst hh
 exact ⟨bs ((s.drop a).take (b - a)),⟨by omega,by omega,by rw [ZH]; omega,by rw [show ((a:Int)).toNat=a from rfl,show ((b:Int)).toNat=b from rfl,KLK]⟩,H⟩
end Gx
namespace Gx
open Go
set_option linter.unusedVariables false
set_option linter.unusedSimpArgs false
set_option maxRecDepth 100000
def KHx:List UInt8:=[46,40,41,44,91,93,123,125,58,61,59]
def zq (c:UInt8):Bool:=KHx.contains c
def letB (c:UInt8):Bool:=isLt c.toNat
def Gv (c:UInt8):Bool:=isLt c.toNat || isDg c.toNat
def UX (s:List UInt8):Nat:=(s.takeWhile Gv).length
theorem Nn (s:List UInt8):UX s≤s.length:=List.Sublist.length_le (List.takeWhile_sublist _)
theorem KDa (c:UInt8) (s:List UInt8):UX (c::s)=if Gv c=true then UX s+1 else 0:=by
 unfold UX
 by_cases h:Gv c=true
 ·rw [List.takeWhile_cons_of_pos h,if_pos h,List.length_cons]
 ·rw [List.takeWhile_cons_of_neg h,if_neg h]; rfl
def WN (s:List UInt8):Nat→Nat→Nat
 | 0,_=>0
 | f+1,i=>if i < s.length then (if KO s i=92 then WN s f (i+2) else if KO s i=39 then i+1 else WN s f (i+1)) else 0
def Yh (s:List UInt8):Nat:=WN s (s.length+1) 1
theorem GC (s:List UInt8):∀ f i,WN s f i≤s.length
 | 0,_=>Nat.zero_le _
 | f+1,i=>by
  rw [WN]
  split
  ·split
   ·exact GC s f _
   ·split
    ·omega
    ·exact GC s f _
  ·exact Nat.zero_le _
theorem KJp {s:List UInt8} {i:Nat} (hi:i < s.length):KO s i=s[i]:=by
 unfold KO; rw [List.getElem?_eq_getElem hi]; rfl
theorem KHy:∀ c:UInt8,decide (Lib.indexByte KHx c ≥ 0)=zq c:=by
 intro c
 have hk:∀ n,n < 256→decide (Lib.indexByte KHx (UInt8.ofNat n) ≥ 0)=zq (UInt8.ofNat n):=by decide +kernel
 have:=hk c.toNat c.toNat_lt
 rwa [UInt8.ofNat_toNat] at this
theorem zr {c:UInt8} {h:Heap} {Q:Bool→Heap→Prop} (H:Q (zq c) h):(Wp (c.toNat:Int)).wp h Q:=by
 unfold Wp Za K0
 refine KN (KG (KG ?_))
 rw [show ((c.toNat:Int)).toNat.toUInt8=c by simp,show (⟨#[46,40,41,44,91,93,123,125,58,61,59]⟩:ByteArray).data.toList=KHx from rfl,KHy]
 exact H
theorem No {c:UInt8} {h:Heap} {Q:Bool→Heap→Prop} (H:Q (letB c) h):(Ur (c.toNat:Int)).wp h Q:=by
 unfold Ur
 refine XM (c:=decide ((c.toNat:Int)≤122)) (fun _ Q' hq=>KG hq) ?_
 refine or_b (c:=decide ((c.toNat:Int) ≥ 65) && decide ((c.toNat:Int)≤90)) (fun _ Q' hq=>XM (c:=decide ((c.toNat:Int)≤90)) (fun _ Q'' hq2=>KG hq2) (KG hq)) ?_
 refine or_b (c:=decide ((c.toNat:Int)=95)) (fun _ Q' hq=>KG (by rw [eqI]; exact hq)) (KG ?_)
 have:(decide ((c.toNat:Int) ≥ 97) && decide ((c.toNat:Int)≤122) || (decide ((c.toNat:Int) ≥ 65) && decide ((c.toNat:Int)≤90)) || decide ((c.toNat:Int)=95))=letB c:=by
  unfold letB isLt
  rw [← Bool.decide_and,← Bool.decide_and,← Bool.decide_or,← Bool.decide_or]
  exact decide_eq_decide.2 (by omega)
 rw [this]
 exact H
theorem KDb {c:UInt8} {h:Heap} {Q:Bool→Heap→Prop} (H:Q (Gv c) h):(Yq (c.toNat:Int)).wp h Q:=by
 unfold Yq
 refine KN (No ?_)
 refine or_b (c:=decide ((c.toNat:Int) ≥ 48) && decide ((c.toNat:Int)≤57)) (fun _ Q' hq=>XM (c:=decide ((c.toNat:Int)≤57)) (fun _ Q'' hq2=>KG hq2) (KG hq)) (KG ?_)
 have:(letB c || (decide ((c.toNat:Int) ≥ 48) && decide ((c.toNat:Int)≤57)))=Gv c:=by
  unfold letB Gv isDg
  rw [← Bool.decide_and]
  congr 1
  exact decide_eq_decide.2 (by omega)
 rw [this]
 exact H
theorem qG {s:List UInt8} {a:Nat} {t:Int} {h:Heap} {Q:Int→Heap→Prop} (ht:t=(a:Int)) (ha:a≤s.length) (hs:s.length≤1099511627776) (H:Q (UX (s.drop a):Int) h):(YD (bs s) t).wp h Q:=by
 subst ht
 unfold YD
 refine M.loop_inv (fun (z:Int) hh=>∃ i:Nat,z=(i:Int)∧hh=h∧a≤i∧i≤s.length∧UX (s.drop a)=(i - a)+UX (s.drop i)) (fun z _=>((s.length:Int) - z).toNat) ?_ ⟨a,rfl,rfl,Nat.le_refl _,ha,by omega⟩
 rintro z hh ⟨i,rfl,rfl,hai,hi,hw⟩ self hself
 unfold Xx
 rw [ZH]
 by_cases hlt:i < s.length
 ·refine Xk (decide_eq_true (by omega)) (ZG (Nj (i:=i) rfl hlt (ZG (KN (KDb (ZY ?_))))))
  rw [List.drop_eq_getElem_cons hlt,KDa] at hw
  refine Ki (fun hc=>?_) (fun hc=>KG ?_)
  ·rw [if_pos hc] at hw
   rw [w64 (by omega) (by omega)]
   exact hself _ _ ⟨i+1,by simp,rfl,by omega,hlt,by omega⟩ (by omega)
  ·rw [if_neg (by rw [hc]; decide)] at hw
   rw [w64 (by omega) (by omega),show (i:Int) - (a:Int)=(UX (s.drop a):Int) by omega]
   exact H
 ·refine Xl (decide_eq_false (by omega)) (ZY (iteF rfl (KG ?_)))
  have hi':i=s.length:=by omega
  subst hi'
  rw [List.drop_length] at hw
  have hw:UX (s.drop a)=(s.length - a):=hw
  rw [w64 (by omega) (by omega),show (s.length:Int) - (a:Int)=(UX (s.drop a):Int) by omega]
  exact H
theorem KDc {s:List UInt8} {h:Heap} {Q:Int→Heap→Prop} (hs:s.length≤1099511627776) (H:Q (Yh s:Int) h):(Yr (bs s)).wp h Q:=by
 unfold Yr
 refine M.loop_inv (fun (z:Int) hh=>∃ i f:Nat,z=(i:Int)∧hh=h∧i≤s.length+2∧s.length≤f+i∧Yh s=WN s (f+1) i) (fun z _=>((s.length:Int)+3 - z).toNat) ?_ ⟨1,s.length,rfl,rfl,by omega,by omega,rfl⟩
 rintro z hh ⟨i,f,rfl,rfl,hi,hf,hc⟩ self hself
 unfold XK
 dsimp only
 rw [ZH]
 rw [WN] at hc
 refine Ki (fun hlt=>?_) (fun hge=>KG ?_)
 ·have hlt:i < s.length:=by have:=of_decide_eq_true hlt; omega
  rw [if_pos hlt,KJp hlt] at hc
  obtain ⟨f,rfl⟩:∃ g,f=g+1:=⟨f - 1,by omega⟩
  refine Nj (i:=i) rfl hlt ?_
  rw [u8_c (d:=92) (n:=92) rfl,u8_c (d:=39) (n:=39) rfl]
  unfold We
  refine Ki (fun h1=>?_) (fun h1=>Ki (fun h2=>KG ?_) (fun h2=>?_))
  ·rw [if_pos (of_decide_eq_true h1)] at hc
   rw [show IntKind.wrap .i64 ((i:Int)+1)=(i:Int)+1 from w64 (by omega) (by omega),w64 (by omega) (by omega)]
   exact hself _ _ ⟨i+2,f,by push_cast; omega,rfl,by omega,by omega,hc⟩ (by omega)
  ·rw [if_neg (of_decide_eq_false h1),if_pos (of_decide_eq_true h2)] at hc
   rw [w64 (by omega) (by omega),show (i:Int)+1=(Yh s:Int) by rw [hc]; rfl]
   exact H
  ·rw [if_neg (of_decide_eq_false h1),if_neg (of_decide_eq_false h2)] at hc
   rw [w64 (by omega) (by omega)]
   exact hself _ _ ⟨i+1,f,by simp,rfl,by omega,by omega,hc⟩ (by omega)
 ·rw [if_neg (by have:=of_decide_eq_false hge; omega)] at hc
  rw [hc] at H
  exact H
structure Tkn where
 k:Int
 s:List UInt8
 n:Int
 a:Int
def Tkn.cells (t:Tkn):Array Value:=#[.int .i64 t.k,.string (bs t.s),.int .i64 t.n,.int .i64 t.a]
def tkn0:Tkn:=⟨0,[],0,0⟩
def oneW (er kk k:Int) (t:Tkn) (n:Nat):Tkn × Nat:=if er≠0∨kk≠k then (tkn0,0) else (t,n)
def oneV (k:Int) (s:List UInt8) (n:Nat) (t:Vl→Tkn):Tkn × Nat:=oneW (JB (s.take n)).2.2 (JB (s.take n)).1.k k (t (JB (s.take n)).1) n
def oneP:List UInt8→Tkn × Nat
 | []=>(tkn0,0)
 | c::r =>
  if zq c=true then (⟨4,[c],0,0⟩,1) else if letB c=true then (⟨1,(c::r).take (UX (c::r)),0,0⟩,UX (c::r))
  else if c=39 then oneV 2 (c::r) (Yh (c::r)) (fun v=>⟨3,v.s,0,0⟩)
  else oneV 1 (c::r) (if c=45 then 1+UX r else UX (c::r)) (fun v=>⟨2,[],v.n,0⟩)
theorem VD (c:UInt8) (r:List UInt8):oneP (c::r)=(if zq c=true then (⟨4,[c],0,0⟩,1) else if letB c=true then (⟨1,(c::r).take (UX (c::r)),0,0⟩,UX (c::r))
  else if c=39 then oneV 2 (c::r) (Yh (c::r)) (fun v=>⟨3,v.s,0,0⟩)
  else oneV 1 (c::r) (if c=45 then 1+UX r else UX (c::r)) (fun v=>⟨2,[],v.n,0⟩)):=rfl
end Gx
namespace Gx
open Go
set_option linter.unusedVariables false
set_option linter.unusedSimpArgs false
set_option maxRecDepth 100000
theorem YV (t:Tkn):∀ u ∈ t.cells.toList,one u=true:=by
 intro u hu
 simp only [Tkn.cells,List.mem_cons,List.not_mem_nil,or_false] at hu
 rcases hu with rfl | rfl | rfl | rfl <;> rfl
theorem Np {β:Type} {h:Heap} {Q:β→Heap→Prop} {b:Nat} {t0 t:Tkn} {ty:TypeId} {f:Array Value→M β} (g:h[b]?=some (.cells t0.cells ty (0,0)))
  (H:∀ h',Upd b h h'→(f t.cells).wp h' Q):(M.need (t.cells.size=4)>>=fun _=>stG ⟨b,0,none⟩ t.cells>>=fun _=>ldG 4 ⟨b,0,none⟩>>=f).wp h Q:=by
 refine J6 rfl (stR g (Nat.le_refl 4) (YV t) (fun h' u g'=>?_))
 rw [ZW (cs:=t0.cells) (vs:=t.cells.toList) rfl,Array.toArray_toList] at g'
 exact ldR g' rfl (H h' u)
theorem KCl {s:List UInt8} {n:Nat} {b:Nat} {h h0:Heap} {Q:Array Value × Int→Heap→Prop} {t:Int} (ht:t=(n:Int)) (hn:n≤s.length) (hs:s.length≤1099511627776) (he:ErrV h) (E:Ext h0 h) (hb0:h0.size≤b) (g:h[b]?=some (.cells tkn0.cells KR (0,0)))
  (H:∀ h',Ext h0 h'→Q ((oneV 1 s n (fun v=>⟨2,[],v.n,0⟩)).1.cells,((oneV 1 s n (fun v=>⟨2,[],v.n,0⟩)).2:Int)) h'):(Ys (bs s) ⟨b,0,none⟩ t).wp h Q:=by
 subst ht
 unfold Ys
 refine KGZ (a:=0) (b:=n) rfl rfl (Nat.zero_le _) hn ?_
 rw [List.drop_zero,Nat.sub_zero]
 refine KN (zn (by rw [List.length_take]; omega) he (fun h2 c e2 V2=>?_))
 dsimp only
 refine JM (fun h3 e3 s3 g3=>J6 V2.size (stR g3 (by rw [V2.size]; exact Nat.le_refl 4) V2.to.one (fun h4 u4 g4=>?_)))
 rw [ZW (cs:=vz) (vs:=c.toList) (by rw [Array.length_toList,V2.size]; rfl),Array.toArray_toList] at g4
 have e4:Ext h h4:=(e2.trans e3).upd u4 e2.size
 obtain ⟨v,hv⟩:∃ v,v=(JB (s.take n)).1:=⟨_,rfl⟩
 obtain ⟨er,her⟩:∃ er,er=(JB (s.take n)).2.2:=⟨_,rfl⟩
 unfold oneV at H
 rw [← hv] at V2 H
 rw [← her] at H ⊢
 obtain ⟨k,nn,ss,l⟩:=v
 dsimp only [Vl.k,Vl.n,Vl.s] at H
 unfold oneW at H
 obtain ⟨x,rfl,_⟩:=JN.eq.1 V2
 refine or_b (c:=decide (k≠1)) (fun _ Q' hq=>Zp (n:=k) (by rw [Kj,KL g4]; rfl) (KG (by rw [bne,eqI,← decide_not]; exact hq))) ?_
 rw [show (er != 0 || decide (k≠1))=decide (er≠0∨k≠1) by rw [bne,eqI,← decide_not,← Bool.decide_or]]
 have gb:=e4.blk g
 have E4:=E.trans e4
 refine Ki (fun hc=>?_) (fun hc=>?_)
 ·rw [if_pos (of_decide_eq_true hc)] at H
  exact Np (t0:=tkn0) (t:=tkn0) gb (fun h5 u5=>KG (H _ (E4.upd u5 hb0)))
 ·rw [if_neg (of_decide_eq_false hc)] at H
  refine Zp (n:=nn) (by rw [Kj,KL g4]; rfl) ?_
  exact Np (t0:=tkn0) (t:=⟨2,[],nn,0⟩) gb (fun h5 u5=>KG (H _ (E4.upd u5 hb0)))
theorem KEL {s:List UInt8} {h:Heap} {Q:Array Value × Int→Heap→Prop} (h0:s≠[]) (hs:s.length≤1099511627776) (he:ErrV h)
  (H:∀ h',Ext h h'→Q ((oneP s).1.cells,((oneP s).2:Int)) h'):(zb (bs s)).wp h Q:=by
 obtain ⟨c,r,rfl⟩:=List.exists_cons_of_ne_nil h0
 unfold zb
 refine JM (fun h1 e1 s1 g1=>?_)
 have hl:=Nn (c::r)
 refine Nj (i:=0) rfl (by simp) ?_
 rw [show (c::r)[0]=c from rfl]
 refine KN (zr ?_)
 rw [VD] at H
 refine Ki (fun hm=>?_) (fun hm=>?_)
 ·rw [if_pos hm] at H
  refine KGZ (a:=0) (b:=1) rfl rfl (Nat.zero_le _) (by simp) ?_
  exact Np (t0:=tkn0) (t:=⟨4,[c],0,0⟩) g1 (fun h5 u5=>KG (H _ (e1.upd u5 (Nat.le_refl _))))
 rw [if_neg (by rw [hm]; decide)] at H
 refine KN (No ?_)
 refine Ki (fun hlt=>?_) (fun hlt=>?_)
 ·rw [if_pos hlt] at H
  refine KN (qG (a:=0) rfl (Nat.zero_le _) hs ?_)
  rw [List.drop_zero]
  refine KGZ (a:=0) (b:=UX (c::r)) rfl rfl (Nat.zero_le _) hl ?_
  rw [List.drop_zero,Nat.sub_zero]
  exact Np (t0:=tkn0) (t:=⟨1,(c::r).take (UX (c::r)),0,0⟩) g1 (fun h5 u5=>KG (H _ (e1.upd u5 (Nat.le_refl _))))
 rw [if_neg (by rw [hlt]; decide)] at H
 rw [u8_c (d:=39) (n:=39) rfl]
 refine Ki (fun h39=>?_) (fun h39=>?_)
 ·rw [if_pos (of_decide_eq_true h39)] at H
  have hcl:Yh (c::r)≤(c::r).length:=GC _ _ _
  refine KN (KDc hs ?_)
  refine KGZ (a:=0) (b:=Yh (c::r)) rfl rfl (Nat.zero_le _) hcl ?_
  rw [List.drop_zero,Nat.sub_zero]
  generalize Yh (c::r)=n at hcl H ⊢
  refine KN (zn (by rw [List.length_take]; omega) (he.ext e1) (fun h2 c2 e2 V2=>?_))
  dsimp only
  refine JM (fun h3 e3 s3 g3=>J6 V2.size (stR g3 (by rw [V2.size]; exact Nat.le_refl 4) V2.to.one (fun h4 u4 g4=>?_)))
  rw [ZW (cs:=vz) (vs:=c2.toList) (by rw [Array.length_toList,V2.size]; rfl),Array.toArray_toList] at g4
  have e4:Ext h1 h4:=(e2.trans e3).upd u4 e2.size
  obtain ⟨v,hv⟩:∃ v,v=(JB ((c::r).take n)).1:=⟨_,rfl⟩
  obtain ⟨er,her⟩:∃ er,er=(JB ((c::r).take n)).2.2:=⟨_,rfl⟩
  unfold oneV at H
  rw [← hv] at V2 H
  rw [← her] at H ⊢
  obtain ⟨k,nn,ss,l⟩:=v
  dsimp only [Vl.k,Vl.n,Vl.s] at H
  unfold oneW at H
  obtain ⟨x,rfl,_⟩:=JN.eq.1 V2
  refine or_b (c:=decide (k≠2)) (fun _ Q' hq=>Zp (n:=k) (by rw [Kj,KL g4]; rfl) (KG (by rw [bne,eqI,← decide_not]; exact hq))) ?_
  rw [show (er != 0 || decide (k≠2))=decide (er≠0∨k≠2) by rw [bne,eqI,← decide_not,← Bool.decide_or]]
  have gb:=e4.blk g1
  have E4:=e1.trans e4
  refine Ki (fun hc=>?_) (fun hc=>?_)
  ·rw [if_pos (of_decide_eq_true hc)] at H
   exact Np (t0:=tkn0) (t:=tkn0) gb (fun h5 u5=>KG (H _ (E4.upd u5 (Nat.le_refl _))))
  ·rw [if_neg (of_decide_eq_false hc)] at H
   refine Vg (n:=bs ss) (by rw [Kj,KL g4]; rfl) ?_
   exact Np (t0:=tkn0) (t:=⟨3,ss,0,0⟩) gb (fun h5 u5=>KG (H _ (E4.upd u5 (Nat.le_refl _))))
 ·rw [if_neg (of_decide_eq_false h39)] at H
  refine KN (qG (a:=0) rfl (Nat.zero_le _) hs ?_)
  rw [List.drop_zero]
  refine Nj (i:=0) rfl (by simp) ?_
  rw [show (c::r)[0]=c from rfl,u8_c (d:=45) (n:=45) rfl]
  have hr:=Nn r
  have hlc:(c::r).length=r.length+1:=rfl
  refine Ki (fun h45=>?_) (fun h45=>?_)
  ·rw [if_pos (of_decide_eq_true h45)] at H
   refine KN (qG (a:=1) rfl (by simp) hs ?_)
   rw [show (c::r).drop 1=r from rfl,w64 (by omega) (by omega)]
   exact KCl (n:=1+UX r) (by push_cast; rfl) (by omega) hs (he.ext e1) e1 (Nat.le_refl _) g1 H
  ·rw [if_neg (of_decide_eq_false h45)] at H
   exact KCl rfl hl hs (he.ext e1) e1 (Nat.le_refl _) g1 H
def KJq:List UInt8→Bool
 | [c]=>zq c
 | _=>false
def tokB (t:Tkn):Bool:=!(decide (t.a < 0) || (decide (t.n≠0) && decide (t.k≠2))) && (if t.k=1 then KGX t.s else if t.k=2 then decide (t.s=[]) else if t.k=3 then decide (t.s.length≤128) else if t.k=4 then KJq t.s else false)
def tokE (t:Tkn):Int:=if tokB t=true then 0 else 150
theorem XO {t:Tkn} {h:Heap} {Q:Int→Heap→Prop} (H:∀ h',Ext h h'→Q (tokE t) h'):(U1 t.cells).wp h Q:=by
 unfold U1
 refine JM (fun h1 e1 s1 g1=>?_)
 obtain ⟨k,s,n,a⟩:=t
 have cA:KM h1 ((⟨h.size,0,none⟩:Addr).add 3)=some (.int .i64 a):=by rw [Kj,KL g1]; rfl
 have cN:KM h1 ((⟨h.size,0,none⟩:Addr).add 2)=some (.int .i64 n):=by rw [Kj,KL g1]; rfl
 have cS:KM h1 ((⟨h.size,0,none⟩:Addr).add 1)=some (.string (bs s)):=by rw [Kj,KL g1]; rfl
 have cK:KM h1 ((⟨h.size,0,none⟩:Addr).add 0)=some (.int .i64 k):=by rw [add_zero,KL g1]; rfl
 refine Zp cA ?_
 refine or_b (c:=decide (n≠0) && decide (k≠2)) (fun _ Q' hq=>Zp cN (by
  rw [bne,eqI,← decide_not]
  exact XM (c:=decide (k≠2)) (fun _ Q2 hq2=>Zp cK (KG (by rw [bne,eqI,← decide_not]; exact hq2))) (KG hq))) ?_
 have bad:∀ {h2:Heap},Ext h h2→tokB ⟨k,s,n,a⟩=false→Q 150 h2:=fun {h2} e2 hf=>by
  have:=H _ e2
  unfold tokE at this
  rw [hf] at this
  exact this
 refine Ki (fun hc=>KG (bad e1 ?_)) (fun hc=>?_)
 ·unfold tokB
  dsimp only
  rw [hc]; rfl
 have fin:∀ {b:Bool} {h2:Heap},Ext h h2→tokB ⟨k,s,n,a⟩=b→(Jy b).wp h2 Q:=fun {b h2} e2 hb=>by
  unfold Jy
  cases b with
  | true =>
   refine iteF rfl (KG ?_)
   have:=H _ e2
   unfold tokE at this
   rw [hb] at this
   exact this
  | false=>exact iteT rfl (KG (bad e2 hb))
 have hT:tokB ⟨k,s,n,a⟩=(if k=1 then KGX s else if k=2 then decide (s=[]) else if k=3 then decide (s.length≤128) else if k=4 then KJq s else false):=by
  unfold tokB
  dsimp only
  rw [hc]; rfl
 refine Zp cK ?_
 rw [eqI,eqI,eqI,eqI]
 refine Ki (fun k1=>?_) (fun k1=>?_)
 ·rw [if_pos (of_decide_eq_true k1)] at hT
  exact Vg cS (KN (KFH (fun h2 e2=>fin (e1.trans e2) hT)))
 rw [if_neg (of_decide_eq_false k1)] at hT
 refine Ki (fun k2=>?_) (fun k2=>?_)
 ·rw [if_pos (of_decide_eq_true k2)] at hT
  refine Vg cS ?_
  rw [sEq0]
  exact fin e1 hT
 rw [if_neg (of_decide_eq_false k2)] at hT
 refine Ki (fun k3=>?_) (fun k3=>?_)
 ·rw [if_pos (of_decide_eq_true k3)] at hT
  refine Vg cS (fin e1 ?_)
  rw [hT,ZH]
  exact decide_eq_decide.2 (by omega)
 rw [if_neg (of_decide_eq_false k3)] at hT
 refine Ki (fun k4=>?_) (fun k4=>?_)
 ·rw [if_pos (of_decide_eq_true k4)] at hT
  refine Vg cS ?_
  rw [ZH]
  match s,hT with
  | [],hT=>exact Xl rfl (ZY (fin e1 hT))
  | [c],hT =>
   refine Xk rfl (ZG (Vg cS (ZG (Nj (i:=0) rfl (by simp) (ZG (KN (zr (ZY (fin e1 hT)))))))))
  | c::d::r,hT =>
   refine Xl ?_ (ZY (fin e1 hT))
   rw [eqI]
   exact decide_eq_false (by simp only [List.length_cons]; omega)
 ·rw [if_neg (of_decide_eq_false k4)] at hT
  exact fin e1 hT
end Gx
namespace Gx
open Go
set_option linter.unusedVariables false
set_option linter.unusedSimpArgs false
set_option maxRecDepth 100000
def VE (c:UInt8):Bool:=decide (c=32∨c=10)
def JC (s:List UInt8) (a:Nat):Nat:=a+((s.drop a).takeWhile VE).length
theorem qq {s:List UInt8} {a:Nat} (ha:a≤s.length):a≤JC s a∧JC s a≤s.length:=by
 have:((s.drop a).takeWhile VE).length≤(s.drop a).length:=List.Sublist.length_le (List.takeWhile_sublist _)
 rw [List.length_drop] at this
 unfold JC
 omega
theorem zt {s:List UInt8} {a:Nat} (ha:s.length≤a):JC s a=a:=by
 unfold JC
 rw [List.drop_eq_nil_iff.2 ha]; rfl
theorem KFI {s:List UInt8} {a:Nat} (ha:a < s.length):JC s a=if VE s[a]=true then JC s (a+1) else a:=by
 unfold JC
 rw [List.drop_eq_getElem_cons ha]
 by_cases h:VE s[a]=true
 ·rw [List.takeWhile_cons_of_pos h,if_pos h,List.length_cons]; omega
 ·rw [List.takeWhile_cons_of_neg h,if_neg h]; rfl
def V5 (s:List UInt8) (a:Nat):Obj:=.cells #[.string (bs s),.int .i64 (a:Int)] GU (0,0)
def scN:Option Value→Nat
 | some (.int _ n)=>n.toNat
 | _=>0
def scAt (b:Nat) (h:Heap):Nat:=scN (KM h ⟨b,1,none⟩)
theorem KBe {h:Heap} {b a:Nat} {s:List UInt8} (g:h[b]?=some (V5 s a)):scAt b h=a:=by
 unfold V5 at g
 unfold scAt; rw [KL g]; rfl
theorem zu {h:Heap} {b a:Nat} {s:List UInt8} (g:h[b]?=some (V5 s a)):KM h ((⟨b,0,none⟩:Addr).add 0)=some (.string (bs s)):=by
 rw [add_zero]; unfold V5 at g; rw [KL g]; rfl
theorem ql {h:Heap} {b a:Nat} {s:List UInt8} (g:h[b]?=some (V5 s a)):KM h ((⟨b,0,none⟩:Addr).add 1)=some (.int .i64 (a:Int)):=by
 rw [Kj]; unfold V5 at g; rw [KL g]; rfl
theorem KIk {h:Heap} {b a c:Nat} {s:List UInt8} (g:h[b]?=some (V5 s a)):(hset h ⟨b,0+1,none⟩ (.int .i64 (c:Int)))[b]?=some (V5 s c):=by
 unfold V5 at g ⊢
 rw [Uv (h:=h) g]
 rfl
theorem zw {s:List UInt8} {b a:Nat} {h:Heap} {Q:Bool→Heap→Prop} (g:h[b]?=some (V5 s a)) (ha:a≤s.length) (hs:s.length≤1099511627776)
  (H:∀ h',Upd b h h'→h'[b]?=some (V5 s (JC s a))→Q (decide (JC s a < s.length)) h'):(Jg (some ⟨b,0,none⟩)).wp h Q:=by
 unfold Jg
 refine M.loop_inv (fun (_:Unit) hh=>∃ i:Nat,a≤i∧i≤s.length∧JC s a=JC s i∧(Upd b h hh∨hh=h)∧hh[b]?=some (V5 s i)) (fun _ hh=>s.length - scAt b hh) ?_ ⟨a,Nat.le_refl _,ha,rfl,.inr rfl,g⟩
 rintro ⟨⟩ hh ⟨i,hai,hi,hsk,hu,gi⟩ self hself
 have upd:∀ h',Upd b hh h'→Upd b h h':=fun h' u=>by
  rcases hu with hu | rfl
  ·exact ⟨by rw [u.size,hu.size],fun k hk=>(u.ne k hk).trans (hu.ne k hk)⟩
  ·exact u
 have hud:Upd b h hh:=by
  rcases hu with hu | rfl
  ·exact hu
  ·exact ⟨rfl,fun _ _=>rfl⟩
 unfold US
 refine ZK (ZK (Zp (ql gi) (Vg (zu gi) ?_)))
 rw [ZH]
 have fin:JC s i=i→(Z7 (some ⟨b,0,none⟩)).wp hh Q:=fun he=>by
  unfold Z7
  refine ZK (ZK (Zp (ql gi) (Vg (zu gi) (KG ?_))))
  have:=H hh hud (by rw [hsk,he]; exact gi)
  rw [hsk,he] at this
  rw [ZH,show decide ((i:Int) < (s.length:Int))=decide (i < s.length) from decide_eq_decide.2 (by omega)]
  exact this
 refine Ki (fun hlt=>?_) (fun hge=>fin (zt (by have:=of_decide_eq_false hge; omega)))
 have hlt:i < s.length:=by have:=of_decide_eq_true hlt; omega
 refine ZK (ZK (Vg (zu gi) (Zp (ql gi) (Nj (i:=i) rfl hlt ?_))))
 have hst:=KFI hlt
 rw [u8_c (d:=32) (n:=32) rfl,u8_c (d:=10) (n:=10) rfl]
 have j2:∀ t:Bool,t=VE s[i]→(Z8 self (some ⟨b,0,none⟩) t).wp hh Q:=fun t ht=>by
  unfold Z8
  refine Ki (fun hc=>?_) (fun hc=>fin ?_)
  ·rw [← ht,hc,if_pos rfl] at hst
   refine ZK (Zp (ql gi) (ZK (GY (ql gi) (by rw [Kj]; unfold V5 at gi; exact K9 gi) rfl ?_)))
   rw [w64 (by omega) (by omega),Kj,show (i:Int)+1=((i+1:Nat):Int) by simp]
   have u:=Upd.hset hh b (0+1) (.int .i64 ((i+1:Nat):Int))
   have g':=KIk (c:=i+1) gi
   refine hself _ _ ⟨i+1,by omega,hlt,by rw [hsk,hst],.inl (upd _ u),g'⟩ ?_
   rw [KBe g',KBe gi]
   omega
  ·rw [← ht,hc,if_neg (by decide)] at hst
   exact hst
 refine Ki (fun hc=>j2 _ ?_) (fun hc=>j2 _ ?_)
 ·rw [hc]; unfold VE; exact (decide_eq_true (.inl (of_decide_eq_true hc))).symm
 ·unfold VE
  exact decide_eq_decide.2 ⟨.inr,fun h=>h.resolve_left (of_decide_eq_false hc)⟩
end Gx
namespace Gx
open Go
set_option linter.unusedVariables false
set_option linter.unusedSimpArgs false
set_option maxRecDepth 100000
theorem KGa {k:Int} {s:List UInt8} {n:Nat} {t:Vl→Tkn} (hn:n≤s.length):(oneV k s n t).2≤s.length:=by
 unfold oneV oneW
 split
 ·exact Nat.zero_le _
 ·exact hn
theorem KDd:∀ s:List UInt8,(oneP s).2≤s.length
 | []=>Nat.le_refl _
 | c::r=>by
  rw [VD]
  have h1:=Nn (c::r)
  have h2:=Nn r
  have h3:(c::r).length=r.length+1:=rfl
  split
  ·show 1≤_; omega
  split
  ·exact h1
  split
  ·exact KGa (GC _ _ _)
  ·exact KGa (by split <;> omega)
def Yz (s:List UInt8) (a:Nat):Option (Tkn × Nat) :=
 if JC s a < s.length then
  (if (oneP (s.drop (JC s a))).2=0∨tokB { (oneP (s.drop (JC s a))).1 with a:=(JC s a:Int) }=false then none
   else some ({ (oneP (s.drop (JC s a))).1 with a:=(JC s a:Int) },JC s a+(oneP (s.drop (JC s a))).2))
 else none
theorem KBf (t:Tkn):(tokE t != 0)=!tokB t:=by
 unfold tokE
 cases tokB t <;> rfl
theorem KGb {s:List UInt8} {b a:Nat} {h:Heap} {Q:Array Value × Bool→Heap→Prop} (g:h[b]?=some (V5 s a)) (ha:a≤s.length) (hs:s.length≤1099511627776) (he:ErrV h) (hb:b≠gER)
  (H1:∀ h',Yz s a=none→Kb b h h'→h'[b]?=some (V5 s (JC s a))→Q (tkn0.cells,false) h')
  (H2:∀ h' t a',Yz s a=some (t,a')→a < a'→a'≤s.length→Kb b h h'→h'[b]?=some (V5 s a')→Q (t.cells,true) h'):(Jc (some ⟨b,0,none⟩)).wp h Q:=by
 unfold Jc
 have hbl:=Uj g
 have hsk:=qq ha
 refine JM (fun h1 e1 s1 g1=>?_)
 refine KN (zw (e1.blk g) ha hs (fun h2 u2 g2=>?_))
 have g1':h2[h.size]?=some (.cells tkn0.cells KR (0,0)):=(u2.ne _ (by omega)).trans g1
 have K2:Kb b h h2:=(Km.ext e1).trans (Km.upd u2 rfl)
 obtain ⟨p,hp⟩:∃ p,p=JC s a:=⟨_,rfl⟩
 unfold Yz at H1 H2
 rw [← hp] at H1 H2 g2 hsk ⊢
 refine Ki (fun hc=>?_) (fun hc=>?_)
 ·have hc:¬ p < s.length:=by simpa using hc
  rw [if_neg hc] at H1
  exact Np (t0:=tkn0) (t:=tkn0) g1' (fun h3 u3=>KG (H1 _ rfl (K2.own u3 (Nat.le_refl _)) ((u3.ne b (by omega)).trans g2)))
 ·have hc:p < s.length:=by simpa using hc
  rw [if_pos hc] at H1 H2
  refine ZK (ZK (Vg (zu g2) (Zp (ql g2) (KGZ (a:=p) (b:=s.length) rfl (by rw [ZH]) (by omega) (Nat.le_refl _) ?_))))
  rw [List.take_of_length_le (by rw [List.length_drop]; omega)]
  have hne:s.drop p≠[]:=fun e=>by have:=congrArg List.length e; rw [List.length_drop] at this; simp at this; omega
  have hdl:(s.drop p).length≤1099511627776:=by rw [List.length_drop]; omega
  have hol:=KDd (s.drop p)
  rw [List.length_drop] at hol
  have he2:ErrV h2:=he.km K2 hb
  obtain ⟨o,ho⟩:∃ o,o=oneP (s.drop p):=⟨_,rfl⟩
  rw [← ho] at H1 H2 hol
  have rest:∀ {h3:Heap} {q:Nat},Ext h2 h3→h2.size≤q→h3[q]?=some (.cells tkn0.cells KR (0,0))→(do
    M.need (o.1.cells.size=4)
    stG ⟨q,0,none⟩ o.1.cells
    let Xx22←nilP (some ⟨b,0,none⟩)
    let Xx23←ldI .i64 ((Xx22).add 1)
    stV ((⟨q,0,none⟩:Addr).add 3) (.int .i64 Xx23)
    let Xx27←M.ite ((o.2:Int) == 0) (do
     M.pure true
     ) (do
     let Xx28←ldG 4 ⟨q,0,none⟩
     let Xx29←U1 Xx28
     M.pure (Xx29 != 0)
     )
    M.ite Xx27 (do
     M.need ((#[.int .i64 0,.string ByteArray.empty,.int .i64 0,.int .i64 0]:Array Value).size=4)
     stG ⟨h.size,0,none⟩ (#[.int .i64 0,.string ByteArray.empty,.int .i64 0,.int .i64 0]:Array Value)
     let Rr32←ldG 4 ⟨h.size,0,none⟩
     M.pure (Rr32,false)
     ) (do
     let Xx34←nilP (some ⟨b,0,none⟩)
     let Xx35←ldI .i64 ((Xx34).add 1)
     let Xx36←nilP (some ⟨b,0,none⟩)
     stV ((Xx36).add 1) (.int .i64 (IntKind.wrap .i64 (Xx35+(o.2:Int))))
     let Xx39←ldG 4 ⟨q,0,none⟩
     M.need (Xx39.size=4)
     stG ⟨h.size,0,none⟩ Xx39
     let Rr41←ldG 4 ⟨h.size,0,none⟩
     M.pure (Rr41,true)
     ):M (Array Value × Bool)).wp h3 Q:=fun {h3 q} e3 hq g3=>by
   have hs3:=e3.size
   have hz2:=K2.size
   have hz1:=u2.size
   refine J6 rfl (stR g3 (Nat.le_refl 4) (YV _) (fun h4 u4 g4=>?_))
   rw [ZW (cs:=tkn0.cells) (vs:=o.1.cells.toList) rfl,Array.toArray_toList] at g4
   have gb4:h4[b]?=some (V5 s p):=(u4.ne b (by omega)).trans (e3.blk g2)
   refine ZK (Zp (ql gb4) (GY (x:=.int .i64 o.1.a) (by rw [Kj,KL g4]; rfl) (by rw [Kj]; exact K9 g4) rfl ?_))
   rw [Kj]
   have u5:=Upd.hset h4 q (0+3) (.int .i64 (p:Int))
   have g5:(hset h4 ⟨q,0+3,none⟩ (.int .i64 (p:Int)))[q]?=some (.cells (Tkn.cells { o.1 with a:=(p:Int) }) KR (0,0)):=by rw [Uv g4]; rfl
   generalize hset h4 ⟨q,0+3,none⟩ (.int .i64 (p:Int))=h5 at u5 g5 ⊢
   generalize ht:({ o.1 with a:=(p:Int) }:Tkn)=t at g5 H1 H2
   have gb5:h5[b]?=some (V5 s p):=(u5.ne b (by omega)).trans gb4
   have gz5:h5[h.size]?=some (.cells tkn0.cells KR (0,0)):=(u5.ne _ (by omega)).trans ((u4.ne _ (by omega)).trans (e3.blk g1'))
   have K5:Kb b h h5:=((K2.trans (Km.ext e3)).own u4 (by omega)).own u5 (by omega)
   have fin:∀ {h6:Heap} {c:Bool},Ext h5 h6→c=decide (o.2=0∨tokB t=false)→(M.ite c (do
     M.need ((#[.int .i64 0,.string ByteArray.empty,.int .i64 0,.int .i64 0]:Array Value).size=4)
     stG ⟨h.size,0,none⟩ (#[.int .i64 0,.string ByteArray.empty,.int .i64 0,.int .i64 0]:Array Value)
     let Rr32←ldG 4 ⟨h.size,0,none⟩
     M.pure (Rr32,false)
     ) (do
     let Xx34←nilP (some ⟨b,0,none⟩)
     let Xx35←ldI .i64 ((Xx34).add 1)
     let Xx36←nilP (some ⟨b,0,none⟩)
     stV ((Xx36).add 1) (.int .i64 (IntKind.wrap .i64 (Xx35+(o.2:Int))))
     let Xx39←ldG 4 ⟨q,0,none⟩
     M.need (Xx39.size=4)
     stG ⟨h.size,0,none⟩ Xx39
     let Rr41←ldG 4 ⟨h.size,0,none⟩
     M.pure (Rr41,true)
     ):M (Array Value × Bool)).wp h6 Q:=fun {h6 c} e6 hcc=>by
    have gb6:=e6.blk gb5
    have gz6:=e6.blk gz5
    have K6:Kb b h h6:=K5.trans (Km.ext e6)
    refine Ki (fun h0=>?_) (fun h0=>?_)
    ·rw [if_pos (of_decide_eq_true (hcc.symm.trans h0))] at H1
     exact Np (t0:=tkn0) (t:=tkn0) gz6 (fun h7 u7=>KG (H1 _ rfl (K6.own u7 (Nat.le_refl _)) ((u7.ne b (by omega)).trans gb6)))
    ·have hno:=of_decide_eq_false (hcc.symm.trans h0)
     rw [if_neg hno] at H2
     have ho0:o.2≠0:=fun e=>hno (.inl e)
     refine ZK (Zp (ql gb6) (ZK (GY (ql gb6) (by rw [Kj]; unfold V5 at gb6; exact K9 gb6) rfl ?_)))
     rw [w64 (by omega) (by omega),Kj,show (p:Int)+(o.2:Int)=((p+o.2:Nat):Int) by push_cast; rfl]
     have u7:=Upd.hset h6 b (0+1) (.int .i64 ((p+o.2:Nat):Int))
     have g7:=KIk (c:=p+o.2) gb6
     generalize hset h6 ⟨b,0+1,none⟩ (.int .i64 ((p+o.2:Nat):Int))=h7 at u7 g7 ⊢
     have gq7:=(u7.ne q (by omega)).trans (e6.blk g5)
     refine ldR gq7 rfl ?_
     exact Np (t0:=tkn0) (t:=t) ((u7.ne _ (by omega)).trans gz6) (fun h8 u8=>KG (H2 _ t _ rfl (by omega) (by omega) ((K6.trans (Km.upd u7 rfl)).own u8 (Nat.le_refl _)) ((u8.ne b (by omega)).trans g7)))
   refine KN (Ki (fun h0=>KG (fin (Ext.refl _) ?_)) (fun h0=>ldR g5 rfl (KN (XO (fun h6 e6=>KG (fin e6 ?_))))))
   ·rw [eqI] at h0
    have:=of_decide_eq_true h0
    exact (decide_eq_true (.inl (by omega))).symm
   ·rw [eqI] at h0
    have:=of_decide_eq_false h0
    have h1:¬ o.2=0:=by omega
    rw [KBf]
    cases tokB t with
    | true=>exact (decide_eq_false (fun h=>h.elim h1 (fun h=>by cases h))).symm
    | false=>exact (decide_eq_true (.inr rfl)).symm
  have ck:∀ {h':Heap},Ext h2 h'→KM h' ((⟨b,0,none⟩:Addr).add 0)=some (.string (bs s))∧KM h' ((⟨b,0,none⟩:Addr).add 1)=some (.int .i64 (p:Int)):=fun {h'} e=>⟨zu (e.blk g2),ql (e.blk g2)⟩
  refine KKm (KN (KN (KEL hne hdl he2 (fun h3 e3=>zJ (ck e3) (JM (fun h4 e4 s4 g4=>zJ (ck (e3.trans e4)) (KG ?_))))))) (KN (JM (fun h3 e3 s3 g3=>zJ (ck e3) (KN (KEL hne hdl (he2.ext e3) (fun h4 e4=>KG ?_))))))
  ·rw [← ho]
   exact rest (e3.trans e4) (by exact e3.size) g4
  ·rw [← ho]
   exact rest (e3.trans e4) (Nat.le_refl _) (e4.blk g3)
end Gx
namespace Gx
open Go
set_option linter.unusedVariables false
set_option linter.unusedSimpArgs false
theorem XP {s:List UInt8} {a a':Nat} {t:Tkn} (ha:a≤s.length) (h:Yz s a=some (t,a')):a < a'∧a'≤s.length:=by
 have hsk:=qq ha
 have hol:=KDd (s.drop (JC s a))
 rw [List.length_drop] at hol
 unfold Yz at h
 split at h
 ·split at h
  ·cases h
  ·rename_i h1
   cases h
   have:(oneP (s.drop (JC s a))).2≠0:=fun e=>h1 (.inl e)
   omega
 ·cases h
def allF (s:List UInt8):Nat→Nat→List Tkn × Nat
 | 0,a=>([],JC s a)
 | f+1,a=>match Yz s a with
  | none=>([],JC s a)
  | some (t,a')=>(t::(allF s f a').1,(allF s f a').2)
theorem KCm {s:List UInt8}:∀ (f g a:Nat),a≤s.length→s.length - a < f→s.length - a < g→allF s f a=allF s g a
 | 0,_,_,_,h,_=>by omega
 | _,0,_,_,_,h=>by omega
 | f+1,g+1,a,ha,h1,h2=>by
  rw [allF,allF]
  cases hn:Yz s a with
  | none=>rfl
  | some p =>
   obtain ⟨t,a'⟩:=p
   have:=XP ha hn
   dsimp only
   rw [KCm f g a' this.2 (by omega) (by omega)]
def allT (s:List UInt8) (a:Nat):List Tkn × Nat:=allF s (s.length - a+1) a
theorem Y0 {s:List UInt8} {a:Nat} (h:Yz s a=none):allT s a=([],JC s a):=by
 unfold allT
 rw [allF,h]
theorem Y1 {s:List UInt8} {a a':Nat} {t:Tkn} (ha:a≤s.length) (h:Yz s a=some (t,a')):allT s a=(t::(allT s a').1,(allT s a').2):=by
 have:=XP ha h
 unfold allT
 rw [allF,h]
 dsimp only
 rw [KCm (s.length - a) (s.length - a'+1) a' this.2 (by omega) (by omega)]
end Gx
namespace Gx
open Go
set_option linter.unusedVariables false
set_option linter.unusedSimpArgs false
set_option maxRecDepth 100000
theorem KMB {s:List UInt8} {b c a l:Nat} {Inv:Nat→Heap→Prop} {Stop:Heap→Prop} {h:Heap} (ha:a≤s.length) (hs:s.length≤1099511627776) (hb:b≠gER) (hU:∀ i h1 h2,Inv i h1→Kb b h1 h2→Inv i h2)
  (hC:∀ i h1,Inv i h1→ErrV h1∧h1[c]?=some (.cells #[.pointer (some ⟨b,0,none⟩)] WD (0,0))) (g:h[b]?=some (V5 s a)) (h0:Inv 0 h)
  (hround:∀ i (hi:i < (allT s a).1.length) h1,Inv i h1→(YM Go.Proofs.Tryz.prog (fun r:Bool=>.bool r) (yV l) [.agg (allT s a).1[i].cells]).wp h1 (fun r h2=>h2[b]?=h1[b]?∧(if r=true then Inv (i+1) h2 else Stop h2))) :
  (YM Go.Proofs.Tryz.prog (fun _:Unit=>.tuple #[]) (.func (.func Uf) #[] #[.pointer (some ⟨c,0,none⟩)]) [yV l]).wp h (fun _ h1=>(Inv (allT s a).1.length h1∧h1[b]?=some (V5 s (allT s a).2))∨Stop h1):=by
 refine KA0 GK (Gr (yV l) ⟨c,0,none⟩) ?_
 unfold Yt
 refine M.loop_inv (fun (_:Unit) hh=>∃ i a':Nat,a'≤s.length∧i≤(allT s a).1.length∧(allT s a).1.drop i=(allT s a').1∧(allT s a).2=(allT s a').2∧Inv i hh∧hh[b]?=some (V5 s a')) (fun _ hh=>s.length - scAt b hh) ?_ ⟨0,a,ha,Nat.zero_le _,rfl,rfl,h0,g⟩
 rintro ⟨⟩ hh ⟨i,a',ha',hi,hd,h2e,hI,gb⟩ self hself
 unfold Ui
 obtain ⟨he,hc⟩:=hC i hh hI
 refine KLs (n:=some ⟨b,0,none⟩) (by rw [KL hc]; rfl) (KN (KGb gb ha' hs he hb (fun h2 hn K2 g2=>?_) (fun h2 t a2 hn hlt hle K2 g2=>?_)))
 ·refine JM (fun h3 e3 s3 g3=>J6 rfl (stR g3 (Nat.le_refl 4) (YV tkn0) (fun h4 u4 g4=>Xk rfl (ZY (iteT rfl (KG (.inl ?_)))))))
  rw [Y0 hn] at hd h2e
  have hlen:i=(allT s a).1.length:=by
   have:=congrArg List.length hd
   rw [List.length_drop] at this
   simp only [List.length_nil] at this
   omega
  have K4:Kb b h2 h4:=(Km.ext e3).own u4 (Nat.le_refl _)
  rw [← hlen,h2e]
  exact ⟨hU _ _ _ hI (K2.trans K4),(u4.ne b (by have:=Uj g2; omega)).trans (e3.blk g2)⟩
 ·refine JM (fun h3 e3 s3 g3=>J6 rfl (stR g3 (Nat.le_refl 4) (YV t) (fun h4 u4 g4=>Xl rfl ?_)))
  have g4:h4[h2.size]?=some (.cells t.cells KR (0,0)):=by
   have e:lay tkn0.cells 0 t.cells.toList=t.cells:=by rw [ZW (cs:=tkn0.cells) (vs:=t.cells.toList) rfl,Array.toArray_toList]
   rw [← e]; exact g4
  rw [Y1 ha' hn] at hd h2e
  have hlt2:i < (allT s a).1.length:=by
   rcases Nat.lt_or_ge i (allT s a).1.length with h | h
   ·exact h
   ·rw [List.drop_eq_nil_iff.2 h] at hd; cases hd
  rw [List.drop_eq_getElem_cons hlt2] at hd
  obtain ⟨hd1,hd2⟩:=List.cons.inj hd
  have K4:Kb b h2 h4:=(Km.ext e3).own u4 (Nat.le_refl _)
  have gb4:h4[b]?=some (V5 s a2):=(u4.ne b (by have:=Uj g2; omega)).trans (e3.blk g2)
  have hr:=hround i hlt2 h4 (hU _ _ _ hI (K2.trans K4))
  rw [hd1] at hr
  refine ZG (ldR g4 rfl (ZG (KN ((YM _ _ _ _).mono ?_ hr))))
  rintro r h5 ⟨hk,hr5⟩
  refine ZY ?_
  cases r with
  | true =>
   rw [if_pos rfl] at hr5
   refine iteF rfl (hself _ _ ⟨i+1,a2,hle,hlt2,hd2,h2e,hr5,hk.trans gb4⟩ ?_)
   rw [KBe (hk.trans gb4),KBe gb]
   omega
  | false =>
   rw [if_neg (by decide)] at hr5
   exact iteT rfl (KG (.inr hr5))
end Gx
namespace Gx
open Go
set_option linter.unusedVariables false
set_option linter.unusedSimpArgs false
set_option maxRecDepth 100000
abbrev tokV (t:Tkn):List Value:=[.agg t.cells]
def SeqT (P:Program) (ts:List Tkn) (g:Value) (b:Nat) (C:Heap→Prop) (o:Obj) (End:Heap→Prop):Prop :=
 ∀ (l:Nat) (Inv:Nat→Heap→Prop) (Stop:Heap→Prop) (h:Heap),(∀ i h1 h2,Inv i h1→Kb b h1 h2→Inv i h2)→(∀ i h1,Inv i h1→C h1)→h[b]?=some o→Inv 0 h →
  (∀ i (hi:i < ts.length) h1,Inv i h1→(YM P (fun b:Bool=>.bool b) (yV l) (tokV ts[i])).wp h1 (fun r h2=>h2[b]?=h1[b]?∧(if r=true then Inv (i+1) h2 else Stop h2))) →
  (YM P (fun _:Unit=>.tuple #[]) g [yV l]).wp h (fun _ h1=>(Inv ts.length h1∧End h1)∨Stop h1)
theorem KGc {P:Program} {js:List Code} {Y:Nat→Array Value→M Nat} {Yb:Addr→M Nat} {r:Loop} {l:Nat} {t:Tkn}
  (hY:Y l t.cells=(mkB KR (#[.int .i64 0,.string ByteArray.empty,.int .i64 0,.int .i64 0]:Array Value)>>=fun a=>M.need (t.cells.size=4)>>=fun _=>stG a t.cells>>=fun _=>beg l>>=fun _=>Yb a))
  (hr:KDz P (fun x:Array Value=>[.agg x]) js Y r l) {c:Code} (hjs:js=[c]) {J J' E:Heap→Prop}
  (hJ:∀ h1 h2,J h1→Upd l h1 h2→J h2) (hJx:∀ h1 h2,J h1→Ext h1 h2→J h2) (hJ':∀ h1 h2,J' h1→Upd l h1 h2→J' h2) (hE:∀ h1 h2,E h1→Upd l h1 h2→E h2)
  (hbody:∀ h1 o n,J h1→h1[n]?=some (.cells t.cells KR (0,0))→h1[l]?=some o→l < n→(Yb ⟨n,0,none⟩).wp h1 (fun j h2=>h2[l]?=some o∧(j=0∧J' h2∨j=1∧E h2))) {h1:Heap} (h0:J h1) (hrec:h1[l]?=some (Y6 r .ready none)) :
  (YM P (fun b:Bool=>.bool b) (yV l) (tokV t)).wp h1 (fun b h2=>if b=true then (J' h2∧h2[l]?=some (Y6 r .ready none)) else (E h2∧h2[l]?=some (Y6 r .done (some c)))):=by
 refine hr t.cells h1 _ .ready none hrec ?_
 rw [hY]
 refine JM (fun h2 e2 s2 g2=>J6 rfl (stR g2 (Nat.le_refl 4) (YV t) (fun h3 u3 g3=>?_)))
 have g3:h3[h1.size]?=some (.cells t.cells KR (0,0)):=by
  have e:lay tkn0.cells 0 t.cells.toList=t.cells:=by rw [ZW (cs:=tkn0.cells) (vs:=t.cells.toList) rfl,Array.toArray_toList]
  rw [← e]; exact g3
 have e3:Ext h1 h3:=e2.upd u3 (Nat.le_refl _)
 have hl:=Uj hrec
 have hrec3:=e3.blk hrec
 refine ⟨{ r with state:=.ready,pending:=none },hrec3,rfl,?_⟩
 have hb:=KA8 (o':=Y6 r .busy none) hrec3
 refine (Yb ⟨h1.size,0,none⟩).mono ?_ (hbody _ _ h1.size (hJ _ _ (hJx _ _ h0 e3) (Upd.set_ h3 l (Y6 r .busy none))) (((Upd.set_ h3 l (Y6 r .busy none)).ne _ (by omega)).trans g3) hb (by omega))
 rintro j h4 ⟨h5,h6⟩
 refine ⟨.busy,none,h5,?_⟩
 rcases h6 with ⟨rfl,h6⟩ | ⟨rfl,h6⟩
 ·show if true=true then _ else _
  rw [if_pos rfl]
  exact ⟨hJ' _ _ h6 (Upd.set_ _ _ _),KA8 h5⟩
 ·subst hjs
  show if false=true then _ else _
  rw [if_neg (by simp)]
  exact ⟨hE _ _ h6 (Upd.set_ _ _ _),KA8 h5⟩
theorem KMC {P:Program} {js:List Code} {Y:Nat→Array Value→M Nat} {Yb:Addr→M Nat}
  (hY:∀ l (x:Array Value),Y l x=(mkB KR (#[.int .i64 0,.string ByteArray.empty,.int .i64 0,.int .i64 0]:Array Value)>>=fun a=>M.need (x.size=4)>>=fun _=>stG a x>>=fun _=>beg l>>=fun _=>Yb a))
  {c:Code} (hjs:js=[c]) {g:Value} (hg:∀ l,g≠.func (.yield l) #[] #[]) {h:Heap} {Q:Nat × Nat→Heap→Prop} {ts:List Tkn} {b:Nat} {o0:Obj} {C End:Heap→Prop}
  (J:Nat→Heap→Prop) (E:Heap→Prop) (hJ:∀ i h1 h2,J i h1→Upd (h.size+1) h1 h2→J i h2) (hE:∀ h1 h2,E h1→Upd (h.size+1) h1 h2→E h2) (hEnd:∀ h1 h2,End h1→Upd (h.size+1) h1 h2→End h2) (hJb:∀ i h1 h2,J i h1→h.size+2≤h1.size→Kb b h1 h2→J i h2) (hC:∀ i h1,J i h1→C h1)
  (hb:h[b]?=some o0) (hseq:SeqT P ts g b C o0 End) (h0:∀ r:Loop,J 0 ((h.push (.deferred (some []))).push (Y6 r .ready none)))
  (hbody:∀ i (hi:i < ts.length) h1 o n,J i h1→h1[n]?=some (.cells (ts[i]).cells KR (0,0))→h.size+2≤n→h1[h.size+1]?=some o→(Yb ⟨n,0,none⟩).wp h1 (fun j h2=>h2[h.size+1]?=some o∧h2[b]?=h1[b]?∧(j=0∧J (i+1) h2∨j=1∧E h2)))
  (hq0:∀ h1,J ts.length h1→End h1→Q (0,h.size) h1) (hq1:∀ h1,E h1→Q (1,h.size) h1):(rgF P (fun x:Array Value=>[.agg x]) js Y g).wp h Q:=by
 refine ⟨hg,fun r hr=>?_⟩
 have hbl:=Uj hb
 have hrec:((h.push (.deferred (some []))).push (Y6 r .ready none))[h.size+1]?=some (Y6 r .ready none):=by
  have:h.size+1=(h.push (.deferred (some []))).size:=by simp
  rw [this]; exact ZI
 refine (YM P _ _ _).mono ?_ (hseq (h.size+1) (fun i h1=>J i h1∧h1[h.size+1]?=some (Y6 r .ready none)) (fun h1=>E h1∧h1[h.size+1]?=some (Y6 r .done (some c))) _ (fun i h1 h2 hh u=>⟨hJb i h1 h2 hh.1 (Uj hh.2) u,(u.blk hh.2 (by omega))⟩) (fun i h1 hh=>hC i h1 hh.1)
  (by rw [VR (by simp; omega),VR hbl]; exact hb) ⟨h0 r,hrec⟩ (fun i hi h1 hh=>?_))
 ·rintro _ h1 (⟨⟨h2,h3⟩,h4⟩ | ⟨h2,h3⟩)
  ·exact ⟨.ready,0,by decide,h3,hq0 _ (hJ _ _ _ h2 (Upd.set_ _ _ _)) (hEnd _ _ h4 (Upd.set_ _ _ _))⟩
  ·subst hjs
   exact ⟨.done,1,by decide,h3,hq1 _ (hE _ _ h2 (Upd.set_ _ _ _))⟩
 ·have hz:=Uj hh.2
  have hbo:∃ o,h1[b]?=some o:=⟨_,Array.getElem?_eq_getElem (by omega)⟩
  obtain ⟨ob,hob⟩:=hbo
  refine (YM P _ _ _).mono ?_ (KGc (hY _ _) hr hjs (J:=fun h2=>J i h2∧h2[b]?=some ob∧h.size+2≤h2.size) (J':=fun h2=>J (i+1) h2∧h2[b]?=some ob) (E:=fun h2=>E h2∧h2[b]?=some ob) (fun h2 h3 hj u=>⟨hJ _ _ _ hj.1 u,(u.ne _ (by omega)).trans hj.2.1,by rw [u.size]; exact hj.2.2⟩) (fun h2 h3 hj e=>⟨hJb _ _ _ hj.1 hj.2.2 (Km.ext e),e.blk hj.2.1,by have:=e.size; omega⟩) (fun h2 h3 hj u=>⟨hJ _ _ _ hj.1 u,(u.ne _ (by omega)).trans hj.2⟩) (fun h2 h3 hj u=>⟨hE _ _ hj.1 u,(u.ne _ (by omega)).trans hj.2⟩) (fun h2 o n hj hn ho hnl=>?_) ⟨hh.1,hob,hz⟩ hh.2)
  ·rintro r' h2 hr'
   rw [hob]
   split at hr'
   ·rename_i hT; subst hT; exact ⟨hr'.1.2,by rw [if_pos rfl]; exact ⟨hr'.1.1,hr'.2⟩⟩
   ·rename_i hF; exact ⟨hr'.1.2,by rw [if_neg hF]; exact ⟨hr'.1.1,hr'.2⟩⟩
  ·refine (Yb _).mono ?_ (hbody i hi h2 o n hj.1 hn (by omega) ho)
   rintro j h3 ⟨h4,h5,h6⟩
   exact ⟨h4,h6.imp (fun h6=>⟨h6.1,h6.2,h5.trans hj.2.1⟩) (fun h6=>⟨h6.1,h6.2,h5.trans hj.2.1⟩)⟩
theorem oneC {h:Heap} {b:Nat} {v:Value} {t:TypeId} {z:Nat × Nat} (hb:h[b]?=some (.cells #[v] t z)):KM h ⟨b,0,none⟩=some v:=by rw [KL hb]; rfl
theorem stO {β:Type} {h:Heap} {Q:β→Heap→Prop} {b:Nat} {v u:Value} {t:TypeId} {f:Unit→M β} (g:h[b]?=some (.cells #[v] t (0,0))) (h1:one u=true)
  (H:∀ h',Upd b h h'→h'[b]?=some (.cells #[u] t (0,0))→(f ()).wp h' Q):(stV ⟨b,0,none⟩ u>>=f).wp h Q :=
 GY (oneC g) (K9 g) h1 (H _ (Upd.hset _ _ _ _) (by rw [Uv g]; rfl))
def tks (ts:List Tkn):List (Array Value):=ts.map Tkn.cells
theorem KFJ (ts:List Tkn):W4 (tks ts):=fun c hc=>by
 obtain ⟨t,_,rfl⟩:=List.mem_map.1 hc
 exact ⟨rfl,YV t⟩
theorem Gy (ts:List Tkn):(tks ts).length=ts.length:=List.length_map _
theorem KJr (a b:List Tkn):tks (a++b)=tks a++tks b:=List.map_append
def TkR (h:Heap) (x:Sl) (ts:List Tkn):Prop:=x.len=ts.length∧Xi h x.base (Vd (tks ts))
theorem TkR.ext {h h':Heap} {x:Sl} {ts:List Tkn} (H:TkR h x ts) (e:Ext h h'):TkR h' x ts:=⟨H.1,e.reads H.2⟩
theorem TkR.nil (h:Heap):TkR h Sl.nil []:=⟨rfl,.inl rfl⟩
theorem Gw.tkR {lo:Nat} {h:Heap} {r:Sl} {ts:List Tkn} (G:Gw lo h r 4 (Vd (tks ts))):TkR h r ts:=⟨by have:=G.len; rw [Vz (KFJ ts),Gy] at this; omega,G.reads⟩
theorem TkR.at {h:Heap} {x:Sl} {ts:List Tkn} (H:TkR h x ts) {i:Nat} (hi:i < ts.length):∃ a,x.base=some a∧∀ j,j < 4→KM h ((a.add (i * 4)).add j)=(ts[i]).cells[j]?:=by
 rcases H.2 with h0 | ⟨a,ha,hr⟩
 ·have:=congrArg List.length h0
  rw [Vz (KFJ ts),Gy] at this; simp at this; omega
 ·refine ⟨a,ha,fun j hj=>?_⟩
  rw [Addr.add_add]
  have h1:=Nk (KFJ ts) i j hj
  rw [List.getElem?_eq_getElem (l:=tks ts) (i:=i) (by rw [Gy]; exact hi),Option.bind_some] at h1
  have h2:(tks ts)[i]'(by rw [Gy]; exact hi)=(ts[i]).cells:=by simp [tks]
  rw [h2] at h1
  have h3:j < (ts[i]).cells.size:=hj
  rw [Array.getElem?_eq_getElem h3] at h1 ⊢
  exact hr _ _ h1
end Gx
namespace Gx
open Go Go.Proofs Go.Shelf Go.RowKit Go.Lib
set_option linter.unusedVariables false
set_option linter.unusedSimpArgs false
set_option maxRecDepth 100000
def dcv (acc:Nat) (l:List UInt8):Nat:=l.foldl (fun a c=>a * 10+(c.toNat - 48)) acc
theorem KGd (acc:Nat):dcv acc []=acc:=rfl
theorem KBg (acc:Nat) (c:UInt8) (r:List UInt8):dcv acc (c::r)=dcv (acc * 10+(c.toNat - 48)) r:=List.foldl_cons ..
theorem KEM (l:List UInt8) (acc:Nat) (c:UInt8):dcv acc (l++[c])=dcv acc l * 10+(c.toNat - 48):=by
 unfold dcv
 rw [List.foldl_append,List.foldl_cons,List.foldl_nil]
theorem KIl:∀ (l:List UInt8) (acc:Nat),acc≤dcv acc l
 | [],acc=>Nat.le_refl _
 | c::l,acc=>by rw [KBg]; have:=KIl l (acc * 10+(c.toNat - 48)); omega
theorem KEN {a b:List UInt8} (h:a≠[]):(a++b).head?=a.head?:=by cases a with | nil=>exact absurd rfl h | cons c r=>rfl
theorem XQ:∀ (m u:Nat),u < m→(decDigits u).all digB=true∧dcv 0 (decDigits u)=u∧decDigits u≠[]∧((decDigits u).head?=some 48→u=0):=by
 intro m
 induction m with
 | zero=>intro u h; omega
 | succ m ih =>
  intro u h
  have hd:∀ k,k < 10→digB (UInt8.ofNat (48+k))=true∧(UInt8.ofNat (48+k)).toNat=48+k:=fun k hk=>by
   have h1:(UInt8.ofNat (48+k)).toNat=48+k:=by
    rw [UInt8.toNat_ofNat']
    exact Nat.mod_eq_of_lt (by omega)
   exact ⟨by unfold digB; rw [h1,decide_eq_true (by omega),decide_eq_true (by omega)]; rfl,h1⟩
  rw [decDigits]
  by_cases h10:u < 10
  ·rw [dif_pos h10]
   obtain ⟨a,b⟩:=hd u h10
   refine ⟨by rw [List.all_cons,a]; rfl,?_,by simp,fun hh=>?_⟩
   ·rw [KBg,KGd,b]; omega
   ·have:UInt8.ofNat (48+u)=48:=by simpa using hh
    have h2:=congrArg UInt8.toNat this
    rw [b] at h2
    have:(48:UInt8).toNat=48:=rfl
    omega
  ·rw [dif_neg h10]
   obtain ⟨a1,a2,a3,a4⟩:=ih (u / 10) (by omega)
   obtain ⟨b1,b2⟩:=hd (u % 10) (Nat.mod_lt _ (by decide))
   refine ⟨by rw [List.all_append,a1,List.all_cons,b1]; rfl,?_,by simp,fun hh=>?_⟩
   ·rw [KEM,a2,b2]
    omega
   ·rw [KEN a3] at hh
    have:=a4 hh
    omega
theorem KGe:∀ (m:Nat) (l:List UInt8),l.length≤m→l≠[]→l.all digB=true→(l.head?=some 48→l=[48])→l=decDigits (dcv 0 l):=by
 intro m
 induction m with
 | zero=>intro l h hne; exact absurd (List.length_eq_zero_iff.1 (by omega)) hne
 | succ m ih =>
  intro l hl hne hd hz
  obtain ⟨a,c,rfl⟩:∃ a c,l=a++[c]:=⟨l.dropLast,l.getLast hne,(List.dropLast_concat_getLast hne).symm⟩
  rw [List.all_append,Bool.and_eq_true] at hd
  have hc:digB c=true:=by simpa using hd.2
  unfold digB at hc
  rw [Bool.and_eq_true,decide_eq_true_iff,decide_eq_true_iff] at hc
  have hcc:UInt8.ofNat (48+(c.toNat - 48))=c:=by
   rw [show 48+(c.toNat - 48)=c.toNat by omega,UInt8.ofNat_toNat]
  rw [KEM]
  by_cases ha:a=[]
  ·subst ha
   rw [KGd]
   rw [decDigits,dif_pos (by omega),Nat.zero_mul,Nat.zero_add,hcc]
   rfl
  ·rw [List.length_append,List.length_singleton] at hl
   have hh:a.head?=some 48→a=[48]:=fun h=>by
    have:=hz (by rw [KEN ha]; exact h)
    have hlen:=congrArg List.length this
    rw [List.length_append] at hlen
    simp at hlen
    exact absurd hlen ha
   have h1:=ih a (by omega) ha hd.1 hh
   have hpos:1≤dcv 0 a:=by
    by_cases h0:dcv 0 a=0
    ·rw [h0] at h1
     exfalso
     have hz0:decDigits 0=[48]:=by rw [decDigits,dif_pos (by decide)]; rfl
     rw [hz0] at h1
     have:=hz (by rw [h1]; rfl)
     rw [h1] at this
     simp at this
    ·omega
   rw [decDigits,dif_neg (by omega),show (dcv 0 a * 10+(c.toNat - 48)) / 10=dcv 0 a by omega,show (dcv 0 a * 10+(c.toNat - 48)) % 10=c.toNat - 48 by omega,hcc,← h1]
theorem qH (M:Nat):∀ (l:List UInt8) (acc u:Nat),parseUintM M acc l=.ok u→u=dcv acc l∧(acc≤M→u≤M)
 | [],acc,u,h=>by rw [parseUintM] at h; cases h; exact ⟨rfl,id⟩
 | c::r,acc,u,h=>by
  rw [parseUintM] at h
  split at h
  ·split at h
   ·cases h
   ·split at h
    ·cases h
    ·have:=qH M r _ _ h
     exact ⟨this.1,fun _=>this.2 (by omega)⟩
  ·cases h
theorem zx (M:Nat) (hM:M < 18446744073709551616):∀ (l:List UInt8) (acc:Nat),l.all digB=true→dcv acc l≤M→parseUintM M acc l=.ok (dcv acc l)
 | [],acc,_,_=>by rw [parseUintM]; rfl
 | c::r,acc,h,hv=>by
  rw [List.all_cons,Bool.and_eq_true] at h
  have hc:=h.1
  unfold digB at hc
  rw [Bool.and_eq_true,decide_eq_true_iff,decide_eq_true_iff] at hc
  rw [KBg] at hv
  have hge:=KIl r (acc * 10+(c.toNat - 48))
  rw [parseUintM,if_pos hc,if_neg (by omega),if_neg (by omega),zx M hM r _ h.2 hv]
  rfl
theorem KHz {l:List UInt8} (h:l.all digB=true):numD l=l:=by
 unfold numD
 rw [if_neg]
 intro hh
 cases l with
 | nil=>cases hh
 | cons c r =>
  rw [List.all_cons,Bool.and_eq_true] at h
  have:c=45:=by simpa using hh
  subst this
  exact absurd h.1 (by decide)
theorem zy {n:Int} (hn:I64 n):numP (itoa n)=(n,0):=by
 unfold I64 at hn
 have e63:(2:Nat) ^ (64 - 1)=9223372036854775808:=by decide
 have e64:(2:Nat) ^ 64 - 1=18446744073709551615:=by decide
 unfold itoa
 split
 ·rename_i hneg
  obtain ⟨a1,a2,a3,a4⟩:=XQ _ n.natAbs (Nat.lt_succ_self _)
  have hD:numD (45::decDigits n.natAbs)=decDigits n.natAbs:=rfl
  unfold numP
  rw [hD,if_neg a3,if_neg (by rw [a1]; decide),if_neg (fun hh=>by have:=a4 hh.1; omega)]
  have hp:parseIntB 64 (45::decDigits n.natAbs)=.ok n:=by
   unfold parseIntB
   dsimp only
   rw [if_pos (by right; rfl)]
   unfold parseUintB
   rw [if_neg a3,e64,zx _ (by decide) _ _ a1 (by rw [a2]; omega),a2,e63]
   have h45:(45:UInt8).toNat=45:=rfl
   dsimp only
   rw [if_neg (fun hh=>hh.1 h45),if_neg (fun hh=>by have:=hh.2; omega),if_pos h45]
   congr 1
   omega
  rw [hp]
 ·rename_i hpos
  obtain ⟨a1,a2,a3,a4⟩:=XQ _ n.toNat (Nat.lt_succ_self _)
  unfold numP
  rw [KHz a1,if_neg a3,if_neg (by rw [a1]; decide),if_neg (fun hh=>by
   have h0:=a4 hh.1
   rw [h0] at hh
   exact hh.2 (by rw [decDigits,dif_pos (by decide)]; rfl))]
  have hp:parseIntB 64 (decDigits n.toNat)=.ok n:=by
   cases hdd:decDigits n.toNat with
   | nil=>exact absurd hdd a3
   | cons c r =>
    rw [hdd] at a1 a2 a3
    have hc:digB c=true:=by rw [List.all_cons,Bool.and_eq_true] at a1; exact a1.1
    unfold digB at hc
    rw [Bool.and_eq_true,decide_eq_true_iff,decide_eq_true_iff] at hc
    unfold parseIntB
    dsimp only
    rw [if_neg (by omega)]
    unfold parseUintB
    rw [if_neg a3,e64,zx _ (by decide) _ _ a1 (by rw [a2]; omega),a2,e63]
    dsimp only
    rw [if_neg (fun hh=>by have:=hh.2; omega),if_neg (fun hh=>by have:=hh.1; omega),if_neg (by omega)]
    congr 1
    omega
  rw [hp]
theorem KGf {t:List UInt8} {n:Int} (h:numP t=(n,0)):t=itoa n:=by
 have e63:(2:Nat) ^ (64 - 1)=9223372036854775808:=by decide
 unfold numP at h
 split at h
 ·cases h
 rename_i h1
 split at h
 ·cases h
 rename_i h2
 split at h
 ·cases h
 rename_i h3
 have h2:(numD t).all digB=true:=by
  cases hh:(numD t).all digB with
  | true=>rfl
  | false=>exact absurd hh h2
 split at h
 ·rename_i m hm
  cases h
  cases t with
  | nil=>exact absurd rfl h1
  | cons c r =>
   unfold parseIntB at hm
   dsimp only at hm
   by_cases h45:c=45
   ·subst h45
    have hD:numD (45::r)=r:=rfl
    rw [hD] at h1 h2 h3
    rw [if_pos (by right; rfl)] at hm
    unfold parseUintB at hm
    rw [if_neg h1] at hm
    split at hm
    ·cases hm
    ·cases hm
    ·rename_i u hu
     have hv:=(qH _ _ _ _ hu).1
     have hr:r=decDigits u:=by
      rw [hv]
      exact KGe _ r (Nat.le_refl _) h1 h2 (fun hh=>absurd ⟨hh,by simp⟩ h3)
     have h45':(45:UInt8).toNat=45:=rfl
     rw [if_neg (fun hh=>hh.1 h45'),e63] at hm
     split at hm
     ·cases hm
     ·cases hm
      have hu0:u≠0:=fun e=>by
       subst e
       have hz:r=[48]:=by rw [hr,decDigits,dif_pos (by decide)]; rfl
       exact h3 ⟨by rw [hz]; rfl,by simp⟩
      unfold itoa
      rw [if_pos (by omega),show (-(u:Int)).natAbs=u by omega,← hr]
   ·have hD:numD (c::r)=c::r:=by unfold numD; rw [List.head?_cons,if_neg (by simpa using h45)]
    rw [hD] at h1 h2 h3
    have hc:digB c=true:=by rw [List.all_cons,Bool.and_eq_true] at h2; exact h2.1
    unfold digB at hc
    rw [Bool.and_eq_true,decide_eq_true_iff,decide_eq_true_iff] at hc
    rw [if_neg (by omega)] at hm
    unfold parseUintB at hm
    rw [if_neg h1] at hm
    split at hm
    ·cases hm
    ·cases hm
    ·rename_i u hu
     have hv:=(qH _ _ _ _ hu).1
     have hr:c::r=decDigits u:=by
      rw [hv]
      refine KGe _ _ (Nat.le_refl _) h1 h2 (fun hh=>?_)
      by_cases he:c::r=[48]
      ·exact he
      ·exact absurd ⟨hh,he⟩ h3
     split at hm
     ·cases hm
     ·split at hm
      ·cases hm
      ·rw [if_neg (by omega)] at hm
       cases hm
       unfold itoa
       rw [if_neg (by omega),Int.toNat_natCast,← hr]
 ·cases h
end Gx
namespace Gx
open Go
set_option linter.unusedVariables false
set_option linter.unusedSimpArgs false
def hexc (n:Nat):UInt8:=if n < 10 then UInt8.ofNat (48+n) else UInt8.ofNat (87+n)
theorem KH0:∀ n,n < 16→([48,49,50,51,52,53,54,55,56,57,97,98,99,100,101,102,103,104,105,106,107,108,109,110,111,112,113,114,115,116,117,118,119,120,121,122]:List UInt8)[n]?=some (hexc n):=by decide
theorem KLL {β:Type} {h:Heap} {Q:β→Heap→Prop} {l:List UInt8} {i:Nat} {t:Int} {c:UInt8} {f:Int→M β} (ht:t=(i:Int)) (hi:l[i]?=some c) (H:(f (c.toNat:Int)).wp h Q):(ixS (bs l) t>>=f).wp h Q:=by
 obtain ⟨h1,rfl⟩:=List.getElem?_eq_some_iff.1 hi
 exact Nj ht h1 H
theorem KMD {β:Type} {h:Heap} {Q:β→Heap→Prop} {b i:Nat} {t:TypeId} {l:List UInt8} {c:UInt8} {f:Unit→M β} (hb:BB h b t l) (hi:i < l.length)
  (H:∀ h',BB h' b t (l.set i c)→Upd b h h'→(f ()).wp h' Q):(stV ⟨b,i,none⟩ (.int .u8 (c.toNat:Int))>>=f).wp h Q :=
 GY (hb.cell hi) (hb.frozen i) (KKr c) (H _ (hb.set i c) (Upd.hset _ _ _ _))
theorem KH1:(⟨#[48,49,50,51,52,53,54,55,56,57,97,98,99,100,101,102,103,104,105,106,107,108,109,110,111,112,113,114,115,116,117,118,119,120,121,122]⟩:ByteArray)=bs [48,49,50,51,52,53,54,55,56,57,97,98,99,100,101,102,103,104,105,106,107,108,109,110,111,112,113,114,115,116,117,118,119,120,121,122]:=rfl
theorem N1.ext {h h':Heap} (H:N1 h) (e:Ext h h'):N1 h':=by
 obtain ⟨cs,ty,fz,h1,h2⟩:=H
 exact ⟨cs,ty,fz,e.blk h1,h2⟩
theorem XV.ext {h h':Heap} (H:XV h) (e:Ext h h'):XV h':=by
 obtain ⟨fz,ty,h1⟩:=H
 exact ⟨fz,ty,e.blk h1⟩
theorem KFK {n:Nat} (hn:n < 16) {h:Heap} {Q:ByteArray→Heap→Prop} (hd:N1 h) (H:∀ h',Ext h h'→Q (bs [hexc n]) h'):(JZ (n:Int) 16).wp h Q:=by
 unfold JZ
 refine iteF (by decide) (KN ?_)
 have w1:IntKind.wrap .u64 (n:Int)=(n:Int):=by rw [IntKind.wrap_u64]; omega
 rw [w1,show decide ((n:Int) < 0)=false by simp]
 unfold Zj
 refine Xl (by decide) (ZY (Xl (by decide) (ZY (iteF (by decide) (KJM (iteF rfl ?_))))))
 have e1:=Ext.push h (.cells (Array.replicate 65 (.int .u8 0)) VU)
 have g1:(h.push (.cells (Array.replicate 65 (.int .u8 0)) VU))[h.size]?=some (.cells (Array.replicate 65 (.int .u8 0)) VU (0,0)):=ZI
 generalize h.push (.cells (Array.replicate 65 (.int .u8 0)) VU)=h1 at e1 g1 ⊢
 unfold ZR ZX
 refine ZY (iteT (by decide) ?_)
 unfold JQ Z5
 obtain ⟨cs,ty,fz,d1,d2⟩:=hd.ext e1
 refine KN (Xl (by decide) (KKo (by decide) (by decide) (Zp (n:=4) ?_ (ZY (KG ?_)))))
 ·rw [show ((iShr .u64 (IntKind.wrap .u64 ((iAnd .u64 (IntKind.wrap .u64 16) (IntKind.wrap .u64 (0 - (IntKind.wrap .u64 16)))) * 285870213051353865)) 58).toNat * 1)=15 by decide,Kj,KL d1]
  exact d2
 have b1:BB h1 h.size VU (List.replicate 65 0):=by
  unfold BB
  rw [g1]
  rfl
 refine M.loop_inv (fun (t:Int × Int) h'=>h'=h1∧t=((n:Int),65)) (fun _ _=>0) ?_ ⟨rfl,rfl⟩
 rintro t h' ⟨rfl,rfl⟩ self hself
 unfold Z9
 refine iteF (by simp [IntKind.wrap_u64]; omega) ?_
 rw [KH1]
 refine KLL rfl (KH0 n hn) (KKo (by decide) (by decide) ?_)
 rw [show (IntKind.wrap .i64 (65 - 1)).toNat * 1=64 by decide,Kj,Nat.zero_add]
 refine KMD b1 (by decide) (fun h2 b2 u2=>?_)
 unfold ZQ ZP
 refine iteF rfl (iteF rfl (KLu (by decide) (by decide) (by decide) ?_))
 rw [show (IntKind.wrap .i64 (65 - 1)).toNat=64 by decide,if_neg (by decide),Kj]
 refine KKq (ns:=[hexc n]) rfl ?_ (KG (KG (H _ (e1.upd u2 (Nat.le_refl _)))))
 have:=(b2.bys 64 1 1 (by simp)).at_
 exact this
end Gx
namespace Gx
open Go
set_option linter.unusedVariables false
set_option linter.unusedSimpArgs false
theorem qI {n:Int} {h:Heap} {Q:ByteArray→Heap→Prop} (hn:I64 n) (hp:XV h) (H:∀ h',Ext h h'→Q (bs (Lib.itoa n)) h'):(XH n).wp h Q:=by
 unfold XH Zb
 refine KN (KN (qv (N0 n) ⟨hn.1,hn.2,hp,fun h' h1 h2=>KG (KG (H _ ⟨h1,h2⟩))⟩))
theorem KGg {β:Type} {n:Nat} (hn:n < 16) {t:Int} (ht:t=(n:Int)) {h:Heap} {Q:β→Heap→Prop} {f:ByteArray→M β} (hd:N1 h) (H:∀ h',Ext h h'→(f (bs [hexc n])).wp h' Q):(Zb t 16>>=f).wp h Q:=by
 subst ht
 unfold Zb
 exact KN (KN (qv (Wl _ _) (KFK hn hd (fun h' e=>KG (H _ e)))))
def qc (c:UInt8):List UInt8:=if c < 32∨126 < c then [92,120,hexc (c.toNat / 16),hexc (c.toNat % 16)] else if c=39∨c=92 then [92,c] else [c]
def JV (s:List UInt8):List UInt8:=39::s.flatMap qc++[39]
theorem KME (c:UInt8):(qc c).length≤4:=by unfold qc; split <;> (try split) <;> simp
structure BW (h0:Heap) (b c:Nat) (o:Obj) (h:Heap) (r:Sl) (l:List UInt8):Prop where
 bld:Bld h0.size h b r l
 ext:Ext h0 h
 blk:h[c]?=some o
 off:¬ Sl.on r c
 ne:c≠b
theorem BW.keep {h0 h h':Heap} {b c:Nat} {o:Obj} {r r':Sl} {l l':List UInt8} (W:BW h0 b c o h r l) (B:Bld h0.size h' b r' l') (K:BKeep b r r' h h'):BW h0 b c o h' r' l' :=
 ⟨B,K.ext W.ext W.bld (Nat.le_refl _),(K.same c (Uj W.blk) W.ne W.off).trans W.blk,fun ho=>(K.on_ c ho).elim W.off (fun h=>by have:=Uj W.blk; omega),W.ne⟩
theorem BW.more {h0 h h':Heap} {b c:Nat} {o:Obj} {r:Sl} {l:List UInt8} (W:BW h0 b c o h r l) (e:Ext h h'):BW h0 b c o h' r l :=
 ⟨W.bld.ext e,W.ext.trans e,e.blk W.blk,W.off,W.ne⟩
theorem KLM (c:UInt8):iShr .u8 (c.toNat:Int) 4=((c.toNat / 16:Nat):Int):=by
 have h:(c.toNat:Int).fdiv 16=((c.toNat / 16:Nat):Int):=by
  rw [Int.fdiv_eq_ediv_of_nonneg _ (by decide)]; rfl
 exact h
set_option maxRecDepth 100000 in
theorem KLN:∀ c:UInt8,iAnd .u8 (c.toNat:Int) 15=((c.toNat % 16:Nat):Int):=by
 intro c
 have hk:∀ n,n < 256→iAnd .u8 ((n:Nat):Int) 15=((n % 16:Nat):Int):=by decide
 exact hk c.toNat c.toNat_lt
theorem KGh {l:List UInt8} {i:Nat} (hi:i < l.length) (f:UInt8→List UInt8):(l.take (i+1)).flatMap f=(l.take i).flatMap f++f l[i]:=by
 rw [KFw hi,List.flatMap_append]; simp
theorem KDe {s:List UInt8} {h:Heap} {Q:ByteArray→Heap→Prop} (hs:(JV s).length≤140737488355328) (hd:N1 h) (H:∀ h',Ext h h'→Q (bs (JV s)) h'):(W9 (bs s)).wp h Q:=by
 unfold W9
 refine JM (fun h1 e1 z1 g1=>?_)
 have B1:=Bld.new (Nat.le_refl _) g1
 refine KN (Ws (c:=39) B1 (by omega) (by simp) rfl (fun h2 r2 B2 K2=>?_))
 refine fun cap hcap mk hmk=>?_
 have e3:=Ext.push h2 (.cells ((Zi (bs s)).toArray++Array.replicate (cap - (bs s).size) (.int .u8 0)) Kp mk)
 have g3:(h2.push (.cells ((Zi (bs s)).toArray++Array.replicate (cap - (bs s).size) (.int .u8 0)) Kp mk))[h2.size]?=some (.cells ((Zi (bs s)).toArray++Array.replicate (cap - (bs s).size) (.int .u8 0)) Kp mk):=ZI
 generalize h2.push (.cells ((Zi (bs s)).toArray++Array.replicate (cap - (bs s).size) (.int .u8 0)) Kp mk)=h3 at e3 g3 ⊢
 have hlt:=B2.lt
 have W3:BW h h.size h2.size _ h3 r2 [39]:=⟨B2.ext e3,(K2.ext e1 B1 (Nat.le_refl _)).trans e3,g3,fun ho=>by have:=(B2.row.lt ho).1; omega,by omega⟩
 rw [ZH]
 have hq:(JV s).length=(s.flatMap qc).length+2:=by simp [JV]
 have hsl:s.length≤(s.flatMap qc).length:=by
  rw [List.length_flatMap]
  clear hs H hcap W3 g3 e3 hq K2 B2 hlt
  induction s with
  | nil=>simp
  | cons a s ih=>rw [List.map_cons,List.sum_cons,List.length_cons]; have:1≤(qc a).length:=by { unfold qc; split <;> (try split) <;> simp }; omega
 have hpre:∀ i,((s.take i).flatMap qc).length≤(s.flatMap qc).length:=fun i=>by
  conv=>rhs; rw [← List.take_append_drop i s,List.flatMap_append,List.length_append]
  omega
 refine M.loop_inv (fun (t:Int) h'=>∃ i:Nat,t=(i:Int)∧i≤s.length∧∃ r,BW h h.size h2.size (.cells ((Zi (bs s)).toArray++Array.replicate (cap - (bs s).size) (.int .u8 0)) Kp mk) h' r (39::(s.take i).flatMap qc)) (fun t _=>((s.length:Int) - t).toNat) ?_ ⟨0,rfl,Nat.zero_le _,r2,W3⟩
 rintro t h' ⟨i,rfl,hi,r,W⟩ self hself
 unfold Yc
 have hpi:=hpre i
 refine Ki (fun hc=>?_) (fun hc=>?_)
 ·have hlt':i < s.length:=by have:=of_decide_eq_true hc; dsimp only at this; omega
  have hpj:=hpre (i+1)
  have htk:=KGh hlt' qc
  have cell:KM h' ((⟨h2.size,0,none⟩:Addr).add ((i:Int).toNat * 1))=some (.int .u8 (s[i].toNat:Int)):=by
   rw [Kj,KL W.blk,show 0+(i:Int).toNat * 1=i by omega,Array.getElem?_append_left (by rw [zo]; simpa using hlt')]
   simp [zo,hlt',bv]
  refine Yk (by omega) (by show (i:Int) < (s.length:Int); omega) rfl (Zp cell ?_)
  have hw64:IntKind.wrap .i64 ((i:Int)+1)=((i+1:Nat):Int):=by rw [w64 (by omega) (by omega)]; simp
  have hnext:∀ {h4:Heap} {r4:Sl},BW h h.size h2.size (.cells ((Zi (bs s)).toArray++Array.replicate (cap - (bs s).size) (.int .u8 0)) Kp mk) h4 r4 (39::(s.take (i+1)).flatMap qc)→(UB self (i:Int)).wp h4 Q:=fun W4=>by
   unfold UB
   rw [hw64]
   exact hself _ _ ⟨i+1,rfl,by omega,_,W4⟩ (by omega)
  rw [htk] at hnext hpj
  have c32:(decide ((s[i].toNat:Int) < 32))=decide (s[i] < 32):=by rw [Bool.eq_iff_iff]; simp [KCe]
  have c126:(decide ((s[i].toNat:Int) > 126))=decide (126 < s[i]):=by rw [Bool.eq_iff_iff]; simp [KCe]
  refine or_b (c:=decide (126 < s[i])) (fun _ Q' hq'=>KG (by rw [c126]; exact hq')) ?_
  rw [c32]
  have hlo:h.size≤h'.size:=W.ext.size
  refine Ki (fun hx=>?_) (fun hx=>?_)
  ·have hx':s[i] < 32∨126 < s[i]:=by simpa using hx
   have hqc:qc s[i]=[92,120,hexc (s[i].toNat / 16),hexc (s[i].toNat % 16)]:=by unfold qc; rw [if_pos hx']
   rw [hqc] at hnext hpj
   simp only [List.length_append,List.length_cons,List.length_nil] at hpj
   have hdiv:s[i].toNat / 16 < 16:=by have:=s[i].toNat_lt; omega
   refine KN (YK (s:=[92,120]) W.bld hlo (by simp only [List.length_cons,List.length_append,List.length_nil]; omega) (fun h4 r4 n4 B4 K4=>?_))
   have W4:=W.keep B4 K4
   refine KGg hdiv (by rw [KLM,w64 (by omega) (by omega)]) (hd.ext W4.ext) (fun h5 e5=>?_)
   have W5:=W4.more e5
   refine KN (YK W5.bld W5.ext.size (by simp only [List.length_cons,List.length_append,List.length_nil]; omega) (fun h6 r6 n6 B6 K6=>?_))
   have W6:=W5.keep B6 K6
   refine KGg (Nat.mod_lt _ (by decide)) (by rw [KLN,w64 (by omega) (by omega)]) (hd.ext W6.ext) (fun h7 e7=>?_)
   have W7:=W6.more e7
   refine KN (YK W7.bld W7.ext.size (by simp only [List.length_cons,List.length_append,List.length_nil]; omega) (fun h8 r8 n8 B8 K8=>?_))
   exact hnext (by have:=W7.keep B8 K8; simpa using this)
  ·have hx':¬ (s[i] < 32∨126 < s[i]):=by simpa using hx
   have c39:((s[i].toNat:Int) == 39)=decide (s[i]=39):=by
    rw [Bool.eq_iff_iff]; simp only [beq_iff_eq,decide_eq_true_eq]
    exact ⟨fun e=>UInt8.toNat_inj.1 (by simpa using (by omega:s[i].toNat=39)),fun e=>by rw [e]; rfl⟩
   have c92:((s[i].toNat:Int) == 92)=decide (s[i]=92):=by
    rw [Bool.eq_iff_iff]; simp only [beq_iff_eq,decide_eq_true_eq]
    exact ⟨fun e=>UInt8.toNat_inj.1 (by simpa using (by omega:s[i].toNat=92)),fun e=>by rw [e]; rfl⟩
   refine or_b (c:=decide (s[i]=92)) (fun _ Q' hq'=>KG (by rw [c92]; exact hq')) ?_
   rw [c39]
   refine Ki (fun hy=>?_) (fun hy=>?_)
   ·have hy':s[i]=39∨s[i]=92:=by simpa using hy
    have hqc:qc s[i]=[92,s[i]]:=by unfold qc; rw [if_neg hx',if_pos hy']
    rw [hqc] at hnext hpj
    simp only [List.length_append,List.length_cons,List.length_nil] at hpj
    refine KN (Ws (c:=92) W.bld hlo (by simp only [List.length_cons,List.length_append,List.length_nil]; omega) rfl (fun h4 r4 B4 K4=>?_))
    have W4:=W.keep B4 K4
    refine KN (Ws (c:=s[i]) W4.bld W4.ext.size (by simp only [List.length_cons,List.length_append,List.length_nil]; omega) rfl (fun h5 r5 B5 K5=>?_))
    exact hnext (by have:=W4.keep B5 K5; simpa using this)
   ·have hy':¬ (s[i]=39∨s[i]=92):=by simpa using hy
    have hqc:qc s[i]=[s[i]]:=by unfold qc; rw [if_neg hx',if_neg hy']
    rw [hqc] at hnext hpj
    simp only [List.length_append,List.length_cons,List.length_nil] at hpj
    refine KN (Ws (c:=s[i]) W.bld hlo (by simp only [List.length_cons,List.length_append,List.length_nil]; omega) rfl (fun h4 r4 B4 K4=>?_))
    exact hnext (by have:=W.keep B4 K4; simpa using this)
 ·have hge:i=s.length:=by have:=of_decide_eq_false hc; dsimp only at this; omega
  subst hge
  rw [List.take_length] at W
  refine KN (Ws (c:=39) W.bld W.ext.size (by simp only [List.length_cons,List.length_append,List.length_nil]; omega) rfl (fun h4 r4 B4 K4=>?_))
  have W4:=W.keep B4 K4
  refine KN (zp B4 (by simp only [List.length_cons,List.length_append,List.length_nil]; omega) (fun h5 K5 _=>KG ?_))
  exact H _ (K5.ext W4.ext B4 (Nat.le_refl _))
end Gx
namespace Gx
open Go
set_option linter.unusedVariables false
set_option linter.unusedSimpArgs false
theorem KGi (s:List UInt8):(JV s).length=(s.flatMap qc).length+2:=by simp [JV]
end Gx
namespace Gx
open Go
set_option linter.unusedVariables false
set_option linter.unusedSimpArgs false
def dgt (u:Nat):List Nat:=if h:u < 10 then [u] else dgt (u / 10)++[u % 10]
termination_by u
decreasing_by omega
theorem KGj (u:Nat):Lib.decDigits u=(dgt u).map fun d=>UInt8.ofNat (48+d):=by
 induction u using Nat.strongRecOn with
 | _ u ih =>
  unfold dgt Lib.decDigits
  split
  ·rfl
  ·rw [ih (u / 10) (by omega)]; simp
theorem KDf:∀ (k u:Nat),u < 10 ^ k→1≤k→(dgt u).length≤k
 | 0,u,h,h1=>by omega
 | k+1,u,h,h1=>by
  unfold dgt
  split
  ·simp
  ·rename_i hu
   rw [List.length_append]
   have:1≤k:=by
    rcases Nat.eq_zero_or_pos k with h0 | h0
    ·subst h0; omega
    ·exact h0
   have:=KDf k (u / 10) (by rw [Nat.pow_succ] at h; omega) this
   simp; omega
theorem KEO {β:Type} {h:Heap} {Q:β→Heap→Prop} {x y:List UInt8} {f:ByteArray→M β} (hm:x.length+y.length≤9223372036854775807) (H:(f (bs (x++y))).wp h Q):(sCat (bs x) (bs y)>>=f).wp h Q :=
 ⟨bs (x++y),⟨by rw [ZH,ZH]; omega,by apply ByteArray.ext; simp [bs]⟩,H⟩
theorem KEP {n:Int} (hn:I64 n):(Lib.itoa n).length≤21:=by
 obtain ⟨n1,n2⟩:=hn
 unfold Lib.itoa
 split
 ·rw [List.length_cons,KGj,List.length_map]
  have:=KDf 20 n.natAbs (by omega) (by decide)
  omega
 ·rw [KGj,List.length_map]
  have:=KDf 20 n.toNat (by omega) (by decide)
  omega
end Gx
namespace Gx
open Go
set_option linter.unusedVariables false
set_option linter.unusedSimpArgs false
def jn (sep:List UInt8):List (List UInt8)→List UInt8
 | []=>[]
 | [a]=>a
 | a::b::r=>a++(sep++jn sep (b::r))
def sv (s:List UInt8):Value:=.string (bs s)
theorem KDg (sep a:List UInt8) (l:List (List UInt8)):jn sep (a::l)=a++l.flatMap (fun s=>sep++s):=by
 induction l generalizing a with
 | nil=>simp [jn]
 | cons b r ih=>rw [jn,ih]; simp
theorem KFL {lo:Nat} {h:Heap} {b:Nat} {n:Int} {Q:Unit→Heap→Prop} (B:Bld lo h b Sl.nil []) (hlo:lo≤h.size) (h0:0≤n) (hn:n≤140737488355328)
  (H:∀ h' r',Bld lo h' b r' []→BKeep b Sl.nil r' h h'→Q () h'):(JJ (some ⟨b,0,none⟩) n).wp h Q:=by
 unfold JJ
 refine Gu B (fun h1 B1 u1=>iteF (by simp; omega) ?_)
 obtain ⟨p,q1,q2⟩:=B1.ptr
 have c1:KM h1 ((⟨b,0,none⟩:Addr).add 1)=some Sl.nil.v:=by rw [Kj,KL q1]; rfl
 refine ZK (ZK (Vh (n:=Sl.nil) c1 (Vh (n:=Sl.nil) c1 ?_)))
 have hK1:BKeep b Sl.nil Sl.nil h h1:=⟨by rw [u1.size]; exact Nat.le_refl _,fun i hi hne _=>u1.ne i hne,fun i hi=>.inl hi⟩
 refine Ki (fun hc=>?_) (fun hc=>KG (H _ _ B1 hK1))
 have hpos:0 < n:=of_decide_eq_true hc
 refine KN ?_
 unfold Jm
 refine ZK (ZK (Vh (n:=Sl.nil) c1 (Vh (n:=Sl.nil) c1 ?_)))
 have hw:IntKind.wrap .i64 ((IntKind.wrap .i64 (2 * ((Sl.nil:Sl).cap:Int)))+n)=n:=by
  rw [show IntKind.wrap .i64 (2 * ((Sl.nil:Sl).cap:Int))=0 by decide,w64 (by omega) (by omega)]; omega
 rw [hw]
 refine ⟨h0,by omega,fun cs hle hmax=>?_⟩
 have e2:=Ext.push h1 (.cells cs Kp)
 have g2:(h1.push (.cells cs Kp))[h1.size]?=some (.cells cs Kp (0,0)):=ZI
 generalize h1.push (.cells cs Kp)=h2 at e2 g2 ⊢
 have c2:=e2.cell c1
 refine zJ ⟨c2,c2⟩ (KKp (by decide) (by decide) (by dsimp only [Sl.nil]; omega) (ZK (Vh (n:=Sl.nil) c2 ?_)))
 have hcs:cs.size≠0:=by omega
 rw [if_neg (show ¬ cs.size=(0:Int).toNat by simpa using hcs)]
 have hbz:(Option.map (fun x:Addr=>x.add ((0:Int).toNat * 1)) (some ⟨h1.size,0,none⟩))=some ⟨h1.size,0,none⟩:=by simp [Kj]
 have hr:(⟨Option.map (fun x:Addr=>x.add ((0:Int).toNat * 1)) (some ⟨h1.size,0,none⟩),((Sl.nil:Sl).len:Int).toNat - (0:Int).toNat,cs.size - (0:Int).toNat⟩:Sl)=⟨some ⟨h1.size,0,none⟩,0,cs.size⟩:=by
  rw [hbz]; simp [Sl.nil]
 dsimp only
 rw [hr]
 refine ⟨[],by simp [Sl.nil],.inl rfl,fun a ha j hj=>by simp at hj,by simp,ZK ?_⟩
 rw [show WT h2 (⟨some ⟨h1.size,0,none⟩,0,cs.size⟩:Sl).base 0 []=h2 from rfl]
 obtain ⟨p',q1',q2'⟩:=(B1.ext e2).ptr
 refine GY (x:=Sl.nil.v) c2 (by rw [Kj,K9 q1']) (KAC _) (KG (KG ?_))
 rw [Kj,Nat.zero_add]
 have hlt:=B1.lt
 have R:Gw lo h2 ⟨some ⟨h1.size,0,none⟩,0,cs.size⟩ 1 (([]:List UInt8).map bv):=.inr ⟨h1.size,_,_,rfl,by have:=u1.size; omega,g2,by simp,by simp,by simp,fun j v hj=>by simp at hj⟩
 obtain ⟨B3,K3⟩:=KDZ (h:=h1) (h':=h2) (l':=[]) B1 (Upd.refl _ _) e2.size (fun i hi _=>e2.same i hi) (fun i hi=>by obtain ⟨a,ha,rfl⟩:=hi; cases ha; exact .inr (Nat.le_refl _)) R (fun h=>absurd h hcs) (fun g hg=>by cases hg; exact ⟨_,_,g2⟩)
 exact H _ _ B3 (hK1.trans K3 B.lt)
def SsAt (h:Heap) (x:Sl) (ps:List (List UInt8)):Prop:=x.len=ps.length∧x.len≤x.cap∧Xi h x.base (ps.map sv)
theorem SsAt.ext {h h':Heap} {x:Sl} {ps:List (List UInt8)} (S:SsAt h x ps) (e:Ext h h'):SsAt h' x ps:=⟨S.1,S.2.1,e.reads S.2.2⟩
theorem SsAt.get {h:Heap} {x:Sl} {ps:List (List UInt8)} (S:SsAt h x ps) {i:Nat} (hi:i < ps.length):∃ a,x.base=some a∧KM h (a.add i)=some (.string (bs ps[i])):=by
 obtain ⟨_,_,R | ⟨a,ha,R⟩⟩:=S
 ·have:ps=[]:=by simpa using R
  subst this; simp at hi
 ·exact ⟨a,ha,R i _ (by simp [hi,sv])⟩
theorem KBh {ps:List (List UInt8)} {i:Nat} (hi:i < ps.length):((ps.take (i+1)).map List.length).sum=((ps.take i).map List.length).sum+ps[i].length:=by
 rw [List.take_succ_eq_append_getElem hi,List.map_append,List.sum_append]; simp only [List.map_cons,List.map_nil,List.sum_cons,List.sum_nil,Nat.add_zero]
theorem KDh (ps:List (List UInt8)) (i:Nat):((ps.take i).map List.length).sum≤(ps.map List.length).sum:=by
 conv=>rhs; rw [← List.take_append_drop i ps,List.map_append,List.sum_append]
 omega
theorem KJs (sep:List UInt8):∀ (l:List (List UInt8)) (h:0 < l.length),jn sep l=l[0]++(l.drop 1).flatMap (fun s=>sep++s)
 | [],h=>by simp at h
 | a::r,h=>by rw [KDg]; rfl
theorem KIm (sep:List UInt8):∀ ps:List (List UInt8),ps≠[]→(jn sep ps).length=(ps.map List.length).sum+sep.length * (ps.length - 1)
 | [],h=>absurd rfl h
 | [a],_=>by simp [jn]
 | a::b::r,_=>by
  rw [jn,List.length_append,List.length_append,KIm sep (b::r) (by simp)]
  simp only [List.map_cons,List.sum_cons,List.length_cons]
  rw [show r.length+1+1 - 1=(r.length+1 - 1)+1 by omega,Nat.mul_add]
  omega
theorem KGk {h:Heap} {x:Sl} {ps:List (List UInt8)} {sep:List UInt8} {Q:ByteArray→Heap→Prop} (S:SsAt h x ps) (hs1:1≤sep.length) (hs:sep.length≤16) (hp:ps.length≤1099511627776) (hm:(jn sep ps).length≤70368744177664)
  (H:∀ h',Ext h h'→Q (bs (jn sep ps)) h'):(Vq x (bs sep)).wp h Q:=by
 unfold Vq
 rw [S.1]
 match hps:ps with
 | []=>exact iteT rfl (KG (H _ (Ext.refl _)))
 | [a] =>
  obtain ⟨b,hb,hcell'⟩:=S.get (i:=0) (by simp)
  exact iteF rfl (iteT rfl (Yk (by decide) (by rw [S.1]; simp) hb (Vg (n:=bs a) hcell' (KG (H _ (Ext.refl _))))))
 | a::b0::r0 =>
  rw [← hps] at S hp hm H ⊢
  have hne:ps≠[]:=by rw [hps]; simp
  have hl2:2≤ps.length:=by rw [hps]; simp
  have hjl:=KIm sep ps hne
  rw [ZH]
  refine iteF (by rw [beq_eq_false_iff_ne]; omega) (iteF (by rw [beq_eq_false_iff_ne]; omega) (iteT (by simp; omega) ?_))
  have hw1:IntKind.wrap .i64 ((ps.length:Int) - 1)=((ps.length - 1:Nat):Int):=by rw [w64 (by omega) (by omega)]; omega
  rw [hw1]
  refine ⟨IntKind.wrap .i64 ((9223372036854775807:Int).tdiv ((ps.length - 1:Nat):Int)),⟨by omega,rfl⟩,?_⟩
  have hq:(sep.length:Int) < IntKind.wrap .i64 ((9223372036854775807:Int).tdiv ((ps.length - 1:Nat):Int)):=by
   rw [Int.tdiv_eq_ediv_of_nonneg (by decide)]
   have h1:(17:Int)≤9223372036854775807 / ((ps.length - 1:Nat):Int):=by
    rw [Int.le_ediv_iff_mul_le (by omega)]; omega
   have h2:9223372036854775807 / ((ps.length - 1:Nat):Int)≤9223372036854775807:=Int.ediv_le_self _ (by decide)
   rw [w64 (by omega) (by omega)]; omega
  have hsm:sep.length * (ps.length - 1)≤70368744177664:=by omega
  have hcast:(sep.length:Int) * ((ps.length - 1:Nat):Int)=((sep.length * (ps.length - 1):Nat):Int):=by simp
  refine iteF (by simp; omega) ?_
  unfold U2
  rw [hcast,w64n (n:=sep.length * (ps.length - 1)) (by omega),Int.zero_add,w64n (n:=sep.length * (ps.length - 1)) (by omega)]
  refine M.loop_inv (fun (t:Int × Int) h'=>h'=h∧∃ i:Nat,t.2=(i:Int)∧i≤ps.length∧t.1=((sep.length * (ps.length - 1)+((ps.take i).map List.length).sum:Nat):Int)) (fun t _=>((ps.length:Int) - t.2).toNat) ?_ ⟨rfl,0,rfl,Nat.zero_le _,by simp⟩
  rintro ⟨m,t⟩ h' ⟨rfl,i,ht,hi,hmm⟩ self hself
  have ht:t=(i:Int):=ht
  have hmm:m=_:=hmm
  subst ht; subst hmm
  unfold YB
  rw [S.1]
  have hpi:=KDh ps i
  refine Ki (fun hc=>?_) (fun hc=>?_)
  ·have hlt:i < ps.length:=by have:=of_decide_eq_true hc; omega
   have hpj:=KDh ps (i+1)
   rw [KBh hlt] at hpj
   obtain ⟨b,hb,hcell'⟩:=S.get hlt
   refine Yk (by omega) (by rw [S.1]; omega) hb (Vg (n:=bs ps[i]) (by rw [show (i:Int).toNat * 1=i by omega]; exact hcell') ?_)
   rw [ZH]
   refine iteF (by rw [w64 (by omega) (by omega),decide_eq_false_iff_not]; omega) ?_
   refine hself (_,_) _ ⟨rfl,i+1,by dsimp only; rw [w64 (by omega) (by omega)]; simp,by omega,?_⟩ (by dsimp only; rw [w64 (by omega) (by omega)]; omega)
   dsimp only
   rw [w64 (by omega) (by omega),KBh hlt]; omega
  ·have hge:i=ps.length:=by have:=of_decide_eq_false hc; omega
   subst hge
   rw [List.take_length]
   refine JM (fun h1 e1 z1 g1=>?_)
   have B1:=Bld.new (Nat.le_refl _) g1
   refine KN (KFL B1 (by omega) (by omega) (by omega) (fun h2 r2 B2 K2=>?_))
   have E2:=K2.ext e1 B1 (Nat.le_refl _)
   obtain ⟨b,hb,hcell'⟩:=(S.ext E2).get (i:=0) (by omega)
   have h0l:=KDh ps 1
   rw [KBh (i:=0) (by omega)] at h0l
   refine Yk (by decide) (by rw [S.1]; omega) hb (Vg (n:=bs ps[0]) hcell' ?_)
   refine KN (YK B2 E2.size (by rw [List.length_nil]; omega) (fun h3 r3 n3 B3 K3=>?_))
   have E3:=K3.ext E2 B2 (Nat.le_refl _)
   have hcap:=S.2.1
   have hSl:=S.1
   refine KKp (by decide) (by omega) (by omega) ?_
   have hx:(⟨if x.cap=(1:Int).toNat then x.base else x.base.map (fun a=>a.add ((1:Int).toNat * 1)),(ps.length:Int).toNat - (1:Int).toNat,x.cap - (1:Int).toNat⟩:Sl)=⟨some (b.add 1),ps.length - 1,x.cap - 1⟩:=by
    have hl:=S.1
    rw [if_neg (show ¬ x.cap=(1:Int).toNat by have:(1:Int).toNat=1:=rfl; omega),hb]
    rfl
   rw [hx]
   have hj0:jn sep ps=ps[0]++(ps.drop 1).flatMap (fun s=>sep++s):=KJs sep ps (by omega)
   have hpre:∀ k,(ps[0]++((ps.drop 1).take k).flatMap (fun s=>sep++s)).length≤(jn sep ps).length:=fun k=>by
    rw [hj0,List.length_append,List.length_append]
    conv=>rhs; rw [← List.take_append_drop k (ps.drop 1),List.flatMap_append,List.length_append]
    omega
   refine M.loop_inv (fun (t:Int) hx=>∃ k:Nat,t=(k:Int)∧k≤ps.length - 1∧Ext h' hx∧∃ r,Bld h'.size hx h'.size r (ps[0]++((ps.drop 1).take k).flatMap (fun s=>sep++s))) (fun t _=>((ps.length:Int) - t).toNat) ?_ ⟨0,rfl,Nat.zero_le _,E3,r3,by simpa using B3⟩
   rintro t h4 ⟨k,rfl,hk,E4,r4,B4⟩ self2 hself2
   unfold YA
   dsimp only
   have hpk:=hpre k
   refine Ki (fun hc=>?_) (fun hc=>?_)
   ·have hlt:k < ps.length - 1:=by have:=of_decide_eq_true hc; omega
    have hlt':1+k < ps.length:=by omega
    have hpk1:=hpre (k+1)
    have htk:((ps.drop 1).take (k+1)).flatMap (fun s=>sep++s)=((ps.drop 1).take k).flatMap (fun s=>sep++s)++(sep++ps[1+k]):=by
     rw [List.take_succ_eq_append_getElem (by simpa using hlt),List.flatMap_append]
     simp only [List.getElem_drop,List.flatMap_cons,List.flatMap_nil,List.append_nil]
    rw [htk,← List.append_assoc,← List.append_assoc,List.length_append,List.length_append] at hpk1
    obtain ⟨b',hb',hcell2⟩:=(S.ext E4).get hlt'
    rw [hb] at hb'
    cases hb'
    refine Yk (by omega) (by dsimp only; omega) rfl (Vg (n:=bs ps[1+k]) (by rw [Addr.add_add,show 1+(k:Int).toNat * 1=1+k by omega]; exact hcell2) ?_)
    refine KN (YK B4 E4.size (by omega) (fun h5 r5 n5 B5 K5=>?_))
    have E5:=K5.ext E4 B4 (Nat.le_refl _)
    refine KN (YK B5 E5.size (by rw [List.length_append]; omega) (fun h6 r6 n6 B6 K6=>?_))
    have E6:=K6.ext E5 B5 (Nat.le_refl _)
    rw [w64 (by omega) (by omega)]
    refine hself2 _ _ ⟨k+1,by simp,by omega,E6,r6,?_⟩ (by omega)
    rw [htk,← List.append_assoc,← List.append_assoc]
    exact B6
   ·have hge:k=ps.length - 1:=by have:=of_decide_eq_false hc; omega
    subst hge
    rw [List.take_of_length_le (by simp),← hj0] at B4
    refine KN (zp B4 (by omega) (fun h5 K5 _=>KG (H _ (K5.ext E4 B4 (Nat.le_refl _)))))
end Gx
namespace Gx
open Go
set_option linter.unusedVariables false
set_option linter.unusedSimpArgs false
def shw (ev od:List UInt8):List (List UInt8)→List UInt8
 | []=>[]
 | [a]=>a
 | a::b::r=>a++(ev++shw od ev (b::r))
def prs:List (List UInt8)→List (List UInt8)
 | []=>[]
 | [a]=>[a]
 | a::b::r=>(a++([58,32]++b))::prs r
theorem KGl (sep:List UInt8):∀ l,jn sep l=shw sep sep l
 | []=>rfl
 | [a]=>rfl
 | a::b::r=>by rw [jn,shw,KGl sep (b::r)]
theorem KGm:∀ l:List (List UInt8),jn [44,32] (prs l)=shw [58,32] [44,32] l
 | []=>rfl
 | [a]=>rfl
 | [a,b]=>by simp [prs,jn,shw]
 | a::b::c::r=>by
  have ih:=KGm (c::r)
  rw [prs,KDg]
  rw [shw,shw,← ih]
  match hp:prs (c::r) with
  | []=>cases r <;> simp [prs] at hp
  | p::ps=>rw [KDg,List.flatMap_cons]; simp
theorem KBi:∀ (l:List (List UInt8)) (a:List UInt8),l.length % 2=0→prs (l++[a])=prs l++[a]
 | [],a,_=>rfl
 | [x],a,h=>by simp at h
 | x::y::r,a,h=>by
  rw [List.cons_append,List.cons_append,prs,prs,KBi r a (by simp at h; omega)]; rfl
theorem KGn:∀ (l:List (List UInt8)) (a b:List UInt8),l.length % 2=0→prs (l++[a,b])=prs l++[a++([58,32]++b)]
 | [],a,b,_=>rfl
 | [x],a,b,h=>by simp at h
 | x::y::r,a,b,h=>by
  rw [List.cons_append,List.cons_append,prs,prs,KGn r a b (by simp at h; omega)]; rfl
theorem KDi:∀ l:List (List UInt8),(prs l).length≤l.length
 | []=>by simp [prs]
 | [a]=>by simp [prs]
 | a::b::r=>by have:=KDi r; simp [prs]; omega
theorem KDj:∀ (ev od:List UInt8) (l:List (List UInt8)),(l.map List.length).sum≤(shw ev od l).length
 | _,_,[]=>by simp [shw]
 | _,_,[a]=>by simp [shw]
 | ev,od,a::b::r=>by
  have:=KDj od ev (b::r)
  rw [shw,List.length_append,List.length_append,List.map_cons,List.sum_cons]
  omega
theorem KJt {l:List (List UInt8)} {a:List UInt8} (h:a ∈ l):a.length≤(l.map List.length).sum:=by
 induction l with
 | nil=>cases h
 | cons x l ih =>
  rw [List.map_cons,List.sum_cons]
  rcases List.mem_cons.1 h with rfl | h
  ·omega
  ·have:=ih h; omega
theorem KJu {l:List (List UInt8)} (h:∀ a ∈ l,1≤a.length):l.length≤(l.map List.length).sum:=by
 induction l with
 | nil=>simp
 | cons x l ih =>
  rw [List.map_cons,List.sum_cons,List.length_cons]
  have:=ih (fun a ha=>h a (List.mem_cons_of_mem _ ha))
  have:=h x (by simp)
  omega
def txt:Nat→Vl→List UInt8
 | 0,_=>[63]
 | d+1,.mk k n s l =>
  if k=1 then Lib.itoa n else if k=2 then JV s else if k=3 then (if n=1 then [116,114,117,101] else [102,97,108,115,101])
  else if k=6 then [118,91]++Lib.itoa n++[93] else if k=7 then [101,91]++Lib.itoa n++[93]
  else if k=4 then [91]++shw [44,32] [44,32] (l.map (txt d))++[93] else if k=5 then [123]++shw [58,32] [44,32] (l.map (txt d))++[125] else [63]
theorem KH2 (n:Int):1≤(Lib.itoa n).length:=by
 have:∀ u,1≤(Lib.decDigits u).length:=fun u=>by unfold Lib.decDigits; split <;> simp
 unfold Lib.itoa
 split
 ·simp
 ·exact this _
theorem KBj:∀ (d:Nat) (v:Vl),1≤(txt d v).length
 | 0,_=>by simp [txt]
 | d+1,.mk k n s l=>by
  unfold txt
  repeat' split
  all_goals first | exact KH2 n | (simp [JV]; done) | (simp; omega)
theorem Gw.set {lo:Nat} {h:Heap} {r:Sl} {vs:List Value} {b j:Nat} {v:Value} (H:Gw lo h r 1 vs) (hb:r.base=some ⟨b,0,none⟩) (hj:j < vs.length):Gw lo (hset h ⟨b,j,none⟩ v) r 1 (vs.set j v):=by
 rcases H with ⟨rfl,rfl⟩ | ⟨g,ty,cells,H⟩
 ·cases hb
 ·rw [H.base] at hb
  cases hb
  refine .inr ⟨b,ty,_,H.base,H.lo,Uv H.blk,by rw [Array.size_setIfInBounds]; exact H.size,H.cap,by rw [List.length_set]; exact H.len,fun i x hx=>?_⟩
  rw [List.getElem?_set] at hx
  rw [Array.getElem?_setIfInBounds]
  split at hx
  ·rename_i hi
   subst hi
   cases hx
   have hc:=H.len
   have:=H.size
   have hcap:=H.cap
   rw [if_pos rfl,if_pos (by omega)]
  ·rename_i hi
   rw [if_neg hi]
   exact H.get i x hx
theorem ixS2 {β:Type} {lo:Nat} {h:Heap} {Q:β→Heap→Prop} {r:Sl} {ps:List (List UInt8)} {i:Nat} {t:Int} {f:Addr→M β} (G:Gw lo h r 1 (ps.map sv)) (hi:i < ps.length) (ht:t=(i:Int))
  (H:∀ b,r.base=some ⟨b,0,none⟩→KM h ⟨b,i,none⟩=some (.string (bs ps[i]))→UD h ⟨b,i,none⟩=false→(f ⟨b,i,none⟩).wp h Q):(ixL r t 1>>=f).wp h Q:=by
 subst ht
 have hl:=G.len
 simp at hl
 obtain ⟨b,hb,hc⟩:=G.cell (j:=i) (v:=sv ps[i]) (by simp [hi])
 refine Yk (by omega) (by omega) hb ?_
 rw [Kj,show 0+(i:Int).toNat * 1=i by omega]
 refine H b hb hc ?_
 rcases G with ⟨rfl,_⟩ | ⟨g,ty,cells,R⟩
 ·cases hb
 ·rw [R.base] at hb; cases hb
  exact K9 R.blk
theorem KH3 {β:Type} {h:Heap} {Q:β→Heap→Prop} {a c:List UInt8} {x:List UInt8} {f:ByteArray→M β} (hm:a.length+x.length+c.length≤9223372036854775807) (H:(f (bs (a++x++c))).wp h Q):(sCat (bs a) (bs x)>>=fun y=>sCat y (bs c)>>=f).wp h Q :=
 KEO (by omega) (KEO (by simp only [List.length_append]; omega) H)
def prt (k:Int) (l:List (List UInt8)):List (List UInt8):=if k=5 then prs l else l
theorem KFM:∀ (d:Nat) (v:Vl) {h:Heap} {Q:ByteArray→Heap→Prop} {x:Array Value},d≤8→VRep h v x→XV h→N1 h→(txt d v).length≤1099511627776→(∀ h',Ext h h'→Q (bs (txt d v)) h')→(Wq x ((9 - d:Nat):Int)).wp h Q:=by
 intro d
 induction d with
 | zero =>
  rintro v h Q x _ hx _ _ _ H
  unfold Wq
  exact JM (fun h1 e1 z1 g1=>iteT rfl (KG (H _ e1)))
 | succ d ih =>
  rintro ⟨k,n,s,l⟩ h Q x hd hx hp hdb hm H
  obtain ⟨xs,rfl,k1,n1,s1,r1⟩:=VRep.eq.1 hx
  unfold Wq
  refine JM (fun h1 E z1 g1=>?_)
  have c0:KM h1 ((⟨h.size,0,none⟩:Addr).add 0)=some (.int .i64 k):=by rw [Zu g1]; rfl
  have c1:KM h1 ((⟨h.size,0,none⟩:Addr).add 1)=some (.int .i64 n):=by rw [Zu g1]; rfl
  have c2:KM h1 ((⟨h.size,0,none⟩:Addr).add 2)=some (.string (bs s)):=by rw [Zu g1]; rfl
  have c3:KM h1 ((⟨h.size,0,none⟩:Addr).add 3)=some xs.v:=by rw [Zu g1]; rfl
  have hpE:=hp.ext E
  have hdE:=hdb.ext E
  have hil:=KEP n1
  refine iteF (by simp; omega) (Zp c0 (Ki (fun h1k=>?_) (fun h1k=>?_)))
  ·have h1k:k=1:=by simpa using h1k
   unfold txt at H
   rw [if_pos h1k] at H
   exact Zp c1 (KN (qI n1 hpE (fun h2 e2=>KG (H _ (E.trans e2)))))
  have h1k:¬ k=1:=by simpa using h1k
  unfold txt at H hm
  rw [if_neg h1k] at H hm
  refine Ki (fun h2k=>?_) (fun h2k=>?_)
  ·have h2k:k=2:=by simpa using h2k
   rw [if_pos h2k] at H hm
   exact Vg c2 (KN (KDe (by omega) hdE (fun h2 e2=>KG (H _ (E.trans e2)))))
  have h2k:¬ k=2:=by simpa using h2k
  rw [if_neg h2k] at H hm
  refine Ki (fun h3k=>?_) (fun h3k=>?_)
  ·have h3k:k=3:=by simpa using h3k
   rw [if_pos h3k] at H
   refine Zp c1 (Ki (fun hn=>?_) (fun hn=>?_))
   ·have hn:n=1:=by simpa using hn
    rw [if_pos hn] at H
    exact KG (H _ E)
   ·have hn:¬ n=1:=by simpa using hn
    rw [if_neg hn] at H
    exact KG (H _ E)
  have h3k:¬ k=3:=by simpa using h3k
  rw [if_neg h3k] at H hm
  refine Ki (fun h6k=>?_) (fun h6k=>?_)
  ·have h6k:k=6:=by simpa using h6k
   rw [if_pos h6k] at H
   exact Zp c1 (KN (qI n1 hpE (fun h2 e2=>KH3 (a:=[118,91]) (c:=[93]) (by simp; omega) (KG (H _ (E.trans e2))))))
  have h6k:¬ k=6:=by simpa using h6k
  rw [if_neg h6k] at H hm
  refine Ki (fun h7k=>?_) (fun h7k=>?_)
  ·have h7k:k=7:=by simpa using h7k
   rw [if_pos h7k] at H
   exact Zp c1 (KN (qI n1 hpE (fun h2 e2=>KH3 (a:=[101,91]) (c:=[93]) (by simp; omega) (KG (H _ (E.trans e2))))))
  have h7k:¬ k=7:=by simpa using h7k
  rw [if_neg h7k] at H hm
  have j1:(U4 ((9 - (d+1):Nat):Int) ⟨h.size,0,none⟩ (decide (k=4∨k=5))).wp h1 Q:=by
   unfold U4
   refine Ki (fun h45=>?_) (fun h45=>?_)
   ·have h45:k=4∨k=5:=by simpa using h45
    have hform:∃ a c,(∀ h',Ext h h'→Q (bs (a++jn [44,32] (prt k (l.map (txt d)))++c)) h')∧a.length=1∧c.length=1∧(jn [44,32] (prt k (l.map (txt d)))).length≤1099511627776∧((l.map (txt d)).map List.length).sum≤1099511627776∧(k=5→a=[123]∧c=[125])∧(¬ k=5→a=[91]∧c=[93]):=by
     rcases h45 with h4 | h5
     ·rw [if_pos h4] at H hm
      have h5:¬ k=5:=by omega
      have hs:=KDj [44,32] [44,32] (l.map (txt d))
      simp only [List.length_append,List.length_cons,List.length_nil] at hm
      refine ⟨[91],[93],?_,rfl,rfl,?_,by omega,fun h=>absurd h h5,fun _=>⟨rfl,rfl⟩⟩
      ·unfold prt; rw [if_neg h5,KGl]; exact H
      ·unfold prt; rw [if_neg h5,KGl]; omega
     ·have h4:¬ k=4:=by omega
      rw [if_neg h4,if_pos h5] at H hm
      have hs:=KDj [58,32] [44,32] (l.map (txt d))
      simp only [List.length_append,List.length_cons,List.length_nil] at hm
      refine ⟨[123],[125],?_,rfl,rfl,?_,by omega,fun _=>⟨rfl,rfl⟩,fun h=>absurd h5 h⟩
      ·unfold prt; rw [if_pos h5,KGm]; exact H
      ·unfold prt; rw [if_pos h5,KGm]; omega
    obtain ⟨a,c,HQ,ha,hc,hjm,hsum,h5a,h5b⟩:=hform
    have hcnt:l.length≤1099511627776:=by
     have:=KJu (l:=l.map (txt d)) (fun a ha=>by obtain ⟨y,_,rfl⟩:=List.mem_map.1 ha; exact KBj d y)
     rw [List.length_map] at this
     omega
    have hel:∀ i (hi:i < l.length),(txt d l[i]).length≤1099511627776:=fun i hi=>by
     have:=KJt (l:=l.map (txt d)) (a:=txt d l[i]) (List.mem_map.2 ⟨_,List.getElem_mem hi,rfl⟩)
     omega
    refine Vh c3 ?_
    have hxl:=r1.len
    refine M.loop_inv (fun (t:Sl × Int) h2=>∃ i:Nat,t.2=(i:Int)∧i≤l.length∧Ext h1 h2∧Gw h1.size h2 t.1 1 ((prt k ((l.take i).map (txt d))).map sv)) (fun t _=>((l.length:Int) - t.2).toNat) ?_ ⟨0,rfl,Nat.zero_le _,Ext.refl _,by rw [show prt k (((l.take 0).map (txt d)))=[] by unfold prt; split <;> simp [prs]]; exact Gw.nil _ _ _⟩
    rintro ⟨r,t⟩ h2 ⟨i,hti,hi,E2,G⟩ self hself
    have hti:t=(i:Int):=hti
    subst hti
    have G:Gw h1.size h2 r 1 ((prt k ((l.take i).map (txt d))).map sv):=G
    unfold XI
    rw [hxl]
    have hrl:=G.len
    rw [List.length_map,Nat.mul_one] at hrl
    have hrl2:r.len≤i:=by
     have:(prt k ((l.take i).map (txt d))).length≤i:=by
      unfold prt
      split
      ·have:=KDi ((l.take i).map (txt d)); rw [List.length_map,List.length_take] at this; omega
      ·rw [List.length_map,List.length_take]; omega
     omega
    refine Ki (fun hlt=>?_) (fun hge=>?_)
    ·have hlt:i < l.length:=by have:=of_decide_eq_true hlt; omega
     refine KHi (r1.ext (E.trans E2)) hlt rfl (fun b cs hs hcs hv=>qf hs hcs (JM (fun h3 e3 z3 g3=>J6 hs (stR (vs:=cs) g3 (by rw [hs]; decide) hv.one (fun h4 u4 g4=>?_)))))
     rw [ZW (by rw [Array.length_toList,hs]; rfl),Array.toArray_toList] at g4
     have E4:Ext h2 h4:=e3.upd u4 (Nat.le_refl _)
     refine KHj (v:=l[i]) g4 hs ?_
     rw [show IntKind.wrap .i64 (((9 - (d+1):Nat):Int)+1)=((9 - d:Nat):Int) by rw [w64 (by omega) (by omega)]; omega]
     have E24:=E2.trans E4
     refine KN (qv (qW _ _) (ih l[i] (by omega) (hv.ext E4) (hpE.ext E24) (hdE.ext E24) (hel i hlt) (fun h5 e5=>?_)))
     have E5:=E24.trans e5
     refine Zp (E5.cell c0) ?_
     have hr5:IntKind.wrap .i64 ((i:Int)+1)=((i+1:Nat):Int):=by rw [w64 (by omega) (by omega)]; simp
     have G5:=G.ext (E4.trans e5)
     have htk:(l.take (i+1)).map (txt d)=(l.take i).map (txt d)++[txt d l[i]]:=by
      rw [List.take_succ_eq_append_getElem hlt,List.map_append]; rfl
     refine XM (c:=decide (i % 2=1)) (fun _ Q' hq=>KG (by rw [show ((Int.tmod (i:Int) 2) == 1)=decide (i % 2=1) by rw [Int.tmod_eq_emod_of_nonneg (by omega),Bool.eq_iff_iff]; simp; omega]; exact hq)) ?_
     refine Ki (fun hodd=>?_) (fun heven=>?_)
     ·obtain ⟨h5k,hodd⟩:k=5∧i % 2=1:=by simpa using hodd
      obtain ⟨i',rfl⟩:∃ i',i=i'+1:=⟨i - 1,by omega⟩
      have hti':(l.take (i'+1)).map (txt d)=(l.take i').map (txt d)++[txt d l[i']]:=by
       rw [List.take_succ_eq_append_getElem (by omega),List.map_append]; rfl
      have hlen':((l.take i').map (txt d)).length % 2=0:=by simp; omega
      have hp1:prt k ((l.take (i'+1)).map (txt d))=prs ((l.take i').map (txt d))++[txt d l[i']]:=by
       unfold prt; rw [if_pos h5k,hti',KBi _ _ hlen']
      have hp2:prt k ((l.take (i'+1+1)).map (txt d))=prs ((l.take i').map (txt d))++[txt d l[i']++([58,32]++txt d l[i'+1])]:=by
       unfold prt; rw [if_pos h5k,htk,hti',List.append_assoc]; exact KGn _ _ _ hlen'
      rw [hp1] at G5 hrl
      have hlast:r.len=(prs ((l.take i').map (txt d))).length+1:=by rw [← G5.len.trans (Nat.mul_one _)]; simp
      have hidx:IntKind.wrap .i64 ((r.len:Int) - 1)=(((prs ((l.take i').map (txt d))).length:Nat):Int):=by rw [w64 (by omega) (by omega)]; omega
      rw [hidx]
      have hle0:=hel i' (by omega)
      have hle1:=hel (i'+1) hlt
      refine ixS2 (i:=(prs ((l.take i').map (txt d))).length) G5 (by simp) rfl (fun b' hb' hc' hf'=>Vg hc' ?_)
      have hget:(prs ((l.take i').map (txt d))++[txt d l[i']])[(prs ((l.take i').map (txt d))).length]'(by simp)=txt d l[i']:=by simp
      rw [hget] at hc' ⊢
      refine KEO (x:=[58,32]) (by simp; omega) (KEO (by simp; omega) ?_)
      refine ixS2 (i:=(prs ((l.take i').map (txt d))).length) G5 (by simp) rfl (fun b2 hb2 hc2 hf2=>GY hc2 hf2 rfl ?_)
      rw [hb2] at hb'
      cases hb'
      unfold U3
      rw [hr5]
      refine hself (_,_) _ ⟨i'+1+1,rfl,by omega,?_,?_⟩ (by dsimp only; omega)
      ·have hb3:h1.size≤b':=(G5.lt ⟨_,hb2,rfl⟩).2
       exact ⟨by rw [Xm]; exact E5.size,fun j hj=>by rw [Y7 (by show j≠b'; omega)]; exact E5.same j hj⟩
      ·have:=G5.set (v:=sv (txt d l[i']++([58,32]++txt d l[i'+1]))) (j:=(prs ((l.take i').map (txt d))).length) hb2 (by simp)
       dsimp only
       rw [hp2]
       rw [List.map_append,List.set_append_right _ _ (by simp)] at this
       simpa [sv] using this
     ·have heven:¬ (k=5∧i % 2=1):=by simpa using heven
      have hp2:prt k ((l.take (i+1)).map (txt d))=prt k ((l.take i).map (txt d))++[txt d l[i]]:=by
       unfold prt
       by_cases h5k:k=5
       ·rw [if_pos h5k,if_pos h5k,htk,KBi _ _ (by simp; omega)]
       ·rw [if_neg h5k,if_neg h5k,htk]
      refine KEt ?_
      have e6:=Ext.push h5 (.cells #[.string (bs (txt d l[i]))] Ym)
      have g6:(h5.push (.cells #[.string (bs (txt d l[i]))] Ym))[h5.size]?=some (.cells #[.string (bs (txt d l[i]))] Ym (0,0)):=ZI
      generalize h5.push (.cells #[.string (bs (txt d l[i]))] Ym)=h6 at e6 g6 ⊢
      have E6:=E5.trans e6
      have G6:=G5.ext e6
      refine KA2 (vs:=(prt k ((l.take i).map (txt d))).map sv) (news:=[sv (txt d l[i])]) rfl G6 rfl (.inr ⟨_,rfl,fun j v hj=>?_⟩) (fun v hv=>by simp at hv; subst hv; rfl) (by dsimp only; omega) (by dsimp only; omega) E6.size (fun h7 r7 G7 hlen7 hs7 same7 on7=>?_)
      ·rw [Kj,Nat.zero_add,KL g6]
       rw [show (#[.string (bs (txt d l[i]))]:Array Value)=[sv (txt d l[i])].toArray from rfl]
       simpa using hj
      ·unfold U3
       rw [hr5]
       refine hself (_,_) _ ⟨i+1,rfl,by omega,?_,?_⟩ (by dsimp only; omega)
       ·exact ⟨Nat.le_trans E6.size hs7,fun j hj=>(same7 j (Nat.lt_of_lt_of_le hj E6.size) (fun ho=>by have:=(G6.lt ho).2; omega)).trans (E6.same j hj)⟩
       ·dsimp only
        rw [hp2,List.map_append]
        exact G7
    ·have hge:i=l.length:=by have:=of_decide_eq_false hge; omega
     subst hge
     rw [List.take_length] at G
     have S:SsAt h2 r (prt k (l.map (txt d))):=⟨by have:=G.len; rw [List.length_map,Nat.mul_one] at this; exact this.symm,G.cap,G.reads⟩
     have hpl:(prt k (l.map (txt d))).length≤l.length:=by
      unfold prt
      split
      ·have:=KDi (l.map (txt d)); simp at this; exact this
      ·simp
     refine KN (KGk (sep:=[44,32]) S (by simp) (by simp) (by omega) (by omega) (fun h3 e3=>?_))
     refine Zp ((E2.trans e3).cell c0) (Ki (fun h5k=>?_) (fun h5k=>?_))
     ·have h5k:k=5:=by simpa using h5k
      obtain ⟨rfl,rfl⟩:=h5a h5k
      exact KH3 (a:=[123]) (c:=[125]) (by simp; omega) (KG (HQ _ ((E.trans E2).trans e3)))
     ·have h5k:¬ k=5:=by simpa using h5k
      obtain ⟨rfl,rfl⟩:=h5b h5k
      exact KH3 (a:=[91]) (c:=[93]) (by simp; omega) (KG (HQ _ ((E.trans E2).trans e3)))
   ·have h45:¬ (k=4∨k=5):=by simpa using h45
    rw [if_neg (fun h=>h45 (.inl h)),if_neg (fun h=>h45 (.inr h))] at H
    exact KG (H _ E)
  refine Ki (fun h4k=>?_) (fun h4k=>?_)
  ·have h4k:k=4:=by simpa using h4k
   have e:(k == 4)=decide (k=4∨k=5):=by subst h4k; rfl
   rw [e]
   exact j1
  ·have h4k:¬ k=4:=by simpa using h4k
   have e:(k == 5)=decide (k=4∨k=5):=by rw [eqI,Bool.eq_iff_iff]; simp [h4k]
   rw [e]
   exact j1
end Gx
namespace Gx
open Go
set_option linter.unusedVariables false
set_option linter.unusedSimpArgs false
abbrev txV (v:Vl):List UInt8:=txt 8 v
theorem KAn {v:Vl} {h:Heap} {Q:ByteArray→Heap→Prop} {x:Array Value} (hx:VRep h v x) (hp:XV h) (hd:N1 h) (hm:(txV v).length≤1099511627776) (H:∀ h',Ext h h'→Q (bs (txV v)) h'):(Wr x).wp h Q:=by
 unfold Wr
 exact JM (fun h1 e1 z1 g1=>KHj (v:=v) g1 hx.size (KN (KFM 8 v (Nat.le_refl _) (hx.ext e1) (hp.ext e1) (hd.ext e1) hm (fun h2 e2=>KG (H _ (e1.trans e2))))))
end Gx
namespace Gx
open Go Go.Proofs Go.Shelf Go.RowKit Go.Lib
set_option linter.unusedVariables false
set_option linter.unusedSimpArgs false
set_option maxRecDepth 100000
def At (s:List UInt8) (i:Nat) (w:List UInt8):Prop:=(s.drop i).take w.length=w
theorem At.nil (s:List UInt8) (i:Nat):At s i []:=by unfold At; simp
theorem qJ {s:List UInt8} {i:Nat} {c:UInt8} {r:List UInt8}:At s i (c::r)↔s[i]?=some c∧At s (i+1) r:=by
 unfold At
 by_cases hi:i < s.length
 ·rw [List.drop_eq_getElem_cons hi,List.length_cons,List.take_succ_cons,List.getElem?_eq_getElem hi]
  simp
 ·rw [List.drop_of_length_le (by omega),List.getElem?_eq_none (by omega)]
  simp
theorem ZS {s:List UInt8}:∀ {a b:List UInt8} {i:Nat},At s i (a++b)↔At s i a∧At s (i+a.length) b
 | [],b,i=>by simp [At.nil]
 | c::a,b,i=>by
  rw [List.cons_append,qJ,qJ,ZS,List.length_cons,show i+1+a.length=i+(a.length+1) by omega,and_assoc]
theorem At.here {s:List UInt8} {i:Nat} {c:UInt8} {r:List UInt8} (h:At s i (c::r)):KO s i=c:=by
 unfold KO
 rw [(qJ.1 h).1]
 rfl
theorem At.len {s:List UInt8} {i:Nat} {w:List UInt8} (h:At s i w) (hw:w≠[]):i+w.length≤s.length:=by
 have:=congrArg List.length h
 rw [List.length_take,List.length_drop] at this
 have:0 < w.length:=List.length_pos_iff.2 hw
 omega
theorem VF {s:List UInt8}:∀ {lit:List UInt8} {i:Nat},At s i lit→Yg s lit i=.ok (i+lit.length)
 | [],i,h=>rfl
 | c::r,i,h=>by
  rw [qJ] at h
  rw [Yg,if_pos h.1,VF h.2,List.length_cons]
  congr 1
  omega
theorem UC {s lit:List UInt8} {i j:Nat} (h:Yg s lit i=.ok j):At s i lit∧j=i+lit.length:=⟨(UJ h).2.2,(UJ h).1⟩
theorem VG {s:List UInt8} {i:Nat} {c:UInt8} (h:KO s i=c) (hc:c≠0):At s i [c]:=by
 have hi:i < s.length:=UI (by rw [h]; exact hc)
 rw [qJ]
 refine ⟨?_,At.nil _ _⟩
 rw [List.getElem?_eq_getElem hi,← YU hi,h]
theorem At.get {s:List UInt8} {i:Nat} {w:List UInt8} (h:At s i w) {k:Nat} (hk:k < w.length):KO s (i+k)=w[k]:=by
 have h1:At s i (w.take k++w.drop k):=by rw [List.take_append_drop]; exact h
 rw [ZS,List.length_take,Nat.min_eq_left (by omega),List.drop_eq_getElem_cons hk] at h1
 exact h1.2.here
theorem At.cut {s:List UInt8} {i:Nat} {w:List UInt8} (h:At s i w) {k:Nat} (hk:k≤w.length):(s.drop i).take (i+k - i)=w.take k:=by
 unfold At at h
 rw [show i+k - i=k by omega,← h,List.take_take,Nat.min_eq_left hk]
theorem KAo:∀ (m u:Nat) (p:List UInt8),u < m→p≠[]→p <+: decDigits u→∃ u',u'≤u∧p=decDigits u':=by
 intro m
 induction m with
 | zero=>intro u p h; omega
 | succ m ih =>
  intro u p h hp hpre
  by_cases h10:u < 10
  ·rw [decDigits,dif_pos h10] at hpre
   refine ⟨u,Nat.le_refl _,?_⟩
   rw [decDigits,dif_pos h10]
   obtain ⟨q,hq⟩:=hpre
   cases p with
   | nil=>exact absurd rfl hp
   | cons a r =>
    obtain ⟨q1,q2⟩:=List.cons.inj hq
    rw [q1,(List.append_eq_nil_iff.1 q2).1]
  ·rw [decDigits,dif_neg h10] at hpre
   rcases List.prefix_concat_iff.1 hpre with he | hpre
   ·exact ⟨u,Nat.le_refl _,by rw [he]; conv=>rhs; rw [decDigits,dif_neg h10]⟩
   ·obtain ⟨u',h1,h2⟩:=ih (u / 10) p (by omega) hp hpre
    exact ⟨u',by omega,h2⟩
def sgn (n:Int):Nat:=if n < 0 then 1 else 0
theorem qt {n:Int} (hn:I64 n) {k:Nat} (h1:sgn n≤k) (h2:k < (itoa n).length):digB (itoa n)[k]=true∧∃ m,numP ((itoa n).take (k+1))=(m,0):=by
 unfold I64 at hn
 unfold sgn at h1
 by_cases hneg:n < 0
 ·have hT:itoa n=45::decDigits n.natAbs:=by unfold itoa; rw [if_pos hneg]
  obtain ⟨a1,a2,a3,a4⟩:=XQ _ n.natAbs (Nat.lt_succ_self _)
  rw [if_pos hneg] at h1
  obtain ⟨k,rfl⟩:∃ q,k=q+1:=⟨k - 1,by omega⟩
  simp only [hT]
  rw [hT,List.length_cons] at h2
  have hk:k < (decDigits n.natAbs).length:=by omega
  refine ⟨?_,?_⟩
  ·rw [List.getElem_cons_succ]
   exact List.all_eq_true.1 a1 _ (List.getElem_mem hk)
  ·rw [List.take_succ_cons]
   have hne:(decDigits n.natAbs).take (k+1)≠[]:=by
    intro e
    have:=congrArg List.length e
    rw [List.length_take,List.length_nil] at this
    omega
   obtain ⟨u',hu,hp⟩:=KAo _ n.natAbs _ (Nat.lt_succ_self _) hne (List.take_prefix _ _)
   have hu0:u'≠0:=fun e=>by
    subst e
    have hz:decDigits 0=[48]:=by rw [decDigits,dif_pos (by decide)]; rfl
    rw [hz] at hp
    have:(decDigits n.natAbs).head?=some 48:=by
     have:=congrArg List.head? hp
     rw [List.head?_take] at this
     simpa using this
    have:=a4 this
    omega
   refine ⟨-(u':Int),?_⟩
   rw [hp]
   have:=zy (n:=-(u':Int)) ⟨by omega,by omega⟩
   rw [itoa,if_pos (by omega),show (-(u':Int)).natAbs=u' by omega] at this
   exact this
 ·have hT:itoa n=decDigits n.toNat:=by unfold itoa; rw [if_neg hneg]
  obtain ⟨a1,a2,a3,a4⟩:=XQ _ n.toNat (Nat.lt_succ_self _)
  simp only [hT]
  rw [hT] at h2
  refine ⟨List.all_eq_true.1 a1 _ (List.getElem_mem h2),?_⟩
  have hne:(decDigits n.toNat).take (k+1)≠[]:=by
   intro e
   have:=congrArg List.length e
   rw [List.length_take,List.length_nil] at this
   omega
  obtain ⟨u',hu,hp⟩:=KAo _ n.toNat _ (Nat.lt_succ_self _) hne (List.take_prefix _ _)
  refine ⟨(u':Int),?_⟩
  rw [hp]
  have:=zy (n:=(u':Int)) ⟨by omega,by omega⟩
  rw [itoa,if_neg (by omega),Int.toNat_natCast] at this
  exact this
theorem KCn {s:List UInt8} {fr:Nat} {N:Int} (hN:I64 N) (ha:At s fr (itoa N)) (hf:digB (KO s (fr+(itoa N).length))=false):∀ (f k:Nat) (n:Int),sgn N≤k→k≤(itoa N).length→(itoa N).length≤k+f→(k=(itoa N).length→n=N)→numL s fr f (fr+k) n=.ok (N,fr+(itoa N).length)
 | 0,k,n,h1,h2,h3,h4=>by
  have:k=(itoa N).length:=by omega
  rw [numL,h4 this,this]
 | f+1,k,n,h1,h2,h3,h4=>by
  rw [numL]
  by_cases hk:k=(itoa N).length
  ·rw [hk,if_neg (by rw [hf]; decide),h4 hk]
  ·have hkl:k < (itoa N).length:=by omega
   obtain ⟨hd,m,hm⟩:=qt hN h1 hkl
   rw [ha.get hkl,if_pos hd,show fr+k+1 - fr=fr+(k+1) - fr by omega,ha.cut (k:=k+1) hkl,hm,if_neg (show ¬ ((0:Int)=7) by decide),if_neg (show ¬ ((0:Int)≠0) by decide)]
   refine KCn hN ha hf f (k+1) m (by omega) hkl (by omega) (fun he=>?_)
   rw [he,List.take_length,zy hN] at hm
   cases hm
   rfl
theorem KDk (n:Int):itoa n≠[]:=by
 unfold itoa
 split
 ·simp
 ·exact (XQ _ _ (Nat.lt_succ_self _)).2.2.1
theorem KEQ {s:List UInt8} {i:Nat} {n:Int} (hn:I64 n) (ha:At s i (itoa n)) (hf:digB (KO s (i+(itoa n).length))=false):numF s i=.ok (n,i+(itoa n).length):=by
 have hlen:=ha.len (KDk n)
 have hpos:0 < (itoa n).length:=List.length_pos_iff.2 (KDk n)
 have h0:=ha.get hpos
 have hJ:numJ s i=i+sgn n:=by
  unfold numJ sgn
  rw [Nat.add_zero] at h0
  by_cases hneg:n < 0
  ·have hT:itoa n=45::decDigits n.natAbs:=by unfold itoa; rw [if_pos hneg]
   have:KO s i=45:=by rw [h0]; simp only [hT]; rfl
   rw [if_pos this,if_pos hneg]
  ·have hT:itoa n=decDigits n.toNat:=by unfold itoa; rw [if_neg hneg]
   obtain ⟨hd,_⟩:=qt hn (k:=0) (by unfold sgn; rw [if_neg hneg]; exact Nat.le_refl _) hpos
   have:KO s i≠45:=by
    rw [h0]
    intro e
    rw [e] at hd
    exact absurd hd (by decide)
   rw [if_neg this,if_neg hneg]
   rfl
 have hs:sgn n < (itoa n).length:=by
  unfold sgn
  split
  ·rename_i hneg
   have hT:itoa n=45::decDigits n.natAbs:=by unfold itoa; rw [if_pos hneg]
   have:=List.length_pos_iff.2 (XQ _ n.natAbs (Nat.lt_succ_self _)).2.2.1
   rw [hT,List.length_cons]
   omega
  ·exact hpos
 obtain ⟨hd,_⟩:=qt hn (Nat.le_refl _) hs
 unfold numF
 rw [hJ,ha.get hs,if_neg]
 ·exact KCn hn ha hf _ _ _ (Nat.le_refl _) (by omega) (by omega) (fun he=>by omega)
 ·intro hh
  rcases hh with hh | ⟨h1,h2⟩
  ·rw [hd] at hh; cases hh
  ·have hneg:n < 0:=by
    unfold sgn at h1
    by_cases h:n < 0
    ·exact h
    ·rw [if_neg h] at h1; omega
   have hT:itoa n=45::decDigits n.natAbs:=by unfold itoa; rw [if_pos hneg]
   have hs1:sgn n=1:=by unfold sgn; rw [if_pos hneg]
   simp only [hs1,hT,List.getElem_cons_succ] at h2
   obtain ⟨_,_,a3,a4⟩:=XQ _ n.natAbs (Nat.lt_succ_self _)
   have:(decDigits n.natAbs).head?=some 48:=by
    rw [List.head?_eq_getElem?,List.getElem?_eq_getElem (List.length_pos_iff.2 a3),h2]
   have:=a4 this
   omega
theorem KCo {s:List UInt8} {fr:Nat}:∀ {f i:Nat} {n m:Int} {j:Nat},numL s fr f i n=.ok (m,j)→numP ((s.drop fr).take (i - fr))=(n,0)→numP ((s.drop fr).take (j - fr))=(m,0)
 | 0,i,n,m,j,h,hp=>by cases h; exact hp
 | f+1,i,n,m,j,h,hp=>by
  rw [numL] at h
  split at h
  ·split at h
   ·cases h
   ·split at h
    ·cases h; exact hp
    ·rename_i h0
     refine KCo h ?_
     have h0:=Classical.not_not.1 h0
     rw [← h0]
  ·cases h; exact hp
theorem KER {s:List UInt8} {i j:Nat} {n:Int} (h:numF s i=.ok (n,j)) (hi:i≤s.length):At s i (itoa n)∧j=i+(itoa n).length:=by
 have hok:=zm h hi
 have key:numP ((s.drop i).take (j - i))=(n,0):=by
  unfold numF at h
  split at h
  ·cases h
  ·rename_i hb
   have hd:digB (KO s (numJ s i))=true:=by
    cases hh:digB (KO s (numJ s i)) with
    | true=>rfl
    | false=>exact absurd (.inl hh) hb
   have hil:=KEH hd
   rw [show s.length - numJ s i=(s.length - (numJ s i+1))+1 by omega,numL,if_pos hd] at h
   split at h
   ·cases h
   ·split at h
    ·rename_i h7 h0
     exfalso
     cases h
     by_cases h45:KO s i=45
     ·have hJ:numJ s i=i+1:=by unfold numJ; rw [if_pos h45]
      rw [hJ] at hb hd hil h0
      have h2:(s.drop i).take (i+1+1 - i)=[45,KO s (i+1)]:=by
       rw [show i+1+1 - i=2 by omega,List.drop_eq_getElem_cons (by omega),List.drop_eq_getElem_cons hil]
       rw [YU hil,← h45,YU (by omega)]
       rfl
      rw [h2] at h0
      exact h0 ((GA hd).2 (fun e=>hb (.inr ⟨by omega,e⟩)))
     ·have hJ:numJ s i=i:=by unfold numJ; rw [if_neg h45]
      rw [hJ] at hd hil h0
      have h2:(s.drop i).take (i+1 - i)=[KO s i]:=by
       rw [show i+1 - i=1 by omega,List.drop_eq_getElem_cons hil,YU hil]
       rfl
      rw [h2] at h0
      exact h0 (GA hd).1
    ·rename_i h0
     have h0:=Classical.not_not.1 h0
     exact KCo h (by rw [← h0])
 have ht:=KGf key
 have hl:=congrArg List.length ht
 rw [List.length_take,List.length_drop] at hl
 have hj:j=i+(itoa n).length:=by omega
 refine ⟨?_,hj⟩
 unfold At
 rw [← ht]
 conv=>lhs; rw [List.length_take,List.length_drop,Nat.min_eq_left (by omega)]
end Gx
namespace Gx
open Go Go.Proofs Go.Shelf Go.RowKit Go.Lib
set_option linter.unusedVariables false
set_option linter.unusedSimpArgs false
set_option maxRecDepth 100000
theorem KGo:∀ k:Fin 16,hexN (hexc k.val)=(k.val:Int):=by decide +kernel
theorem KIn {k:Nat} (h:k < 16):hexN (hexc k)=(k:Int):=KGo ⟨k,h⟩
theorem KH4:∀ k:Fin 16,hexD[k.val]?=some (hexc k.val):=by decide +kernel
theorem KES {c:UInt8} (h:0≤hexN c):c=hexc (hexN c).toNat:=by
 have hle:=zl c
 have h1:Lib.indexByte hexD c=(((hexN c).toNat:Nat):Int):=by rw [Int.toNat_of_nonneg h]; rfl
 have h2:=(Lib.indexByte_some h1).1
 rw [KH4 ⟨(hexN c).toNat,by omega⟩] at h2
 exact (Option.some.inj h2).symm
theorem KFN {a b:UInt8}:a < b↔a.toNat < b.toNat:=UInt8.lt_iff_toNat_lt
theorem KET {c:UInt8} (h:c.toNat < 32∨126 < c.toNat):qc c=[92,120,hexc (c.toNat / 16),hexc (c.toNat % 16)]:=by
 unfold qc
 rw [if_pos (by rw [KFN,KFN]; exact h)]
theorem KEU {c:UInt8} (h:c=39∨c=92):qc c=[92,c]:=by
 unfold qc
 rw [if_neg (by rw [KFN,KFN]; rcases h with rfl | rfl <;> decide),if_pos h]
theorem KJv {c:UInt8} (h:¬ (c.toNat < 32∨126 < c.toNat)) (h2:¬ (c=39∨c=92)):qc c=[c]:=by
 unfold qc
 rw [if_neg (by rw [KFN,KFN]; exact h),if_neg h2]
theorem KH5 {s:List UInt8} {i:Nat} {c:UInt8} {w:List UInt8} (hq:qc c=92::w) (ha:At s i w) (hw:w≠[]) (hne:c.toNat < 32∨126 < c.toNat∨c=39∨c=92):escP s i=.ok (c,i+w.length):=by
 by_cases h:c.toNat < 32∨126 < c.toNat
 ·rw [KET h] at hq
  cases hq
  have hlt:c.toNat < 256:=c.toNat_lt
  have a0:=ha.get (k:=0) (by simp)
  have a1:=ha.get (k:=1) (by simp)
  have a2:=ha.get (k:=2) (by simp)
  simp only [Nat.add_zero,List.getElem_cons_zero,List.getElem_cons_succ] at a0 a1 a2
  have hm:Yg s [120] i=.ok (i+1):=VF (lit:=[120]) ((ZS (a:=[120]) (b:=[hexc (c.toNat / 16),hexc (c.toNat % 16)])).1 ha).1
  have e1:hexN (KO s (i+1))=((c.toNat / 16:Nat):Int):=by rw [a1,KIn (by omega)]
  have e2:hexN (KO s (i+1+1))=((c.toNat % 16:Nat):Int):=by rw [show i+1+1=i+2 by omega,a2,KIn (by omega)]
  unfold escP
  rw [a0,if_neg (by decide),hm]
  dsimp only
  rw [e1,e2,if_neg (by omega),if_neg (by omega)]
  have:UInt8.ofNat ((((c.toNat / 16:Nat):Int) * 16+((c.toNat % 16:Nat):Int)).toNat)=c:=by
   rw [show (((c.toNat / 16:Nat):Int) * 16+((c.toNat % 16:Nat):Int)).toNat=c.toNat by omega,UInt8.ofNat_toNat]
  rw [this]
  rfl
 ·have h2:c=39∨c=92:=by
   rcases hne with h3 | h3 | h3 | h3
   ·exact absurd (.inl h3) h
   ·exact absurd (.inr h3) h
   ·exact .inl h3
   ·exact .inr h3
  rw [KEU h2] at hq
  cases hq
  unfold escP
  rw [ha.here,if_pos h2]
  rfl
theorem KCp {s:List UInt8}:∀ (t:List UInt8) (f i:Nat) (acc:List UInt8),At s i (t.flatMap qc++[39])→t.length < f→strL s f i acc=.ok (acc++t,i+(t.flatMap qc).length+1)
 | [],f,i,acc,ha,hf=>by
  obtain ⟨f,rfl⟩:∃ g,f=g+1:=⟨f - 1,by omega⟩
  rw [List.flatMap_nil,List.nil_append] at ha
  rw [strL,if_pos ha.here]
  simp
 | c::t,f,i,acc,ha,hf=>by
  obtain ⟨f,rfl⟩:∃ g,f=g+1:=⟨f - 1,by omega⟩
  rw [List.length_cons] at hf
  rw [List.flatMap_cons,List.append_assoc] at ha
  have ha2:=ZS.1 ha
  have ih:=KCp t f (i+(qc c).length) (acc++[c]) ha2.2 (by omega)
  have hres:(Except.ok (acc++[c]++t,i+(qc c).length+(t.flatMap qc).length+1):Except Nat (List UInt8 × Nat))=.ok (acc++c::t,i+((c::t).flatMap qc).length+1):=by
   rw [List.flatMap_cons,List.length_append,List.append_assoc,Nat.add_assoc i]
   rfl
  rw [hres] at ih
  rw [strL]
  by_cases h:(c.toNat < 32∨126 < c.toNat)∨(c=39∨c=92)
  ·have hw:∃ w,qc c=92::w∧w≠[]:=by
    rcases h with h | h
    ·exact ⟨_,KET h,by simp⟩
    ·exact ⟨_,KEU h,by simp⟩
   obtain ⟨w,hq,hwn⟩:=hw
   rw [hq] at ha2
   have h92:=ha2.1.here
   have hesc:=KH5 hq (qJ.1 ha2.1).2 hwn (by rcases h with (h | h) | (h | h) <;> simp [h])
   rw [h92,if_neg (by decide),if_neg (by decide),if_pos rfl,hesc]
   dsimp only
   rw [hq,List.length_cons] at ih
   rw [show i+1+w.length=i+(w.length+1) by omega]
   exact ih
  ·have h1:¬ (c.toNat < 32∨126 < c.toNat):=fun hh=>h (.inl hh)
   have h2:¬ (c=39∨c=92):=fun hh=>h (.inr hh)
   rw [KJv h1 h2] at ha2 ih
   have hh:=ha2.1.here
   rw [hh,if_neg (fun e=>h2 (.inl e)),if_neg h1,if_neg (fun e=>h2 (.inr e))]
   exact ih
theorem KLO (t:List UInt8):t.length≤(t.flatMap qc).length:=by
 induction t with
 | nil=>simp
 | cons c t ih =>
  rw [List.flatMap_cons,List.length_append,List.length_cons]
  have:1≤(qc c).length:=by unfold qc; split <;> (try split) <;> simp
  omega
theorem KH6 {s t:List UInt8} {i:Nat} (ha:At s i (JV t)):strP s i=.ok (t,i+(JV t).length):=by
 unfold JV at ha ⊢
 have hl:=ha.len (by simp)
 have h1:At s i [39]∧At s (i+1) (t.flatMap qc++[39]):=by
  have:=(ZS (a:=[39]) (b:=t.flatMap qc++[39]) (i:=i) (s:=s)).1 (by simpa using ha)
  exact this
 have hq:=KLO t
 simp only [List.length_cons,List.length_append,List.length_nil,List.cons_append] at hl
 unfold strP
 rw [VF h1.1]
 dsimp only
 rw [List.length_singleton,KCp t _ (i+1) [] h1.2 (by omega)]
 simp only [List.nil_append,List.cons_append,List.length_cons,List.length_append,List.length_nil]
 congr 2
 omega
theorem KH7 {s:List UInt8} {i j:Nat} {c:UInt8} (h:escP s i=.ok (c,j)):∃ w,qc c=92::w∧At s i w∧j=i+w.length:=by
 unfold escP at h
 split at h
 ·rename_i hc
  cases h
  refine ⟨[KO s i],KEU hc,VG rfl (by rcases hc with h | h <;> (rw [h]; decide)),rfl⟩
 ·split at h
  ·cases h
  ·rename_i j' hj
   obtain ⟨a1,a2⟩:=UC hj
   have a2:j'=i+1:=a2
   subst a2
   split at h
   ·cases h
   ·rename_i hb1
    split at h
    ·cases h
    ·rename_i hb2
     cases h
     have l1:=zl (KO s (i+1))
     have l2:=zl (KO s (i+1+1))
     have c1:0≤hexN (KO s (i+1)):=by omega
     have c2:0≤hexN (KO s (i+1+1)):=by omega
     generalize hx:hexN (KO s (i+1))=x at *
     generalize hy:hexN (KO s (i+1+1))=y at *
     have hv:(UInt8.ofNat ((x * 16+y).toNat)).toNat=(x * 16+y).toNat:=by
      rw [UInt8.toNat_ofNat']
      exact Nat.mod_eq_of_lt (by omega)
     refine ⟨[120,KO s (i+1),KO s (i+1+1)],?_,?_,rfl⟩
     ·rw [KET (by rw [hv]; omega),hv]
      have e1:=KES (c:=KO s (i+1)) (by rw [hx]; exact c1)
      have e2:=KES (c:=KO s (i+1+1)) (by rw [hy]; exact c2)
      rw [hx] at e1
      rw [hy] at e2
      rw [e1,e2,show (x * 16+y).toNat / 16=x.toNat by omega,show (x * 16+y).toNat % 16=y.toNat by omega]
     ·have hz1:KO s (i+1)≠0:=fun e=>by rw [e,KCh] at hx; omega
      have hz2:KO s (i+1+1)≠0:=fun e=>by rw [e,KCh] at hy; omega
      have b1:=VG (s:=s) (i:=i+1) rfl hz1
      have b2:=VG (s:=s) (i:=i+1+1) rfl hz2
      exact (ZS (a:=[120]) (b:=[_,_])).2 ⟨a1,(ZS (a:=[_]) (b:=[_])).2 ⟨b1,b2⟩⟩
theorem zz {s:List UInt8}:∀ {f i:Nat} {acc t:List UInt8} {j:Nat},strL s f i acc=.ok (t,j)→∃ t',t=acc++t'∧At s i (t'.flatMap qc++[39])∧j=i+(t'.flatMap qc).length+1
 | 0,i,acc,t,j,h=>by cases h
 | f+1,i,acc,t,j,h=>by
  rw [strL] at h
  split at h
  ·rename_i h39
   cases h
   exact ⟨[],by simp,VG h39 (by decide),rfl⟩
  ·rename_i h39
   split at h
   ·cases h
   ·rename_i hr
    split at h
    ·rename_i h92
     split at h
     ·cases h
     ·rename_i c j2 he
      obtain ⟨w,hq,hw,hj⟩:=KH7 he
      obtain ⟨t',h1,h2,h3⟩:=zz h
      refine ⟨c::t',by rw [h1]; simp,?_,?_⟩
      ·rw [List.flatMap_cons,List.append_assoc,ZS,hq,List.length_cons]
       refine ⟨(ZS (a:=[92]) (b:=w)).2 ⟨VG h92 (by decide),hw⟩,?_⟩
       rw [hj] at h2
       rw [show i+(w.length+1)=i+1+w.length by omega]
       exact h2
      ·rw [h3,hj,List.flatMap_cons,List.length_append,hq,List.length_cons]
       omega
    ·rename_i h92
     obtain ⟨t',h1,h2,h3⟩:=zz h
     have hq:=KJv (c:=KO s i) hr (fun hh=>hh.elim h39 h92)
     refine ⟨KO s i::t',by rw [h1]; simp,?_,?_⟩
     ·rw [List.flatMap_cons,List.append_assoc,ZS,hq]
      exact ⟨VG rfl (fun e=>hr (.inl (by rw [e]; decide))),h2⟩
     ·rw [h3,List.flatMap_cons,List.length_append,hq]
      simp only [List.length_singleton]
      omega
theorem KH8 {s t:List UInt8} {i j:Nat} (h:strP s i=.ok (t,j)):At s i (JV t)∧j=i+(JV t).length:=by
 unfold strP at h
 split at h
 ·cases h
 ·rename_i j1 hj
  obtain ⟨a1,a2⟩:=UC hj
  have a2:j1=i+1:=a2
  subst a2
  obtain ⟨t',h1,h2,h3⟩:=zz h
  rw [List.nil_append] at h1
  subst h1
  unfold JV
  refine ⟨?_,by rw [h3]; simp; omega⟩
  have:=(ZS (a:=[39]) (b:=t.flatMap qc++[39]) (i:=i) (s:=s)).2 ⟨a1,h2⟩
  simpa using this
end Gx
namespace Gx
open Go Go.Proofs Go.Shelf Go.RowKit Go.Lib
set_option linter.unusedVariables false
set_option linter.unusedSimpArgs false
set_option maxRecDepth 100000
def WfV:Nat→Vl→Prop
 | 0,_=>True
 | d+1,.mk _ n _ l=>I64 n∧∀ x ∈ l,WfV d x
def sepT (d:Nat) (l:List Vl):List UInt8:=l.flatMap (fun x=>[44,32]++txt d x)
def mapT (d:Nat):List Vl→List UInt8
 | a::b::r=>[44,32]++(txt d a++([58,32]++(txt d b++mapT d r)))
 | _=>[]
theorem KBk (d:Nat):∀ (l:List Vl) (a:Vl),shw [44,32] [44,32] ((a::l).map (txt d))=txt d a++sepT d l
 | [],a=>by simp [shw,sepT]
 | b::l,a=>by
  have:=KBk d l b
  simp only [List.map_cons] at this ⊢
  rw [shw,this]
  simp [sepT]
theorem KBl (d:Nat):∀ (n:Nat) (l:List Vl) (a b:Vl),l.length=2 * n→shw [58,32] [44,32] ((a::b::l).map (txt d))=txt d a++([58,32]++(txt d b++mapT d l))
 | 0,l,a,b,h=>by
  obtain rfl:l=[]:=List.length_eq_zero_iff.1 h
  simp [shw,mapT]
 | n+1,l,a,b,h=>by
  match l,h with
  | x::y::r,h =>
   have:=KBl d n r x y (by simp only [List.length_cons] at h; omega)
   simp only [List.map_cons] at this ⊢
   rw [shw,shw,this,mapT]
theorem KEV (d:Nat) (n:Int) (s:List UInt8) (l:List Vl):txt (d+1) (.mk 4 n s l)=[91]++(shw [44,32] [44,32] (l.map (txt d))++[93]):=by
 rw [txt]
 simp
theorem KGp (d:Nat) (n:Int) (s:List UInt8) (l:List Vl):txt (d+1) (.mk 5 n s l)=[123]++(shw [58,32] [44,32] (l.map (txt d))++[125]):=by
 rw [txt]
 simp
theorem KCq {s:List UInt8} {d i j:Nat} {v:Vl} (h:pval s d i=.ok (v,j)):KO s i≠93∧KO s i≠125∧i < s.length:=by
 cases d with
 | zero=>cases h
 | succ d =>
  refine ⟨fun e=>?_,fun e=>?_,UI (fun e=>?_)⟩ <;>
  ·rw [pval,e,if_neg (by decide),if_neg (by decide),if_neg (by decide),if_neg (by decide),if_neg (by decide),if_neg (by decide),if_neg (by decide),if_neg (by decide)] at h
   cases h
def Rds (s:List UInt8) (d:Nat) (v:Vl):Prop:=∀ i,At s i (txt d v)→digB (KO s (i+(txt d v).length))=false→pval s d i=.ok (v,i+(txt d v).length)
theorem KCr {s:List UInt8} {d:Nat}:∀ (l2 l1:List Vl) (f i:Nat),l1≠[]→(∀ x ∈ l2,Rds s d x)→At s i (sepT d l2++[93])→l2.length < f→Ub (pval s d) 93 false s f l1 i=.ok (l1++l2,i+(sepT d l2).length+1)
 | [],l1,f,i,h1,hr,ha,hf=>by
  obtain ⟨f,rfl⟩:∃ g,f=g+1:=⟨f - 1,by omega⟩
  rw [Ub,if_pos (At.here ha)]
  simp [sepT]
 | x::l2,l1,f,i,h1,hr,ha,hf=>by
  obtain ⟨f,rfl⟩:∃ g,f=g+1:=⟨f - 1,by omega⟩
  rw [List.length_cons] at hf
  have hst:sepT d (x::l2)++[93]=[44,32]++(txt d x++(sepT d l2++[93])):=by simp [sepT]
  rw [hst] at ha
  obtain ⟨a1,a2⟩:=ZS.1 ha
  obtain ⟨a3,a4⟩:=ZS.1 a2
  have hnext:KO s (i+2+(txt d x).length)=44∨KO s (i+2+(txt d x).length)=93:=by
   cases l2 with
   | nil=>exact .inr (At.here a4)
   | cons y l2 =>
    rw [show sepT d (y::l2)++[93]=44::(32::(txt d y++(sepT d l2++[93]))) by simp [sepT]] at a4
    exact .inl (At.here a4)
  have hp:=hr x (by simp) (i+2) a3 (by rcases hnext with h | h <;> (rw [h]; decide))
  have ih:=KCr l2 (l1++[x]) f (i+2+(txt d x).length) (by simp) (fun y hy=>hr y (by simp [hy])) a4 (by omega)
  have hl1:¬ l1.length=0:=fun e=>h1 (List.length_eq_zero_iff.1 e)
  rw [Ub,if_neg (by rw [At.here a1]; decide)]
  unfold sepP
  rw [if_neg hl1,VF a1]
  dsimp only
  unfold YP
  rw [show i+([44,32]:List UInt8).length=i+2 from rfl,hp]
  dsimp only
  rw [if_neg (by decide)]
  dsimp only
  rw [if_neg (by rcases hnext with h | h <;> (rw [h]; decide)),ih]
  have:(sepT d (x::l2)).length=2+(txt d x).length+(sepT d l2).length:=by simp [sepT]; omega
  rw [this,List.append_assoc]
  congr 2
  omega
theorem KEW {s:List UInt8} {d:Nat}:∀ (n:Nat) (l2 l1:List Vl) (f i:Nat),l2.length=2 * n→l1≠[]→(∀ x ∈ l2,Rds s d x)→At s i (mapT d l2++[125])→l2.length < f→Ub (pval s d) 125 true s f l1 i=.ok (l1++l2,i+(mapT d l2).length+1)
 | 0,l2,l1,f,i,hn,h1,hr,ha,hf=>by
  obtain rfl:l2=[]:=List.length_eq_zero_iff.1 hn
  obtain ⟨f,rfl⟩:∃ g,f=g+1:=⟨f - 1,by omega⟩
  rw [Ub,if_pos (At.here ha)]
  simp [mapT]
 | n+1,l2,l1,f,i,hn,h1,hr,ha,hf=>by
  match l2,hn with
  | x::y::l2,hn =>
   obtain ⟨f,rfl⟩:∃ g,f=g+1:=⟨f - 1,by omega⟩
   simp only [List.length_cons] at hf hn
   have hst:mapT d (x::y::l2)++[125]=[44,32]++(txt d x++([58,32]++(txt d y++(mapT d l2++[125])))):=by rw [mapT]; simp
   rw [hst] at ha
   obtain ⟨a1,a2⟩:=ZS.1 ha
   obtain ⟨a3,a4⟩:=ZS.1 a2
   obtain ⟨a5,a6⟩:=ZS.1 a4
   obtain ⟨a7,a8⟩:=ZS.1 a6
   have hnext:KO s (i+2+(txt d x).length+2+(txt d y).length)=44∨KO s (i+2+(txt d x).length+2+(txt d y).length)=125:=by
    match l2,hn with
    | [],_=>exact .inr (At.here a8)
    | u::w::l2,_ =>
     rw [show mapT d (u::w::l2)++[125]=44::(32::(txt d u++([58,32]++(txt d w++(mapT d l2++[125]))))) by rw [mapT]; simp] at a8
     exact .inl (At.here a8)
    | [u],hn=>exact absurd hn (by simp; omega)
   have hp:=hr x (by simp) (i+2) a3 (by rw [show i+2+(txt d x).length=i+([44,32]:List UInt8).length+(txt d x).length from rfl,At.here a5]; decide)
   have hp2:=hr y (by simp) (i+2+(txt d x).length+2) a7 (by rcases hnext with h | h <;> (rw [h]; decide))
   have ih:=KEW n l2 (l1++[x,y]) f (i+2+(txt d x).length+2+(txt d y).length) (by omega) (by simp) (fun z hz=>hr z (by simp [hz])) a8 (by omega)
   have hl1:¬ l1.length=0:=fun e=>h1 (List.length_eq_zero_iff.1 e)
   rw [Ub,if_neg (by rw [At.here a1]; decide)]
   unfold sepP
   rw [if_neg hl1,VF a1]
   dsimp only
   unfold YP
   rw [show i+([44,32]:List UInt8).length=i+2 from rfl,hp]
   dsimp only
   have hm:=VF a5
   rw [if_pos rfl,show i+2+(txt d x).length=i+([44,32]:List UInt8).length+(txt d x).length from rfl,hm]
   dsimp only
   rw [show i+([44,32]:List UInt8).length+(txt d x).length+([58,32]:List UInt8).length=i+2+(txt d x).length+2 from rfl,hp2]
   dsimp only
   rw [if_neg (by rcases hnext with h | h <;> (rw [h]; decide)),ih]
   have:(mapT d (x::y::l2)).length=2+(txt d x).length+2+(txt d y).length+(mapT d l2).length:=by rw [mapT]; simp; omega
   rw [this,List.append_assoc]
   congr 2
   omega
theorem KGq {s:List UInt8} {d:Nat} {l:List Vl} {i:Nat} (hr:∀ x ∈ l,Rds s d x) (ha:At s i (shw [44,32] [44,32] (l.map (txt d))++[93])) (f:Nat) (hf:l.length < f) :
  Ub (pval s d) 93 false s f [] i=.ok (l,i+(shw [44,32] [44,32] (l.map (txt d))).length+1):=by
 obtain ⟨f,rfl⟩:∃ g,f=g+1:=⟨f - 1,by omega⟩
 cases l with
 | nil =>
  rw [Ub,if_pos (At.here ha)]
  rfl
 | cons x l =>
  rw [KBk] at ha ⊢
  rw [List.append_assoc] at ha
  obtain ⟨a3,a4⟩:=ZS.1 ha
  have hnext:KO s (i+(txt d x).length)=44∨KO s (i+(txt d x).length)=93:=by
   cases l with
   | nil=>exact .inr (At.here a4)
   | cons y l =>
    rw [show sepT d (y::l)++[93]=44::(32::(txt d y++(sepT d l++[93]))) by simp [sepT]] at a4
    exact .inl (At.here a4)
  have hp:=hr x (by simp) i a3 (by rcases hnext with h | h <;> (rw [h]; decide))
  have ih:=KCr l [x] f (i+(txt d x).length) (by simp) (fun y hy=>hr y (by simp [hy])) a4 (by simp only [List.length_cons] at hf; omega)
  rw [Ub,if_neg (KCq hp).1]
  unfold sepP
  rw [if_pos (show ([]:List Vl).length=0 from rfl)]
  dsimp only
  unfold YP
  rw [hp]
  dsimp only
  rw [if_neg (by decide)]
  dsimp only
  rw [if_neg (by rcases hnext with h | h <;> (rw [h]; decide)),List.nil_append,ih,List.length_append]
  congr 2
  omega
theorem KH9 {s:List UInt8} {d:Nat} {l:List Vl} {i:Nat} (he:l.length % 2=0) (hr:∀ x ∈ l,Rds s d x) (ha:At s i (shw [58,32] [44,32] (l.map (txt d))++[125])) (f:Nat) (hf:l.length < f) :
  Ub (pval s d) 125 true s f [] i=.ok (l,i+(shw [58,32] [44,32] (l.map (txt d))).length+1):=by
 obtain ⟨f,rfl⟩:∃ g,f=g+1:=⟨f - 1,by omega⟩
 match l,he with
 | [],_ =>
  rw [Ub,if_pos (At.here ha)]
  rfl
 | [u],he=>exact absurd he (by simp)
 | x::y::l,he =>
  simp only [List.length_cons] at he hf
  rw [KBl d (l.length / 2) l x y (by omega)] at ha ⊢
  rw [show txt d x++([58,32]++(txt d y++mapT d l))++[125]=txt d x++([58,32]++(txt d y++(mapT d l++[125]))) by simp] at ha
  obtain ⟨a3,a4⟩:=ZS.1 ha
  obtain ⟨a5,a6⟩:=ZS.1 a4
  obtain ⟨a7,a8⟩:=ZS.1 a6
  have hnext:KO s (i+(txt d x).length+2+(txt d y).length)=44∨KO s (i+(txt d x).length+2+(txt d y).length)=125:=by
   match l,he with
   | [],_=>exact .inr (At.here a8)
   | u::w::l2,_ =>
    rw [show mapT d (u::w::l2)++[125]=44::(32::(txt d u++([58,32]++(txt d w++(mapT d l2++[125]))))) by rw [mapT]; simp] at a8
    exact .inl (At.here a8)
   | [u],he=>exact absurd he (by simp)
  have hp:=hr x (by simp) i a3 (by rw [At.here a5]; decide)
  have hp2:=hr y (by simp) (i+(txt d x).length+2) a7 (by rcases hnext with h | h <;> (rw [h]; decide))
  have ih:=KEW (l.length / 2) l [x,y] f (i+(txt d x).length+2+(txt d y).length) (by omega) (by simp) (fun z hz=>hr z (by simp [hz])) a8 (by omega)
  rw [Ub,if_neg (KCq hp).2.1]
  unfold sepP
  rw [if_pos (show ([]:List Vl).length=0 from rfl)]
  dsimp only
  unfold YP
  rw [hp]
  dsimp only
  rw [if_pos rfl,VF a5]
  dsimp only
  rw [show i+(txt d x).length+([58,32]:List UInt8).length=i+(txt d x).length+2 from rfl,hp2]
  dsimp only
  rw [if_neg (by rcases hnext with h | h <;> (rw [h]; decide)),List.nil_append,ih]
  simp only [List.length_append,List.length_cons,List.length_nil]
  congr 2
  omega
theorem KBm {s:List UInt8} {l:List Vl} (h:KCf s l=true):s=[]∧l=[]:=by
 unfold KCf at h
 rw [Bool.and_eq_true,decide_eq_true_iff,List.isEmpty_iff] at h
 exact h
theorem KCs {s:List UInt8} {i:Nat} {k n:Int} {c:UInt8} (hn:I64 n) (ha:At s i ([c,91]++itoa n++[93])):Nl k s i=.ok (.mk k n [] [],i+([c,91]++itoa n++[93]).length):=by
 rw [List.append_assoc] at ha
 obtain ⟨a1,a2⟩:=ZS.1 ha
 obtain ⟨a3,a4⟩:=ZS.1 a2
 have a1':At s (i+1) [91]:=((ZS (a:=[c]) (b:=[91])).1 a1).2
 have hnum:=KEQ (i:=i+2) hn a3 (by rw [show i+2+(itoa n).length=i+([c,91]:List UInt8).length+(itoa n).length from rfl,At.here a4]; decide)
 unfold Nl
 rw [VF a1']
 dsimp only
 rw [show i+1+([91]:List UInt8).length=i+2 from rfl,hnum]
 dsimp only
 have:=VF a4
 rw [show i+2+(itoa n).length=i+([c,91]:List UInt8).length+(itoa n).length from rfl,this]
 simp only [List.length_append,List.length_cons,List.length_nil]
 congr 2
 omega
theorem KEX (s:List UInt8):∀ (d:Nat) (v:Vl),mayV d v=true→WfV d v→Rds s d v
 | 0,v,hm,_=>by cases v; cases hm
 | d+1,.mk k n t l,hm,hw=>by
  have ih:=KEX s d
  intro i ha hf
  rw [WfV] at hw
  rw [mayV] at hm
  by_cases h1:k=1
  ·subst h1
   rw [if_pos rfl] at hm
   obtain ⟨rfl,rfl⟩:=KBm hm
   have ht:txt (d+1) (.mk 1 n [] [])=itoa n:=by rw [txt,if_pos rfl]
   rw [ht] at ha hf ⊢
   have hnum:=KEQ hw.1 ha hf
   have hc:KO s i=45∨digB (KO s i)=true:=by
    have h0:=ha.get (k:=0) (List.length_pos_iff.2 (KDk n))
    rw [Nat.add_zero] at h0
    by_cases hneg:n < 0
    ·left
     have hT:itoa n=45::decDigits n.natAbs:=by unfold itoa; rw [if_pos hneg]
     rw [h0]
     simp only [hT]
     rfl
    ·right
     rw [h0]
     exact (qt hw.1 (k:=0) (by unfold sgn; rw [if_neg hneg]; exact Nat.le_refl _) _).1
   rw [pval,if_pos hc,hnum]
  rw [if_neg h1] at hm
  by_cases h3:k=3
  ·subst h3
   rw [if_pos rfl,Bool.and_eq_true,Bool.or_eq_true,decide_eq_true_iff,decide_eq_true_iff] at hm
   obtain ⟨hb,hn⟩:=hm
   obtain ⟨rfl,rfl⟩:=KBm hb
   rcases hn with rfl | rfl
   ·have ht:txt (d+1) (.mk 3 0 [] [])=[102,97,108,115,101]:=by rw [txt]; rfl
    rw [ht] at ha ⊢
    rw [pval,At.here ha,if_neg (by decide),if_neg (by decide),if_neg (by decide),if_pos rfl,VF ha]
   ·have ht:txt (d+1) (.mk 3 1 [] [])=[116,114,117,101]:=by rw [txt]; rfl
    rw [ht] at ha ⊢
    rw [pval,At.here ha,if_neg (by decide),if_neg (by decide),if_pos rfl,VF ha]
  rw [if_neg h3] at hm
  by_cases h67:k=6∨k=7
  ·rw [if_pos h67,Bool.and_eq_true,Bool.and_eq_true,decide_eq_true_iff,decide_eq_true_iff] at hm
   obtain ⟨⟨hb,hn1⟩,hn2⟩:=hm
   obtain ⟨rfl,rfl⟩:=KBm hb
   rcases h67 with rfl | rfl
   ·have ht:txt (d+1) (.mk 6 n [] [])=[118,91]++itoa n++[93]:=by rw [txt]; rfl
    rw [ht] at ha ⊢
    have hh:KO s i=118:=by
     rw [List.append_assoc] at ha
     exact At.here (ZS.1 ha).1
    rw [pval,hh,if_neg (by decide),if_neg (by decide),if_neg (by decide),if_neg (by decide),if_pos rfl]
    exact KCs hw.1 ha
   ·have ht:txt (d+1) (.mk 7 n [] [])=[101,91]++itoa n++[93]:=by rw [txt]; rfl
    rw [ht] at ha ⊢
    have hh:KO s i=101:=by
     rw [List.append_assoc] at ha
     exact At.here (ZS.1 ha).1
    rw [pval,hh,if_neg (by decide),if_neg (by decide),if_neg (by decide),if_neg (by decide),if_neg (by decide),if_pos rfl]
    exact KCs hw.1 ha
  rw [if_neg h67] at hm
  by_cases h2:k=2
  ·subst h2
   rw [if_pos rfl,Bool.and_eq_true,Bool.and_eq_true,decide_eq_true_iff,List.isEmpty_iff,decide_eq_true_iff] at hm
   obtain ⟨⟨rfl,rfl⟩,_⟩:=hm
   have ht:txt (d+1) (.mk 2 0 t [])=JV t:=by rw [txt]; rfl
   rw [ht] at ha ⊢
   have hh:KO s i=39:=by
    have:JV t=39::(t.flatMap qc++[39]):=rfl
    rw [this] at ha
    exact At.here ha
   rw [pval,hh,if_neg (by decide),if_pos rfl,KH6 ha]
  rw [if_neg h2] at hm
  by_cases h4:k=4
  ·subst h4
   rw [if_pos rfl,Bool.and_eq_true,Bool.and_eq_true,Bool.and_eq_true,decide_eq_true_iff,decide_eq_true_iff,decide_eq_true_iff,List.all_eq_true] at hm
   obtain ⟨hl,⟨rfl,rfl⟩,hall⟩:=hm
   rw [KEV] at ha ⊢
   obtain ⟨a1,a2⟩:=ZS.1 ha
   have hlen:=a2.len (by simp)
   have hcount:l.length≤(shw [44,32] [44,32] (l.map (txt d))).length:=by
    cases l with
    | nil=>simp
    | cons x l =>
     rw [KBk,List.length_append,List.length_cons]
     have:=KBj d x
     have h5:l.length≤(sepT d l).length:=by
      clear hall hl ha a1 a2 hlen hf hw
      induction l with
      | nil=>simp
      | cons y l ih2=>simp only [sepT,List.flatMap_cons,List.length_append,List.length_cons,List.length_nil] at ih2 ⊢; omega
     omega
   rw [List.length_append,List.length_singleton] at hlen
   have hlist:=KGq (fun x hx=>ih x (hall x hx) (hw.2 x hx)) a2 (s.length - i) (by have:([91]:List UInt8).length=1:=rfl; omega)
   rw [pval,At.here a1,if_neg (by decide),if_neg (by decide),if_neg (by decide),if_neg (by decide),if_neg (by decide),if_neg (by decide),if_pos rfl]
   rw [show i+([91]:List UInt8).length=i+1 from rfl] at hlist
   rw [hlist]
   simp only [List.length_append,List.length_cons,List.length_nil]
   congr 2
   omega
  rw [if_neg h4] at hm
  by_cases h5:k=5
  ·subst h5
   rw [if_pos rfl,Bool.and_eq_true,Bool.and_eq_true,Bool.and_eq_true,Bool.and_eq_true,Bool.and_eq_true,decide_eq_true_iff,decide_eq_true_iff,decide_eq_true_iff,decide_eq_true_iff,List.all_eq_true] at hm
   obtain ⟨⟨⟨hl,he⟩,_⟩,⟨rfl,rfl⟩,hall⟩:=hm
   rw [KGp] at ha ⊢
   obtain ⟨a1,a2⟩:=ZS.1 ha
   have hlen:=a2.len (by simp)
   have hcount:l.length≤(shw [58,32] [44,32] (l.map (txt d))).length:=by
    match l,he with
    | [],_=>simp
    | [u],he=>exact absurd he (by simp)
    | x::y::l,he =>
     simp only [List.length_cons] at he
     rw [KBl d (l.length / 2) l x y (by omega)]
     have h6:∀ (n:Nat) (l:List Vl),l.length=2 * n→l.length≤(mapT d l).length:=by
      intro n
      induction n with
      | zero=>intro l hl; omega
      | succ n ih2 =>
       intro l hl
       match l,hl with
       | a::b::r,hl =>
        simp only [List.length_cons] at hl
        have:=ih2 r (by omega)
        rw [mapT]
        simp only [List.length_append,List.length_cons,List.length_nil]
        omega
     have:=h6 (l.length / 2) l (by omega)
     have:=KBj d x
     have:=KBj d y
     simp only [List.length_append,List.length_cons,List.length_nil]
     omega
   rw [List.length_append,List.length_singleton] at hlen
   have hlist:=KH9 he (fun x hx=>ih x (hall x hx) (hw.2 x hx)) a2 (s.length - i) (by have:([123]:List UInt8).length=1:=rfl; omega)
   rw [pval,At.here a1,if_neg (by decide),if_neg (by decide),if_neg (by decide),if_neg (by decide),if_neg (by decide),if_neg (by decide),if_neg (by decide),if_pos rfl]
   rw [show i+([123]:List UInt8).length=i+1 from rfl] at hlist
   rw [hlist]
   simp only [List.length_append,List.length_cons,List.length_nil]
   congr 2
   omega
  rw [if_neg h5] at hm
  cases hm
end Gx
