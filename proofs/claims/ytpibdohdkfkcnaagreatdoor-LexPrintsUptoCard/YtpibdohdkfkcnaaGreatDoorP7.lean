/- Own proofs: what those Lean programs compute. No condition. -/
import Derived.Test.YtpibdohdkfkcnaaGreatDoorP0
import Derived.Test.YtpibdohdkfkcnaaGreatDoorP1
import Derived.Test.YtpibdohdkfkcnaaGreatDoorP2
import Derived.Test.YtpibdohdkfkcnaaGreatDoorP3
import Derived.Test.YtpibdohdkfkcnaaGreatDoorP4
import Derived.Test.YtpibdohdkfkcnaaGreatDoorP5
import Derived.Test.YtpibdohdkfkcnaaGreatDoorP6
set_option linter.unusedVariables false
set_option linter.unusedSimpArgs false
namespace Gx
open Go
set_option linter.unusedVariables false
set_option linter.unusedSimpArgs false
def KT (h:Heap) (r:Sl) (e:TypeId):Prop:=∀ g,r.base=some ⟨g,0,none⟩→∃ c z,h[g]?=some (.cells c e z)
theorem KT.same {h h':Heap} {r:Sl} {e:TypeId} (k:KT h r e) (hs:∀ i,Sl.on r i→h'[i]?=h[i]?):KT h' r e:=fun g hg=>by
 obtain ⟨c,z,hh⟩:=k g hg
 exact ⟨c,z,(hs g ⟨_,hg,rfl⟩).trans hh⟩
theorem KD7 {lo:Nat} {h:Heap} {Q:Sl→Heap→Prop} {e sz bytes k:Nat} {z:Array Value} {r:Sl} {vs news:List Value} (hz:z.size=sz) (H:Gw lo h r sz vs) (hn:news.length=k * sz) (h1:∀ v ∈ news,one v=true)
  (hb:(r.len+k) * bytes≤140737488355328) (hm:r.len+k≤9223372036854775807) (hlo:lo≤h.size) (hnz:r.cap=0→r=Sl.nil) (hk:KT h r e)
  (hq:∀ h' r',Gw lo h' r' sz (vs++news)→r'.len=r.len+k→h.size≤h'.size→(∀ i,i < h.size→¬ Sl.on r i→h'[i]?=h[i]?)→(∀ i,Sl.on r' i→Sl.on r i∨h.size≤i)→(r'.cap=0→r'=Sl.nil)→KT h' r' e→Q r' h'):apGo e sz bytes z r k news h Q:=by
 unfold apGo
 split
 ·rename_i hc
  have hz':(⟨r.base,r.len+k,r.cap⟩:Sl).cap=0→(⟨r.base,r.len+k,r.cap⟩:Sl)=Sl.nil:=fun h0=>by
   have h0:r.cap=0:=h0
   have:=hnz h0
   subst this
   have:k=0:=by simp [Sl.nil] at hc; exact hc
   subst this
   rfl
  rcases H with ⟨rfl,rfl⟩ | ⟨b,ty,cells,H⟩
  ·have h0:k=0:=by simp [Sl.nil] at hc; exact hc
   subst h0
   have:news=[]:=List.length_eq_zero_iff.1 (by rw [hn]; simp)
   subst this
   refine ⟨fun a ha=>(by cases ha),by simp,?_⟩
   exact hq h _ (.inl ⟨rfl,rfl⟩) rfl (Nat.le_refl _) (fun i _ _=>rfl) (fun i hi=>.inl hi) hz' hk
  ·have hsz:r.len * sz+news.length≤cells.size:=by
    rw [hn,H.size,← Nat.add_mul]
    exact Nat.mul_le_mul_right _ hc
   have hblk:(Wv h r.base (r.len * sz) news)[b]?=some (.cells (lay cells (r.len * sz) news) ty (0,0)):=by
    rw [H.base]
    show (hsetL h ((⟨b,0,none⟩:Addr).add (r.len * sz)) news 0)[b]?=_
    rw [Ke,Nat.zero_add,qH _ _ _ _ H.blk,Nat.add_zero]
   have hne:∀ i,i≠b→(Wv h r.base (r.len * sz) news)[i]?=h[i]?:=fun i hi=>by
    rw [H.base]
    show (hsetL h ((⟨b,0,none⟩:Addr).add (r.len * sz)) news 0)[i]?=_
    rw [Ke,qG hi]
   have hsize:(Wv h r.base (r.len * sz) news).size=h.size:=by
    rw [H.base]
    exact YO _ _ _
   refine ⟨fun a ha j hj=>?_,h1,hq _ _ (.inr ⟨b,ty,_,H.base,H.lo,hblk,?_,hc,?_,fun j v hj=>?_⟩) rfl (by rw [hsize]; exact Nat.le_refl _) (fun i hi hno=>hne i (fun e=>hno ⟨_,H.base,e.symm⟩)) (fun i hi=>.inl hi) hz' (fun g hg=>?_)⟩
   ·rw [H.base] at ha; cases ha
    rw [Ke,Ke,Nat.zero_add,KJ H.blk,ZB H.blk]
    exact ⟨⟨_,Array.getElem?_eq_getElem (by omega)⟩,rfl⟩
   ·rw [KCO]; exact H.size
   ·rw [List.length_append,H.len,hn,Nat.add_mul]
   ·rw [← Array.getElem?_toList,GY _ _ _ hsz]
    have hlen:(cells.toList.take (r.len * sz)).length=r.len * sz:=by rw [List.length_take,Array.length_toList]; omega
    by_cases hj1:j < vs.length
    ·rw [List.getElem?_append_left hj1] at hj
     have:=H.get j v hj
     rw [List.append_assoc,List.getElem?_append_left (by rw [hlen,← H.len]; exact hj1),List.getElem?_take,if_pos (by rw [← H.len]; exact hj1),Array.getElem?_toList]
     exact this
    ·rw [List.getElem?_append_right (by omega)] at hj
     have hjn:j - vs.length < news.length:=(List.getElem?_eq_some_iff.1 hj).1
     rw [List.append_assoc,List.getElem?_append_right (by rw [hlen,← H.len]; omega),hlen,List.getElem?_append_left (by rw [← H.len]; exact hjn),← H.len]
     exact hj
   ·have hg:r.base=some ⟨g,0,none⟩:=hg
    rw [H.base] at hg; cases hg
    obtain ⟨c,z,hh⟩:=hk b H.base
    rw [H.blk] at hh; cases hh
    exact ⟨_,_,hblk⟩
 ·rename_i hc
  refine ⟨hb,hm,vs,H.len,H.reads,fun cap hcap=>?_⟩
  have hl:=H.len
  refine hq _ _ (.inr ⟨h.size,e,_,rfl,hlo,Kp,?_,hcap,?_,fun j v hj=>?_⟩) rfl (by simp) (fun i hi _=>Vu hi) (fun i hi=>.inr ?_) (fun h0=>by have h0:cap=0:=h0; omega) (fun g hg=>by cases hg; exact ⟨_,_,Kp⟩)
  ·rw [Array.size_append,Array.size_append,KAk,List.size_toArray,List.size_toArray,hl,hn,hz]
   show r.len * sz+k * sz+(cap - (r.len+k)) * sz=cap * sz
   rw [← Nat.add_mul,← Nat.add_mul]
   congr 1
   omega
  ·rw [List.length_append,hl,hn,Nat.add_mul]
  ·have hlt:j < (vs++news).length:=(List.getElem?_eq_some_iff.1 hj).1
   rw [Array.getElem?_append_left (by simpa using hlt)]
   rw [← hj]
   simp
  ·obtain ⟨a,ha,rfl⟩:=hi
   cases ha
   exact Nat.le_refl _
theorem KNJ {β:Type} {e:Nat} {s:Sl} {x:ByteArray} {h:Heap} {Q:β→Heap→Prop} {f:Sl→M β} (H:apGo e 1 1 #[.int .u8 0] s x.size (Zl x) h (fun r h'=>(f r).wp h' Q)):(apS e s x>>=f).wp h Q:=H
theorem KNK {β:Type} {e sz bytes:Nat} {z:Array Value} {s x:Sl} {news:List Value} {h:Heap} {Q:β→Heap→Prop} {f:Sl→M β} (hn:news.length=x.len * sz) (hr:GB h x.base news) (H:apGo e sz bytes z s x.len news h (fun r h'=>(f r).wp h' Q)):(apL e sz bytes z s x>>=f).wp h Q:=⟨news,hn,hr,H⟩
theorem KBD (l:List UInt8):Zl (bs l)=l.map bv:=rfl
structure Bld (lo:Nat) (h:Heap) (b:Nat) (r:Sl) (l:List UInt8):Prop where
 low:lo≤b
 ptr:∃ p,h[b]?=some (.cells #[p,r.v] ZQ (0,0))∧(p=.pointer none∨p=.pointer (some ⟨b,0,none⟩))
 row:Gw lo h r 1 (l.map bv)
 off:¬ Sl.on r b
 nz:r.cap=0→r=Sl.nil
 kt:KT h r KU
theorem Bld.len {lo:Nat} {h:Heap} {b:Nat} {r:Sl} {l:List UInt8} (B:Bld lo h b r l):r.len=l.length:=by
 have:=B.row.len
 simp at this
 exact this.symm
theorem Bld.lt {lo:Nat} {h:Heap} {b:Nat} {r:Sl} {l:List UInt8} (B:Bld lo h b r l):b < h.size:=by
 obtain ⟨p,h1,_⟩:=B.ptr
 exact U6 h1
theorem Bld.ext {lo:Nat} {h h':Heap} {b:Nat} {r:Sl} {l:List UInt8} (B:Bld lo h b r l) (e:Ext h h'):Bld lo h' b r l:=by
 obtain ⟨p,h1,h2⟩:=B.ptr
 exact ⟨B.low,⟨p,e.blk h1,h2⟩,B.row.ext e,B.off,B.nz,B.kt.same (fun i hi=>e.same i (B.row.lt hi).1)⟩
theorem Bld.new {lo:Nat} {h h':Heap} (hl:lo≤h.size) (hb:h'[h.size]?=some (.cells #[.pointer none,.slice none 0 0] ZQ (0,0))):Bld lo h' h.size Sl.nil [] :=
 ⟨hl,⟨_,hb,.inl rfl⟩,Gw.nil _ _ _,fun ⟨a,ha,_⟩=>(by cases ha),fun _=>rfl,fun g hg=>by cases hg⟩
structure BKeep (b:Nat) (r r':Sl) (h h':Heap):Prop where
 size:h.size≤h'.size
 same:∀ i,i < h.size→i≠b→¬ Sl.on r i→h'[i]?=h[i]?
 on_:∀ i,Sl.on r' i→Sl.on r i∨h.size≤i
theorem BKeep.refl (b:Nat) (r:Sl) (h:Heap):BKeep b r r h h:=⟨Nat.le_refl _,fun _ _ _ _=>rfl,fun _ h=>.inl h⟩
theorem BKeep.trans {b:Nat} {r r' r'':Sl} {h h' h'':Heap} (k:BKeep b r r' h h') (k':BKeep b r' r'' h' h'') (hb:b < h.size):BKeep b r r'' h h'' :=
 ⟨Nat.le_trans k.size k'.size,fun i hi hne hno=>(k'.same i (Nat.lt_of_lt_of_le hi k.size) hne (fun ho=>(k.on_ i ho).elim hno (fun h=>by omega))).trans (k.same i hi hne hno),
  fun i hi=>(k'.on_ i hi).elim (fun h=>k.on_ i h) (fun h=>.inr (Nat.le_trans k.size h))⟩
theorem BKeep.ext {lo:Nat} {b:Nat} {r r':Sl} {h0 h h':Heap} {l:List UInt8} (e:Ext h0 h) (B:Bld lo h b r l) (hl:h0.size≤lo) (k:BKeep b r r' h h'):Ext h0 h' :=
 ⟨Nat.le_trans e.size k.size,fun i hi=>(k.same i (Nat.lt_of_lt_of_le hi e.size) (by have:=B.low; omega) (fun ho=>by have:=(B.row.lt ho).2; omega)).trans (e.same i hi)⟩
theorem BKeep.push {b:Nat} {r r':Sl} {h h' h'':Heap} (k:BKeep b r r' h h') (e:Ext h' h''):BKeep b r r' h h'' :=
 ⟨Nat.le_trans k.size e.size,fun i hi h1 h2=>(e.same i (Nat.lt_of_lt_of_le hi k.size)).trans (k.same i hi h1 h2),k.on_⟩
theorem KGU {h:Heap} {b:Nat} {p v u:Value} {t:TypeId} (hb:h[b]?=some (.cells #[p,v] t (0,0))):(hset h ⟨b,1,none⟩ u)[b]?=some (.cells #[p,u] t (0,0)):=by
 rw [VK hb]; rfl
theorem KEy {h:Heap} {b:Nat} {p v u:Value} {t:TypeId} (hb:h[b]?=some (.cells #[p,v] t (0,0))):(hset h ⟨b,0,none⟩ u)[b]?=some (.cells #[u,v] t (0,0)):=by
 rw [VK hb]; rfl
theorem N1 {β:Type} {lo:Nat} {h:Heap} {b:Nat} {r:Sl} {l:List UInt8} {Q:β→Heap→Prop} {f:Unit→M β} (B:Bld lo h b r l)
  (H:∀ h',Bld lo h' b r l→Upd b h h'→(f ()).wp h' Q):(Kt (some ⟨b,0,none⟩)>>=f).wp h Q:=by
 obtain ⟨p,h1,h2⟩:=B.ptr
 refine ⟨b,p,r.v,rfl,h1,?_⟩
 rcases h2 with rfl | rfl
 ·refine .inr ⟨rfl,H _ ⟨B.low,⟨_,KEy h1,.inr rfl⟩,B.row.same (fun i hi=>XZ (fun e=>B.off ((show i=b from e) ▸ hi))),B.off,B.nz,B.kt.same (fun i hi=>XZ (fun e=>B.off ((show i=b from e) ▸ hi)))⟩ (Upd.hset _ _ _ _)⟩
 ·exact .inl ⟨rfl,H _ B (Upd.refl _ _)⟩
theorem KEz {lo:Nat} {h h0 h':Heap} {b:Nat} {r r':Sl} {l l':List UInt8} (B:Bld lo h0 b r l) (u:Upd b h h0) (hs:h0.size≤h'.size)
  (same:∀ i,i < h0.size→¬ Sl.on r i→h'[i]?=h0[i]?) (on_:∀ i,Sl.on r' i→Sl.on r i∨h0.size≤i) (G:Gw lo h' r' 1 (l'.map bv)) (nz:r'.cap=0→r'=Sl.nil) (kt:KT h' r' KU) :
  Bld lo (hset h' ⟨b,1,none⟩ r'.v) b r' l'∧BKeep b r r' h (hset h' ⟨b,1,none⟩ r'.v):=by
 have hb:=B.lt
 obtain ⟨p,h1,h2⟩:=B.ptr
 have h1':h'[b]?=some (.cells #[p,r.v] ZQ (0,0)):=by rw [same b hb B.off]; exact h1
 have hoff:¬ Sl.on r' b:=fun ho=>(on_ b ho).elim B.off (fun h=>by omega)
 refine ⟨⟨B.low,⟨p,KGU h1',h2⟩,G.same (fun i hi=>XZ (fun e=>hoff ((show i=b from e) ▸ hi))),hoff,nz,kt.same (fun i hi=>XZ (fun e=>hoff ((show i=b from e) ▸ hi)))⟩,?_,fun i hi hne hno=>?_,fun i hi=>?_⟩
 ·rw [GD,← u.size]; exact hs
 ·rw [XZ hne,same i (by rw [u.size]; exact hi) hno,u.ne i hne]
 ·rw [← u.size]; exact on_ i hi
theorem Yo {lo:Nat} {h:Heap} {b:Nat} {r:Sl} {l s:List UInt8} {Q:Int × Value→Heap→Prop} (B:Bld lo h b r l) (hlo:lo≤h.size) (hm:l.length+s.length≤140737488355328)
  (H:∀ h' r' n,Bld lo h' b r' (l++s)→BKeep b r r' h h'→Q (n,Value.nilIface) h'):(KS (some ⟨b,0,none⟩) (bs s)).wp h Q:=by
 unfold KS
 refine N1 B (fun h0 B0 u=>ZN ?_)
 obtain ⟨p,h1,h2⟩:=B0.ptr
 have hl:=B0.len
 refine Vg (n:=r) (by rw [Ke,KJ h1]; rfl) ?_
 refine KNJ ?_
 rw [KBD,ZC]
 refine KD7 (vs:=l.map bv) (z:=#[.int .u8 0]) rfl B0.row (by simp) (fun v hv=>by obtain ⟨x,_,rfl⟩:=List.mem_map.1 hv; rfl) (by omega) (by omega) (by rw [u.size]; exact hlo) B0.nz B0.kt (fun h' r' G hlen hs same on_ nz kt=>?_)
 refine ZN ?_
 rw [← List.map_append] at G
 obtain ⟨B',K⟩:=KEz B0 u hs same on_ G nz kt
 have h1':h'[b]?=some (.cells #[p,r.v] ZQ (0,0)):=by rw [same b B0.lt B0.off]; exact h1
 refine NQ (x:=r.v) (by rw [Ke,KJ h1']; rfl) (by rw [Ke,ZB h1']) (KBX _) (KD ?_)
 rw [Ke]
 exact H _ _ _ B' K
theorem YS {lo:Nat} {h:Heap} {b:Nat} {r:Sl} {l:List UInt8} {c:UInt8} {n:Int} {Q:Value→Heap→Prop} (B:Bld lo h b r l) (hlo:lo≤h.size) (hm:l.length+1≤140737488355328) (hn:n=(c.toNat:Int))
  (H:∀ h' r',Bld lo h' b r' (l++[c])→BKeep b r r' h h'→Q Value.nilIface h'):(Ka (some ⟨b,0,none⟩) n).wp h Q:=by
 subst hn
 unfold Ka
 refine N1 B (fun h0 B0 u=>ZN ?_)
 have hl:=B0.len
 obtain ⟨p,h1,h2⟩:=B0.ptr
 refine Vg (n:=r) (by rw [Ke,KJ h1]; rfl) (zQ ?_)
 have e1:=Ext.push h0 (.cells #[.int .u8 (c.toNat:Int)] KU)
 have B1:=B0.ext e1
 refine KNK (news:=[bv c]) rfl (.inr ⟨_,rfl,fun j v hj=>?_⟩) ?_
 ·rw [Ke,KJ Kp,Nat.zero_add]
  rw [show (#[Value.int .u8 (c.toNat:Int)]:Array Value)=[bv c].toArray from rfl]
  simpa using hj
 refine KD7 (vs:=l.map bv) (news:=[bv c]) (z:=#[.int .u8 0]) rfl B1.row rfl (fun v hv=>by simp at hv; subst hv; rfl) (by show (r.len+1) * 1≤_; omega) (by show r.len+1≤_; omega) (by have:=e1.size; have:=u.size; omega) B1.nz B1.kt (fun h' r' G hlen hs same on_ nz kt=>?_)
 refine ZN ?_
 have G:Gw lo h' r' 1 ((l++[c]).map bv):=by rw [List.map_append]; exact G
 obtain ⟨p',h1',h2'⟩:=B1.ptr
 have:=KEz B1 (Upd.refl _ _) hs same on_ G nz kt
 obtain ⟨B',K⟩:=this
 have h1'':h'[b]?=some (.cells #[p',r.v] ZQ (0,0)):=by rw [same b B1.lt B1.off]; exact h1'
 refine NQ (x:=r.v) (by rw [Ke,KJ h1'']; rfl) (by rw [Ke,ZB h1'']) (KBX _) (KD ?_)
 rw [Ke,Nat.zero_add]
 refine H _ _ B' ?_
 refine ⟨?_,fun i hi hne hno=>?_,fun i hi=>(K.on_ i hi).imp id (fun hh=>?_)⟩
 ·have:=K.size; have:=e1.size; have:=u.size; omega
 ·rw [K.same i (by have:=e1.size; have:=u.size; omega) hne hno,e1.same i (by rw [u.size]; exact hi),u.ne i hne]
 ·have:=e1.size; have:=u.size; omega
theorem KBE {lo:Nat} {h:Heap} {b:Nat} {r:Sl} {l:List UInt8} {Q:ByteArray→Heap→Prop} (B:Bld lo h b r l) (hm:l.length≤140737488355328)
  (H:∀ h',BKeep b r r h h'→h'.size=h.size→Q (bs l) h'):(ZJ (some ⟨b,0,none⟩)).wp h Q:=by
 unfold ZJ
 obtain ⟨p,h1,h2⟩:=B.ptr
 have hl:=B.len
 have c1:KO h ((⟨b,0,none⟩:Addr).add 1)=some r.v:=by rw [Ke,KJ h1]; rfl
 refine ZN (ZN (Vg (n:=r) c1 (Vg (n:=r) c1 ?_)))
 rcases B.row with ⟨rfl,hv⟩ | ⟨g,ty,cells,R⟩
 ·have:l=[]:=by simpa using hv
  subst this
  exact ⟨none,.inl ⟨rfl,rfl⟩,.inl ⟨rfl,H h (BKeep.refl _ _ _) rfl⟩⟩
 ·have hc:r.cap≠0:=fun h0=>by
   have:=B.nz h0
   rw [this] at R
   have:=R.base
   cases this
  refine ⟨_,.inr ⟨hc,R.base⟩,?_⟩
  by_cases h0:l=[]
  ·subst h0
   refine .inl ⟨by rw [hl]; rfl,H h (BKeep.refl _ _ _) rfl⟩
  ·have hs:=R.size
   have:=R.cap
   refine .inr ⟨g,cells,(0,0),l,rfl,by rw [hl],h0,by omega,by omega,?_,fun j x hj=>?_,fun h' a1 a2=>KD (H _ ⟨by rw [a1]; exact Nat.le_refl _,fun i hi hne hno=>a2 i (fun e=>hno ⟨_,R.base,e.symm⟩),fun i hi=>.inl hi⟩ a1)⟩
   ·obtain ⟨c,z,hh⟩:=B.kt g R.base
    rw [R.blk] at hh; cases hh
    exact R.blk
   ·have:=R.get j (bv x) (by simp [hj])
    exact this
end Gx
namespace Gx
open Go Go.Proofs Go.Shelf Go.RowKit Go.Lib
set_option linter.unusedVariables false
set_option linter.unusedSimpArgs false
set_option maxRecDepth 100000
theorem KJ1 {β:Type} {c d:Prop} [Decidable c] [Decidable d] {h:Heap} {Q:β→Heap→Prop} {f:Bool→M β} (H:(f (decide (c∧d))).wp h Q):(M.ite (decide c) (M.pure (decide d)) (M.pure false)>>=f).wp h Q:=by
 refine KHC (fun hc=>ZD ?_) (fun hc=>ZD ?_)
 ·have hc:=of_decide_eq_true hc
  rwa [show decide d=decide (c∧d) from decide_eq_decide.2 ⟨fun hd=>⟨hc,hd⟩,fun h=>h.2⟩]
 ·have hc:=of_decide_eq_false hc
  rwa [show false=decide (c∧d) from (decide_eq_false (fun h=>hc h.1)).symm]
theorem KMQ {β:Type} {c d:Prop} [Decidable c] [Decidable d] {h:Heap} {Q:β→Heap→Prop} {f:Bool→M β} (H:(f (decide (c∨d))).wp h Q):(M.ite (decide c) (M.pure true) (M.pure (decide d))>>=f).wp h Q:=by
 refine KHC (fun hc=>ZD ?_) (fun hc=>ZD ?_)
 ·have hc:=of_decide_eq_true hc
  rwa [show true=decide (c∨d) from (decide_eq_true (Or.inl hc)).symm]
 ·have hc:=of_decide_eq_false hc
  rwa [show decide d=decide (c∨d) from decide_eq_decide.2 ⟨Or.inr,fun h=>h.resolve_left hc⟩]
def NCS:List UInt8:=[97,98,99,100,101,102,103,104,105,106,107,108,109,110,111,112,113,114,115,116,117,118,119,120,121,122,65,66,67,68,69,70,71,72,73,74,75,76,77,78,79,80,81,82,83,84,85,86,87,88,89,90,48,49,50,51,52,53,54,55,56,57,95]
def isLt (n:Nat):Bool:=decide ((n=95∨(97≤n∧n≤122))∨(65≤n∧n≤90))
def isDg (n:Nat):Bool:=decide (48≤n∧n≤57)
def KD8:List UInt8→Bool
 | []=>false
 | c::r=>decide ((c::r).length≤24) && isLt c.toNat && (c::r).all (fun d=>isLt d.toNat || isDg d.toNat)
theorem zl (c:UInt8) (r:List UInt8):KD8 (c::r)=(decide ((c::r).length≤24) && isLt c.toNat && (c::r).all (fun d=>isLt d.toNat || isDg d.toNat)):=rfl
theorem KHr:∀ c:UInt8,NCS.contains c=(isLt c.toNat || isDg c.toNat):=by
 intro c
 have hk:∀ n,n < 256→NCS.contains (UInt8.ofNat n)=(isLt n || isDg n):=by decide +kernel
 have:=hk c.toNat c.toNat_lt
 rwa [UInt8.ofNat_toNat] at this
theorem KJ2 {p:UInt8→Bool}:∀ {l:List UInt8},(∀ x ∈ l.dropWhile p,p x=true)→∀ x ∈ l,p x=true
 | [],_,x,hx=>by cases hx
 | a::l,h,x,hx=>by
  by_cases ha:p a=true
  ·rw [List.dropWhile_cons_of_pos ha] at h
   rcases List.mem_cons.1 hx with rfl | hx
   ·exact ha
   ·exact KJ2 h x hx
  ·rw [List.dropWhile_cons_of_neg ha] at h
   exact absurd (h a List.mem_cons_self) ha
theorem KMR {p:UInt8→Bool} {l:List UInt8}:(l.dropWhile p=[]↔∀ x ∈ l,p x=true):=by
 induction l with
 | nil=>simp
 | cons a l ih =>
  by_cases ha:p a=true
  ·rw [List.dropWhile_cons_of_pos ha,ih]
   constructor
   ·intro h x hx
    rcases List.mem_cons.1 hx with rfl | hx
    ·exact ha
    ·exact h x hx
   ·intro h x hx
    exact h x (List.mem_cons_of_mem _ hx)
  ·rw [List.dropWhile_cons_of_neg ha]
   constructor
   ·intro h; cases h
   ·intro h
    exact absurd (h a List.mem_cons_self) ha
theorem KJF (l cs:List UInt8):(Lib.trimS l cs=[]↔∀ x ∈ l,cs.contains x=true):=by
 unfold Lib.trimS Lib.trimLeftS Lib.trimRightS
 rw [KMR]
 constructor
 ·intro h x hx
  exact KJ2 (l:=l.reverse) (p:=(cs.contains ·)) (fun y hy=>h y (List.mem_reverse.2 hy)) x (List.mem_reverse.2 hx)
 ·intro h x hx
  have h1:=List.mem_reverse.1 hx
  exact h x (List.mem_reverse.1 ((List.dropWhile_sublist _).mem h1))
theorem KK6 {s:List UInt8} {h:Heap} {Q:Bool→Heap→Prop} (h0:0 < s.length) (h1:s.length≤24) (H:∀ h',Ext h h'→Q (s.all (fun d=>isLt d.toNat || isDg d.toNat)) h') :
  (VG (bs s) (⟨#[97,98,99,100,101,102,103,104,105,106,107,108,109,110,111,112,113,114,115,116,117,118,119,120,121,122,65,66,67,68,69,70,71,72,73,74,75,76,77,78,79,80,81,82,83,84,85,86,87,88,89,90,48,49,50,51,52,53,54,55,56,57,95]⟩:ByteArray)>>=fun x=>(M.pure (sEq x ByteArray.empty):M Bool)).wp h Q:=by
 refine KM (show (VG _ _).wp h _ from ⟨by decide,by decide,by rw [ZC]; exact h0,by rw [ZC]; omega,?_,fun h' a b=>KD ?_⟩)
 ·exact ascii_of_all (l:=NCS) (by decide +kernel)
 ·have hs:(bs s).data.toList=s:=by simp [bs]
  have hc:((⟨#[97,98,99,100,101,102,103,104,105,106,107,108,109,110,111,112,113,114,115,116,117,118,119,120,121,122,65,66,67,68,69,70,71,72,73,74,75,76,77,78,79,80,81,82,83,84,85,86,87,88,89,90,48,49,50,51,52,53,54,55,56,57,95]⟩:ByteArray)).data.toList=NCS:=rfl
  rw [hs,hc]
  have:=H h' ⟨a,b⟩
  rw [show (⟨(Lib.trimS s NCS).toArray⟩:ByteArray)=bs (Lib.trimS s NCS) from rfl,sEq0]
  have e:decide (Lib.trimS s NCS=[])=s.all (fun d=>isLt d.toNat || isDg d.toNat):=by
   rw [Bool.eq_iff_iff,decide_eq_true_iff,KJF,List.all_eq_true]
   exact ⟨fun h x hx=>by rw [← KHr]; exact h x hx,fun h x hx=>by rw [KHr]; exact h x hx⟩
  rw [e]; exact this
theorem KGV {s:List UInt8} {h:Heap} {Q:Bool→Heap→Prop} (H:∀ h',Ext h h'→Q (KD8 s) h'):(XJ (bs s)).wp h Q:=by
 unfold XJ
 rw [sEq0,ZC]
 refine KMQ ?_
 cases s with
 | nil =>
  rw [decide_eq_true (show ([]:List UInt8)=[]∨((([]:List UInt8).length:Int) > 24) from .inl rfl)]
  exact Wq rfl (ZD (iteT rfl (KD (H _ (Ext.refl _)))))
 | cons c r =>
  by_cases hl:(c::r).length≤24
  ·rw [decide_eq_false (show ¬ (c::r=[]∨(((c::r).length:Int) > 24)) from fun h=>by rcases h with h | h; cases h; omega)]
   refine Yw rfl (Kz (XC (i:=0) rfl (by simp) ?_))
   rw [show (c::r)[0]=c from rfl]
   have key:∀ b:Bool,b=isDg c.toNat→((M.ite b (M.pure false) (VG (bs (c::r)) (⟨#[97,98,99,100,101,102,103,104,105,106,107,108,109,110,111,112,113,114,115,116,117,118,119,120,121,122,65,66,67,68,69,70,71,72,73,74,75,76,77,78,79,80,81,82,83,84,85,86,87,88,89,90,48,49,50,51,52,53,54,55,56,57,95]⟩:ByteArray)>>=fun x=>M.pure (sEq x ByteArray.empty)):M Bool)).wp h Q:=by
    intro b hb
    simp only [zl] at H
    rw [decide_eq_true hl] at H
    simp only [Bool.true_and] at H
    by_cases hd:isDg c.toNat=true
    ·refine iteT (hb.trans hd) (KD ?_)
     have:=H h (Ext.refl _)
     rw [show isLt c.toNat=false by unfold isDg at hd; unfold isLt; have:=of_decide_eq_true hd; exact decide_eq_false (by omega),Bool.false_and] at this
     exact this
    ·refine iteF (hb.trans (by simpa using hd)) (KK6 (by simp) hl (fun h' e=>?_))
     have:=H h' e
     by_cases hlt:isLt c.toNat=true
     ·rw [hlt,Bool.true_and] at this; exact this
     ·have h1:isLt c.toNat=false:=by simpa using hlt
      have h2:isDg c.toNat=false:=by simpa using hd
      rw [h1,Bool.false_and] at this
      rw [List.all_cons,h1,h2,Bool.or_false,Bool.false_and]
      exact this
   by_cases hge:(c.toNat:Int) ≥ 48
   ·refine Kz (Wq (decide_eq_true hge) (Kz (XC (i:=0) rfl (by simp) (ZD (ZD (key _ ?_))))))
    rw [show (c::r)[0]=c from rfl]
    unfold isDg
    exact decide_eq_decide.2 (by omega)
   ·refine Kz (Yw (decide_eq_false hge) (ZD (ZD (key _ ?_))))
    unfold isDg
    exact (decide_eq_false (by omega)).symm
  ·rw [decide_eq_true (show (c::r=[]∨(((c::r).length:Int) > 24)) from .inr (by omega))]
   refine Wq rfl (ZD (iteT rfl (KD ?_)))
   have:=H _ (Ext.refl _)
   rw [zl,decide_eq_false hl] at this
   exact this
theorem KFl {n:Nat} {h:Heap} {Q:Bool→Heap→Prop} (H:Q (isLt n) h):(JH (n:Int)).wp h Q:=by
 unfold JH
 rw [eqI]
 have key:∀ b:Bool,b=decide (n=95∨(97≤n∧n≤122))→((M.ite b (M.pure true) (M.ite (decide ((n:Int) ≥ 65)) (M.pure (decide ((n:Int)≤90))) (M.pure false)>>=fun x=>M.pure x)>>=fun x=>M.pure x:M Bool)).wp h Q:=by
  intro b hb
  unfold isLt at H
  by_cases h1:n=95∨(97≤n∧n≤122)
  ·rw [decide_eq_true (Or.inl h1)] at H
   exact Wq (hb.trans (decide_eq_true h1)) (ZD (KD H))
  ·refine Yw (hb.trans (decide_eq_false h1)) (Kz (KJ1 (ZD (KD ?_))))
   rw [show decide ((n:Int) ≥ 65∧(n:Int)≤90)=decide ((n=95∨(97≤n∧n≤122))∨(65≤n∧n≤90)) from decide_eq_decide.2 (by omega)]
   exact H
 by_cases h95:(n:Int)=95
 ·exact Wq (decide_eq_true h95) (ZD (key _ (decide_eq_true (Or.inl (by omega))).symm))
 ·refine Yw (decide_eq_false h95) (Kz (KJ1 (ZD (key _ ?_))))
  exact decide_eq_decide.2 (by omega)
theorem KGW {s:List UInt8} {h:Heap} {Q:Bool→Heap→Prop} (H:Q (KD8 s) h):(UP (bs s)).wp h Q:=by
 unfold UP
 rw [sEq0,ZC]
 refine KMQ ?_
 cases s with
 | nil =>
  rw [decide_eq_true (show ([]:List UInt8)=[]∨((([]:List UInt8).length:Int) > 24) from .inl rfl)]
  exact Wq rfl (ZD (iteT rfl (KD H)))
 | cons c r =>
  rw [zl] at H
  by_cases hl:(c::r).length≤24
  ·rw [decide_eq_true hl,Bool.true_and] at H
   rw [decide_eq_false (show ¬ (c::r=[]∨(((c::r).length:Int) > 24)) from fun h=>by rcases h with h | h; cases h; omega)]
   refine Yw rfl (Kz (XC (i:=0) rfl (by simp) ?_))
   rw [show (c::r)[0]=c from rfl]
   refine Kz (KM (KFl (ZD ?_)))
   by_cases hlt:isLt c.toNat=true
   ·rw [hlt,Bool.true_and] at H
    refine iteF (by rw [hlt]; rfl) ?_
    refine M.loop_inv (fun (t:Int) hh=>hh=h∧∃ i:Nat,t=(i:Int)∧i≤(c::r).length∧((c::r).drop i).all (fun d=>isLt d.toNat || isDg d.toNat)=(c::r).all (fun d=>isLt d.toNat || isDg d.toNat)) (fun t _=>(((c::r).length:Int) - t).toNat) ?_ ⟨rfl,0,rfl,Nat.zero_le _,rfl⟩
    rintro t hh ⟨rfl,i,rfl,hi,hall⟩ self hself
    unfold VA
    rw [ZC]
    refine KW (fun hc=>?_) (fun hc=>?_)
    ·have hic:i < (c::r).length:=by have:=of_decide_eq_true hc; omega
     rw [List.drop_eq_getElem_cons hic,List.all_cons] at hall
     obtain ⟨d,hd⟩:∃ d,d=(c::r)[i]:=⟨_,rfl⟩
     refine XC rfl hic (KM (KFl ?_))
     rw [← hd] at hall ⊢
     have stop:isLt d.toNat=false→isDg d.toNat=false→Q false hh:=fun h1 h2=>by
      rw [h1,h2,Bool.or_false,Bool.false_and] at hall
      rw [← hall] at H; exact H
     have go:(isLt d.toNat || isDg d.toNat)=true→(self (IntKind.wrap .i64 ((i:Int)+1))).wp hh Q:=fun h1=>by
      rw [h1,Bool.true_and] at hall
      rw [w64 (by omega) (by omega)]
      exact hself _ _ ⟨rfl,i+1,by simp,by omega,hall⟩ (by omega)
     by_cases hld:isLt d.toNat=true
     ·exact Yw (by rw [hld]; rfl) (ZD (iteF rfl (go (by rw [hld]; rfl))))
     ·have h1:isLt d.toNat=false:=by simpa using hld
      refine Wq (by rw [h1]; rfl) (Kz (XC rfl hic ?_))
      rw [← hd]
      by_cases h48:(d.toNat:Int) < 48
      ·exact Kz (Wq (decide_eq_true h48) (ZD (ZD (iteT rfl (KD (stop h1 (by unfold isDg; exact decide_eq_false (by omega))))))))
      ·refine Kz (Yw (decide_eq_false h48) (Kz (XC rfl hic ?_)))
       rw [← hd]
       refine ZD (ZD ?_)
       by_cases h57:(d.toNat:Int) > 57
       ·exact iteT (decide_eq_true h57) (KD (stop h1 (by unfold isDg; exact decide_eq_false (by omega))))
       ·exact iteF (decide_eq_false h57) (go (by rw [h1,Bool.false_or]; unfold isDg; exact decide_eq_true (by omega)))
    ·have hic:i=(c::r).length:=by have:=of_decide_eq_false hc; omega
     rw [List.drop_of_length_le (by omega)] at hall
     refine KD ?_
     rw [← hall] at H; exact H
   ·have h1:isLt c.toNat=false:=by simpa using hlt
    rw [h1,Bool.false_and] at H
    exact iteT (by rw [h1]; rfl) (KD H)
  ·rw [decide_eq_true (show (c::r=[]∨(((c::r).length:Int) > 24)) from .inr (by omega))]
   rw [decide_eq_false hl] at H
   exact Wq rfl (ZD (iteT rfl (KD H)))
end Gx
namespace Gx
open Go
set_option linter.unusedVariables false
set_option linter.unusedSimpArgs false
theorem KMS {s:List UInt8} {a b:Nat}:(bs s).extract a b=bs ((s.drop a).take (b - a)):=by
 apply ByteArray.ext
 simp [bs,ByteArray.extract,ByteArray.copySlice]
theorem KHs {β:Type} {h:Heap} {Q:β→Heap→Prop} {s:List UInt8} {a b:Nat} {lo hi:Int} {f:ByteArray→M β} (hl:lo=(a:Int)) (hh:hi=(b:Int)) (h1:a≤b) (h2:b≤s.length) (H:(f (bs ((s.drop a).take (b - a)))).wp h Q):(slS (bs s) lo hi>>=f).wp h Q:=by
 subst hl; subst hh
 exact ⟨bs ((s.drop a).take (b - a)),⟨by omega,by omega,by rw [ZC]; omega,by rw [show ((a:Int)).toNat=a from rfl,show ((b:Int)).toNat=b from rfl,KMS]⟩,H⟩
end Gx
namespace Gx
open Go
set_option linter.unusedVariables false
set_option linter.unusedSimpArgs false
set_option maxRecDepth 100000
def KD9:List UInt8:=[46,40,41,44,91,93,123,125,58,61,59]
def KBs (c:UInt8):Bool:=KD9.contains c
def letB (c:UInt8):Bool:=isLt c.toNat
def KGX (c:UInt8):Bool:=isLt c.toNat || isDg c.toNat
def U8 (s:List UInt8):Nat:=(s.takeWhile KGX).length
theorem zB (s:List UInt8):U8 s≤s.length:=List.Sublist.length_le (List.takeWhile_sublist _)
theorem KE0 (c:UInt8) (s:List UInt8):U8 (c::s)=if KGX c=true then U8 s+1 else 0:=by
 unfold U8
 by_cases h:KGX c=true
 ·rw [List.takeWhile_cons_of_pos h,if_pos h,List.length_cons]
 ·rw [List.takeWhile_cons_of_neg h,if_neg h]; rfl
def N2 (s:List UInt8):Nat→Nat→Nat
 | 0,_=>0
 | f+1,i=>if i < s.length then (if KR s i=92 then N2 s f (i+2) else if KR s i=39 then i+1 else N2 s f (i+1)) else 0
def GV (s:List UInt8):Nat:=N2 s (s.length+1) 1
theorem Gg (s:List UInt8):∀ f i,N2 s f i≤s.length
 | 0,_=>Nat.zero_le _
 | f+1,i=>by
  rw [N2]
  split
  ·split
   ·exact Gg s f _
   ·split
    ·omega
    ·exact Gg s f _
  ·exact Nat.zero_le _
theorem KK7 {s:List UInt8} {i:Nat} (hi:i < s.length):KR s i=s[i]:=by
 unfold KR; rw [List.getElem?_eq_getElem hi]; rfl
theorem KJG:∀ c:UInt8,decide (Lib.indexByte KD9 c ≥ 0)=KBs c:=by
 intro c
 have hk:∀ n,n < 256→decide (Lib.indexByte KD9 (UInt8.ofNat n) ≥ 0)=KBs (UInt8.ofNat n):=by decide +kernel
 have:=hk c.toNat c.toNat_lt
 rwa [UInt8.ofNat_toNat] at this
theorem KBF {c:UInt8} {h:Heap} {Q:Bool→Heap→Prop} (H:Q (KBs c) h):(YP (c.toNat:Int)).wp h Q:=by
 unfold YP Zc ZA
 refine KM (KD (KD ?_))
 rw [show ((c.toNat:Int)).toNat.toUInt8=c by simp,show (⟨#[46,40,41,44,91,93,123,125,58,61,59]⟩:ByteArray).data.toList=KD9 from rfl,KJG]
 exact H
theorem zC {c:UInt8} {h:Heap} {Q:Bool→Heap→Prop} (H:Q (letB c) h):(VH (c.toNat:Int)).wp h Q:=by
 unfold VH
 refine Wo (c:=decide ((c.toNat:Int)≤122)) (fun _ Q' hq=>KD hq) ?_
 refine or_b (c:=decide ((c.toNat:Int) ≥ 65) && decide ((c.toNat:Int)≤90)) (fun _ Q' hq=>Wo (c:=decide ((c.toNat:Int)≤90)) (fun _ Q'' hq2=>KD hq2) (KD hq)) ?_
 refine or_b (c:=decide ((c.toNat:Int)=95)) (fun _ Q' hq=>KD (by rw [eqI]; exact hq)) (KD ?_)
 have:(decide ((c.toNat:Int) ≥ 97) && decide ((c.toNat:Int)≤122) || (decide ((c.toNat:Int) ≥ 65) && decide ((c.toNat:Int)≤90)) || decide ((c.toNat:Int)=95))=letB c:=by
  unfold letB isLt
  rw [← Bool.decide_and,← Bool.decide_and,← Bool.decide_or,← Bool.decide_or]
  exact decide_eq_decide.2 (by omega)
 rw [this]
 exact H
theorem KE1 {c:UInt8} {h:Heap} {Q:Bool→Heap→Prop} (H:Q (KGX c) h):(XM (c.toNat:Int)).wp h Q:=by
 unfold XM
 refine KM (zC ?_)
 refine or_b (c:=decide ((c.toNat:Int) ≥ 48) && decide ((c.toNat:Int)≤57)) (fun _ Q' hq=>Wo (c:=decide ((c.toNat:Int)≤57)) (fun _ Q'' hq2=>KD hq2) (KD hq)) (KD ?_)
 have:(letB c || (decide ((c.toNat:Int) ≥ 48) && decide ((c.toNat:Int)≤57)))=KGX c:=by
  unfold letB KGX isDg
  rw [← Bool.decide_and]
  congr 1
  exact decide_eq_decide.2 (by omega)
 rw [this]
 exact H
theorem zm {s:List UInt8} {a:Nat} {t:Int} {h:Heap} {Q:Int→Heap→Prop} (ht:t=(a:Int)) (ha:a≤s.length) (hs:s.length≤1099511627776) (H:Q (U8 (s.drop a):Int) h):(Yg (bs s) t).wp h Q:=by
 subst ht
 unfold Yg
 refine M.loop_inv (fun (z:Int) hh=>∃ i:Nat,z=(i:Int)∧hh=h∧a≤i∧i≤s.length∧U8 (s.drop a)=(i - a)+U8 (s.drop i)) (fun z _=>((s.length:Int) - z).toNat) ?_ ⟨a,rfl,rfl,Nat.le_refl _,ha,by omega⟩
 rintro z hh ⟨i,rfl,rfl,hai,hi,hw⟩ self hself
 unfold GR
 rw [ZC]
 by_cases hlt:i < s.length
 ·refine Wq (decide_eq_true (by omega)) (Kz (XC (i:=i) rfl hlt (Kz (KM (KE1 (ZD ?_))))))
  rw [List.drop_eq_getElem_cons hlt,KE0] at hw
  refine KW (fun hc=>?_) (fun hc=>KD ?_)
  ·rw [if_pos hc] at hw
   rw [w64 (by omega) (by omega)]
   exact hself _ _ ⟨i+1,by simp,rfl,by omega,hlt,by omega⟩ (by omega)
  ·rw [if_neg (by rw [hc]; decide)] at hw
   rw [w64 (by omega) (by omega),show (i:Int) - (a:Int)=(U8 (s.drop a):Int) by omega]
   exact H
 ·refine Yw (decide_eq_false (by omega)) (ZD (iteF rfl (KD ?_)))
  have hi':i=s.length:=by omega
  subst hi'
  rw [List.drop_length] at hw
  have hw:U8 (s.drop a)=(s.length - a):=hw
  rw [w64 (by omega) (by omega),show (s.length:Int) - (a:Int)=(U8 (s.drop a):Int) by omega]
  exact H
theorem KE2 {s:List UInt8} {h:Heap} {Q:Int→Heap→Prop} (hs:s.length≤1099511627776) (H:Q (GV s:Int) h):(XN (bs s)).wp h Q:=by
 unfold XN
 refine M.loop_inv (fun (z:Int) hh=>∃ i f:Nat,z=(i:Int)∧hh=h∧i≤s.length+2∧s.length≤f+i∧GV s=N2 s (f+1) i) (fun z _=>((s.length:Int)+3 - z).toNat) ?_ ⟨1,s.length,rfl,rfl,by omega,by omega,rfl⟩
 rintro z hh ⟨i,f,rfl,rfl,hi,hf,hc⟩ self hself
 unfold Xm
 dsimp only
 rw [ZC]
 rw [N2] at hc
 refine KW (fun hlt=>?_) (fun hge=>KD ?_)
 ·have hlt:i < s.length:=by have:=of_decide_eq_true hlt; omega
  rw [if_pos hlt,KK7 hlt] at hc
  obtain ⟨f,rfl⟩:∃ g,f=g+1:=⟨f - 1,by omega⟩
  refine XC (i:=i) rfl hlt ?_
  rw [u8_c (d:=92) (n:=92) rfl,u8_c (d:=39) (n:=39) rfl]
  unfold YE
  refine KW (fun h1=>?_) (fun h1=>KW (fun h2=>KD ?_) (fun h2=>?_))
  ·rw [if_pos (of_decide_eq_true h1)] at hc
   rw [show IntKind.wrap .i64 ((i:Int)+1)=(i:Int)+1 from w64 (by omega) (by omega),w64 (by omega) (by omega)]
   exact hself _ _ ⟨i+2,f,by push_cast; omega,rfl,by omega,by omega,hc⟩ (by omega)
  ·rw [if_neg (of_decide_eq_false h1),if_pos (of_decide_eq_true h2)] at hc
   rw [w64 (by omega) (by omega),show (i:Int)+1=(GV s:Int) by rw [hc]; rfl]
   exact H
  ·rw [if_neg (of_decide_eq_false h1),if_neg (of_decide_eq_false h2)] at hc
   rw [w64 (by omega) (by omega)]
   exact hself _ _ ⟨i+1,f,by simp,rfl,by omega,by omega,hc⟩ (by omega)
 ·rw [if_neg (by have:=of_decide_eq_false hge; omega)] at hc
  rw [hc] at H
  exact H
structure Tkn where
 k:Int
 s:List UInt8
 n:Int
 a:Int
def Tkn.cells (t:Tkn):Array Value:=#[.int .i64 t.k,.string (bs t.s),.int .i64 t.n,.int .i64 t.a]
def tkn0:Tkn:=⟨0,[],0,0⟩
def oneW (er kk k:Int) (t:Tkn) (n:Nat):Tkn × Nat:=if er≠0∨kk≠k then (tkn0,0) else (t,n)
def oneV (k:Int) (s:List UInt8) (n:Nat) (t:Vl→Tkn):Tkn × Nat:=oneW (Jc (s.take n)).2.2 (Jc (s.take n)).1.k k (t (Jc (s.take n)).1) n
def oneP:List UInt8→Tkn × Nat
 | []=>(tkn0,0)
 | c::r =>
  if KBs c=true then (⟨4,[c],0,0⟩,1) else if letB c=true then (⟨1,(c::r).take (U8 (c::r)),0,0⟩,U8 (c::r))
  else if c=39 then oneV 2 (c::r) (GV (c::r)) (fun v=>⟨3,v.s,0,0⟩)
  else oneV 1 (c::r) (if c=45 then 1+U8 r else U8 (c::r)) (fun v=>⟨2,[],v.n,0⟩)
theorem KBG (c:UInt8) (r:List UInt8):oneP (c::r)=(if KBs c=true then (⟨4,[c],0,0⟩,1) else if letB c=true then (⟨1,(c::r).take (U8 (c::r)),0,0⟩,U8 (c::r))
  else if c=39 then oneV 2 (c::r) (GV (c::r)) (fun v=>⟨3,v.s,0,0⟩)
  else oneV 1 (c::r) (if c=45 then 1+U8 r else U8 (c::r)) (fun v=>⟨2,[],v.n,0⟩)):=rfl
end Gx
namespace Gx
open Go
set_option linter.unusedVariables false
set_option linter.unusedSimpArgs false
set_option maxRecDepth 100000
theorem Y2 (t:Tkn):∀ u ∈ t.cells.toList,one u=true:=by
 intro u hu
 simp only [Tkn.cells,List.mem_cons,List.not_mem_nil,or_false] at hu
 rcases hu with rfl | rfl | rfl | rfl <;> rfl
theorem zD {β:Type} {h:Heap} {Q:β→Heap→Prop} {b:Nat} {t0 t:Tkn} {ty:TypeId} {f:Array Value→M β} (g:h[b]?=some (.cells t0.cells ty (0,0)))
  (H:∀ h',Upd b h h'→(f t.cells).wp h' Q):(M.need (t.cells.size=4)>>=fun _=>stG ⟨b,0,none⟩ t.cells>>=fun _=>ldG 4 ⟨b,0,none⟩>>=f).wp h Q:=by
 refine UO rfl (stR g (Nat.le_refl 4) (Y2 t) (fun h' u g'=>?_))
 rw [ZZ (cs:=t0.cells) (vs:=t.cells.toList) rfl,Array.toArray_toList] at g'
 exact ldR g' rfl (H h' u)
theorem KEA {s:List UInt8} {n:Nat} {b:Nat} {h h0:Heap} {Q:Array Value × Int→Heap→Prop} {t:Int} (ht:t=(n:Int)) (hn:n≤s.length) (hs:s.length≤1099511627776) (he:ErrV h) (E:Ext h0 h) (hb0:h0.size≤b) (g:h[b]?=some (.cells tkn0.cells KP (0,0)))
  (H:∀ h',Ext h0 h'→Q ((oneV 1 s n (fun v=>⟨2,[],v.n,0⟩)).1.cells,((oneV 1 s n (fun v=>⟨2,[],v.n,0⟩)).2:Int)) h'):(XO (bs s) ⟨b,0,none⟩ t).wp h Q:=by
 subst ht
 unfold XO
 refine KHs (a:=0) (b:=n) rfl rfl (Nat.zero_le _) hn ?_
 rw [List.drop_zero,Nat.sub_zero]
 refine KM (KBC (by rw [List.length_take]; omega) he (fun h2 c e2 V2=>?_))
 dsimp only
 refine Z5 (fun h3 e3 s3 g3=>UO V2.size (stR g3 (by rw [V2.size]; exact Nat.le_refl 4) V2.to.one (fun h4 u4 g4=>?_)))
 rw [ZZ (cs:=vz) (vs:=c.toList) (by rw [Array.length_toList,V2.size]; rfl),Array.toArray_toList] at g4
 have e4:Ext h h4:=(e2.trans e3).upd u4 e2.size
 obtain ⟨v,hv⟩:∃ v,v=(Jc (s.take n)).1:=⟨_,rfl⟩
 obtain ⟨er,her⟩:∃ er,er=(Jc (s.take n)).2.2:=⟨_,rfl⟩
 unfold oneV at H
 rw [← hv] at V2 H
 rw [← her] at H ⊢
 obtain ⟨k,nn,ss,l⟩:=v
 dsimp only [Vl.k,Vl.n,Vl.s] at H
 unfold oneW at H
 obtain ⟨x,rfl,_⟩:=JU.eq.1 V2
 refine or_b (c:=decide (k≠1)) (fun _ Q' hq=>ZM (n:=k) (by rw [Ke,KJ g4]; rfl) (KD (by rw [bne,eqI,← decide_not]; exact hq))) ?_
 rw [show (er != 0 || decide (k≠1))=decide (er≠0∨k≠1) by rw [bne,eqI,← decide_not,← Bool.decide_or]]
 have gb:=e4.blk g
 have E4:=E.trans e4
 refine KW (fun hc=>?_) (fun hc=>?_)
 ·rw [if_pos (of_decide_eq_true hc)] at H
  exact zD (t0:=tkn0) (t:=tkn0) gb (fun h5 u5=>KD (H _ (E4.upd u5 hb0)))
 ·rw [if_neg (of_decide_eq_false hc)] at H
  refine ZM (n:=nn) (by rw [Ke,KJ g4]; rfl) ?_
  exact zD (t0:=tkn0) (t:=⟨2,[],nn,0⟩) gb (fun h5 u5=>KD (H _ (E4.upd u5 hb0)))
theorem KFm {s:List UInt8} {h:Heap} {Q:Array Value × Int→Heap→Prop} (h0:s≠[]) (hs:s.length≤1099511627776) (he:ErrV h)
  (H:∀ h',Ext h h'→Q ((oneP s).1.cells,((oneP s).2:Int)) h'):(KA1 (bs s)).wp h Q:=by
 obtain ⟨c,r,rfl⟩:=List.exists_cons_of_ne_nil h0
 unfold KA1
 refine Z5 (fun h1 e1 s1 g1=>?_)
 have hl:=zB (c::r)
 refine XC (i:=0) rfl (by simp) ?_
 rw [show (c::r)[0]=c from rfl]
 refine KM (KBF ?_)
 rw [KBG] at H
 refine KW (fun hm=>?_) (fun hm=>?_)
 ·rw [if_pos hm] at H
  refine KHs (a:=0) (b:=1) rfl rfl (Nat.zero_le _) (by simp) ?_
  exact zD (t0:=tkn0) (t:=⟨4,[c],0,0⟩) g1 (fun h5 u5=>KD (H _ (e1.upd u5 (Nat.le_refl _))))
 rw [if_neg (by rw [hm]; decide)] at H
 refine KM (zC ?_)
 refine KW (fun hlt=>?_) (fun hlt=>?_)
 ·rw [if_pos hlt] at H
  refine KM (zm (a:=0) rfl (Nat.zero_le _) hs ?_)
  rw [List.drop_zero]
  refine KHs (a:=0) (b:=U8 (c::r)) rfl rfl (Nat.zero_le _) hl ?_
  rw [List.drop_zero,Nat.sub_zero]
  exact zD (t0:=tkn0) (t:=⟨1,(c::r).take (U8 (c::r)),0,0⟩) g1 (fun h5 u5=>KD (H _ (e1.upd u5 (Nat.le_refl _))))
 rw [if_neg (by rw [hlt]; decide)] at H
 rw [u8_c (d:=39) (n:=39) rfl]
 refine KW (fun h39=>?_) (fun h39=>?_)
 ·rw [if_pos (of_decide_eq_true h39)] at H
  have hcl:GV (c::r)≤(c::r).length:=Gg _ _ _
  refine KM (KE2 hs ?_)
  refine KHs (a:=0) (b:=GV (c::r)) rfl rfl (Nat.zero_le _) hcl ?_
  rw [List.drop_zero,Nat.sub_zero]
  generalize GV (c::r)=n at hcl H ⊢
  refine KM (KBC (by rw [List.length_take]; omega) (he.ext e1) (fun h2 c2 e2 V2=>?_))
  dsimp only
  refine Z5 (fun h3 e3 s3 g3=>UO V2.size (stR g3 (by rw [V2.size]; exact Nat.le_refl 4) V2.to.one (fun h4 u4 g4=>?_)))
  rw [ZZ (cs:=vz) (vs:=c2.toList) (by rw [Array.length_toList,V2.size]; rfl),Array.toArray_toList] at g4
  have e4:Ext h1 h4:=(e2.trans e3).upd u4 e2.size
  obtain ⟨v,hv⟩:∃ v,v=(Jc ((c::r).take n)).1:=⟨_,rfl⟩
  obtain ⟨er,her⟩:∃ er,er=(Jc ((c::r).take n)).2.2:=⟨_,rfl⟩
  unfold oneV at H
  rw [← hv] at V2 H
  rw [← her] at H ⊢
  obtain ⟨k,nn,ss,l⟩:=v
  dsimp only [Vl.k,Vl.n,Vl.s] at H
  unfold oneW at H
  obtain ⟨x,rfl,_⟩:=JU.eq.1 V2
  refine or_b (c:=decide (k≠2)) (fun _ Q' hq=>ZM (n:=k) (by rw [Ke,KJ g4]; rfl) (KD (by rw [bne,eqI,← decide_not]; exact hq))) ?_
  rw [show (er != 0 || decide (k≠2))=decide (er≠0∨k≠2) by rw [bne,eqI,← decide_not,← Bool.decide_or]]
  have gb:=e4.blk g1
  have E4:=e1.trans e4
  refine KW (fun hc=>?_) (fun hc=>?_)
  ·rw [if_pos (of_decide_eq_true hc)] at H
   exact zD (t0:=tkn0) (t:=tkn0) gb (fun h5 u5=>KD (H _ (E4.upd u5 (Nat.le_refl _))))
  ·rw [if_neg (of_decide_eq_false hc)] at H
   refine U5 (n:=bs ss) (by rw [Ke,KJ g4]; rfl) ?_
   exact zD (t0:=tkn0) (t:=⟨3,ss,0,0⟩) gb (fun h5 u5=>KD (H _ (E4.upd u5 (Nat.le_refl _))))
 ·rw [if_neg (of_decide_eq_false h39)] at H
  refine KM (zm (a:=0) rfl (Nat.zero_le _) hs ?_)
  rw [List.drop_zero]
  refine XC (i:=0) rfl (by simp) ?_
  rw [show (c::r)[0]=c from rfl,u8_c (d:=45) (n:=45) rfl]
  have hr:=zB r
  have hlc:(c::r).length=r.length+1:=rfl
  refine KW (fun h45=>?_) (fun h45=>?_)
  ·rw [if_pos (of_decide_eq_true h45)] at H
   refine KM (zm (a:=1) rfl (by simp) hs ?_)
   rw [show (c::r).drop 1=r from rfl,w64 (by omega) (by omega)]
   exact KEA (n:=1+U8 r) (by push_cast; rfl) (by omega) hs (he.ext e1) e1 (Nat.le_refl _) g1 H
  ·rw [if_neg (of_decide_eq_false h45)] at H
   exact KEA rfl hl hs (he.ext e1) e1 (Nat.le_refl _) g1 H
def KC1:List UInt8→Bool
 | [c]=>KBs c
 | _=>false
def tokB (t:Tkn):Bool:=!(decide (t.a < 0) || (decide (t.n≠0) && decide (t.k≠2))) && (if t.k=1 then KD8 t.s else if t.k=2 then decide (t.s=[]) else if t.k=3 then decide (t.s.length≤128) else if t.k=4 then KC1 t.s else false)
def tokE (t:Tkn):Int:=if tokB t=true then 0 else 150
theorem Xq {t:Tkn} {h:Heap} {Q:Int→Heap→Prop} (H:∀ h',Ext h h'→Q (tokE t) h'):(VS t.cells).wp h Q:=by
 unfold VS
 refine Z5 (fun h1 e1 s1 g1=>?_)
 obtain ⟨k,s,n,a⟩:=t
 have cA:KO h1 ((⟨h.size,0,none⟩:Addr).add 3)=some (.int .i64 a):=by rw [Ke,KJ g1]; rfl
 have cN:KO h1 ((⟨h.size,0,none⟩:Addr).add 2)=some (.int .i64 n):=by rw [Ke,KJ g1]; rfl
 have cS:KO h1 ((⟨h.size,0,none⟩:Addr).add 1)=some (.string (bs s)):=by rw [Ke,KJ g1]; rfl
 have cK:KO h1 ((⟨h.size,0,none⟩:Addr).add 0)=some (.int .i64 k):=by rw [add_zero,KJ g1]; rfl
 refine ZM cA ?_
 refine or_b (c:=decide (n≠0) && decide (k≠2)) (fun _ Q' hq=>ZM cN (by
  rw [bne,eqI,← decide_not]
  exact Wo (c:=decide (k≠2)) (fun _ Q2 hq2=>ZM cK (KD (by rw [bne,eqI,← decide_not]; exact hq2))) (KD hq))) ?_
 have bad:∀ {h2:Heap},Ext h h2→tokB ⟨k,s,n,a⟩=false→Q 150 h2:=fun {h2} e2 hf=>by
  have:=H _ e2
  unfold tokE at this
  rw [hf] at this
  exact this
 refine KW (fun hc=>KD (bad e1 ?_)) (fun hc=>?_)
 ·unfold tokB
  dsimp only
  rw [hc]; rfl
 have fin:∀ {b:Bool} {h2:Heap},Ext h h2→tokB ⟨k,s,n,a⟩=b→(UF b).wp h2 Q:=fun {b h2} e2 hb=>by
  unfold UF
  cases b with
  | true =>
   refine iteF rfl (KD ?_)
   have:=H _ e2
   unfold tokE at this
   rw [hb] at this
   exact this
  | false=>exact iteT rfl (KD (bad e2 hb))
 have hT:tokB ⟨k,s,n,a⟩=(if k=1 then KD8 s else if k=2 then decide (s=[]) else if k=3 then decide (s.length≤128) else if k=4 then KC1 s else false):=by
  unfold tokB
  dsimp only
  rw [hc]; rfl
 refine ZM cK ?_
 rw [eqI,eqI,eqI,eqI]
 refine KW (fun k1=>?_) (fun k1=>?_)
 ·rw [if_pos (of_decide_eq_true k1)] at hT
  exact U5 cS (KM (KGV (fun h2 e2=>fin (e1.trans e2) hT)))
 rw [if_neg (of_decide_eq_false k1)] at hT
 refine KW (fun k2=>?_) (fun k2=>?_)
 ·rw [if_pos (of_decide_eq_true k2)] at hT
  refine U5 cS ?_
  rw [sEq0]
  exact fin e1 hT
 rw [if_neg (of_decide_eq_false k2)] at hT
 refine KW (fun k3=>?_) (fun k3=>?_)
 ·rw [if_pos (of_decide_eq_true k3)] at hT
  refine U5 cS (fin e1 ?_)
  rw [hT,ZC]
  exact decide_eq_decide.2 (by omega)
 rw [if_neg (of_decide_eq_false k3)] at hT
 refine KW (fun k4=>?_) (fun k4=>?_)
 ·rw [if_pos (of_decide_eq_true k4)] at hT
  refine U5 cS ?_
  rw [ZC]
  match s,hT with
  | [],hT=>exact Yw rfl (ZD (fin e1 hT))
  | [c],hT =>
   refine Wq rfl (Kz (U5 cS (Kz (XC (i:=0) rfl (by simp) (Kz (KM (KBF (ZD (fin e1 hT)))))))))
  | c::d::r,hT =>
   refine Yw ?_ (ZD (fin e1 hT))
   rw [eqI]
   exact decide_eq_false (by simp only [List.length_cons]; omega)
 ·rw [if_neg (of_decide_eq_false k4)] at hT
  exact fin e1 hT
end Gx
namespace Gx
open Go
set_option linter.unusedVariables false
set_option linter.unusedSimpArgs false
set_option maxRecDepth 100000
def Y3 (c:UInt8):Bool:=decide (c=32∨c=10)
def JV (s:List UInt8) (a:Nat):Nat:=a+((s.drop a).takeWhile Y3).length
theorem KAT {s:List UInt8} {a:Nat} (ha:a≤s.length):a≤JV s a∧JV s a≤s.length:=by
 have:((s.drop a).takeWhile Y3).length≤(s.drop a).length:=List.Sublist.length_le (List.takeWhile_sublist _)
 rw [List.length_drop] at this
 unfold JV
 omega
theorem KHt {s:List UInt8} {a:Nat} (ha:s.length≤a):JV s a=a:=by
 unfold JV
 rw [List.drop_eq_nil_iff.2 ha]; rfl
theorem KGY {s:List UInt8} {a:Nat} (ha:a < s.length):JV s a=if Y3 s[a]=true then JV s (a+1) else a:=by
 unfold JV
 rw [List.drop_eq_getElem_cons ha]
 by_cases h:Y3 s[a]=true
 ·rw [List.takeWhile_cons_of_pos h,if_pos h,List.length_cons]; omega
 ·rw [List.takeWhile_cons_of_neg h,if_neg h]; rfl
def WX (s:List UInt8) (a:Nat):Obj:=.cells #[.string (bs s),.int .i64 (a:Int)] NK (0,0)
def scN:Option Value→Nat
 | some (.int _ n)=>n.toNat
 | _=>0
def scAt (b:Nat) (h:Heap):Nat:=scN (KO h ⟨b,1,none⟩)
theorem KC2 {h:Heap} {b a:Nat} {s:List UInt8} (g:h[b]?=some (WX s a)):scAt b h=a:=by
 unfold WX at g
 unfold scAt; rw [KJ g]; rfl
theorem KBH {h:Heap} {b a:Nat} {s:List UInt8} (g:h[b]?=some (WX s a)):KO h ((⟨b,0,none⟩:Addr).add 0)=some (.string (bs s)):=by
 rw [add_zero]; unfold WX at g; rw [KJ g]; rfl
theorem KAM {h:Heap} {b a:Nat} {s:List UInt8} (g:h[b]?=some (WX s a)):KO h ((⟨b,0,none⟩:Addr).add 1)=some (.int .i64 (a:Int)):=by
 rw [Ke]; unfold WX at g; rw [KJ g]; rfl
theorem KJ3 {h:Heap} {b a c:Nat} {s:List UInt8} (g:h[b]?=some (WX s a)):(hset h ⟨b,0+1,none⟩ (.int .i64 (c:Int)))[b]?=some (WX s c):=by
 unfold WX at g ⊢
 rw [VK (h:=h) g]
 rfl
theorem KBI {s:List UInt8} {b a:Nat} {h:Heap} {Q:Bool→Heap→Prop} (g:h[b]?=some (WX s a)) (ha:a≤s.length) (hs:s.length≤1099511627776)
  (H:∀ h',Upd b h h'→h'[b]?=some (WX s (JV s a))→Q (decide (JV s a < s.length)) h'):(Jq (some ⟨b,0,none⟩)).wp h Q:=by
 unfold Jq
 refine M.loop_inv (fun (_:Unit) hh=>∃ i:Nat,a≤i∧i≤s.length∧JV s a=JV s i∧(Upd b h hh∨hh=h)∧hh[b]?=some (WX s i)) (fun _ hh=>s.length - scAt b hh) ?_ ⟨a,Nat.le_refl _,ha,rfl,.inr rfl,g⟩
 rintro ⟨⟩ hh ⟨i,hai,hi,hsk,hu,gi⟩ self hself
 have upd:∀ h',Upd b hh h'→Upd b h h':=fun h' u=>by
  rcases hu with hu | rfl
  ·exact ⟨by rw [u.size,hu.size],fun k hk=>(u.ne k hk).trans (hu.ne k hk)⟩
  ·exact u
 have hud:Upd b h hh:=by
  rcases hu with hu | rfl
  ·exact hu
  ·exact ⟨rfl,fun _ _=>rfl⟩
 unfold Uk
 refine ZN (ZN (ZM (KAM gi) (U5 (KBH gi) ?_)))
 rw [ZC]
 have fin:JV s i=i→(JC (some ⟨b,0,none⟩)).wp hh Q:=fun he=>by
  unfold JC
  refine ZN (ZN (ZM (KAM gi) (U5 (KBH gi) (KD ?_))))
  have:=H hh hud (by rw [hsk,he]; exact gi)
  rw [hsk,he] at this
  rw [ZC,show decide ((i:Int) < (s.length:Int))=decide (i < s.length) from decide_eq_decide.2 (by omega)]
  exact this
 refine KW (fun hlt=>?_) (fun hge=>fin (KHt (by have:=of_decide_eq_false hge; omega)))
 have hlt:i < s.length:=by have:=of_decide_eq_true hlt; omega
 refine ZN (ZN (U5 (KBH gi) (ZM (KAM gi) (XC (i:=i) rfl hlt ?_))))
 have hst:=KGY hlt
 rw [u8_c (d:=32) (n:=32) rfl,u8_c (d:=10) (n:=10) rfl]
 have j2:∀ t:Bool,t=Y3 s[i]→(JD self (some ⟨b,0,none⟩) t).wp hh Q:=fun t ht=>by
  unfold JD
  refine KW (fun hc=>?_) (fun hc=>fin ?_)
  ·rw [← ht,hc,if_pos rfl] at hst
   refine ZN (ZM (KAM gi) (ZN (NQ (KAM gi) (by rw [Ke]; unfold WX at gi; exact ZB gi) rfl ?_)))
   rw [w64 (by omega) (by omega),Ke,show (i:Int)+1=((i+1:Nat):Int) by simp]
   have u:=Upd.hset hh b (0+1) (.int .i64 ((i+1:Nat):Int))
   have g':=KJ3 (c:=i+1) gi
   refine hself _ _ ⟨i+1,by omega,hlt,by rw [hsk,hst],.inl (upd _ u),g'⟩ ?_
   rw [KC2 g',KC2 gi]
   omega
  ·rw [← ht,hc,if_neg (by decide)] at hst
   exact hst
 refine KW (fun hc=>j2 _ ?_) (fun hc=>j2 _ ?_)
 ·rw [hc]; unfold Y3; exact (decide_eq_true (.inl (of_decide_eq_true hc))).symm
 ·unfold Y3
  exact decide_eq_decide.2 ⟨.inr,fun h=>h.resolve_left (of_decide_eq_false hc)⟩
end Gx
namespace Gx
open Go
set_option linter.unusedVariables false
set_option linter.unusedSimpArgs false
set_option maxRecDepth 100000
theorem KHu {k:Int} {s:List UInt8} {n:Nat} {t:Vl→Tkn} (hn:n≤s.length):(oneV k s n t).2≤s.length:=by
 unfold oneV oneW
 split
 ·exact Nat.zero_le _
 ·exact hn
theorem KE3:∀ s:List UInt8,(oneP s).2≤s.length
 | []=>Nat.le_refl _
 | c::r=>by
  rw [KBG]
  have h1:=zB (c::r)
  have h2:=zB r
  have h3:(c::r).length=r.length+1:=rfl
  split
  ·show 1≤_; omega
  split
  ·exact h1
  split
  ·exact KHu (Gg _ _ _)
  ·exact KHu (by split <;> omega)
def zE (s:List UInt8) (a:Nat):Option (Tkn × Nat) :=
 if JV s a < s.length then
  (if (oneP (s.drop (JV s a))).2=0∨tokB { (oneP (s.drop (JV s a))).1 with a:=(JV s a:Int) }=false then none
   else some ({ (oneP (s.drop (JV s a))).1 with a:=(JV s a:Int) },JV s a+(oneP (s.drop (JV s a))).2))
 else none
theorem KBJ (t:Tkn):(tokE t != 0)=!tokB t:=by
 unfold tokE
 cases tokB t <;> rfl
theorem KHv {s:List UInt8} {b a:Nat} {h:Heap} {Q:Array Value × Bool→Heap→Prop} (g:h[b]?=some (WX s a)) (ha:a≤s.length) (hs:s.length≤1099511627776) (he:ErrV h) (hb:b≠gER)
  (H1:∀ h',zE s a=none→Kb b h h'→h'[b]?=some (WX s (JV s a))→Q (tkn0.cells,false) h')
  (H2:∀ h' t a',zE s a=some (t,a')→a < a'→a'≤s.length→Kb b h h'→h'[b]?=some (WX s a')→Q (t.cells,true) h'):(Jm (some ⟨b,0,none⟩)).wp h Q:=by
 unfold Jm
 have hbl:=U6 g
 have hsk:=KAT ha
 refine Z5 (fun h1 e1 s1 g1=>?_)
 refine KM (KBI (e1.blk g) ha hs (fun h2 u2 g2=>?_))
 have g1':h2[h.size]?=some (.cells tkn0.cells KP (0,0)):=(u2.ne _ (by omega)).trans g1
 have K2:Kb b h h2:=(Km.ext e1).trans (Km.upd u2 rfl)
 obtain ⟨p,hp⟩:∃ p,p=JV s a:=⟨_,rfl⟩
 unfold zE at H1 H2
 rw [← hp] at H1 H2 g2 hsk ⊢
 refine KW (fun hc=>?_) (fun hc=>?_)
 ·have hc:¬ p < s.length:=by simpa using hc
  rw [if_neg hc] at H1
  exact zD (t0:=tkn0) (t:=tkn0) g1' (fun h3 u3=>KD (H1 _ rfl (K2.own u3 (Nat.le_refl _)) ((u3.ne b (by omega)).trans g2)))
 ·have hc:p < s.length:=by simpa using hc
  rw [if_pos hc] at H1 H2
  refine ZN (ZN (U5 (KBH g2) (ZM (KAM g2) (KHs (a:=p) (b:=s.length) rfl (by rw [ZC]) (by omega) (Nat.le_refl _) ?_))))
  rw [List.take_of_length_le (by rw [List.length_drop]; omega)]
  have hne:s.drop p≠[]:=fun e=>by have:=congrArg List.length e; rw [List.length_drop] at this; simp at this; omega
  have hdl:(s.drop p).length≤1099511627776:=by rw [List.length_drop]; omega
  have hol:=KE3 (s.drop p)
  rw [List.length_drop] at hol
  have he2:ErrV h2:=he.km K2 hb
  obtain ⟨o,ho⟩:∃ o,o=oneP (s.drop p):=⟨_,rfl⟩
  rw [← ho] at H1 H2 hol
  have rest:∀ {h3:Heap} {q:Nat},Ext h2 h3→h2.size≤q→h3[q]?=some (.cells tkn0.cells KP (0,0))→(do
    M.need (o.1.cells.size=4)
    stG ⟨q,0,none⟩ o.1.cells
    let Xx22←nilP (some ⟨b,0,none⟩)
    let Xx23←ldI .i64 ((Xx22).add 1)
    stV ((⟨q,0,none⟩:Addr).add 3) (.int .i64 Xx23)
    let Xx27←M.ite ((o.2:Int) == 0) (do
     M.pure true
     ) (do
     let Xx28←ldG 4 ⟨q,0,none⟩
     let Xx29←VS Xx28
     M.pure (Xx29 != 0)
     )
    M.ite Xx27 (do
     M.need ((#[.int .i64 0,.string ByteArray.empty,.int .i64 0,.int .i64 0]:Array Value).size=4)
     stG ⟨h.size,0,none⟩ (#[.int .i64 0,.string ByteArray.empty,.int .i64 0,.int .i64 0]:Array Value)
     let Rr32←ldG 4 ⟨h.size,0,none⟩
     M.pure (Rr32,false)
     ) (do
     let Xx34←nilP (some ⟨b,0,none⟩)
     let Xx35←ldI .i64 ((Xx34).add 1)
     let Xx36←nilP (some ⟨b,0,none⟩)
     stV ((Xx36).add 1) (.int .i64 (IntKind.wrap .i64 (Xx35+(o.2:Int))))
     let Xx39←ldG 4 ⟨q,0,none⟩
     M.need (Xx39.size=4)
     stG ⟨h.size,0,none⟩ Xx39
     let Rr41←ldG 4 ⟨h.size,0,none⟩
     M.pure (Rr41,true)
     ):M (Array Value × Bool)).wp h3 Q:=fun {h3 q} e3 hq g3=>by
   have hs3:=e3.size
   have hz2:=K2.size
   have hz1:=u2.size
   refine UO rfl (stR g3 (Nat.le_refl 4) (Y2 _) (fun h4 u4 g4=>?_))
   rw [ZZ (cs:=tkn0.cells) (vs:=o.1.cells.toList) rfl,Array.toArray_toList] at g4
   have gb4:h4[b]?=some (WX s p):=(u4.ne b (by omega)).trans (e3.blk g2)
   refine ZN (ZM (KAM gb4) (NQ (x:=.int .i64 o.1.a) (by rw [Ke,KJ g4]; rfl) (by rw [Ke]; exact ZB g4) rfl ?_))
   rw [Ke]
   have u5:=Upd.hset h4 q (0+3) (.int .i64 (p:Int))
   have g5:(hset h4 ⟨q,0+3,none⟩ (.int .i64 (p:Int)))[q]?=some (.cells (Tkn.cells { o.1 with a:=(p:Int) }) KP (0,0)):=by rw [VK g4]; rfl
   generalize hset h4 ⟨q,0+3,none⟩ (.int .i64 (p:Int))=h5 at u5 g5 ⊢
   generalize ht:({ o.1 with a:=(p:Int) }:Tkn)=t at g5 H1 H2
   have gb5:h5[b]?=some (WX s p):=(u5.ne b (by omega)).trans gb4
   have gz5:h5[h.size]?=some (.cells tkn0.cells KP (0,0)):=(u5.ne _ (by omega)).trans ((u4.ne _ (by omega)).trans (e3.blk g1'))
   have K5:Kb b h h5:=((K2.trans (Km.ext e3)).own u4 (by omega)).own u5 (by omega)
   have fin:∀ {h6:Heap} {c:Bool},Ext h5 h6→c=decide (o.2=0∨tokB t=false)→(M.ite c (do
     M.need ((#[.int .i64 0,.string ByteArray.empty,.int .i64 0,.int .i64 0]:Array Value).size=4)
     stG ⟨h.size,0,none⟩ (#[.int .i64 0,.string ByteArray.empty,.int .i64 0,.int .i64 0]:Array Value)
     let Rr32←ldG 4 ⟨h.size,0,none⟩
     M.pure (Rr32,false)
     ) (do
     let Xx34←nilP (some ⟨b,0,none⟩)
     let Xx35←ldI .i64 ((Xx34).add 1)
     let Xx36←nilP (some ⟨b,0,none⟩)
     stV ((Xx36).add 1) (.int .i64 (IntKind.wrap .i64 (Xx35+(o.2:Int))))
     let Xx39←ldG 4 ⟨q,0,none⟩
     M.need (Xx39.size=4)
     stG ⟨h.size,0,none⟩ Xx39
     let Rr41←ldG 4 ⟨h.size,0,none⟩
     M.pure (Rr41,true)
     ):M (Array Value × Bool)).wp h6 Q:=fun {h6 c} e6 hcc=>by
    have gb6:=e6.blk gb5
    have gz6:=e6.blk gz5
    have K6:Kb b h h6:=K5.trans (Km.ext e6)
    refine KW (fun h0=>?_) (fun h0=>?_)
    ·rw [if_pos (of_decide_eq_true (hcc.symm.trans h0))] at H1
     exact zD (t0:=tkn0) (t:=tkn0) gz6 (fun h7 u7=>KD (H1 _ rfl (K6.own u7 (Nat.le_refl _)) ((u7.ne b (by omega)).trans gb6)))
    ·have hno:=of_decide_eq_false (hcc.symm.trans h0)
     rw [if_neg hno] at H2
     have ho0:o.2≠0:=fun e=>hno (.inl e)
     refine ZN (ZM (KAM gb6) (ZN (NQ (KAM gb6) (by rw [Ke]; unfold WX at gb6; exact ZB gb6) rfl ?_)))
     rw [w64 (by omega) (by omega),Ke,show (p:Int)+(o.2:Int)=((p+o.2:Nat):Int) by push_cast; rfl]
     have u7:=Upd.hset h6 b (0+1) (.int .i64 ((p+o.2:Nat):Int))
     have g7:=KJ3 (c:=p+o.2) gb6
     generalize hset h6 ⟨b,0+1,none⟩ (.int .i64 ((p+o.2:Nat):Int))=h7 at u7 g7 ⊢
     have gq7:=(u7.ne q (by omega)).trans (e6.blk g5)
     refine ldR gq7 rfl ?_
     exact zD (t0:=tkn0) (t:=t) ((u7.ne _ (by omega)).trans gz6) (fun h8 u8=>KD (H2 _ t _ rfl (by omega) (by omega) ((K6.trans (Km.upd u7 rfl)).own u8 (Nat.le_refl _)) ((u8.ne b (by omega)).trans g7)))
   refine KM (KW (fun h0=>KD (fin (Ext.refl _) ?_)) (fun h0=>ldR g5 rfl (KM (Xq (fun h6 e6=>KD (fin e6 ?_))))))
   ·rw [eqI] at h0
    have:=of_decide_eq_true h0
    exact (decide_eq_true (.inl (by omega))).symm
   ·rw [eqI] at h0
    have:=of_decide_eq_false h0
    have h1:¬ o.2=0:=by omega
    rw [KBJ]
    cases tokB t with
    | true=>exact (decide_eq_false (fun h=>h.elim h1 (fun h=>by cases h))).symm
    | false=>exact (decide_eq_true (.inr rfl)).symm
  have ck:∀ {h':Heap},Ext h2 h'→KO h' ((⟨b,0,none⟩:Addr).add 0)=some (.string (bs s))∧KO h' ((⟨b,0,none⟩:Addr).add 1)=some (.int .i64 (p:Int)):=fun {h'} e=>⟨KBH (e.blk g2),KAM (e.blk g2)⟩
  refine KLv (KM (KM (KFm hne hdl he2 (fun h3 e3=>zP (ck e3) (Z5 (fun h4 e4 s4 g4=>zP (ck (e3.trans e4)) (KD ?_))))))) (KM (Z5 (fun h3 e3 s3 g3=>zP (ck e3) (KM (KFm hne hdl (he2.ext e3) (fun h4 e4=>KD ?_))))))
  ·rw [← ho]
   exact rest (e3.trans e4) (by exact e3.size) g4
  ·rw [← ho]
   exact rest (e3.trans e4) (Nat.le_refl _) (e4.blk g3)
end Gx
namespace Gx
open Go
set_option linter.unusedVariables false
set_option linter.unusedSimpArgs false
theorem zF {s:List UInt8} {a a':Nat} {t:Tkn} (ha:a≤s.length) (h:zE s a=some (t,a')):a < a'∧a'≤s.length:=by
 have hsk:=KAT ha
 have hol:=KE3 (s.drop (JV s a))
 rw [List.length_drop] at hol
 unfold zE at h
 split at h
 ·split at h
  ·cases h
  ·rename_i h1
   cases h
   have:(oneP (s.drop (JV s a))).2≠0:=fun e=>h1 (.inl e)
   omega
 ·cases h
def allF (s:List UInt8):Nat→Nat→List Tkn × Nat
 | 0,a=>([],JV s a)
 | f+1,a=>match zE s a with
  | none=>([],JV s a)
  | some (t,a')=>(t::(allF s f a').1,(allF s f a').2)
theorem KEB {s:List UInt8}:∀ (f g a:Nat),a≤s.length→s.length - a < f→s.length - a < g→allF s f a=allF s g a
 | 0,_,_,_,h,_=>by omega
 | _,0,_,_,_,h=>by omega
 | f+1,g+1,a,ha,h1,h2=>by
  rw [allF,allF]
  cases hn:zE s a with
  | none=>rfl
  | some p =>
   obtain ⟨t,a'⟩:=p
   have:=zF ha hn
   dsimp only
   rw [KEB f g a' this.2 (by omega) (by omega)]
def allT (s:List UInt8) (a:Nat):List Tkn × Nat:=allF s (s.length - a+1) a
theorem zG {s:List UInt8} {a:Nat} (h:zE s a=none):allT s a=([],JV s a):=by
 unfold allT
 rw [allF,h]
theorem zH {s:List UInt8} {a a':Nat} {t:Tkn} (ha:a≤s.length) (h:zE s a=some (t,a')):allT s a=(t::(allT s a').1,(allT s a').2):=by
 have:=zF ha h
 unfold allT
 rw [allF,h]
 dsimp only
 rw [KEB (s.length - a) (s.length - a'+1) a' this.2 (by omega) (by omega)]
end Gx
namespace Gx
open Go
set_option linter.unusedVariables false
set_option linter.unusedSimpArgs false
set_option maxRecDepth 100000
theorem KNL {s:List UInt8} {b c a l:Nat} {Inv:Nat→Heap→Prop} {Stop:Heap→Prop} {h:Heap} (ha:a≤s.length) (hs:s.length≤1099511627776) (hb:b≠gER) (hU:∀ i h1 h2,Inv i h1→Kb b h1 h2→Inv i h2)
  (hC:∀ i h1,Inv i h1→ErrV h1∧h1[c]?=some (.cells #[.pointer (some ⟨b,0,none⟩)] We (0,0))) (g:h[b]?=some (WX s a)) (h0:Inv 0 h)
  (hround:∀ i (hi:i < (allT s a).1.length) h1,Inv i h1→(Yq Go.Proofs.Tryz.prog (fun r:Bool=>.bool r) (yV l) [.agg (allT s a).1[i].cells]).wp h1 (fun r h2=>h2[b]?=h1[b]?∧(if r=true then Inv (i+1) h2 else Stop h2))) :
  (Yq Go.Proofs.Tryz.prog (fun _:Unit=>.tuple #[]) (.func (.func Uy) #[] #[.pointer (some ⟨c,0,none⟩)]) [yV l]).wp h (fun _ h1=>(Inv (allT s a).1.length h1∧h1[b]?=some (WX s (allT s a).2))∨Stop h1):=by
 refine KCN Gt (Nz (yV l) ⟨c,0,none⟩) ?_
 unfold XP
 refine M.loop_inv (fun (_:Unit) hh=>∃ i a':Nat,a'≤s.length∧i≤(allT s a).1.length∧(allT s a).1.drop i=(allT s a').1∧(allT s a).2=(allT s a').2∧Inv i hh∧hh[b]?=some (WX s a')) (fun _ hh=>s.length - scAt b hh) ?_ ⟨0,a,ha,Nat.zero_le _,rfl,rfl,h0,g⟩
 rintro ⟨⟩ hh ⟨i,a',ha',hi,hd,h2e,hI,gb⟩ self hself
 unfold U3
 obtain ⟨he,hc⟩:=hC i hh hI
 refine KM3 (n:=some ⟨b,0,none⟩) (by rw [KJ hc]; rfl) (KM (KHv gb ha' hs he hb (fun h2 hn K2 g2=>?_) (fun h2 t a2 hn hlt hle K2 g2=>?_)))
 ·refine Z5 (fun h3 e3 s3 g3=>UO rfl (stR g3 (Nat.le_refl 4) (Y2 tkn0) (fun h4 u4 g4=>Wq rfl (ZD (iteT rfl (KD (.inl ?_)))))))
  rw [zG hn] at hd h2e
  have hlen:i=(allT s a).1.length:=by
   have:=congrArg List.length hd
   rw [List.length_drop] at this
   simp only [List.length_nil] at this
   omega
  have K4:Kb b h2 h4:=(Km.ext e3).own u4 (Nat.le_refl _)
  rw [← hlen,h2e]
  exact ⟨hU _ _ _ hI (K2.trans K4),(u4.ne b (by have:=U6 g2; omega)).trans (e3.blk g2)⟩
 ·refine Z5 (fun h3 e3 s3 g3=>UO rfl (stR g3 (Nat.le_refl 4) (Y2 t) (fun h4 u4 g4=>Yw rfl ?_)))
  have g4:h4[h2.size]?=some (.cells t.cells KP (0,0)):=by
   have e:lay tkn0.cells 0 t.cells.toList=t.cells:=by rw [ZZ (cs:=tkn0.cells) (vs:=t.cells.toList) rfl,Array.toArray_toList]
   rw [← e]; exact g4
  rw [zH ha' hn] at hd h2e
  have hlt2:i < (allT s a).1.length:=by
   rcases Nat.lt_or_ge i (allT s a).1.length with h | h
   ·exact h
   ·rw [List.drop_eq_nil_iff.2 h] at hd; cases hd
  rw [List.drop_eq_getElem_cons hlt2] at hd
  obtain ⟨hd1,hd2⟩:=List.cons.inj hd
  have K4:Kb b h2 h4:=(Km.ext e3).own u4 (Nat.le_refl _)
  have gb4:h4[b]?=some (WX s a2):=(u4.ne b (by have:=U6 g2; omega)).trans (e3.blk g2)
  have hr:=hround i hlt2 h4 (hU _ _ _ hI (K2.trans K4))
  rw [hd1] at hr
  refine Kz (ldR g4 rfl (Kz (KM ((Yq _ _ _ _).mono ?_ hr))))
  rintro r h5 ⟨hk,hr5⟩
  refine ZD ?_
  cases r with
  | true =>
   rw [if_pos rfl] at hr5
   refine iteF rfl (hself _ _ ⟨i+1,a2,hle,hlt2,hd2,h2e,hr5,hk.trans gb4⟩ ?_)
   rw [KC2 (hk.trans gb4),KC2 gb]
   omega
  | false =>
   rw [if_neg (by decide)] at hr5
   exact iteT rfl (KD (.inr hr5))
end Gx
namespace Gx
open Go
set_option linter.unusedVariables false
set_option linter.unusedSimpArgs false
set_option maxRecDepth 100000
abbrev tokV (t:Tkn):List Value:=[.agg t.cells]
def SeqT (P:Program) (ts:List Tkn) (g:Value) (b:Nat) (C:Heap→Prop) (o:Obj) (End:Heap→Prop):Prop :=
 ∀ (l:Nat) (Inv:Nat→Heap→Prop) (Stop:Heap→Prop) (h:Heap),(∀ i h1 h2,Inv i h1→Kb b h1 h2→Inv i h2)→(∀ i h1,Inv i h1→C h1)→h[b]?=some o→Inv 0 h →
  (∀ i (hi:i < ts.length) h1,Inv i h1→(Yq P (fun b:Bool=>.bool b) (yV l) (tokV ts[i])).wp h1 (fun r h2=>h2[b]?=h1[b]?∧(if r=true then Inv (i+1) h2 else Stop h2))) →
  (Yq P (fun _:Unit=>.tuple #[]) g [yV l]).wp h (fun _ h1=>(Inv ts.length h1∧End h1)∨Stop h1)
theorem KHw {P:Program} {js:List Code} {Y:Nat→Array Value→M Nat} {Yb:Addr→M Nat} {r:Loop} {l:Nat} {t:Tkn}
  (hY:Y l t.cells=(mkB KP (#[.int .i64 0,.string ByteArray.empty,.int .i64 0,.int .i64 0]:Array Value)>>=fun a=>M.need (t.cells.size=4)>>=fun _=>stG a t.cells>>=fun _=>beg l>>=fun _=>Yb a))
  (hr:KFP P (fun x:Array Value=>[.agg x]) js Y r l) {c:Code} (hjs:js=[c]) {J J' E:Heap→Prop}
  (hJ:∀ h1 h2,J h1→Upd l h1 h2→J h2) (hJx:∀ h1 h2,J h1→Ext h1 h2→J h2) (hJ':∀ h1 h2,J' h1→Upd l h1 h2→J' h2) (hE:∀ h1 h2,E h1→Upd l h1 h2→E h2)
  (hbody:∀ h1 o n,J h1→h1[n]?=some (.cells t.cells KP (0,0))→h1[l]?=some o→l < n→(Yb ⟨n,0,none⟩).wp h1 (fun j h2=>h2[l]?=some o∧(j=0∧J' h2∨j=1∧E h2))) {h1:Heap} (h0:J h1) (hrec:h1[l]?=some (XX r .ready none)) :
  (Yq P (fun b:Bool=>.bool b) (yV l) (tokV t)).wp h1 (fun b h2=>if b=true then (J' h2∧h2[l]?=some (XX r .ready none)) else (E h2∧h2[l]?=some (XX r .done (some c)))):=by
 refine hr t.cells h1 _ .ready none hrec ?_
 rw [hY]
 refine Z5 (fun h2 e2 s2 g2=>UO rfl (stR g2 (Nat.le_refl 4) (Y2 t) (fun h3 u3 g3=>?_)))
 have g3:h3[h1.size]?=some (.cells t.cells KP (0,0)):=by
  have e:lay tkn0.cells 0 t.cells.toList=t.cells:=by rw [ZZ (cs:=tkn0.cells) (vs:=t.cells.toList) rfl,Array.toArray_toList]
  rw [← e]; exact g3
 have e3:Ext h1 h3:=e2.upd u3 (Nat.le_refl _)
 have hl:=U6 hrec
 have hrec3:=e3.blk hrec
 refine ⟨{ r with state:=.ready,pending:=none },hrec3,rfl,?_⟩
 have hb:=KCU (o':=XX r .busy none) hrec3
 refine (Yb ⟨h1.size,0,none⟩).mono ?_ (hbody _ _ h1.size (hJ _ _ (hJx _ _ h0 e3) (Upd.set_ h3 l (XX r .busy none))) (((Upd.set_ h3 l (XX r .busy none)).ne _ (by omega)).trans g3) hb (by omega))
 rintro j h4 ⟨h5,h6⟩
 refine ⟨.busy,none,h5,?_⟩
 rcases h6 with ⟨rfl,h6⟩ | ⟨rfl,h6⟩
 ·show if true=true then _ else _
  rw [if_pos rfl]
  exact ⟨hJ' _ _ h6 (Upd.set_ _ _ _),KCU h5⟩
 ·subst hjs
  show if false=true then _ else _
  rw [if_neg (by simp)]
  exact ⟨hE _ _ h6 (Upd.set_ _ _ _),KCU h5⟩
theorem KNM {P:Program} {js:List Code} {Y:Nat→Array Value→M Nat} {Yb:Addr→M Nat}
  (hY:∀ l (x:Array Value),Y l x=(mkB KP (#[.int .i64 0,.string ByteArray.empty,.int .i64 0,.int .i64 0]:Array Value)>>=fun a=>M.need (x.size=4)>>=fun _=>stG a x>>=fun _=>beg l>>=fun _=>Yb a))
  {c:Code} (hjs:js=[c]) {g:Value} (hg:∀ l,g≠.func (.yield l) #[] #[]) {h:Heap} {Q:Nat × Nat→Heap→Prop} {ts:List Tkn} {b:Nat} {o0:Obj} {C End:Heap→Prop}
  (J:Nat→Heap→Prop) (E:Heap→Prop) (hJ:∀ i h1 h2,J i h1→Upd (h.size+1) h1 h2→J i h2) (hE:∀ h1 h2,E h1→Upd (h.size+1) h1 h2→E h2) (hEnd:∀ h1 h2,End h1→Upd (h.size+1) h1 h2→End h2) (hJb:∀ i h1 h2,J i h1→h.size+2≤h1.size→Kb b h1 h2→J i h2) (hC:∀ i h1,J i h1→C h1)
  (hb:h[b]?=some o0) (hseq:SeqT P ts g b C o0 End) (h0:∀ r:Loop,J 0 ((h.push (.deferred (some []))).push (XX r .ready none)))
  (hbody:∀ i (hi:i < ts.length) h1 o n,J i h1→h1[n]?=some (.cells (ts[i]).cells KP (0,0))→h.size+2≤n→h1[h.size+1]?=some o→(Yb ⟨n,0,none⟩).wp h1 (fun j h2=>h2[h.size+1]?=some o∧h2[b]?=h1[b]?∧(j=0∧J (i+1) h2∨j=1∧E h2)))
  (hq0:∀ h1,J ts.length h1→End h1→Q (0,h.size) h1) (hq1:∀ h1,E h1→Q (1,h.size) h1):(rgF P (fun x:Array Value=>[.agg x]) js Y g).wp h Q:=by
 refine ⟨hg,fun r hr=>?_⟩
 have hbl:=U6 hb
 have hrec:((h.push (.deferred (some []))).push (XX r .ready none))[h.size+1]?=some (XX r .ready none):=by
  have:h.size+1=(h.push (.deferred (some []))).size:=by simp
  rw [this]; exact Kp
 refine (Yq P _ _ _).mono ?_ (hseq (h.size+1) (fun i h1=>J i h1∧h1[h.size+1]?=some (XX r .ready none)) (fun h1=>E h1∧h1[h.size+1]?=some (XX r .done (some c))) _ (fun i h1 h2 hh u=>⟨hJb i h1 h2 hh.1 (U6 hh.2) u,(u.blk hh.2 (by omega))⟩) (fun i h1 hh=>hC i h1 hh.1)
  (by rw [Vu (by simp; omega),Vu hbl]; exact hb) ⟨h0 r,hrec⟩ (fun i hi h1 hh=>?_))
 ·rintro _ h1 (⟨⟨h2,h3⟩,h4⟩ | ⟨h2,h3⟩)
  ·exact ⟨.ready,0,by decide,h3,hq0 _ (hJ _ _ _ h2 (Upd.set_ _ _ _)) (hEnd _ _ h4 (Upd.set_ _ _ _))⟩
  ·subst hjs
   exact ⟨.done,1,by decide,h3,hq1 _ (hE _ _ h2 (Upd.set_ _ _ _))⟩
 ·have hz:=U6 hh.2
  have hbo:∃ o,h1[b]?=some o:=⟨_,Array.getElem?_eq_getElem (by omega)⟩
  obtain ⟨ob,hob⟩:=hbo
  refine (Yq P _ _ _).mono ?_ (KHw (hY _ _) hr hjs (J:=fun h2=>J i h2∧h2[b]?=some ob∧h.size+2≤h2.size) (J':=fun h2=>J (i+1) h2∧h2[b]?=some ob) (E:=fun h2=>E h2∧h2[b]?=some ob) (fun h2 h3 hj u=>⟨hJ _ _ _ hj.1 u,(u.ne _ (by omega)).trans hj.2.1,by rw [u.size]; exact hj.2.2⟩) (fun h2 h3 hj e=>⟨hJb _ _ _ hj.1 hj.2.2 (Km.ext e),e.blk hj.2.1,by have:=e.size; omega⟩) (fun h2 h3 hj u=>⟨hJ _ _ _ hj.1 u,(u.ne _ (by omega)).trans hj.2⟩) (fun h2 h3 hj u=>⟨hE _ _ hj.1 u,(u.ne _ (by omega)).trans hj.2⟩) (fun h2 o n hj hn ho hnl=>?_) ⟨hh.1,hob,hz⟩ hh.2)
  ·rintro r' h2 hr'
   rw [hob]
   split at hr'
   ·rename_i hT; subst hT; exact ⟨hr'.1.2,by rw [if_pos rfl]; exact ⟨hr'.1.1,hr'.2⟩⟩
   ·rename_i hF; exact ⟨hr'.1.2,by rw [if_neg hF]; exact ⟨hr'.1.1,hr'.2⟩⟩
  ·refine (Yb _).mono ?_ (hbody i hi h2 o n hj.1 hn (by omega) ho)
   rintro j h3 ⟨h4,h5,h6⟩
   exact ⟨h4,h6.imp (fun h6=>⟨h6.1,h6.2,h5.trans hj.2.1⟩) (fun h6=>⟨h6.1,h6.2,h5.trans hj.2.1⟩)⟩
theorem oneC {h:Heap} {b:Nat} {v:Value} {t:TypeId} {z:Nat × Nat} (hb:h[b]?=some (.cells #[v] t z)):KO h ⟨b,0,none⟩=some v:=by rw [KJ hb]; rfl
theorem stO {β:Type} {h:Heap} {Q:β→Heap→Prop} {b:Nat} {v u:Value} {t:TypeId} {f:Unit→M β} (g:h[b]?=some (.cells #[v] t (0,0))) (h1:one u=true)
  (H:∀ h',Upd b h h'→h'[b]?=some (.cells #[u] t (0,0))→(f ()).wp h' Q):(stV ⟨b,0,none⟩ u>>=f).wp h Q :=
 NQ (oneC g) (ZB g) h1 (H _ (Upd.hset _ _ _ _) (by rw [VK g]; rfl))
def tks (ts:List Tkn):List (Array Value):=ts.map Tkn.cells
theorem KGZ (ts:List Tkn):W4 (tks ts):=fun c hc=>by
 obtain ⟨t,_,rfl⟩:=List.mem_map.1 hc
 exact ⟨rfl,Y2 t⟩
theorem N3 (ts:List Tkn):(tks ts).length=ts.length:=List.length_map _
theorem KK8 (a b:List Tkn):tks (a++b)=tks a++tks b:=List.map_append
def TkR (h:Heap) (x:Sl) (ts:List Tkn):Prop:=x.len=ts.length∧GB h x.base (WC (tks ts))
theorem TkR.ext {h h':Heap} {x:Sl} {ts:List Tkn} (H:TkR h x ts) (e:Ext h h'):TkR h' x ts:=⟨H.1,e.reads H.2⟩
theorem TkR.nil (h:Heap):TkR h Sl.nil []:=⟨rfl,.inl rfl⟩
theorem Gw.tkR {lo:Nat} {h:Heap} {r:Sl} {ts:List Tkn} (G:Gw lo h r 4 (WC (tks ts))):TkR h r ts:=⟨by have:=G.len; rw [WV (KGZ ts),N3] at this; omega,G.reads⟩
theorem TkR.at {h:Heap} {x:Sl} {ts:List Tkn} (H:TkR h x ts) {i:Nat} (hi:i < ts.length):∃ a,x.base=some a∧∀ j,j < 4→KO h ((a.add (i * 4)).add j)=(ts[i]).cells[j]?:=by
 rcases H.2 with h0 | ⟨a,ha,hr⟩
 ·have:=congrArg List.length h0
  rw [WV (KGZ ts),N3] at this; simp at this; omega
 ·refine ⟨a,ha,fun j hj=>?_⟩
  rw [Addr.add_add]
  have h1:=q9 (KGZ ts) i j hj
  rw [List.getElem?_eq_getElem (l:=tks ts) (i:=i) (by rw [N3]; exact hi),Option.bind_some] at h1
  have h2:(tks ts)[i]'(by rw [N3]; exact hi)=(ts[i]).cells:=by simp [tks]
  rw [h2] at h1
  have h3:j < (ts[i]).cells.size:=hj
  rw [Array.getElem?_eq_getElem h3] at h1 ⊢
  exact hr _ _ h1
end Gx
namespace Gx
open Go Go.Proofs Go.Shelf Go.RowKit Go.Lib
set_option linter.unusedVariables false
set_option linter.unusedSimpArgs false
set_option maxRecDepth 100000
def dcv (acc:Nat) (l:List UInt8):Nat:=l.foldl (fun a c=>a * 10+(c.toNat - 48)) acc
theorem KHx (acc:Nat):dcv acc []=acc:=rfl
theorem KC3 (acc:Nat) (c:UInt8) (r:List UInt8):dcv acc (c::r)=dcv (acc * 10+(c.toNat - 48)) r:=List.foldl_cons ..
theorem KFn (l:List UInt8) (acc:Nat) (c:UInt8):dcv acc (l++[c])=dcv acc l * 10+(c.toNat - 48):=by
 unfold dcv
 rw [List.foldl_append,List.foldl_cons,List.foldl_nil]
theorem KJ4:∀ (l:List UInt8) (acc:Nat),acc≤dcv acc l
 | [],acc=>Nat.le_refl _
 | c::l,acc=>by rw [KC3]; have:=KJ4 l (acc * 10+(c.toNat - 48)); omega
theorem KFo {a b:List UInt8} (h:a≠[]):(a++b).head?=a.head?:=by cases a with | nil=>exact absurd rfl h | cons c r=>rfl
theorem N4:∀ (m u:Nat),u < m→(decDigits u).all digB=true∧dcv 0 (decDigits u)=u∧decDigits u≠[]∧((decDigits u).head?=some 48→u=0):=by
 intro m
 induction m with
 | zero=>intro u h; omega
 | succ m ih =>
  intro u h
  have hd:∀ k,k < 10→digB (UInt8.ofNat (48+k))=true∧(UInt8.ofNat (48+k)).toNat=48+k:=fun k hk=>by
   have h1:(UInt8.ofNat (48+k)).toNat=48+k:=by
    rw [UInt8.toNat_ofNat']
    exact Nat.mod_eq_of_lt (by omega)
   exact ⟨by unfold digB; rw [h1,decide_eq_true (by omega),decide_eq_true (by omega)]; rfl,h1⟩
  rw [decDigits]
  by_cases h10:u < 10
  ·rw [dif_pos h10]
   obtain ⟨a,b⟩:=hd u h10
   refine ⟨by rw [List.all_cons,a]; rfl,?_,by simp,fun hh=>?_⟩
   ·rw [KC3,KHx,b]; omega
   ·have:UInt8.ofNat (48+u)=48:=by simpa using hh
    have h2:=congrArg UInt8.toNat this
    rw [b] at h2
    have:(48:UInt8).toNat=48:=rfl
    omega
  ·rw [dif_neg h10]
   obtain ⟨a1,a2,a3,a4⟩:=ih (u / 10) (by omega)
   obtain ⟨b1,b2⟩:=hd (u % 10) (Nat.mod_lt _ (by decide))
   refine ⟨by rw [List.all_append,a1,List.all_cons,b1]; rfl,?_,by simp,fun hh=>?_⟩
   ·rw [KFn,a2,b2]
    omega
   ·rw [KFo a3] at hh
    have:=a4 hh
    omega
theorem KHy:∀ (m:Nat) (l:List UInt8),l.length≤m→l≠[]→l.all digB=true→(l.head?=some 48→l=[48])→l=decDigits (dcv 0 l):=by
 intro m
 induction m with
 | zero=>intro l h hne; exact absurd (List.length_eq_zero_iff.1 (by omega)) hne
 | succ m ih =>
  intro l hl hne hd hz
  obtain ⟨a,c,rfl⟩:∃ a c,l=a++[c]:=⟨l.dropLast,l.getLast hne,(List.dropLast_concat_getLast hne).symm⟩
  rw [List.all_append,Bool.and_eq_true] at hd
  have hc:digB c=true:=by simpa using hd.2
  unfold digB at hc
  rw [Bool.and_eq_true,decide_eq_true_iff,decide_eq_true_iff] at hc
  have hcc:UInt8.ofNat (48+(c.toNat - 48))=c:=by
   rw [show 48+(c.toNat - 48)=c.toNat by omega,UInt8.ofNat_toNat]
  rw [KFn]
  by_cases ha:a=[]
  ·subst ha
   rw [KHx]
   rw [decDigits,dif_pos (by omega),Nat.zero_mul,Nat.zero_add,hcc]
   rfl
  ·rw [List.length_append,List.length_singleton] at hl
   have hh:a.head?=some 48→a=[48]:=fun h=>by
    have:=hz (by rw [KFo ha]; exact h)
    have hlen:=congrArg List.length this
    rw [List.length_append] at hlen
    simp at hlen
    exact absurd hlen ha
   have h1:=ih a (by omega) ha hd.1 hh
   have hpos:1≤dcv 0 a:=by
    by_cases h0:dcv 0 a=0
    ·rw [h0] at h1
     exfalso
     have hz0:decDigits 0=[48]:=by rw [decDigits,dif_pos (by decide)]; rfl
     rw [hz0] at h1
     have:=hz (by rw [h1]; rfl)
     rw [h1] at this
     simp at this
    ·omega
   rw [decDigits,dif_neg (by omega),show (dcv 0 a * 10+(c.toNat - 48)) / 10=dcv 0 a by omega,show (dcv 0 a * 10+(c.toNat - 48)) % 10=c.toNat - 48 by omega,hcc,← h1]
theorem zn (M:Nat):∀ (l:List UInt8) (acc u:Nat),parseUintM M acc l=.ok u→u=dcv acc l∧(acc≤M→u≤M)
 | [],acc,u,h=>by rw [parseUintM] at h; cases h; exact ⟨rfl,id⟩
 | c::r,acc,u,h=>by
  rw [parseUintM] at h
  split at h
  ·split at h
   ·cases h
   ·split at h
    ·cases h
    ·have:=zn M r _ _ h
     exact ⟨this.1,fun _=>this.2 (by omega)⟩
  ·cases h
theorem KBK (M:Nat) (hM:M < 18446744073709551616):∀ (l:List UInt8) (acc:Nat),l.all digB=true→dcv acc l≤M→parseUintM M acc l=.ok (dcv acc l)
 | [],acc,_,_=>by rw [parseUintM]; rfl
 | c::r,acc,h,hv=>by
  rw [List.all_cons,Bool.and_eq_true] at h
  have hc:=h.1
  unfold digB at hc
  rw [Bool.and_eq_true,decide_eq_true_iff,decide_eq_true_iff] at hc
  rw [KC3] at hv
  have hge:=KJ4 r (acc * 10+(c.toNat - 48))
  rw [parseUintM,if_pos hc,if_neg (by omega),if_neg (by omega),KBK M hM r _ h.2 hv]
  rfl
theorem KJH {l:List UInt8} (h:l.all digB=true):numD l=l:=by
 unfold numD
 rw [if_neg]
 intro hh
 cases l with
 | nil=>cases hh
 | cons c r =>
  rw [List.all_cons,Bool.and_eq_true] at h
  have:c=45:=by simpa using hh
  subst this
  exact absurd h.1 (by decide)
theorem KBL {n:Int} (hn:I64 n):numP (itoa n)=(n,0):=by
 unfold I64 at hn
 have e63:(2:Nat) ^ (64 - 1)=9223372036854775808:=by decide
 have e64:(2:Nat) ^ 64 - 1=18446744073709551615:=by decide
 unfold itoa
 split
 ·rename_i hneg
  obtain ⟨a1,a2,a3,a4⟩:=N4 _ n.natAbs (Nat.lt_succ_self _)
  have hD:numD (45::decDigits n.natAbs)=decDigits n.natAbs:=rfl
  unfold numP
  rw [hD,if_neg a3,if_neg (by rw [a1]; decide),if_neg (fun hh=>by have:=a4 hh.1; omega)]
  have hp:parseIntB 64 (45::decDigits n.natAbs)=.ok n:=by
   unfold parseIntB
   dsimp only
   rw [if_pos (by right; rfl)]
   unfold parseUintB
   rw [if_neg a3,e64,KBK _ (by decide) _ _ a1 (by rw [a2]; omega),a2,e63]
   have h45:(45:UInt8).toNat=45:=rfl
   dsimp only
   rw [if_neg (fun hh=>hh.1 h45),if_neg (fun hh=>by have:=hh.2; omega),if_pos h45]
   congr 1
   omega
  rw [hp]
 ·rename_i hpos
  obtain ⟨a1,a2,a3,a4⟩:=N4 _ n.toNat (Nat.lt_succ_self _)
  unfold numP
  rw [KJH a1,if_neg a3,if_neg (by rw [a1]; decide),if_neg (fun hh=>by
   have h0:=a4 hh.1
   rw [h0] at hh
   exact hh.2 (by rw [decDigits,dif_pos (by decide)]; rfl))]
  have hp:parseIntB 64 (decDigits n.toNat)=.ok n:=by
   cases hdd:decDigits n.toNat with
   | nil=>exact absurd hdd a3
   | cons c r =>
    rw [hdd] at a1 a2 a3
    have hc:digB c=true:=by rw [List.all_cons,Bool.and_eq_true] at a1; exact a1.1
    unfold digB at hc
    rw [Bool.and_eq_true,decide_eq_true_iff,decide_eq_true_iff] at hc
    unfold parseIntB
    dsimp only
    rw [if_neg (by omega)]
    unfold parseUintB
    rw [if_neg a3,e64,KBK _ (by decide) _ _ a1 (by rw [a2]; omega),a2,e63]
    dsimp only
    rw [if_neg (fun hh=>by have:=hh.2; omega),if_neg (fun hh=>by have:=hh.1; omega),if_neg (by omega)]
    congr 1
    omega
  rw [hp]
theorem KHz {t:List UInt8} {n:Int} (h:numP t=(n,0)):t=itoa n:=by
 have e63:(2:Nat) ^ (64 - 1)=9223372036854775808:=by decide
 unfold numP at h
 split at h
 ·cases h
 rename_i h1
 split at h
 ·cases h
 rename_i h2
 split at h
 ·cases h
 rename_i h3
 have h2:(numD t).all digB=true:=by
  cases hh:(numD t).all digB with
  | true=>rfl
  | false=>exact absurd hh h2
 split at h
 ·rename_i m hm
  cases h
  cases t with
  | nil=>exact absurd rfl h1
  | cons c r =>
   unfold parseIntB at hm
   dsimp only at hm
   by_cases h45:c=45
   ·subst h45
    have hD:numD (45::r)=r:=rfl
    rw [hD] at h1 h2 h3
    rw [if_pos (by right; rfl)] at hm
    unfold parseUintB at hm
    rw [if_neg h1] at hm
    split at hm
    ·cases hm
    ·cases hm
    ·rename_i u hu
     have hv:=(zn _ _ _ _ hu).1
     have hr:r=decDigits u:=by
      rw [hv]
      exact KHy _ r (Nat.le_refl _) h1 h2 (fun hh=>absurd ⟨hh,by simp⟩ h3)
     have h45':(45:UInt8).toNat=45:=rfl
     rw [if_neg (fun hh=>hh.1 h45'),e63] at hm
     split at hm
     ·cases hm
     ·cases hm
      have hu0:u≠0:=fun e=>by
       subst e
       have hz:r=[48]:=by rw [hr,decDigits,dif_pos (by decide)]; rfl
       exact h3 ⟨by rw [hz]; rfl,by simp⟩
      unfold itoa
      rw [if_pos (by omega),show (-(u:Int)).natAbs=u by omega,← hr]
   ·have hD:numD (c::r)=c::r:=by unfold numD; rw [List.head?_cons,if_neg (by simpa using h45)]
    rw [hD] at h1 h2 h3
    have hc:digB c=true:=by rw [List.all_cons,Bool.and_eq_true] at h2; exact h2.1
    unfold digB at hc
    rw [Bool.and_eq_true,decide_eq_true_iff,decide_eq_true_iff] at hc
    rw [if_neg (by omega)] at hm
    unfold parseUintB at hm
    rw [if_neg h1] at hm
    split at hm
    ·cases hm
    ·cases hm
    ·rename_i u hu
     have hv:=(zn _ _ _ _ hu).1
     have hr:c::r=decDigits u:=by
      rw [hv]
      refine KHy _ _ (Nat.le_refl _) h1 h2 (fun hh=>?_)
      by_cases he:c::r=[48]
      ·exact he
      ·exact absurd ⟨hh,he⟩ h3
     split at hm
     ·cases hm
     ·split at hm
      ·cases hm
      ·rw [if_neg (by omega)] at hm
       cases hm
       unfold itoa
       rw [if_neg (by omega),Int.toNat_natCast,← hr]
 ·cases h
end Gx
namespace Gx
open Go
set_option linter.unusedVariables false
set_option linter.unusedSimpArgs false
def hexc (n:Nat):UInt8:=if n < 10 then UInt8.ofNat (48+n) else UInt8.ofNat (87+n)
theorem KJI:∀ n,n < 16→([48,49,50,51,52,53,54,55,56,57,97,98,99,100,101,102,103,104,105,106,107,108,109,110,111,112,113,114,115,116,117,118,119,120,121,122]:List UInt8)[n]?=some (hexc n):=by decide
theorem KEC:∀ n,n < 16→([48,49,50,51,52,53,54,55,56,57,97,98,99,100,101,102]:List UInt8)[n]?=some (hexc n):=by decide
theorem KH0 {β:Type} {h:Heap} {Q:β→Heap→Prop} {l:List UInt8} {i:Nat} {t:Int} {c:UInt8} {f:Int→M β} (ht:t=(i:Int)) (hi:l[i]?=some c) (H:(f (c.toNat:Int)).wp h Q):(ixS (bs l) t>>=f).wp h Q:=by
 obtain ⟨h1,rfl⟩:=List.getElem?_eq_some_iff.1 hi
 exact XC ht h1 H
theorem KNN {β:Type} {h:Heap} {Q:β→Heap→Prop} {b i:Nat} {t:TypeId} {l:List UInt8} {c:UInt8} {f:Unit→M β} (hb:BB h b t l) (hi:i < l.length)
  (H:∀ h',BB h' b t (l.set i c)→Upd b h h'→(f ()).wp h' Q):(stV ⟨b,i,none⟩ (.int .u8 (c.toNat:Int))>>=f).wp h Q :=
 NQ (hb.cell hi) (hb.frozen i) (KLz c) (H _ (hb.set i c) (Upd.hset _ _ _ _))
theorem KJJ:(⟨#[48,49,50,51,52,53,54,55,56,57,97,98,99,100,101,102,103,104,105,106,107,108,109,110,111,112,113,114,115,116,117,118,119,120,121,122]⟩:ByteArray)=bs [48,49,50,51,52,53,54,55,56,57,97,98,99,100,101,102,103,104,105,106,107,108,109,110,111,112,113,114,115,116,117,118,119,120,121,122]:=rfl
theorem KAI.ext {h h':Heap} (H:KAI h) (e:Ext h h'):KAI h':=by
 obtain ⟨cs,ty,fz,h1,h2⟩:=H
 exact ⟨cs,ty,fz,e.blk h1,h2⟩
theorem GL.ext {h h':Heap} (H:GL h) (e:Ext h h'):GL h':=by
 obtain ⟨fz,ty,h1⟩:=H
 exact ⟨fz,ty,e.blk h1⟩
theorem KGa {n:Nat} (hn:n < 16) {h:Heap} {Q:ByteArray→Heap→Prop} (hd:KAI h) (H:∀ h',Ext h h'→Q (bs [hexc n]) h'):(Jh (n:Int) 16).wp h Q:=by
 unfold Jh
 refine iteF (by decide) (KM ?_)
 have w1:IntKind.wrap .u64 (n:Int)=(n:Int):=by rw [IntKind.wrap_u64]; omega
 rw [w1,show decide ((n:Int) < 0)=false by simp]
 unfold Zm
 refine Yw (by decide) (ZD (Yw (by decide) (ZD (iteF (by decide) (KKe (iteF rfl ?_))))))
 have e1:=Ext.push h (.cells (Array.replicate 65 (.int .u8 0)) Vx)
 have g1:(h.push (.cells (Array.replicate 65 (.int .u8 0)) Vx))[h.size]?=some (.cells (Array.replicate 65 (.int .u8 0)) Vx (0,0)):=Kp
 generalize h.push (.cells (Array.replicate 65 (.int .u8 0)) Vx)=h1 at e1 g1 ⊢
 unfold ZU Za
 refine ZD (iteT (by decide) ?_)
 unfold JY JA
 obtain ⟨cs,ty,fz,d1,d2⟩:=hd.ext e1
 refine KM (Yw (by decide) (KLx (by decide) (by decide) (ZM (n:=4) ?_ (ZD (KD ?_)))))
 ·rw [show ((iShr .u64 (IntKind.wrap .u64 ((iAnd .u64 (IntKind.wrap .u64 16) (IntKind.wrap .u64 (0 - (IntKind.wrap .u64 16)))) * 285870213051353865)) 58).toNat * 1)=15 by decide,Ke,KJ d1]
  exact d2
 have b1:BB h1 h.size Vx (List.replicate 65 0):=by
  unfold BB
  rw [g1]
  rfl
 refine M.loop_inv (fun (t:Int × Int) h'=>h'=h1∧t=((n:Int),65)) (fun _ _=>0) ?_ ⟨rfl,rfl⟩
 rintro t h' ⟨rfl,rfl⟩ self hself
 unfold JE
 refine iteF (by simp [IntKind.wrap_u64]; omega) ?_
 rw [KJJ]
 refine KH0 rfl (KJI n hn) (KLx (by decide) (by decide) ?_)
 rw [show (IntKind.wrap .i64 (65 - 1)).toNat * 1=64 by decide,Ke,Nat.zero_add]
 refine KNN b1 (by decide) (fun h2 b2 u2=>?_)
 unfold ZT ZS
 refine iteF rfl (iteF rfl (KM5 (by decide) (by decide) (by decide) ?_))
 rw [show (IntKind.wrap .i64 (65 - 1)).toNat=64 by decide,if_neg (by decide),Ke]
 refine KIo (ns:=[hexc n]) rfl ?_ (KD (KD (H _ (e1.upd u2 (Nat.le_refl _)))))
 have:=(b2.bys 64 1 1 (by simp)).at_
 exact this
end Gx
namespace Gx
open Go
set_option linter.unusedVariables false
set_option linter.unusedSimpArgs false
theorem zo {n:Int} {h:Heap} {Q:ByteArray→Heap→Prop} (hn:I64 n) (hp:GL h) (H:∀ h',Ext h h'→Q (bs (Lib.itoa n)) h'):(Xi n).wp h Q:=by
 unfold Xi Zd
 refine KM (KM (X7 (zS n) ⟨hn.1,hn.2,hp,fun h' h1 h2=>KD (KD (H _ ⟨h1,h2⟩))⟩))
theorem KH1 {β:Type} {n:Nat} (hn:n < 16) {t:Int} (ht:t=(n:Int)) {h:Heap} {Q:β→Heap→Prop} {f:ByteArray→M β} (hd:KAI h) (H:∀ h',Ext h h'→(f (bs [hexc n])).wp h' Q):(Zd t 16>>=f).wp h Q:=by
 subst ht
 unfold Zd
 exact KM (KM (X7 (YL _ _) (KGa hn hd (fun h' e=>KD (H _ e)))))
def qc (c:UInt8):List UInt8:=if c < 32∨126 < c then [92,120,hexc (c.toNat / 16),hexc (c.toNat % 16)] else if c=39∨c=92 then [92,c] else [c]
def Ur (s:List UInt8):List UInt8:=39::s.flatMap qc++[39]
theorem KNO (c:UInt8):(qc c).length≤4:=by unfold qc; split <;> (try split) <;> simp
structure BW (h0:Heap) (b c:Nat) (o:Obj) (h:Heap) (r:Sl) (l:List UInt8):Prop where
 bld:Bld h0.size h b r l
 ext:Ext h0 h
 blk:h[c]?=some o
 off:¬ Sl.on r c
 ne:c≠b
theorem BW.keep {h0 h h':Heap} {b c:Nat} {o:Obj} {r r':Sl} {l l':List UInt8} (W:BW h0 b c o h r l) (B:Bld h0.size h' b r' l') (K:BKeep b r r' h h'):BW h0 b c o h' r' l' :=
 ⟨B,K.ext W.ext W.bld (Nat.le_refl _),(K.same c (U6 W.blk) W.ne W.off).trans W.blk,fun ho=>(K.on_ c ho).elim W.off (fun h=>by have:=U6 W.blk; omega),W.ne⟩
theorem BW.more {h0 h h':Heap} {b c:Nat} {o:Obj} {r:Sl} {l:List UInt8} (W:BW h0 b c o h r l) (e:Ext h h'):BW h0 b c o h' r l :=
 ⟨W.bld.ext e,W.ext.trans e,e.blk W.blk,W.off,W.ne⟩
theorem KMT (c:UInt8):iShr .u8 (c.toNat:Int) 4=((c.toNat / 16:Nat):Int):=by
 have h:(c.toNat:Int).fdiv 16=((c.toNat / 16:Nat):Int):=by
  rw [Int.fdiv_eq_ediv_of_nonneg _ (by decide)]; rfl
 exact h
set_option maxRecDepth 100000 in
theorem KMU:∀ c:UInt8,iAnd .u8 (c.toNat:Int) 15=((c.toNat % 16:Nat):Int):=by
 intro c
 have hk:∀ n,n < 256→iAnd .u8 ((n:Nat):Int) 15=((n % 16:Nat):Int):=by decide
 exact hk c.toNat c.toNat_lt
theorem KED {l:List UInt8} {i:Nat} (hi:i < l.length) (f:UInt8→List UInt8):(l.take (i+1)).flatMap f=(l.take i).flatMap f++f l[i]:=by
 rw [KHD hi,List.flatMap_append]; simp
theorem KE4 {s:List UInt8} {h:Heap} {Q:ByteArray→Heap→Prop} (hs:(Ur s).length≤140737488355328) (hd:KAI h) (H:∀ h',Ext h h'→Q (bs (Ur s)) h'):(Yd (bs s)).wp h Q:=by
 unfold Yd
 refine Z5 (fun h1 e1 z1 g1=>?_)
 have B1:=Bld.new (Nat.le_refl _) g1
 refine KM (YS (c:=39) B1 (by omega) (by simp) rfl (fun h2 r2 B2 K2=>?_))
 refine fun cap hcap mk hmk=>?_
 have e3:=Ext.push h2 (.cells ((Zl (bs s)).toArray++Array.replicate (cap - (bs s).size) (.int .u8 0)) KU mk)
 have g3:(h2.push (.cells ((Zl (bs s)).toArray++Array.replicate (cap - (bs s).size) (.int .u8 0)) KU mk))[h2.size]?=some (.cells ((Zl (bs s)).toArray++Array.replicate (cap - (bs s).size) (.int .u8 0)) KU mk):=Kp
 generalize h2.push (.cells ((Zl (bs s)).toArray++Array.replicate (cap - (bs s).size) (.int .u8 0)) KU mk)=h3 at e3 g3 ⊢
 have hlt:=B2.lt
 have W3:BW h h.size h2.size _ h3 r2 [39]:=⟨B2.ext e3,(K2.ext e1 B1 (Nat.le_refl _)).trans e3,g3,fun ho=>by have:=(B2.row.lt ho).1; omega,by omega⟩
 rw [ZC]
 have hq:(Ur s).length=(s.flatMap qc).length+2:=by simp [Ur]
 have hsl:s.length≤(s.flatMap qc).length:=by
  rw [List.length_flatMap]
  clear hs H hcap W3 g3 e3 hq K2 B2 hlt
  induction s with
  | nil=>simp
  | cons a s ih=>rw [List.map_cons,List.sum_cons,List.length_cons]; have:1≤(qc a).length:=by { unfold qc; split <;> (try split) <;> simp }; omega
 have hpre:∀ i,((s.take i).flatMap qc).length≤(s.flatMap qc).length:=fun i=>by
  conv=>rhs; rw [← List.take_append_drop i s,List.flatMap_append,List.length_append]
  omega
 refine M.loop_inv (fun (t:Int) h'=>∃ i:Nat,t=(i:Int)∧i≤s.length∧∃ r,BW h h.size h2.size (.cells ((Zl (bs s)).toArray++Array.replicate (cap - (bs s).size) (.int .u8 0)) KU mk) h' r (39::(s.take i).flatMap qc)) (fun t _=>((s.length:Int) - t).toNat) ?_ ⟨0,rfl,Nat.zero_le _,r2,W3⟩
 rintro t h' ⟨i,rfl,hi,r,W⟩ self hself
 unfold Y9
 have hpi:=hpre i
 refine KW (fun hc=>?_) (fun hc=>?_)
 ·have hlt':i < s.length:=by have:=of_decide_eq_true hc; dsimp only at this; omega
  have hpj:=hpre (i+1)
  have htk:=KED hlt' qc
  have cell:KO h' ((⟨h2.size,0,none⟩:Addr).add ((i:Int).toNat * 1))=some (.int .u8 (s[i].toNat:Int)):=by
   rw [Ke,KJ W.blk,show 0+(i:Int).toNat * 1=i by omega,Array.getElem?_append_left (by rw [KBD]; simpa using hlt')]
   simp [KBD,hlt',bv]
  refine XY (by omega) (by show (i:Int) < (s.length:Int); omega) rfl (ZM cell ?_)
  have hw64:IntKind.wrap .i64 ((i:Int)+1)=((i+1:Nat):Int):=by rw [w64 (by omega) (by omega)]; simp
  have hnext:∀ {h4:Heap} {r4:Sl},BW h h.size h2.size (.cells ((Zl (bs s)).toArray++Array.replicate (cap - (bs s).size) (.int .u8 0)) KU mk) h4 r4 (39::(s.take (i+1)).flatMap qc)→(UU self (i:Int)).wp h4 Q:=fun W4=>by
   unfold UU
   rw [hw64]
   exact hself _ _ ⟨i+1,rfl,by omega,_,W4⟩ (by omega)
  rw [htk] at hnext hpj
  have c32:(decide ((s[i].toNat:Int) < 32))=decide (s[i] < 32):=by rw [Bool.eq_iff_iff]; simp [q8]
  have c126:(decide ((s[i].toNat:Int) > 126))=decide (126 < s[i]):=by rw [Bool.eq_iff_iff]; simp [q8]
  refine or_b (c:=decide (126 < s[i])) (fun _ Q' hq'=>KD (by rw [c126]; exact hq')) ?_
  rw [c32]
  have hlo:h.size≤h'.size:=W.ext.size
  refine KW (fun hx=>?_) (fun hx=>?_)
  ·have hx':s[i] < 32∨126 < s[i]:=by simpa using hx
   have hqc:qc s[i]=[92,120,hexc (s[i].toNat / 16),hexc (s[i].toNat % 16)]:=by unfold qc; rw [if_pos hx']
   rw [hqc] at hnext hpj
   simp only [List.length_append,List.length_cons,List.length_nil] at hpj
   have hdiv:s[i].toNat / 16 < 16:=by have:=s[i].toNat_lt; omega
   refine KM (Yo (s:=[92,120]) W.bld hlo (by simp only [List.length_cons,List.length_append,List.length_nil]; omega) (fun h4 r4 n4 B4 K4=>?_))
   have W4:=W.keep B4 K4
   refine KH1 hdiv (by rw [KMT,w64 (by omega) (by omega)]) (hd.ext W4.ext) (fun h5 e5=>?_)
   have W5:=W4.more e5
   refine KM (Yo W5.bld W5.ext.size (by simp only [List.length_cons,List.length_append,List.length_nil]; omega) (fun h6 r6 n6 B6 K6=>?_))
   have W6:=W5.keep B6 K6
   refine KH1 (Nat.mod_lt _ (by decide)) (by rw [KMU,w64 (by omega) (by omega)]) (hd.ext W6.ext) (fun h7 e7=>?_)
   have W7:=W6.more e7
   refine KM (Yo W7.bld W7.ext.size (by simp only [List.length_cons,List.length_append,List.length_nil]; omega) (fun h8 r8 n8 B8 K8=>?_))
   exact hnext (by have:=W7.keep B8 K8; simpa using this)
  ·have hx':¬ (s[i] < 32∨126 < s[i]):=by simpa using hx
   have c39:((s[i].toNat:Int) == 39)=decide (s[i]=39):=by
    rw [Bool.eq_iff_iff]; simp only [beq_iff_eq,decide_eq_true_eq]
    exact ⟨fun e=>UInt8.toNat_inj.1 (by simpa using (by omega:s[i].toNat=39)),fun e=>by rw [e]; rfl⟩
   have c92:((s[i].toNat:Int) == 92)=decide (s[i]=92):=by
    rw [Bool.eq_iff_iff]; simp only [beq_iff_eq,decide_eq_true_eq]
    exact ⟨fun e=>UInt8.toNat_inj.1 (by simpa using (by omega:s[i].toNat=92)),fun e=>by rw [e]; rfl⟩
   refine or_b (c:=decide (s[i]=92)) (fun _ Q' hq'=>KD (by rw [c92]; exact hq')) ?_
   rw [c39]
   refine KW (fun hy=>?_) (fun hy=>?_)
   ·have hy':s[i]=39∨s[i]=92:=by simpa using hy
    have hqc:qc s[i]=[92,s[i]]:=by unfold qc; rw [if_neg hx',if_pos hy']
    rw [hqc] at hnext hpj
    simp only [List.length_append,List.length_cons,List.length_nil] at hpj
    refine KM (YS (c:=92) W.bld hlo (by simp only [List.length_cons,List.length_append,List.length_nil]; omega) rfl (fun h4 r4 B4 K4=>?_))
    have W4:=W.keep B4 K4
    refine KM (YS (c:=s[i]) W4.bld W4.ext.size (by simp only [List.length_cons,List.length_append,List.length_nil]; omega) rfl (fun h5 r5 B5 K5=>?_))
    exact hnext (by have:=W4.keep B5 K5; simpa using this)
   ·have hy':¬ (s[i]=39∨s[i]=92):=by simpa using hy
    have hqc:qc s[i]=[s[i]]:=by unfold qc; rw [if_neg hx',if_neg hy']
    rw [hqc] at hnext hpj
    simp only [List.length_append,List.length_cons,List.length_nil] at hpj
    refine KM (YS (c:=s[i]) W.bld hlo (by simp only [List.length_cons,List.length_append,List.length_nil]; omega) rfl (fun h4 r4 B4 K4=>?_))
    exact hnext (by have:=W.keep B4 K4; simpa using this)
 ·have hge:i=s.length:=by have:=of_decide_eq_false hc; dsimp only at this; omega
  subst hge
  rw [List.take_length] at W
  refine KM (YS (c:=39) W.bld W.ext.size (by simp only [List.length_cons,List.length_append,List.length_nil]; omega) rfl (fun h4 r4 B4 K4=>?_))
  have W4:=W.keep B4 K4
  refine KM (KBE B4 (by simp only [List.length_cons,List.length_append,List.length_nil]; omega) (fun h5 K5 _=>KD ?_))
  exact H _ (K5.ext W4.ext B4 (Nat.le_refl _))
end Gx
namespace Gx
open Go
set_option linter.unusedVariables false
set_option linter.unusedSimpArgs false
theorem KJK {β:Type} {h0 h:Heap} {Q:β→Heap→Prop} {r:Sl} {l news:List UInt8} {n b:Nat} {f:Sl→M β} (G:Gw h0.size h r 1 (l.map bv)) (e:Ext h0 h) (hn:n=news.length) (hb:h[b]?=some (.cells (news.map bv).toArray KU (0,0)))
  (hm:l.length+news.length≤140737488355328)
  (H:∀ h' r',Gw h0.size h' r' 1 ((l++news).map bv)→Ext h0 h'→(f r').wp h' Q):(apL KU 1 1 (#[.int .u8 0]:Array Value) r ⟨some ⟨b,0,none⟩,n,n⟩>>=f).wp h Q:=by
 subst hn
 have hl:=G.len
 simp at hl
 refine zR (vs:=l.map bv) (news:=news.map bv) rfl G (by simp) (.inr ⟨_,rfl,fun j v hj=>?_⟩) (fun v hv=>by obtain ⟨x,_,rfl⟩:=List.mem_map.1 hv; rfl) (by dsimp only; omega) (by dsimp only; omega) e.size (fun h' r' G' hlen hs same on_=>?_)
 ·rw [Ke,KJ hb]
  simpa using hj
 ·rw [← List.map_append] at G'
  exact H _ _ G' ⟨Nat.le_trans e.size hs,fun i hi=>(same i (Nat.lt_of_lt_of_le hi e.size) (fun ho=>by have:=(G.lt ho).2; omega)).trans (e.same i hi)⟩
theorem KMV {h0 h:Heap} {c:List UInt8} {b:Nat} (hl:h0.size≤b) (hb:h[b]?=some (.cells (c.map bv).toArray KU (0,0))):Gw h0.size h ⟨some ⟨b,0,none⟩,c.length,c.length⟩ 1 (c.map bv) :=
 .inr ⟨b,_,_,rfl,hl,hb,by simp,Nat.le_refl _,by simp,fun j v hj=>by simpa using hj⟩
theorem KJL:(⟨#[48,49,50,51,52,53,54,55,56,57,97,98,99,100,101,102]⟩:ByteArray)=bs [48,49,50,51,52,53,54,55,56,57,97,98,99,100,101,102]:=rfl
theorem KEE (s:List UInt8):(Ur s).length=(s.flatMap qc).length+2:=by simp [Ur]
theorem KK9 (s:List UInt8):s.length≤(s.flatMap qc).length:=by
 induction s with
 | nil=>simp
 | cons a s ih=>rw [List.flatMap_cons,List.length_append,List.length_cons]; have:1≤(qc a).length:=by { unfold qc; split <;> (try split) <;> simp }; omega
theorem KFp (s:List UInt8) (i:Nat):((s.take i).flatMap qc).length≤(s.flatMap qc).length:=by
 conv=>rhs; rw [← List.take_append_drop i s,List.flatMap_append,List.length_append]
 omega
theorem KE5 {s:List UInt8} {h:Heap} {Q:ByteArray→Heap→Prop} (hs:(Ur s).length≤140737488355328) (H:∀ h',Ext h h'→Q (bs (Ur s)) h'):(J8 (bs s)).wp h Q:=by
 unfold J8
 rw [KEE] at hs
 have hsl:=KK9 s
 refine zQ ?_
 have e1:=Ext.push h (.cells #[.int .u8 39] KU)
 have g1:(h.push (.cells #[.int .u8 39] KU))[h.size]?=some (.cells (([39]:List UInt8).map bv).toArray KU (0,0)):=Kp
 generalize h.push (.cells #[.int .u8 39] KU)=h1 at e1 g1 ⊢
 refine M.loop_inv (fun (t:Sl × Int) h'=>∃ i:Nat,t.2=(i:Int)∧i≤s.length∧Gw h.size h' t.1 1 ((39::(s.take i).flatMap qc).map bv)∧Ext h h') (fun t _=>((s.length:Int) - t.2).toNat) ?_ ⟨0,rfl,Nat.zero_le _,KMV (c:=[39]) (Nat.le_refl _) g1,e1⟩
 rintro ⟨r,t⟩ h' ⟨i,hti,hi,G,E⟩ self hself
 have hti:t=(i:Int):=hti
 subst hti
 unfold U1
 rw [ZC]
 have hpi:=KFp s i
 refine KW (fun hc=>?_) (fun hc=>?_)
 ·have hlt':i < s.length:=by have:=of_decide_eq_true hc; omega
  have hpj:=KFp s (i+1)
  have htk:=KED hlt' qc
  refine XC rfl hlt' ?_
  have hw64:IntKind.wrap .i64 ((i:Int)+1)=((i+1:Nat):Int):=by rw [w64 (by omega) (by omega)]; simp
  have hnext:∀ {h4:Heap} {r4:Sl},Gw h.size h4 r4 1 ((39::(s.take (i+1)).flatMap qc).map bv)→Ext h h4→(Zp self (i:Int) r4).wp h4 Q:=fun G4 E4=>by
   unfold Zp
   rw [hw64]
   exact hself (_,_) _ ⟨i+1,rfl,by omega,G4,E4⟩ (by dsimp only; omega)
  rw [htk] at hnext hpj
  have c32:(decide ((s[i].toNat:Int) < 32))=decide (s[i] < 32):=by rw [Bool.eq_iff_iff]; simp [q8]
  have c126:(decide ((s[i].toNat:Int) > 126))=decide (126 < s[i]):=by rw [Bool.eq_iff_iff]; simp [q8]
  have c39:((s[i].toNat:Int) == 39)=decide (s[i]=39):=by
   rw [Bool.eq_iff_iff]; simp only [beq_iff_eq,decide_eq_true_eq]
   exact ⟨fun e=>UInt8.toNat_inj.1 (by simpa using (by omega:s[i].toNat=39)),fun e=>by rw [e]; rfl⟩
  have c92:((s[i].toNat:Int) == 92)=decide (s[i]=92):=by
   rw [Bool.eq_iff_iff]; simp only [beq_iff_eq,decide_eq_true_eq]
   exact ⟨fun e=>UInt8.toNat_inj.1 (by simpa using (by omega:s[i].toNat=92)),fun e=>by rw [e]; rfl⟩
  refine or_b (c:=decide (s[i]=92)) (fun _ Q' hq'=>KD (by rw [c92]; exact hq')) ?_
  rw [c39]
  refine KW (fun hy=>?_) (fun hy=>?_)
  ·have hy':s[i]=39∨s[i]=92:=by simpa using hy
   have hx':¬ (s[i] < 32∨126 < s[i]):=by rcases hy' with e | e <;> rw [e] <;> decide
   have hqc:qc s[i]=[92,s[i]]:=by unfold qc; rw [if_neg hx',if_pos hy']
   rw [hqc] at hnext hpj
   simp only [List.length_append,List.length_cons,List.length_nil] at hpj
   refine zQ (KJK (news:=[92,s[i]]) (G.ext (Ext.push _ _)) (E.pushed _) rfl Kp (by simp only [List.length_cons,List.length_append,List.length_nil]; omega) (fun h4 r4 G4 E4=>hnext G4 E4))
  ·have hy':¬ (s[i]=39∨s[i]=92):=by simpa using hy
   refine or_b (c:=decide (126 < s[i])) (fun _ Q' hq'=>KD (by rw [c126]; exact hq')) ?_
   rw [c32]
   refine KW (fun hx=>?_) (fun hx=>?_)
   ·have hx':s[i] < 32∨126 < s[i]:=by simpa using hx
    have hqc:qc s[i]=[92,120,hexc (s[i].toNat / 16),hexc (s[i].toNat % 16)]:=by unfold qc; rw [if_pos hx']
    rw [hqc] at hnext hpj
    simp only [List.length_append,List.length_cons,List.length_nil] at hpj
    have hdiv:s[i].toNat / 16 < 16:=by have:=s[i].toNat_lt; omega
    rw [KJL]
    refine KH0 (i:=s[i].toNat / 16) (by rw [Int.tdiv_eq_ediv_of_nonneg (by omega),IntKind.wrap_u8]; omega) (KEC _ hdiv) (KH0 (i:=s[i].toNat % 16) (by rw [Int.tmod_eq_emod_of_nonneg (by omega)]; omega) (KEC _ (Nat.mod_lt _ (by decide))) ?_)
    exact zQ (KJK (news:=[92,120,hexc (s[i].toNat / 16),hexc (s[i].toNat % 16)]) (G.ext (Ext.push _ _)) (E.pushed _) rfl Kp (by simp only [List.length_cons,List.length_append,List.length_nil]; omega) (fun h4 r4 G4 E4=>hnext G4 E4))
   ·have hx':¬ (s[i] < 32∨126 < s[i]):=by simpa using hx
    have hqc:qc s[i]=[s[i]]:=by unfold qc; rw [if_neg hx',if_neg hy']
    rw [hqc] at hnext hpj
    simp only [List.length_append,List.length_cons,List.length_nil] at hpj
    exact zQ (KJK (news:=[s[i]]) (G.ext (Ext.push _ _)) (E.pushed _) rfl Kp (by simp only [List.length_cons,List.length_append,List.length_nil]; omega) (fun h4 r4 G4 E4=>hnext G4 E4))
 ·have hge:i=s.length:=by have:=of_decide_eq_false hc; omega
  subst hge
  rw [List.take_length] at G hpi
  refine zQ (KJK (news:=[39]) (G.ext (Ext.push _ _)) (E.pushed _) rfl Kp (by simp only [List.length_cons,List.length_append,List.length_nil]; omega) (fun h4 r4 G4 E4=>?_))
  have B:=G4.bys
  exact KIo B.len.symm B.at_ (KD (H _ E4))
end Gx
namespace Gx
open Go
set_option linter.unusedVariables false
set_option linter.unusedSimpArgs false
def dgt (u:Nat):List Nat:=if h:u < 10 then [u] else dgt (u / 10)++[u % 10]
termination_by u
decreasing_by omega
theorem KE6 (u:Nat):Lib.decDigits u=(dgt u).map fun d=>UInt8.ofNat (48+d):=by
 induction u using Nat.strongRecOn with
 | _ u ih =>
  unfold dgt Lib.decDigits
  split
  ·rfl
  ·rw [ih (u / 10) (by omega)]; simp
theorem KMW (u:Nat):∀ d ∈ dgt u,d < 10:=by
 induction u using Nat.strongRecOn with
 | _ u ih =>
  unfold dgt
  split
  ·intro d hd; simp at hd; omega
  ·intro d hd
   rcases List.mem_append.1 hd with hd | hd
   ·exact ih (u / 10) (by omega) d hd
   ·simp at hd; omega
theorem KBM:∀ (k u:Nat),u < 10 ^ k→1≤k→(dgt u).length≤k
 | 0,u,h,h1=>by omega
 | k+1,u,h,h1=>by
  unfold dgt
  split
  ·simp
  ·rename_i hu
   rw [List.length_append]
   have:1≤k:=by
    rcases Nat.eq_zero_or_pos k with h0 | h0
    ·subst h0; omega
    ·exact h0
   have:=KBM k (u / 10) (by rw [Nat.pow_succ] at h; omega) this
   simp; omega
def dv (d:Nat):Value:=.int .i64 (d:Int)
theorem KEF {n:Int} {h:Heap} {Q:Sl→Heap→Prop} (hn:I64 n) (H:∀ h' r,Ext h h'→Gw h.size h' r 1 ((dgt n.natAbs).map dv)→Q r h'):(Jr n).wp h Q:=by
 unfold Jr
 obtain ⟨n1,n2⟩:=hn
 have hbare:(Jj n).wp h (fun u h'=>u=(n.natAbs:Int)∧h'=h):=by
  unfold Jj
  refine KW (fun hc=>?_) (fun hc=>?_)
  ·have:=of_decide_eq_true hc
   exact KD ⟨by rw [IntKind.wrap_u64,IntKind.wrap_u64]; omega,rfl⟩
  ·have:=of_decide_eq_false hc
   exact KD ⟨by rw [IntKind.wrap_u64]; omega,rfl⟩
 refine KM ((Jj n).mono ?_ hbare)
 rintro u h' ⟨rfl,rfl⟩
 have hu:n.natAbs≤18446744073709551615:=by omega
 have hlen:(dgt n.natAbs).length≤20:=KBM 20 _ (by omega) (by decide)
 generalize n.natAbs=u at *
 refine M.loop_inv (fun (t:Int × Sl) h1=>∃ (x:Nat) (l:List Nat),t.1=(x:Int)∧x≤18446744073709551615∧Ext h' h1∧Gw h'.size h1 t.2 1 (l.map dv)∧(if 0 < x∨l=[] then dgt x else [])++l=dgt u) (fun t _=>t.1.toNat+(if t.2.len=0 then 1 else 0)) ?_ ⟨u,[],rfl,hu,Ext.refl _,Gw.nil _ _ _,by simp⟩
 rintro ⟨t,r⟩ h1 ⟨x,l,ht,hx,E,G,hd⟩ self hself
 have ht:t=(x:Int):=ht
 subst ht
 have hrl:=G.len
 simp at hrl
 unfold Um
 refine or_b (c:=decide (l=[])) (fun _ Q' hq'=>KD (by rw [show ((r.len:Int) == 0)=decide (l=[]) by rw [← hrl,Bool.eq_iff_iff]; simp]; exact hq')) ?_
 refine KW (fun hc=>?_) (fun hc=>?_)
 ·have hc':0 < x∨l=[]:=by simpa using hc
  rw [if_pos hc'] at hd
  have hsl:(dgt x).length+l.length=(dgt u).length:=by rw [← hd,List.length_append]
  have w1:IntKind.wrap .i64 (Int.tmod (x:Int) 10)=((x % 10:Nat):Int):=by
   rw [Int.tmod_eq_emod_of_nonneg (by omega),w64 (by omega) (by omega)]; omega
  have w2:IntKind.wrap .u64 (Int.tdiv (x:Int) 10)=((x / 10:Nat):Int):=by
   rw [Int.tdiv_eq_ediv_of_nonneg (by omega),IntKind.wrap_u64]; omega
  rw [w1,w2]
  refine zQ ?_
  have e2:=Ext.push h1 (.cells #[.int .i64 ((x % 10:Nat):Int)] Vo)
  have g2:(h1.push (.cells #[.int .i64 ((x % 10:Nat):Int)] Vo))[h1.size]?=some (.cells #[.int .i64 ((x % 10:Nat):Int)] Vo (0,0)):=Kp
  generalize h1.push (.cells #[.int .i64 ((x % 10:Nat):Int)] Vo)=h2 at e2 g2 ⊢
  have G2:=G.ext e2
  have E2:=E.trans e2
  have Gn:Gw h'.size h2 ⟨some ⟨h1.size,0,none⟩,1,1⟩ 1 [dv (x % 10)]:=.inr ⟨h1.size,_,_,rfl,E.size,g2,rfl,Nat.le_refl _,rfl,fun j v hj=>by rw [show (#[.int .i64 ((x % 10:Nat):Int)]:Array Value)=[dv (x % 10)].toArray from rfl]; simpa using hj⟩
  refine zR (vs:=[dv (x % 10)]) (news:=l.map dv) rfl Gn (by simp; exact hrl) G2.reads (fun v hv=>by obtain ⟨y,_,rfl⟩:=List.mem_map.1 hv; rfl) (by dsimp only; omega) (by dsimp only; omega) E2.size (fun h3 r3 G3 hlen3 hs same on_=>?_)
  have E3:Ext h' h3:=⟨Nat.le_trans E2.size hs,fun i hi=>(same i (Nat.lt_of_lt_of_le hi E2.size) (fun ho=>by have:=(Gn.lt ho).2; omega)).trans (E2.same i hi)⟩
  refine hself (_,_) _ ⟨x / 10,(x % 10)::l,rfl,by omega,E3,by simpa using G3,?_⟩ ?_
  ·rw [← hd]
   conv=>rhs; unfold dgt
   by_cases h10:x < 10
   ·have hz:x / 10=0:=by omega
    simp [h10,hz,Nat.mod_eq_of_lt h10]
   ·have:0 < x / 10:=by omega
    rw [if_pos (.inl this),dif_neg h10]; simp
  ·dsimp only
   rw [hlen3]
   dsimp only
   rcases hc' with h0 | h0
   ·rw [if_neg (by omega)]; split <;> omega
   ·subst h0
    have:r.len=0:=by rw [← hrl]; rfl
    rw [if_neg (by omega),if_pos this]; omega
 ·have hc':¬ (0 < x∨l=[]):=by simpa using hc
  rw [if_neg hc',List.nil_append] at hd
  subst hd
  exact KD (H _ _ E G)
theorem NN {β:Type} {h:Heap} {Q:β→Heap→Prop} {x y:List UInt8} {f:ByteArray→M β} (hm:x.length+y.length≤9223372036854775807) (H:(f (bs (x++y))).wp h Q):(sCat (bs x) (bs y)>>=f).wp h Q :=
 ⟨bs (x++y),⟨by rw [ZC,ZC]; omega,by apply ByteArray.ext; simp [bs]⟩,H⟩
theorem KC4 {n:Int} (hn:I64 n):(Lib.itoa n).length≤21:=by
 obtain ⟨n1,n2⟩:=hn
 unfold Lib.itoa
 split
 ·rw [List.length_cons,KE6,List.length_map]
  have:=KBM 20 n.natAbs (by omega) (by decide)
  omega
 ·rw [KE6,List.length_map]
  have:=KBM 20 n.toNat (by omega) (by decide)
  omega
theorem N5 {n:Int} {h:Heap} {Q:ByteArray→Heap→Prop} (hn:I64 n) (H:∀ h',Ext h h'→Q (bs (Lib.itoa n)) h'):(JL n).wp h Q:=by
 unfold JL
 have key:∀ (p:List UInt8),p.length≤1→p++Lib.decDigits n.natAbs=Lib.itoa n→(Ja n (bs p)).wp h Q:=fun p hp he=>by
  unfold Ja
  refine KM (KEF hn (fun h1 r E G=>?_))
  have hrl:=G.len
  simp at hrl
  have hlen:(dgt n.natAbs).length≤20:=KBM 20 _ (by obtain ⟨_,_⟩:=hn; omega) (by decide)
  rw [KE6] at he
  have hlt:=KMW n.natAbs
  generalize dgt n.natAbs=ds at *
  refine M.loop_inv (fun (t:ByteArray × Int) h2=>∃ i:Nat,t.2=(i:Int)∧i≤ds.length∧t.1=bs (p++(ds.take i).map fun d=>UInt8.ofNat (48+d))∧Ext h h2∧Gw h.size h2 r 1 (ds.map dv)) (fun t _=>((ds.length:Int) - t.2).toNat) ?_ ⟨0,rfl,Nat.zero_le _,by simp,E,G⟩
  rintro ⟨x,t⟩ h2 ⟨i,hti,hi,hx,E2,G2⟩ self hself
  have hti:t=(i:Int):=hti
  have hx:x=_:=hx
  subst hti; subst hx
  unfold VE
  rw [← hrl]
  refine KW (fun hc=>?_) (fun hc=>?_)
  ·have hlt':i < ds.length:=by have:=of_decide_eq_true hc; omega
   obtain ⟨b,hb,hcell'⟩:=G2.cell (j:=i) (v:=dv ds[i]) (by simp [hlt'])
   have hd:=hlt ds[i] (List.getElem_mem hlt')
   refine XY (by omega) (by omega) hb (ZM (n:=(ds[i]:Int)) (by rw [Ke,show 0+(i:Int).toNat * 1=i by omega]; exact hcell') ?_)
   have hc8:IntKind.wrap .u8 (IntKind.wrap .i64 (48+(ds[i]:Int)))=((UInt8.ofNat (48+ds[i])).toNat:Int):=by
    rw [w64 (by omega) (by omega),IntKind.wrap_u8,UInt8.toNat_ofNat']
    omega
   rw [hc8]
   refine zQ ?_
   have g3:(h2.push (.cells #[.int .u8 ((UInt8.ofNat (48+ds[i])).toNat:Int)] KU))[h2.size]?=some (.cells (([UInt8.ofNat (48+ds[i])]:List UInt8).map bv).toArray KU (0,0)):=Kp
   have e3:=Ext.push h2 (.cells #[.int .u8 ((UInt8.ofNat (48+ds[i])).toNat:Int)] KU)
   have Gb:=KMV (h0:=h2) (c:=[UInt8.ofNat (48+ds[i])]) (Nat.le_refl _) g3
   refine KIo (ns:=[UInt8.ofNat (48+ds[i])]) rfl Gb.bys.at_ (NN (y:=[UInt8.ofNat (48+ds[i])]) (by simp; omega) ?_)
   rw [w64 (by omega) (by omega)]
   refine hself (_,_) _ ⟨i+1,by simp,by omega,?_,E2.trans e3,G2.ext e3⟩ (by dsimp only; omega)
   dsimp only
   rw [List.take_succ_eq_append_getElem hlt',List.map_append,← List.append_assoc]
   rfl
  ·have hge:i=ds.length:=by have:=of_decide_eq_false hc; omega
   subst hge
   rw [List.take_length,he]
   exact KD (H _ E2)
 refine KW (fun hc=>?_) (fun hc=>?_)
 ·have:=of_decide_eq_true hc
  exact key [45] (by simp) (by unfold Lib.itoa; rw [if_pos this]; rfl)
 ·have:=of_decide_eq_false hc
  exact key [] (by simp) (by unfold Lib.itoa; rw [if_neg this,show n.natAbs=n.toNat by omega]; rfl)
end Gx
namespace Gx
open Go
set_option linter.unusedVariables false
set_option linter.unusedSimpArgs false
def jn (sep:List UInt8):List (List UInt8)→List UInt8
 | []=>[]
 | [a]=>a
 | a::b::r=>a++(sep++jn sep (b::r))
def sv (s:List UInt8):Value:=.string (bs s)
theorem KE7 (sep a:List UInt8) (l:List (List UInt8)):jn sep (a::l)=a++l.flatMap (fun s=>sep++s):=by
 induction l generalizing a with
 | nil=>simp [jn]
 | cons b r ih=>rw [jn,ih]; simp
theorem KGb {lo:Nat} {h:Heap} {b:Nat} {n:Int} {Q:Unit→Heap→Prop} (B:Bld lo h b Sl.nil []) (hlo:lo≤h.size) (h0:0≤n) (hn:n≤140737488355328)
  (H:∀ h' r',Bld lo h' b r' []→BKeep b Sl.nil r' h h'→Q () h'):(JP (some ⟨b,0,none⟩) n).wp h Q:=by
 unfold JP
 refine N1 B (fun h1 B1 u1=>iteF (by simp; omega) ?_)
 obtain ⟨p,q1,q2⟩:=B1.ptr
 have c1:KO h1 ((⟨b,0,none⟩:Addr).add 1)=some Sl.nil.v:=by rw [Ke,KJ q1]; rfl
 refine ZN (ZN (Vg (n:=Sl.nil) c1 (Vg (n:=Sl.nil) c1 ?_)))
 have hK1:BKeep b Sl.nil Sl.nil h h1:=⟨by rw [u1.size]; exact Nat.le_refl _,fun i hi hne _=>u1.ne i hne,fun i hi=>.inl hi⟩
 refine KW (fun hc=>?_) (fun hc=>KD (H _ _ B1 hK1))
 have hpos:0 < n:=of_decide_eq_true hc
 refine KM ?_
 unfold Jz
 refine ZN (ZN (Vg (n:=Sl.nil) c1 (Vg (n:=Sl.nil) c1 ?_)))
 have hw:IntKind.wrap .i64 ((IntKind.wrap .i64 (2 * ((Sl.nil:Sl).cap:Int)))+n)=n:=by
  rw [show IntKind.wrap .i64 (2 * ((Sl.nil:Sl).cap:Int))=0 by decide,w64 (by omega) (by omega)]; omega
 rw [hw]
 refine ⟨h0,by omega,fun cs hle hmax=>?_⟩
 have e2:=Ext.push h1 (.cells cs KU)
 have g2:(h1.push (.cells cs KU))[h1.size]?=some (.cells cs KU (0,0)):=Kp
 generalize h1.push (.cells cs KU)=h2 at e2 g2 ⊢
 have c2:=e2.cell c1
 refine zP ⟨c2,c2⟩ (KLy (by decide) (by decide) (by dsimp only [Sl.nil]; omega) (ZN (Vg (n:=Sl.nil) c2 ?_)))
 have hcs:cs.size≠0:=by omega
 rw [if_neg (show ¬ cs.size=(0:Int).toNat by simpa using hcs)]
 have hbz:(Option.map (fun x:Addr=>x.add ((0:Int).toNat * 1)) (some ⟨h1.size,0,none⟩))=some ⟨h1.size,0,none⟩:=by simp [Ke]
 have hr:(⟨Option.map (fun x:Addr=>x.add ((0:Int).toNat * 1)) (some ⟨h1.size,0,none⟩),((Sl.nil:Sl).len:Int).toNat - (0:Int).toNat,cs.size - (0:Int).toNat⟩:Sl)=⟨some ⟨h1.size,0,none⟩,0,cs.size⟩:=by
  rw [hbz]; simp [Sl.nil]
 dsimp only
 rw [hr]
 refine ⟨[],by simp [Sl.nil],.inl rfl,fun a ha j hj=>by simp at hj,by simp,ZN ?_⟩
 rw [show Wv h2 (⟨some ⟨h1.size,0,none⟩,0,cs.size⟩:Sl).base 0 []=h2 from rfl]
 obtain ⟨p',q1',q2'⟩:=(B1.ext e2).ptr
 refine NQ (x:=Sl.nil.v) c2 (by rw [Ke,ZB q1']) (KBX _) (KD (KD ?_))
 rw [Ke,Nat.zero_add]
 have hlt:=B1.lt
 have R:Gw lo h2 ⟨some ⟨h1.size,0,none⟩,0,cs.size⟩ 1 (([]:List UInt8).map bv):=.inr ⟨h1.size,_,_,rfl,by have:=u1.size; omega,g2,by simp,by simp,by simp,fun j v hj=>by simp at hj⟩
 obtain ⟨B3,K3⟩:=KEz (h:=h1) (h':=h2) (l':=[]) B1 (Upd.refl _ _) e2.size (fun i hi _=>e2.same i hi) (fun i hi=>by obtain ⟨a,ha,rfl⟩:=hi; cases ha; exact .inr (Nat.le_refl _)) R (fun h=>absurd h hcs) (fun g hg=>by cases hg; exact ⟨_,_,g2⟩)
 exact H _ _ B3 (hK1.trans K3 B.lt)
def SsAt (h:Heap) (x:Sl) (ps:List (List UInt8)):Prop:=x.len=ps.length∧x.len≤x.cap∧GB h x.base (ps.map sv)
theorem SsAt.ext {h h':Heap} {x:Sl} {ps:List (List UInt8)} (S:SsAt h x ps) (e:Ext h h'):SsAt h' x ps:=⟨S.1,S.2.1,e.reads S.2.2⟩
theorem SsAt.get {h:Heap} {x:Sl} {ps:List (List UInt8)} (S:SsAt h x ps) {i:Nat} (hi:i < ps.length):∃ a,x.base=some a∧KO h (a.add i)=some (.string (bs ps[i])):=by
 obtain ⟨_,_,R | ⟨a,ha,R⟩⟩:=S
 ·have:ps=[]:=by simpa using R
  subst this; simp at hi
 ·exact ⟨a,ha,R i _ (by simp [hi,sv])⟩
theorem KC5 {ps:List (List UInt8)} {i:Nat} (hi:i < ps.length):((ps.take (i+1)).map List.length).sum=((ps.take i).map List.length).sum+ps[i].length:=by
 rw [List.take_succ_eq_append_getElem hi,List.map_append,List.sum_append]; simp only [List.map_cons,List.map_nil,List.sum_cons,List.sum_nil,Nat.add_zero]
theorem KE8 (ps:List (List UInt8)) (i:Nat):((ps.take i).map List.length).sum≤(ps.map List.length).sum:=by
 conv=>rhs; rw [← List.take_append_drop i ps,List.map_append,List.sum_append]
 omega
theorem KLA (sep:List UInt8):∀ (l:List (List UInt8)) (h:0 < l.length),jn sep l=l[0]++(l.drop 1).flatMap (fun s=>sep++s)
 | [],h=>by simp at h
 | a::r,h=>by rw [KE7]; rfl
theorem KJ5 (sep:List UInt8):∀ ps:List (List UInt8),ps≠[]→(jn sep ps).length=(ps.map List.length).sum+sep.length * (ps.length - 1)
 | [],h=>absurd rfl h
 | [a],_=>by simp [jn]
 | a::b::r,_=>by
  rw [jn,List.length_append,List.length_append,KJ5 sep (b::r) (by simp)]
  simp only [List.map_cons,List.sum_cons,List.length_cons]
  rw [show r.length+1+1 - 1=(r.length+1 - 1)+1 by omega,Nat.mul_add]
  omega
theorem KH2 {h:Heap} {x:Sl} {ps:List (List UInt8)} {sep:List UInt8} {Q:ByteArray→Heap→Prop} (S:SsAt h x ps) (hs1:1≤sep.length) (hs:sep.length≤16) (hp:ps.length≤1099511627776) (hm:(jn sep ps).length≤70368744177664)
  (H:∀ h',Ext h h'→Q (bs (jn sep ps)) h'):(WM x (bs sep)).wp h Q:=by
 unfold WM
 rw [S.1]
 match hps:ps with
 | []=>exact iteT rfl (KD (H _ (Ext.refl _)))
 | [a] =>
  obtain ⟨b,hb,hcell'⟩:=S.get (i:=0) (by simp)
  exact iteF rfl (iteT rfl (XY (by decide) (by rw [S.1]; simp) hb (U5 (n:=bs a) hcell' (KD (H _ (Ext.refl _))))))
 | a::b0::r0 =>
  rw [← hps] at S hp hm H ⊢
  have hne:ps≠[]:=by rw [hps]; simp
  have hl2:2≤ps.length:=by rw [hps]; simp
  have hjl:=KJ5 sep ps hne
  rw [ZC]
  refine iteF (by rw [beq_eq_false_iff_ne]; omega) (iteF (by rw [beq_eq_false_iff_ne]; omega) (iteT (by simp; omega) ?_))
  have hw1:IntKind.wrap .i64 ((ps.length:Int) - 1)=((ps.length - 1:Nat):Int):=by rw [w64 (by omega) (by omega)]; omega
  rw [hw1]
  refine ⟨IntKind.wrap .i64 ((9223372036854775807:Int).tdiv ((ps.length - 1:Nat):Int)),⟨by omega,rfl⟩,?_⟩
  have hq:(sep.length:Int) < IntKind.wrap .i64 ((9223372036854775807:Int).tdiv ((ps.length - 1:Nat):Int)):=by
   rw [Int.tdiv_eq_ediv_of_nonneg (by decide)]
   have h1:(17:Int)≤9223372036854775807 / ((ps.length - 1:Nat):Int):=by
    rw [Int.le_ediv_iff_mul_le (by omega)]; omega
   have h2:9223372036854775807 / ((ps.length - 1:Nat):Int)≤9223372036854775807:=Int.ediv_le_self _ (by decide)
   rw [w64 (by omega) (by omega)]; omega
  have hsm:sep.length * (ps.length - 1)≤70368744177664:=by omega
  have hcast:(sep.length:Int) * ((ps.length - 1:Nat):Int)=((sep.length * (ps.length - 1):Nat):Int):=by simp
  refine iteF (by simp; omega) ?_
  unfold VT
  rw [hcast,w64n (n:=sep.length * (ps.length - 1)) (by omega),Int.zero_add,w64n (n:=sep.length * (ps.length - 1)) (by omega)]
  refine M.loop_inv (fun (t:Int × Int) h'=>h'=h∧∃ i:Nat,t.2=(i:Int)∧i≤ps.length∧t.1=((sep.length * (ps.length - 1)+((ps.take i).map List.length).sum:Nat):Int)) (fun t _=>((ps.length:Int) - t.2).toNat) ?_ ⟨rfl,0,rfl,Nat.zero_le _,by simp⟩
  rintro ⟨m,t⟩ h' ⟨rfl,i,ht,hi,hmm⟩ self hself
  have ht:t=(i:Int):=ht
  have hmm:m=_:=hmm
  subst ht; subst hmm
  unfold Yf
  rw [S.1]
  have hpi:=KE8 ps i
  refine KW (fun hc=>?_) (fun hc=>?_)
  ·have hlt:i < ps.length:=by have:=of_decide_eq_true hc; omega
   have hpj:=KE8 ps (i+1)
   rw [KC5 hlt] at hpj
   obtain ⟨b,hb,hcell'⟩:=S.get hlt
   refine XY (by omega) (by rw [S.1]; omega) hb (U5 (n:=bs ps[i]) (by rw [show (i:Int).toNat * 1=i by omega]; exact hcell') ?_)
   rw [ZC]
   refine iteF (by rw [w64 (by omega) (by omega),decide_eq_false_iff_not]; omega) ?_
   refine hself (_,_) _ ⟨rfl,i+1,by dsimp only; rw [w64 (by omega) (by omega)]; simp,by omega,?_⟩ (by dsimp only; rw [w64 (by omega) (by omega)]; omega)
   dsimp only
   rw [w64 (by omega) (by omega),KC5 hlt]; omega
  ·have hge:i=ps.length:=by have:=of_decide_eq_false hc; omega
   subst hge
   rw [List.take_length]
   refine Z5 (fun h1 e1 z1 g1=>?_)
   have B1:=Bld.new (Nat.le_refl _) g1
   refine KM (KGb B1 (by omega) (by omega) (by omega) (fun h2 r2 B2 K2=>?_))
   have E2:=K2.ext e1 B1 (Nat.le_refl _)
   obtain ⟨b,hb,hcell'⟩:=(S.ext E2).get (i:=0) (by omega)
   have h0l:=KE8 ps 1
   rw [KC5 (i:=0) (by omega)] at h0l
   refine XY (by decide) (by rw [S.1]; omega) hb (U5 (n:=bs ps[0]) hcell' ?_)
   refine KM (Yo B2 E2.size (by rw [List.length_nil]; omega) (fun h3 r3 n3 B3 K3=>?_))
   have E3:=K3.ext E2 B2 (Nat.le_refl _)
   have hcap:=S.2.1
   have hSl:=S.1
   refine KLy (by decide) (by omega) (by omega) ?_
   have hx:(⟨if x.cap=(1:Int).toNat then x.base else x.base.map (fun a=>a.add ((1:Int).toNat * 1)),(ps.length:Int).toNat - (1:Int).toNat,x.cap - (1:Int).toNat⟩:Sl)=⟨some (b.add 1),ps.length - 1,x.cap - 1⟩:=by
    have hl:=S.1
    rw [if_neg (show ¬ x.cap=(1:Int).toNat by have:(1:Int).toNat=1:=rfl; omega),hb]
    rfl
   rw [hx]
   have hj0:jn sep ps=ps[0]++(ps.drop 1).flatMap (fun s=>sep++s):=KLA sep ps (by omega)
   have hpre:∀ k,(ps[0]++((ps.drop 1).take k).flatMap (fun s=>sep++s)).length≤(jn sep ps).length:=fun k=>by
    rw [hj0,List.length_append,List.length_append]
    conv=>rhs; rw [← List.take_append_drop k (ps.drop 1),List.flatMap_append,List.length_append]
    omega
   refine M.loop_inv (fun (t:Int) hx=>∃ k:Nat,t=(k:Int)∧k≤ps.length - 1∧Ext h' hx∧∃ r,Bld h'.size hx h'.size r (ps[0]++((ps.drop 1).take k).flatMap (fun s=>sep++s))) (fun t _=>((ps.length:Int) - t).toNat) ?_ ⟨0,rfl,Nat.zero_le _,E3,r3,by simpa using B3⟩
   rintro t h4 ⟨k,rfl,hk,E4,r4,B4⟩ self2 hself2
   unfold Ye
   dsimp only
   have hpk:=hpre k
   refine KW (fun hc=>?_) (fun hc=>?_)
   ·have hlt:k < ps.length - 1:=by have:=of_decide_eq_true hc; omega
    have hlt':1+k < ps.length:=by omega
    have hpk1:=hpre (k+1)
    have htk:((ps.drop 1).take (k+1)).flatMap (fun s=>sep++s)=((ps.drop 1).take k).flatMap (fun s=>sep++s)++(sep++ps[1+k]):=by
     rw [List.take_succ_eq_append_getElem (by simpa using hlt),List.flatMap_append]
     simp only [List.getElem_drop,List.flatMap_cons,List.flatMap_nil,List.append_nil]
    rw [htk,← List.append_assoc,← List.append_assoc,List.length_append,List.length_append] at hpk1
    obtain ⟨b',hb',hcell2⟩:=(S.ext E4).get hlt'
    rw [hb] at hb'
    cases hb'
    refine XY (by omega) (by dsimp only; omega) rfl (U5 (n:=bs ps[1+k]) (by rw [Addr.add_add,show 1+(k:Int).toNat * 1=1+k by omega]; exact hcell2) ?_)
    refine KM (Yo B4 E4.size (by omega) (fun h5 r5 n5 B5 K5=>?_))
    have E5:=K5.ext E4 B4 (Nat.le_refl _)
    refine KM (Yo B5 E5.size (by rw [List.length_append]; omega) (fun h6 r6 n6 B6 K6=>?_))
    have E6:=K6.ext E5 B5 (Nat.le_refl _)
    rw [w64 (by omega) (by omega)]
    refine hself2 _ _ ⟨k+1,by simp,by omega,E6,r6,?_⟩ (by omega)
    rw [htk,← List.append_assoc,← List.append_assoc]
    exact B6
   ·have hge:k=ps.length - 1:=by have:=of_decide_eq_false hc; omega
    subst hge
    rw [List.take_of_length_le (by simp),← hj0] at B4
    refine KM (KBE B4 (by omega) (fun h5 K5 _=>KD (H _ (K5.ext E4 B4 (Nat.le_refl _)))))
end Gx
namespace Gx
open Go
set_option linter.unusedVariables false
set_option linter.unusedSimpArgs false
def shw (ev od:List UInt8):List (List UInt8)→List UInt8
 | []=>[]
 | [a]=>a
 | a::b::r=>a++(ev++shw od ev (b::r))
def prs:List (List UInt8)→List (List UInt8)
 | []=>[]
 | [a]=>[a]
 | a::b::r=>(a++([58,32]++b))::prs r
theorem KH3 (sep:List UInt8):∀ l,jn sep l=shw sep sep l
 | []=>rfl
 | [a]=>rfl
 | a::b::r=>by rw [jn,shw,KH3 sep (b::r)]
theorem KH4:∀ l:List (List UInt8),jn [44,32] (prs l)=shw [58,32] [44,32] l
 | []=>rfl
 | [a]=>rfl
 | [a,b]=>by simp [prs,jn,shw]
 | a::b::c::r=>by
  have ih:=KH4 (c::r)
  rw [prs,KE7]
  rw [shw,shw,← ih]
  match hp:prs (c::r) with
  | []=>cases r <;> simp [prs] at hp
  | p::ps=>rw [KE7,List.flatMap_cons]; simp
theorem KC6:∀ (l:List (List UInt8)) (a:List UInt8),l.length % 2=0→prs (l++[a])=prs l++[a]
 | [],a,_=>rfl
 | [x],a,h=>by simp at h
 | x::y::r,a,h=>by
  rw [List.cons_append,List.cons_append,prs,prs,KC6 r a (by simp at h; omega)]; rfl
theorem KH5:∀ (l:List (List UInt8)) (a b:List UInt8),l.length % 2=0→prs (l++[a,b])=prs l++[a++([58,32]++b)]
 | [],a,b,_=>rfl
 | [x],a,b,h=>by simp at h
 | x::y::r,a,b,h=>by
  rw [List.cons_append,List.cons_append,prs,prs,KH5 r a b (by simp at h; omega)]; rfl
theorem KE9:∀ l:List (List UInt8),(prs l).length≤l.length
 | []=>by simp [prs]
 | [a]=>by simp [prs]
 | a::b::r=>by have:=KE9 r; simp [prs]; omega
theorem zp:∀ (ev od:List UInt8) (l:List (List UInt8)),(l.map List.length).sum≤(shw ev od l).length
 | _,_,[]=>by simp [shw]
 | _,_,[a]=>by simp [shw]
 | ev,od,a::b::r=>by
  have:=zp od ev (b::r)
  rw [shw,List.length_append,List.length_append,List.map_cons,List.sum_cons]
  omega
theorem KC7 {l:List (List UInt8)} {a:List UInt8} (h:a ∈ l):a.length≤(l.map List.length).sum:=by
 induction l with
 | nil=>cases h
 | cons x l ih =>
  rw [List.map_cons,List.sum_cons]
  rcases List.mem_cons.1 h with rfl | h
  ·omega
  ·have:=ih h; omega
theorem KH6 {l:List (List UInt8)} (h:∀ a ∈ l,1≤a.length):l.length≤(l.map List.length).sum:=by
 induction l with
 | nil=>simp
 | cons x l ih =>
  rw [List.map_cons,List.sum_cons,List.length_cons]
  have:=ih (fun a ha=>h a (List.mem_cons_of_mem _ ha))
  have:=h x (by simp)
  omega
def txt:Nat→Vl→List UInt8
 | 0,_=>[63]
 | d+1,.mk k n s l =>
  if k=1 then Lib.itoa n else if k=2 then Ur s else if k=3 then (if n=1 then [116,114,117,101] else [102,97,108,115,101])
  else if k=6 then [118,91]++Lib.itoa n++[93] else if k=7 then [101,91]++Lib.itoa n++[93]
  else if k=4 then [91]++shw [44,32] [44,32] (l.map (txt d))++[93] else if k=5 then [123]++shw [58,32] [44,32] (l.map (txt d))++[125] else [63]
theorem KJM (n:Int):1≤(Lib.itoa n).length:=by
 have:∀ u,1≤(Lib.decDigits u).length:=fun u=>by unfold Lib.decDigits; split <;> simp
 unfold Lib.itoa
 split
 ·simp
 ·exact this _
theorem KBN:∀ (d:Nat) (v:Vl),1≤(txt d v).length
 | 0,_=>by simp [txt]
 | d+1,.mk k n s l=>by
  unfold txt
  repeat' split
  all_goals first | exact KJM n | (simp [Ur]; done) | (simp; omega)
theorem Gw.set {lo:Nat} {h:Heap} {r:Sl} {vs:List Value} {b j:Nat} {v:Value} (H:Gw lo h r 1 vs) (hb:r.base=some ⟨b,0,none⟩) (hj:j < vs.length):Gw lo (hset h ⟨b,j,none⟩ v) r 1 (vs.set j v):=by
 rcases H with ⟨rfl,rfl⟩ | ⟨g,ty,cells,H⟩
 ·cases hb
 ·rw [H.base] at hb
  cases hb
  refine .inr ⟨b,ty,_,H.base,H.lo,VK H.blk,by rw [Array.size_setIfInBounds]; exact H.size,H.cap,by rw [List.length_set]; exact H.len,fun i x hx=>?_⟩
  rw [List.getElem?_set] at hx
  rw [Array.getElem?_setIfInBounds]
  split at hx
  ·rename_i hi
   subst hi
   cases hx
   have hc:=H.len
   have:=H.size
   have hcap:=H.cap
   rw [if_pos rfl,if_pos (by omega)]
  ·rename_i hi
   rw [if_neg hi]
   exact H.get i x hx
theorem ixS2 {β:Type} {lo:Nat} {h:Heap} {Q:β→Heap→Prop} {r:Sl} {ps:List (List UInt8)} {i:Nat} {t:Int} {f:Addr→M β} (G:Gw lo h r 1 (ps.map sv)) (hi:i < ps.length) (ht:t=(i:Int))
  (H:∀ b,r.base=some ⟨b,0,none⟩→KO h ⟨b,i,none⟩=some (.string (bs ps[i]))→UW h ⟨b,i,none⟩=false→(f ⟨b,i,none⟩).wp h Q):(ixL r t 1>>=f).wp h Q:=by
 subst ht
 have hl:=G.len
 simp at hl
 obtain ⟨b,hb,hc⟩:=G.cell (j:=i) (v:=sv ps[i]) (by simp [hi])
 refine XY (by omega) (by omega) hb ?_
 rw [Ke,show 0+(i:Int).toNat * 1=i by omega]
 refine H b hb hc ?_
 rcases G with ⟨rfl,_⟩ | ⟨g,ty,cells,R⟩
 ·cases hb
 ·rw [R.base] at hb; cases hb
  exact ZB R.blk
theorem KEG {β:Type} {h:Heap} {Q:β→Heap→Prop} {a c:List UInt8} {x:List UInt8} {f:ByteArray→M β} (hm:a.length+x.length+c.length≤9223372036854775807) (H:(f (bs (a++x++c))).wp h Q):(sCat (bs a) (bs x)>>=fun y=>sCat y (bs c)>>=f).wp h Q :=
 NN (by omega) (NN (by simp only [List.length_append]; omega) H)
def prt (k:Int) (l:List (List UInt8)):List (List UInt8):=if k=5 then prs l else l
theorem KGc:∀ (d:Nat) (v:Vl) {h:Heap} {Q:ByteArray→Heap→Prop} {x:Array Value},d≤8→VRep h v x→GL h→KAI h→(txt d v).length≤1099511627776→(∀ h',Ext h h'→Q (bs (txt d v)) h')→(YQ x ((9 - d:Nat):Int)).wp h Q:=by
 intro d
 induction d with
 | zero =>
  rintro v h Q x _ hx _ _ _ H
  unfold YQ
  exact Z5 (fun h1 e1 z1 g1=>iteT rfl (KD (H _ e1)))
 | succ d ih =>
  rintro ⟨k,n,s,l⟩ h Q x hd hx hp hdb hm H
  obtain ⟨xs,rfl,k1,n1,s1,r1⟩:=VRep.eq.1 hx
  unfold YQ
  refine Z5 (fun h1 E z1 g1=>?_)
  have c0:KO h1 ((⟨h.size,0,none⟩:Addr).add 0)=some (.int .i64 k):=by rw [ZV g1]; rfl
  have c1:KO h1 ((⟨h.size,0,none⟩:Addr).add 1)=some (.int .i64 n):=by rw [ZV g1]; rfl
  have c2:KO h1 ((⟨h.size,0,none⟩:Addr).add 2)=some (.string (bs s)):=by rw [ZV g1]; rfl
  have c3:KO h1 ((⟨h.size,0,none⟩:Addr).add 3)=some xs.v:=by rw [ZV g1]; rfl
  have hpE:=hp.ext E
  have hdE:=hdb.ext E
  have hil:=KC4 n1
  refine iteF (by simp; omega) (ZM c0 (KW (fun h1k=>?_) (fun h1k=>?_)))
  ·have h1k:k=1:=by simpa using h1k
   unfold txt at H
   rw [if_pos h1k] at H
   exact ZM c1 (KM (zo n1 hpE (fun h2 e2=>KD (H _ (E.trans e2)))))
  have h1k:¬ k=1:=by simpa using h1k
  unfold txt at H hm
  rw [if_neg h1k] at H hm
  refine KW (fun h2k=>?_) (fun h2k=>?_)
  ·have h2k:k=2:=by simpa using h2k
   rw [if_pos h2k] at H hm
   exact U5 c2 (KM (KE4 (by omega) hdE (fun h2 e2=>KD (H _ (E.trans e2)))))
  have h2k:¬ k=2:=by simpa using h2k
  rw [if_neg h2k] at H hm
  refine KW (fun h3k=>?_) (fun h3k=>?_)
  ·have h3k:k=3:=by simpa using h3k
   rw [if_pos h3k] at H
   refine ZM c1 (KW (fun hn=>?_) (fun hn=>?_))
   ·have hn:n=1:=by simpa using hn
    rw [if_pos hn] at H
    exact KD (H _ E)
   ·have hn:¬ n=1:=by simpa using hn
    rw [if_neg hn] at H
    exact KD (H _ E)
  have h3k:¬ k=3:=by simpa using h3k
  rw [if_neg h3k] at H hm
  refine KW (fun h6k=>?_) (fun h6k=>?_)
  ·have h6k:k=6:=by simpa using h6k
   rw [if_pos h6k] at H
   exact ZM c1 (KM (zo n1 hpE (fun h2 e2=>KEG (a:=[118,91]) (c:=[93]) (by simp; omega) (KD (H _ (E.trans e2))))))
  have h6k:¬ k=6:=by simpa using h6k
  rw [if_neg h6k] at H hm
  refine KW (fun h7k=>?_) (fun h7k=>?_)
  ·have h7k:k=7:=by simpa using h7k
   rw [if_pos h7k] at H
   exact ZM c1 (KM (zo n1 hpE (fun h2 e2=>KEG (a:=[101,91]) (c:=[93]) (by simp; omega) (KD (H _ (E.trans e2))))))
  have h7k:¬ k=7:=by simpa using h7k
  rw [if_neg h7k] at H hm
  have j1:(VV ((9 - (d+1):Nat):Int) ⟨h.size,0,none⟩ (decide (k=4∨k=5))).wp h1 Q:=by
   unfold VV
   refine KW (fun h45=>?_) (fun h45=>?_)
   ·have h45:k=4∨k=5:=by simpa using h45
    have hform:∃ a c,(∀ h',Ext h h'→Q (bs (a++jn [44,32] (prt k (l.map (txt d)))++c)) h')∧a.length=1∧c.length=1∧(jn [44,32] (prt k (l.map (txt d)))).length≤1099511627776∧((l.map (txt d)).map List.length).sum≤1099511627776∧(k=5→a=[123]∧c=[125])∧(¬ k=5→a=[91]∧c=[93]):=by
     rcases h45 with h4 | h5
     ·rw [if_pos h4] at H hm
      have h5:¬ k=5:=by omega
      have hs:=zp [44,32] [44,32] (l.map (txt d))
      simp only [List.length_append,List.length_cons,List.length_nil] at hm
      refine ⟨[91],[93],?_,rfl,rfl,?_,by omega,fun h=>absurd h h5,fun _=>⟨rfl,rfl⟩⟩
      ·unfold prt; rw [if_neg h5,KH3]; exact H
      ·unfold prt; rw [if_neg h5,KH3]; omega
     ·have h4:¬ k=4:=by omega
      rw [if_neg h4,if_pos h5] at H hm
      have hs:=zp [58,32] [44,32] (l.map (txt d))
      simp only [List.length_append,List.length_cons,List.length_nil] at hm
      refine ⟨[123],[125],?_,rfl,rfl,?_,by omega,fun _=>⟨rfl,rfl⟩,fun h=>absurd h5 h⟩
      ·unfold prt; rw [if_pos h5,KH4]; exact H
      ·unfold prt; rw [if_pos h5,KH4]; omega
    obtain ⟨a,c,HQ,ha,hc,hjm,hsum,h5a,h5b⟩:=hform
    have hcnt:l.length≤1099511627776:=by
     have:=KH6 (l:=l.map (txt d)) (fun a ha=>by obtain ⟨y,_,rfl⟩:=List.mem_map.1 ha; exact KBN d y)
     rw [List.length_map] at this
     omega
    have hel:∀ i (hi:i < l.length),(txt d l[i]).length≤1099511627776:=fun i hi=>by
     have:=KC7 (l:=l.map (txt d)) (a:=txt d l[i]) (List.mem_map.2 ⟨_,List.getElem_mem hi,rfl⟩)
     omega
    refine Vg c3 ?_
    have hxl:=r1.len
    refine M.loop_inv (fun (t:Sl × Int) h2=>∃ i:Nat,t.2=(i:Int)∧i≤l.length∧Ext h1 h2∧Gw h1.size h2 t.1 1 ((prt k ((l.take i).map (txt d))).map sv)) (fun t _=>((l.length:Int) - t.2).toNat) ?_ ⟨0,rfl,Nat.zero_le _,Ext.refl _,by rw [show prt k (((l.take 0).map (txt d)))=[] by unfold prt; split <;> simp [prs]]; exact Gw.nil _ _ _⟩
    rintro ⟨r,t⟩ h2 ⟨i,hti,hi,E2,G⟩ self hself
    have hti:t=(i:Int):=hti
    subst hti
    have G:Gw h1.size h2 r 1 ((prt k ((l.take i).map (txt d))).map sv):=G
    unfold Xj
    rw [hxl]
    have hrl:=G.len
    rw [List.length_map,Nat.mul_one] at hrl
    have hrl2:r.len≤i:=by
     have:(prt k ((l.take i).map (txt d))).length≤i:=by
      unfold prt
      split
      ·have:=KE9 ((l.take i).map (txt d)); rw [List.length_map,List.length_take] at this; omega
      ·rw [List.length_map,List.length_take]; omega
     omega
    refine KW (fun hlt=>?_) (fun hge=>?_)
    ·have hlt:i < l.length:=by have:=of_decide_eq_true hlt; omega
     refine KHa (r1.ext (E.trans E2)) hlt rfl (fun b cs hs hcs hv=>NP hs hcs (Z5 (fun h3 e3 z3 g3=>UO hs (stR (vs:=cs) g3 (by rw [hs]; decide) hv.one (fun h4 u4 g4=>?_)))))
     rw [ZZ (by rw [Array.length_toList,hs]; rfl),Array.toArray_toList] at g4
     have E4:Ext h2 h4:=e3.upd u4 (Nat.le_refl _)
     refine KHb (v:=l[i]) g4 hs ?_
     rw [show IntKind.wrap .i64 (((9 - (d+1):Nat):Int)+1)=((9 - d:Nat):Int) by rw [w64 (by omega) (by omega)]; omega]
     have E24:=E2.trans E4
     refine KM (X7 (KAA _ _) (ih l[i] (by omega) (hv.ext E4) (hpE.ext E24) (hdE.ext E24) (hel i hlt) (fun h5 e5=>?_)))
     have E5:=E24.trans e5
     refine ZM (E5.cell c0) ?_
     have hr5:IntKind.wrap .i64 ((i:Int)+1)=((i+1:Nat):Int):=by rw [w64 (by omega) (by omega)]; simp
     have G5:=G.ext (E4.trans e5)
     have htk:(l.take (i+1)).map (txt d)=(l.take i).map (txt d)++[txt d l[i]]:=by
      rw [List.take_succ_eq_append_getElem hlt,List.map_append]; rfl
     refine Wo (c:=decide (i % 2=1)) (fun _ Q' hq=>KD (by rw [show ((Int.tmod (i:Int) 2) == 1)=decide (i % 2=1) by rw [Int.tmod_eq_emod_of_nonneg (by omega),Bool.eq_iff_iff]; simp; omega]; exact hq)) ?_
     refine KW (fun hodd=>?_) (fun heven=>?_)
     ·obtain ⟨h5k,hodd⟩:k=5∧i % 2=1:=by simpa using hodd
      obtain ⟨i',rfl⟩:∃ i',i=i'+1:=⟨i - 1,by omega⟩
      have hti':(l.take (i'+1)).map (txt d)=(l.take i').map (txt d)++[txt d l[i']]:=by
       rw [List.take_succ_eq_append_getElem (by omega),List.map_append]; rfl
      have hlen':((l.take i').map (txt d)).length % 2=0:=by simp; omega
      have hp1:prt k ((l.take (i'+1)).map (txt d))=prs ((l.take i').map (txt d))++[txt d l[i']]:=by
       unfold prt; rw [if_pos h5k,hti',KC6 _ _ hlen']
      have hp2:prt k ((l.take (i'+1+1)).map (txt d))=prs ((l.take i').map (txt d))++[txt d l[i']++([58,32]++txt d l[i'+1])]:=by
       unfold prt; rw [if_pos h5k,htk,hti',List.append_assoc]; exact KH5 _ _ _ hlen'
      rw [hp1] at G5 hrl
      have hlast:r.len=(prs ((l.take i').map (txt d))).length+1:=by rw [← G5.len.trans (Nat.mul_one _)]; simp
      have hidx:IntKind.wrap .i64 ((r.len:Int) - 1)=(((prs ((l.take i').map (txt d))).length:Nat):Int):=by rw [w64 (by omega) (by omega)]; omega
      rw [hidx]
      have hle0:=hel i' (by omega)
      have hle1:=hel (i'+1) hlt
      refine ixS2 (i:=(prs ((l.take i').map (txt d))).length) G5 (by simp) rfl (fun b' hb' hc' hf'=>U5 hc' ?_)
      have hget:(prs ((l.take i').map (txt d))++[txt d l[i']])[(prs ((l.take i').map (txt d))).length]'(by simp)=txt d l[i']:=by simp
      rw [hget] at hc' ⊢
      refine NN (x:=[58,32]) (by simp; omega) (NN (by simp; omega) ?_)
      refine ixS2 (i:=(prs ((l.take i').map (txt d))).length) G5 (by simp) rfl (fun b2 hb2 hc2 hf2=>NQ hc2 hf2 rfl ?_)
      rw [hb2] at hb'
      cases hb'
      unfold VU
      rw [hr5]
      refine hself (_,_) _ ⟨i'+1+1,rfl,by omega,?_,?_⟩ (by dsimp only; omega)
      ·have hb3:h1.size≤b':=(G5.lt ⟨_,hb2,rfl⟩).2
       exact ⟨by rw [GD]; exact E5.size,fun j hj=>by rw [XZ (by show j≠b'; omega)]; exact E5.same j hj⟩
      ·have:=G5.set (v:=sv (txt d l[i']++([58,32]++txt d l[i'+1]))) (j:=(prs ((l.take i').map (txt d))).length) hb2 (by simp)
       dsimp only
       rw [hp2]
       rw [List.map_append,List.set_append_right _ _ (by simp)] at this
       simpa [sv] using this
     ·have heven:¬ (k=5∧i % 2=1):=by simpa using heven
      have hp2:prt k ((l.take (i+1)).map (txt d))=prt k ((l.take i).map (txt d))++[txt d l[i]]:=by
       unfold prt
       by_cases h5k:k=5
       ·rw [if_pos h5k,if_pos h5k,htk,KC6 _ _ (by simp; omega)]
       ·rw [if_neg h5k,if_neg h5k,htk]
      refine zQ ?_
      have e6:=Ext.push h5 (.cells #[.string (bs (txt d l[i]))] XI)
      have g6:(h5.push (.cells #[.string (bs (txt d l[i]))] XI))[h5.size]?=some (.cells #[.string (bs (txt d l[i]))] XI (0,0)):=Kp
      generalize h5.push (.cells #[.string (bs (txt d l[i]))] XI)=h6 at e6 g6 ⊢
      have E6:=E5.trans e6
      have G6:=G5.ext e6
      refine zR (vs:=(prt k ((l.take i).map (txt d))).map sv) (news:=[sv (txt d l[i])]) rfl G6 rfl (.inr ⟨_,rfl,fun j v hj=>?_⟩) (fun v hv=>by simp at hv; subst hv; rfl) (by dsimp only; omega) (by dsimp only; omega) E6.size (fun h7 r7 G7 hlen7 hs7 same7 on7=>?_)
      ·rw [Ke,Nat.zero_add,KJ g6]
       rw [show (#[.string (bs (txt d l[i]))]:Array Value)=[sv (txt d l[i])].toArray from rfl]
       simpa using hj
      ·unfold VU
       rw [hr5]
       refine hself (_,_) _ ⟨i+1,rfl,by omega,?_,?_⟩ (by dsimp only; omega)
       ·exact ⟨Nat.le_trans E6.size hs7,fun j hj=>(same7 j (Nat.lt_of_lt_of_le hj E6.size) (fun ho=>by have:=(G6.lt ho).2; omega)).trans (E6.same j hj)⟩
       ·dsimp only
        rw [hp2,List.map_append]
        exact G7
    ·have hge:i=l.length:=by have:=of_decide_eq_false hge; omega
     subst hge
     rw [List.take_length] at G
     have S:SsAt h2 r (prt k (l.map (txt d))):=⟨by have:=G.len; rw [List.length_map,Nat.mul_one] at this; exact this.symm,G.cap,G.reads⟩
     have hpl:(prt k (l.map (txt d))).length≤l.length:=by
      unfold prt
      split
      ·have:=KE9 (l.map (txt d)); simp at this; exact this
      ·simp
     refine KM (KH2 (sep:=[44,32]) S (by simp) (by simp) (by omega) (by omega) (fun h3 e3=>?_))
     refine ZM ((E2.trans e3).cell c0) (KW (fun h5k=>?_) (fun h5k=>?_))
     ·have h5k:k=5:=by simpa using h5k
      obtain ⟨rfl,rfl⟩:=h5a h5k
      exact KEG (a:=[123]) (c:=[125]) (by simp; omega) (KD (HQ _ ((E.trans E2).trans e3)))
     ·have h5k:¬ k=5:=by simpa using h5k
      obtain ⟨rfl,rfl⟩:=h5b h5k
      exact KEG (a:=[91]) (c:=[93]) (by simp; omega) (KD (HQ _ ((E.trans E2).trans e3)))
   ·have h45:¬ (k=4∨k=5):=by simpa using h45
    rw [if_neg (fun h=>h45 (.inl h)),if_neg (fun h=>h45 (.inr h))] at H
    exact KD (H _ E)
  refine KW (fun h4k=>?_) (fun h4k=>?_)
  ·have h4k:k=4:=by simpa using h4k
   have e:(k == 4)=decide (k=4∨k=5):=by subst h4k; rfl
   rw [e]
   exact j1
  ·have h4k:¬ k=4:=by simpa using h4k
   have e:(k == 5)=decide (k=4∨k=5):=by rw [eqI,Bool.eq_iff_iff]; simp [h4k]
   rw [e]
   exact j1
end Gx
namespace Gx
open Go
set_option linter.unusedVariables false
set_option linter.unusedSimpArgs false
abbrev txV (v:Vl):List UInt8:=txt 8 v
theorem KCA {v:Vl} {h:Heap} {Q:ByteArray→Heap→Prop} {x:Array Value} (hx:VRep h v x) (hp:GL h) (hd:KAI h) (hm:(txV v).length≤1099511627776) (H:∀ h',Ext h h'→Q (bs (txV v)) h'):(YR x).wp h Q:=by
 unfold YR
 exact Z5 (fun h1 e1 z1 g1=>KHb (v:=v) g1 hx.size (KM (KGc 8 v (Nat.le_refl _) (hx.ext e1) (hp.ext e1) (hd.ext e1) hm (fun h2 e2=>KD (H _ (e1.trans e2))))))
def KAN (i:Nat) (ev od:List UInt8):List UInt8:=if i % 2=0 then ev else od
theorem KJN (ev od a:List UInt8) (r:List (List UInt8)):shw ev od (a::r)=if r=[] then a else a++(ev++shw od ev r):=by
 cases r with
 | nil=>rfl
 | cons b r=>rw [if_neg (by simp)]; rfl
theorem KBO {d:Nat} (hd:d≤7) {l:List Vl} {h:Heap} {Q:ByteArray→Heap→Prop} {x:Sl} {ev od:List UInt8} (hx:VsRep h x l) (he:ev.length=2) (ho:od.length=2) (hm:(shw ev od (l.map (txt d))).length≤1099511627776)
  (hg:∀ j (hj:j < l.length) h1 c (Q1:ByteArray→Heap→Prop),Ext h h1→VRep h1 l[j] c→(∀ h2,Ext h1 h2→Q1 (bs (txt d l[j])) h2)→(JM c ((8 - d:Nat):Int)).wp h1 Q1)
  (H:∀ h',Ext h h'→Q (bs (shw ev od (l.map (txt d)))) h'):(V5 x ((8 - (d+1):Nat):Int) (bs ev) (bs od)).wp h Q:=by
 unfold V5
 have hxl:=hx.len
 have hxb:=hx.big
 have hxc:=hx.cap
 have hsum:=zp ev od (l.map (txt d))
 have hcnt:l.length≤1099511627776:=by
  have:=KH6 (l:=l.map (txt d)) (fun a ha=>by obtain ⟨y,_,rfl⟩:=List.mem_map.1 ha; exact KBN d y)
  rw [List.length_map] at this
  omega
 refine M.loop_inv (fun (t:ByteArray × Int) h'=>Ext h h'∧∃ (i:Nat) (s:List UInt8),t=(bs s,(i:Int))∧i≤l.length∧s++shw (KAN i ev od) (KAN (i+1) ev od) ((l.drop i).map (txt d))=shw ev od (l.map (txt d))) (fun t _=>((l.length:Int) - t.2).toNat) ?_ ⟨Ext.refl h,0,[],rfl,Nat.zero_le _,by simp [KAN]⟩
 rintro t h' ⟨E,i,s,rfl,hi,hs⟩ self hself
 unfold U4
 rw [hxl]
 have hls:s.length≤1099511627776:=by rw [← hs,List.length_append] at hm; omega
 refine KW (fun hc=>?_) (fun hc=>?_)
 ·have hlt:i < l.length:=by have:=of_decide_eq_true hc; omega
  have hti:(txt d l[i]).length≤1099511627776:=by
   have:=KC7 (l:=l.map (txt d)) (a:=txt d l[i]) (List.mem_map.2 ⟨_,List.getElem_mem hlt,rfl⟩)
   omega
  rw [List.drop_eq_getElem_cons hlt,List.map_cons,KJN] at hs
  refine KHa (hx.ext E) hlt rfl (fun a c hs' hcs hv=>NP hs' hcs ?_)
  rw [show IntKind.wrap .i64 (((8 - (d+1):Nat):Int)+1)=((8 - d:Nat):Int) by rw [w64 (by omega) (by omega)]; omega]
  refine KM (X7 (Yy _ _) (hg i hlt h' c _ E hv (fun h2 e2=>?_)))
  refine NN (by omega) ?_
  rw [show IntKind.wrap .i64 ((i:Int)+1)=((i+1:Nat):Int) by rw [w64 (by omega) (by omega)]; simp]
  have hnext:∀ s',s'++shw (KAN (i+1) ev od) (KAN (i+1+1) ev od) ((l.drop (i+1)).map (txt d))=shw ev od (l.map (txt d))→(Zq self (i:Int) (bs s')).wp h2 Q:=fun s' h'=>by
   unfold Zq
   rw [show IntKind.wrap .i64 ((i:Int)+1)=((i+1:Nat):Int) by rw [w64 (by omega) (by omega)]; simp]
   exact hself _ _ ⟨E.trans e2,i+1,s',rfl,by omega,h'⟩ (by dsimp only; omega)
  have hpk:KAN (i+1+1) ev od=KAN i ev od:=by unfold KAN; rw [show (i+1+1) % 2=i % 2 by omega]
  rw [hpk] at hnext
  refine Wo (c:=decide (i % 2=0)) (fun _ Q' hq=>KD (by rw [show ((Int.tmod (i:Int) 2) == 0)=decide (i % 2=0) by rw [Int.tmod_eq_emod_of_nonneg (by omega),Bool.eq_iff_iff]; simp; omega]; exact hq)) ?_
  by_cases hmore:i+1 < l.length
  ·have hne:(l.drop (i+1)).map (txt d)≠[]:=by
    intro h0
    have:(l.drop (i+1)).length=0:=by simpa using congrArg List.length h0
    simp at this; omega
   rw [if_neg hne] at hs
   refine KW (fun hev=>?_) (fun hev=>?_)
   ·have hev:i % 2=0:=by have:=hev; simp at this; exact this.2
    refine NN (by simp; omega) (hnext _ ?_)
    rw [← hs]
    have:KAN i ev od=ev:=by unfold KAN; rw [if_pos hev]
    rw [this]; simp
   ·have hev:¬ i % 2=0:=by
     intro h0
     have h1:decide (((i+1:Nat):Int) < (l.length:Int))=true:=by simp; omega
     rw [h1,decide_eq_true h0] at hev
     cases hev
    refine iteT (by simp; omega) (NN (by simp; omega) (hnext _ ?_))
    rw [← hs]
    have:KAN i ev od=od:=by unfold KAN; rw [if_neg hev]
    rw [this]; simp
  ·have h0:(l.drop (i+1)).map (txt d)=[]:=by rw [List.drop_eq_nil_iff.2 (by omega)]; rfl
   rw [if_pos h0] at hs
   have hf:decide (((i+1:Nat):Int) < (l.length:Int))=false:=by simp; omega
   rw [hf]
   refine iteF rfl (iteF rfl (hnext _ ?_))
   rw [h0,← hs]; simp [shw]
 ·have hge:i=l.length:=by have:=of_decide_eq_false hc; omega
  subst hge
  rw [List.drop_length] at hs
  have:=H _ E
  rw [← hs] at this
  exact KD (by simpa [shw] using this)
theorem KGd:∀ (d:Nat) (v:Vl) {h:Heap} {Q:ByteArray→Heap→Prop} {x:Array Value},d≤8→VRep h v x→(txt d v).length≤1099511627776→(∀ h',Ext h h'→Q (bs (txt d v)) h')→(JM x ((8 - d:Nat):Int)).wp h Q:=by
 intro d
 induction d with
 | zero =>
  rintro v h Q x _ hx _ H
  unfold JM
  exact Z5 (fun h1 e1 z1 g1=>iteT rfl (KD (H _ e1)))
 | succ d ih =>
  rintro ⟨k,n,s,l⟩ h Q x hd hx hm H
  obtain ⟨xs,rfl,k1,n1,s1,r1⟩:=VRep.eq.1 hx
  unfold JM
  refine Z5 (fun h1 E z1 g1=>?_)
  have c0:KO h1 ((⟨h.size,0,none⟩:Addr).add 0)=some (.int .i64 k):=by rw [ZV g1]; rfl
  have c1:KO h1 ((⟨h.size,0,none⟩:Addr).add 1)=some (.int .i64 n):=by rw [ZV g1]; rfl
  have c2:KO h1 ((⟨h.size,0,none⟩:Addr).add 2)=some (.string (bs s)):=by rw [ZV g1]; rfl
  have c3:KO h1 ((⟨h.size,0,none⟩:Addr).add 3)=some xs.v:=by rw [ZV g1]; rfl
  have hil:=KC4 n1
  refine iteF (by simp; omega) (ZM c0 (KW (fun h1k=>?_) (fun h1k=>?_)))
  ·have h1k:k=1:=by simpa using h1k
   unfold txt at H
   rw [if_pos h1k] at H
   exact ZM c1 (KM (N5 n1 (fun h2 e2=>KD (H _ (E.trans e2)))))
  have h1k:¬ k=1:=by simpa using h1k
  unfold txt at H hm
  rw [if_neg h1k] at H hm
  refine KW (fun h2k=>?_) (fun h2k=>?_)
  ·have h2k:k=2:=by simpa using h2k
   rw [if_pos h2k] at H hm
   exact U5 c2 (KM (KE5 (by omega) (fun h2 e2=>KD (H _ (E.trans e2)))))
  have h2k:¬ k=2:=by simpa using h2k
  rw [if_neg h2k] at H hm
  refine KW (fun h3k=>?_) (fun h3k=>?_)
  ·have h3k:k=3:=by simpa using h3k
   rw [if_pos h3k] at H
   refine ZM c1 (KW (fun hn=>?_) (fun hn=>?_))
   ·have hn:n=1:=by simpa using hn
    rw [if_pos hn] at H
    exact KD (H _ E)
   ·have hn:¬ n=1:=by simpa using hn
    rw [if_neg hn] at H
    exact KD (H _ E)
  have h3k:¬ k=3:=by simpa using h3k
  rw [if_neg h3k] at H hm
  refine KW (fun h6k=>?_) (fun h6k=>?_)
  ·have h6k:k=6:=by simpa using h6k
   rw [if_pos h6k] at H
   exact ZM c1 (KM (N5 n1 (fun h2 e2=>KEG (a:=[118,91]) (c:=[93]) (by simp; omega) (KD (H _ (E.trans e2))))))
  have h6k:¬ k=6:=by simpa using h6k
  rw [if_neg h6k] at H hm
  refine KW (fun h7k=>?_) (fun h7k=>?_)
  ·have h7k:k=7:=by simpa using h7k
   rw [if_pos h7k] at H
   exact ZM c1 (KM (N5 n1 (fun h2 e2=>KEG (a:=[101,91]) (c:=[93]) (by simp; omega) (KD (H _ (E.trans e2))))))
  have h7k:¬ k=7:=by simpa using h7k
  rw [if_neg h7k] at H hm
  refine KW (fun h4k=>?_) (fun h4k=>?_)
  ·have h4k:k=4:=by simpa using h4k
   rw [if_pos h4k] at H hm
   simp only [List.length_append,List.length_cons,List.length_nil] at hm
   exact Vg c3 (KM (X7 (Yj _ _ _ _) (KBO (d:=d) (by omega) (ev:=[44,32]) (od:=[44,32]) (r1.ext E) rfl rfl (by omega) (fun j hj h4 c Q1 e4 hv hq=>ih _ (by omega) hv (by have:=KC7 (l:=l.map (txt d)) (a:=txt d l[j]) (List.mem_map.2 ⟨_,List.getElem_mem hj,rfl⟩); have:=zp [44,32] [44,32] (l.map (txt d)); omega) hq) (fun h2 e2=>KEG (a:=[91]) (c:=[93]) (by simp; omega) (KD (H _ (E.trans e2)))))))
  have h4k:¬ k=4:=by simpa using h4k
  rw [if_neg h4k] at H hm
  refine KW (fun h5k=>?_) (fun h5k=>?_)
  ·have h5k:k=5:=by simpa using h5k
   rw [if_pos h5k] at H hm
   simp only [List.length_append,List.length_cons,List.length_nil] at hm
   exact Vg c3 (KM (X7 (Yj _ _ _ _) (KBO (d:=d) (by omega) (ev:=[58,32]) (od:=[44,32]) (r1.ext E) rfl rfl (by omega) (fun j hj h4 c Q1 e4 hv hq=>ih _ (by omega) hv (by have:=KC7 (l:=l.map (txt d)) (a:=txt d l[j]) (List.mem_map.2 ⟨_,List.getElem_mem hj,rfl⟩); have:=zp [58,32] [44,32] (l.map (txt d)); omega) hq) (fun h2 e2=>KEG (a:=[123]) (c:=[125]) (by simp; omega) (KD (H _ (E.trans e2)))))))
  ·have h5k:¬ k=5:=by simpa using h5k
   rw [if_neg h5k] at H
   exact KD (H _ E)
theorem KCB {v:Vl} {h:Heap} {Q:ByteArray→Heap→Prop} {x:Array Value} (hx:VRep h v x) (hm:(txV v).length≤1099511627776) (H:∀ h',Ext h h'→Q (bs (txV v)) h'):(Jk x).wp h Q:=by
 unfold Jk
 exact Z5 (fun h1 e1 z1 g1=>KHb (v:=v) g1 hx.size (KM (KGd 8 v (Nat.le_refl _) (hx.ext e1) hm (fun h2 e2=>KD (H _ (e1.trans e2))))))
end Gx
namespace Gx
open Go Go.Proofs Go.Shelf Go.RowKit Go.Lib
set_option linter.unusedVariables false
set_option linter.unusedSimpArgs false
set_option maxRecDepth 100000
def At (s:List UInt8) (i:Nat) (w:List UInt8):Prop:=(s.drop i).take w.length=w
theorem At.nil (s:List UInt8) (i:Nat):At s i []:=by unfold At; simp
theorem zq {s:List UInt8} {i:Nat} {c:UInt8} {r:List UInt8}:At s i (c::r)↔s[i]?=some c∧At s (i+1) r:=by
 unfold At
 by_cases hi:i < s.length
 ·rw [List.drop_eq_getElem_cons hi,List.length_cons,List.take_succ_cons,List.getElem?_eq_getElem hi]
  simp
 ·rw [List.drop_of_length_le (by omega),List.getElem?_eq_none (by omega)]
  simp
theorem ZY {s:List UInt8}:∀ {a b:List UInt8} {i:Nat},At s i (a++b)↔At s i a∧At s (i+a.length) b
 | [],b,i=>by simp [At.nil]
 | c::a,b,i=>by
  rw [List.cons_append,zq,zq,ZY,List.length_cons,show i+1+a.length=i+(a.length+1) by omega,and_assoc]
theorem At.here {s:List UInt8} {i:Nat} {c:UInt8} {r:List UInt8} (h:At s i (c::r)):KR s i=c:=by
 unfold KR
 rw [(zq.1 h).1]
 rfl
theorem At.len {s:List UInt8} {i:Nat} {w:List UInt8} (h:At s i w) (hw:w≠[]):i+w.length≤s.length:=by
 have:=congrArg List.length h
 rw [List.length_take,List.length_drop] at this
 have:0 < w.length:=List.length_pos_iff.2 hw
 omega
theorem Ve {s:List UInt8}:∀ {lit:List UInt8} {i:Nat},At s i lit→XE s lit i=.ok (i+lit.length)
 | [],i,h=>rfl
 | c::r,i,h=>by
  rw [zq] at h
  rw [XE,if_pos h.1,Ve h.2,List.length_cons]
  congr 1
  omega
theorem UV {s lit:List UInt8} {i j:Nat} (h:XE s lit i=.ok j):At s i lit∧j=i+lit.length:=⟨(Ub h).2.2,(Ub h).1⟩
theorem Vf {s:List UInt8} {i:Nat} {c:UInt8} (h:KR s i=c) (hc:c≠0):At s i [c]:=by
 have hi:i < s.length:=Ua (by rw [h]; exact hc)
 rw [zq]
 refine ⟨?_,At.nil _ _⟩
 rw [List.getElem?_eq_getElem hi,← Y1 hi,h]
theorem At.get {s:List UInt8} {i:Nat} {w:List UInt8} (h:At s i w) {k:Nat} (hk:k < w.length):KR s (i+k)=w[k]:=by
 have h1:At s i (w.take k++w.drop k):=by rw [List.take_append_drop]; exact h
 rw [ZY,List.length_take,Nat.min_eq_left (by omega),List.drop_eq_getElem_cons hk] at h1
 exact h1.2.here
theorem At.cut {s:List UInt8} {i:Nat} {w:List UInt8} (h:At s i w) {k:Nat} (hk:k≤w.length):(s.drop i).take (i+k - i)=w.take k:=by
 unfold At at h
 rw [show i+k - i=k by omega,← h,List.take_take,Nat.min_eq_left hk]
theorem KCC:∀ (m u:Nat) (p:List UInt8),u < m→p≠[]→p <+: decDigits u→∃ u',u'≤u∧p=decDigits u':=by
 intro m
 induction m with
 | zero=>intro u p h; omega
 | succ m ih =>
  intro u p h hp hpre
  by_cases h10:u < 10
  ·rw [decDigits,dif_pos h10] at hpre
   refine ⟨u,Nat.le_refl _,?_⟩
   rw [decDigits,dif_pos h10]
   obtain ⟨q,hq⟩:=hpre
   cases p with
   | nil=>exact absurd rfl hp
   | cons a r =>
    obtain ⟨q1,q2⟩:=List.cons.inj hq
    rw [q1,(List.append_eq_nil_iff.1 q2).1]
  ·rw [decDigits,dif_neg h10] at hpre
   rcases List.prefix_concat_iff.1 hpre with he | hpre
   ·exact ⟨u,Nat.le_refl _,by rw [he]; conv=>rhs; rw [decDigits,dif_neg h10]⟩
   ·obtain ⟨u',h1,h2⟩:=ih (u / 10) p (by omega) hp hpre
    exact ⟨u',by omega,h2⟩
def sgn (n:Int):Nat:=if n < 0 then 1 else 0
theorem KAU {n:Int} (hn:I64 n) {k:Nat} (h1:sgn n≤k) (h2:k < (itoa n).length):digB (itoa n)[k]=true∧∃ m,numP ((itoa n).take (k+1))=(m,0):=by
 unfold I64 at hn
 unfold sgn at h1
 by_cases hneg:n < 0
 ·have hT:itoa n=45::decDigits n.natAbs:=by unfold itoa; rw [if_pos hneg]
  obtain ⟨a1,a2,a3,a4⟩:=N4 _ n.natAbs (Nat.lt_succ_self _)
  rw [if_pos hneg] at h1
  obtain ⟨k,rfl⟩:∃ q,k=q+1:=⟨k - 1,by omega⟩
  simp only [hT]
  rw [hT,List.length_cons] at h2
  have hk:k < (decDigits n.natAbs).length:=by omega
  refine ⟨?_,?_⟩
  ·rw [List.getElem_cons_succ]
   exact List.all_eq_true.1 a1 _ (List.getElem_mem hk)
  ·rw [List.take_succ_cons]
   have hne:(decDigits n.natAbs).take (k+1)≠[]:=by
    intro e
    have:=congrArg List.length e
    rw [List.length_take,List.length_nil] at this
    omega
   obtain ⟨u',hu,hp⟩:=KCC _ n.natAbs _ (Nat.lt_succ_self _) hne (List.take_prefix _ _)
   have hu0:u'≠0:=fun e=>by
    subst e
    have hz:decDigits 0=[48]:=by rw [decDigits,dif_pos (by decide)]; rfl
    rw [hz] at hp
    have:(decDigits n.natAbs).head?=some 48:=by
     have:=congrArg List.head? hp
     rw [List.head?_take] at this
     simpa using this
    have:=a4 this
    omega
   refine ⟨-(u':Int),?_⟩
   rw [hp]
   have:=KBL (n:=-(u':Int)) ⟨by omega,by omega⟩
   rw [itoa,if_pos (by omega),show (-(u':Int)).natAbs=u' by omega] at this
   exact this
 ·have hT:itoa n=decDigits n.toNat:=by unfold itoa; rw [if_neg hneg]
  obtain ⟨a1,a2,a3,a4⟩:=N4 _ n.toNat (Nat.lt_succ_self _)
  simp only [hT]
  rw [hT] at h2
  refine ⟨List.all_eq_true.1 a1 _ (List.getElem_mem h2),?_⟩
  have hne:(decDigits n.toNat).take (k+1)≠[]:=by
   intro e
   have:=congrArg List.length e
   rw [List.length_take,List.length_nil] at this
   omega
  obtain ⟨u',hu,hp⟩:=KCC _ n.toNat _ (Nat.lt_succ_self _) hne (List.take_prefix _ _)
  refine ⟨(u':Int),?_⟩
  rw [hp]
  have:=KBL (n:=(u':Int)) ⟨by omega,by omega⟩
  rw [itoa,if_neg (by omega),Int.toNat_natCast] at this
  exact this
theorem KEH {s:List UInt8} {fr:Nat} {N:Int} (hN:I64 N) (ha:At s fr (itoa N)) (hf:digB (KR s (fr+(itoa N).length))=false):∀ (f k:Nat) (n:Int),sgn N≤k→k≤(itoa N).length→(itoa N).length≤k+f→(k=(itoa N).length→n=N)→numL s fr f (fr+k) n=.ok (N,fr+(itoa N).length)
 | 0,k,n,h1,h2,h3,h4=>by
  have:k=(itoa N).length:=by omega
  rw [numL,h4 this,this]
 | f+1,k,n,h1,h2,h3,h4=>by
  rw [numL]
  by_cases hk:k=(itoa N).length
  ·rw [hk,if_neg (by rw [hf]; decide),h4 hk]
  ·have hkl:k < (itoa N).length:=by omega
   obtain ⟨hd,m,hm⟩:=KAU hN h1 hkl
   rw [ha.get hkl,if_pos hd,show fr+k+1 - fr=fr+(k+1) - fr by omega,ha.cut (k:=k+1) hkl,hm,if_neg (show ¬ ((0:Int)=7) by decide),if_neg (show ¬ ((0:Int)≠0) by decide)]
   refine KEH hN ha hf f (k+1) m (by omega) hkl (by omega) (fun he=>?_)
   rw [he,List.take_length,KBL hN] at hm
   cases hm
   rfl
theorem KFA (n:Int):itoa n≠[]:=by
 unfold itoa
 split
 ·simp
 ·exact (N4 _ _ (Nat.lt_succ_self _)).2.2.1
theorem KFq {s:List UInt8} {i:Nat} {n:Int} (hn:I64 n) (ha:At s i (itoa n)) (hf:digB (KR s (i+(itoa n).length))=false):numF s i=.ok (n,i+(itoa n).length):=by
 have hlen:=ha.len (KFA n)
 have hpos:0 < (itoa n).length:=List.length_pos_iff.2 (KFA n)
 have h0:=ha.get hpos
 have hJ:numJ s i=i+sgn n:=by
  unfold numJ sgn
  rw [Nat.add_zero] at h0
  by_cases hneg:n < 0
  ·have hT:itoa n=45::decDigits n.natAbs:=by unfold itoa; rw [if_pos hneg]
   have:KR s i=45:=by rw [h0]; simp only [hT]; rfl
   rw [if_pos this,if_pos hneg]
  ·have hT:itoa n=decDigits n.toNat:=by unfold itoa; rw [if_neg hneg]
   obtain ⟨hd,_⟩:=KAU hn (k:=0) (by unfold sgn; rw [if_neg hneg]; exact Nat.le_refl _) hpos
   have:KR s i≠45:=by
    rw [h0]
    intro e
    rw [e] at hd
    exact absurd hd (by decide)
   rw [if_neg this,if_neg hneg]
   rfl
 have hs:sgn n < (itoa n).length:=by
  unfold sgn
  split
  ·rename_i hneg
   have hT:itoa n=45::decDigits n.natAbs:=by unfold itoa; rw [if_pos hneg]
   have:=List.length_pos_iff.2 (N4 _ n.natAbs (Nat.lt_succ_self _)).2.2.1
   rw [hT,List.length_cons]
   omega
  ·exact hpos
 obtain ⟨hd,_⟩:=KAU hn (Nat.le_refl _) hs
 unfold numF
 rw [hJ,ha.get hs,if_neg]
 ·exact KEH hn ha hf _ _ _ (Nat.le_refl _) (by omega) (by omega) (fun he=>by omega)
 ·intro hh
  rcases hh with hh | ⟨h1,h2⟩
  ·rw [hd] at hh; cases hh
  ·have hneg:n < 0:=by
    unfold sgn at h1
    by_cases h:n < 0
    ·exact h
    ·rw [if_neg h] at h1; omega
   have hT:itoa n=45::decDigits n.natAbs:=by unfold itoa; rw [if_pos hneg]
   have hs1:sgn n=1:=by unfold sgn; rw [if_pos hneg]
   simp only [hs1,hT,List.getElem_cons_succ] at h2
   obtain ⟨_,_,a3,a4⟩:=N4 _ n.natAbs (Nat.lt_succ_self _)
   have:(decDigits n.natAbs).head?=some 48:=by
    rw [List.head?_eq_getElem?,List.getElem?_eq_getElem (List.length_pos_iff.2 a3),h2]
   have:=a4 this
   omega
theorem KEI {s:List UInt8} {fr:Nat}:∀ {f i:Nat} {n m:Int} {j:Nat},numL s fr f i n=.ok (m,j)→numP ((s.drop fr).take (i - fr))=(n,0)→numP ((s.drop fr).take (j - fr))=(m,0)
 | 0,i,n,m,j,h,hp=>by cases h; exact hp
 | f+1,i,n,m,j,h,hp=>by
  rw [numL] at h
  split at h
  ·split at h
   ·cases h
   ·split at h
    ·cases h; exact hp
    ·rename_i h0
     refine KEI h ?_
     have h0:=Classical.not_not.1 h0
     rw [← h0]
  ·cases h; exact hp
theorem KFr {s:List UInt8} {i j:Nat} {n:Int} (h:numF s i=.ok (n,j)) (hi:i≤s.length):At s i (itoa n)∧j=i+(itoa n).length:=by
 have hok:=KCz h hi
 have key:numP ((s.drop i).take (j - i))=(n,0):=by
  unfold numF at h
  split at h
  ·cases h
  ·rename_i hb
   have hd:digB (KR s (numJ s i))=true:=by
    cases hh:digB (KR s (numJ s i)) with
    | true=>rfl
    | false=>exact absurd (.inl hh) hb
   have hil:=KFh hd
   rw [show s.length - numJ s i=(s.length - (numJ s i+1))+1 by omega,numL,if_pos hd] at h
   split at h
   ·cases h
   ·split at h
    ·rename_i h7 h0
     exfalso
     cases h
     by_cases h45:KR s i=45
     ·have hJ:numJ s i=i+1:=by unfold numJ; rw [if_pos h45]
      rw [hJ] at hb hd hil h0
      have h2:(s.drop i).take (i+1+1 - i)=[45,KR s (i+1)]:=by
       rw [show i+1+1 - i=2 by omega,List.drop_eq_getElem_cons (by omega),List.drop_eq_getElem_cons hil]
       rw [Y1 hil,← h45,Y1 (by omega)]
       rfl
      rw [h2] at h0
      exact h0 ((Gf hd).2 (fun e=>hb (.inr ⟨by omega,e⟩)))
     ·have hJ:numJ s i=i:=by unfold numJ; rw [if_neg h45]
      rw [hJ] at hd hil h0
      have h2:(s.drop i).take (i+1 - i)=[KR s i]:=by
       rw [show i+1 - i=1 by omega,List.drop_eq_getElem_cons hil,Y1 hil]
       rfl
      rw [h2] at h0
      exact h0 (Gf hd).1
    ·rename_i h0
     have h0:=Classical.not_not.1 h0
     exact KEI h (by rw [← h0])
 have ht:=KHz key
 have hl:=congrArg List.length ht
 rw [List.length_take,List.length_drop] at hl
 have hj:j=i+(itoa n).length:=by omega
 refine ⟨?_,hj⟩
 unfold At
 rw [← ht]
 conv=>lhs; rw [List.length_take,List.length_drop,Nat.min_eq_left (by omega)]
end Gx
