/- Own proofs: what those Lean programs compute. No condition. -/
import Derived.Test.YthelieedlghccaaGreatDoorP0
import Derived.Test.YthelieedlghccaaGreatDoorP1
import Derived.Test.YthelieedlghccaaGreatDoorP2
import Derived.Test.YthelieedlghccaaGreatDoorP3
import Derived.Test.YthelieedlghccaaGreatDoorP4
import Derived.Test.YthelieedlghccaaGreatDoorP5
import Derived.Test.YthelieedlghccaaGreatDoorP6
import Derived.Test.YthelieedlghccaaGreatDoorP7
import Derived.WalkKit
import Derived.ProofKit
import Derived.OpenShut
import Derived.ShutString
import Derived.ChangeOld
import Derived.Below
import Derived.SizedLaws
import Derived.Lib.SmallJoins
set_option linter.unusedVariables false
set_option linter.unusedSimpArgs false
namespace Gx
open Go Go.Proofs Go.Shelf Go.RowKit Go.Lib
set_option linter.unusedVariables false
set_option linter.unusedSimpArgs false
set_option maxRecDepth 100000
def nsOf (l:List Vl):List Int:=l.map Vl.n
def allK (l:List Vl):Bool:=l.all (fun v=>v.k == 1)
def sumV (l:List Vl):Vl × Int:=if allK l=true then (if inI (sumI (nsOf l))=true then (.mk 1 (sumI (nsOf l)) [] [],0) else (vl0,7)) else (vl0,21)
theorem KMY {h:Heap}:∀ {v:Vl} {cs:Array Value},VRep h v cs→I64 v.n
 | .mk _ _ _ _,cs,H=>by obtain ⟨x,rfl,_,h2,_⟩:=VRep.eq.1 H; exact h2
theorem KDZ {h:Heap}:∀ {v:Vl} {cs:Array Value},VRep h v cs→cs[0]?=some (.int .i64 v.k)∧cs[1]?=some (.int .i64 v.n)
 | .mk _ _ _ _,cs,H=>by obtain ⟨x,rfl,_⟩:=VRep.eq.1 H; exact ⟨rfl,rfl⟩
theorem KJ8 {h:Heap} {x:Sl} {l:List Vl} (hx:VsRep h x l):∀ n ∈ nsOf l,I64 n:=fun n hn=>by
 obtain ⟨v,hv,rfl⟩:=List.mem_map.1 hn
 obtain ⟨j,hj,rfl⟩:=List.mem_iff_getElem.1 hv
 obtain ⟨a,c,_,_,_,h5⟩:=hx.get hj
 exact KMY h5
theorem KF6 {l:List Vl} {i:Nat} (hi:i < l.length) (hk:l[i].k≠1):sumV l=(vl0,21):=by
 unfold sumV
 rw [if_neg]
 intro h
 have:=List.all_eq_true.1 h _ (List.getElem_mem hi)
 exact hk (eq_of_beq this)
theorem KIT {l:List Vl} (hk:∀ i (hi:i < l.length),l[i].k=1):sumV l=if inI (sumI (nsOf l))=true then (.mk 1 (sumI (nsOf l)) [] [],0) else (vl0,7):=by
 unfold sumV
 rw [if_pos]
 refine List.all_eq_true.2 (fun v hv=>?_)
 obtain ⟨i,hi,rfl⟩:=List.mem_iff_getElem.1 hv
 rw [hk i hi]; rfl
theorem KJ9 {l:List Vl} {h0 h:Heap} {p:Nat} {Q:Array Value × Int→Heap→Prop} {m:Int→M (Array Value)} (e0:Ext h0 h) (hp:h0.size≤p) (gp:h[p]?=some (.cells vz KB (0,0))) (hk:∀ i (hi:i < l.length),l[i].k=1) (hI:I64 (sumI (nsOf l))∨inI (sumI (nsOf l))=false)
  (Hm:∀ {γ:Type} {n:Int} {h:Heap} {Q:γ→Heap→Prop} {g:Array Value→M γ},(∀ h',Ext h h'→(g (ZO 1 n [] Sl.nil)).wp h' Q)→(m n>>=g).wp h Q)
  (H:∀ h' c,Ext h0 h'→VRep h' (sumV l).1 c→Q (c,(sumV l).2) h') :
  (M.ite ((sumT (nsOf l)).2 != 0) (do
    M.need ((#[.int .i64 0,.int .i64 0,.string ByteArray.empty,.slice none 0 0]:Array Value).size=4)
    stG ⟨p,0,none⟩ (#[.int .i64 0,.int .i64 0,.string ByteArray.empty,.slice none 0 0]:Array Value)
    let Rr35←ldG 4 ⟨p,0,none⟩
    M.pure (Rr35,(sumT (nsOf l)).2)
    ) (do
    let Xx37←m (sumT (nsOf l)).1
    M.need (Xx37.size=4)
    stG ⟨p,0,none⟩ Xx37
    let Rr39←ldG 4 ⟨p,0,none⟩
    M.pure (Rr39,0)
    )).wp h Q:=by
 rw [KIT hk] at H
 unfold sumT
 by_cases hin:inI (sumI (nsOf l))=true
 ·rw [if_pos hin] at H ⊢
  refine iteF rfl (Hm (fun h1 e1=>ZQ rfl (stR (cs:=vz) (vs:=ZO 1 (sumI (nsOf l)) [] Sl.nil) (e1.blk gp) (Nat.le_refl 4) (ZR _ _ _ _) (fun h2 u2 g2=>?_))))
  rw [KS (cs:=vz) (vs:=(ZO 1 (sumI (nsOf l)) [] Sl.nil).toList) rfl] at g2
  have hI':I64 (sumI (nsOf l)):=hI.elim id (fun h=>by rw [h] at hin; cases hin)
  exact ldR g2 rfl (KF (H h2 _ ((e0.trans e1).upd u2 hp) (KLH ⟨by decide,by decide⟩ hI' (by decide))))
 ·rw [if_neg hin] at H ⊢
  refine iteT rfl (ZQ rfl (stR (cs:=vz) (vs:=ZO 0 0 [] Sl.nil) gp (Nat.le_refl 4) (ZR 0 0 [] Sl.nil) (fun h2 u2 g2=>?_)))
  rw [KS (cs:=vz) (vs:=(ZO 0 0 [] Sl.nil).toList) rfl] at g2
  exact ldR g2 rfl (KF (H h2 _ (e0.upd u2 hp) (Xw (fun _=>True) _).to))
theorem KIU (n:Int):I64 n∨inI n=false:=by
 unfold I64 inI
 by_cases h:-9223372036854775808≤n∧n≤9223372036854775807
 ·exact .inl h
 ·exact .inr (decide_eq_false h)
theorem KIV {l:List Vl} {x:Sl} {h:Heap} {Q:Array Value × Int→Heap→Prop} (hx:VsRep h x l) (hl:l.length≤1099511627776) (H:∀ h' c,Ext h h'→VRep h' (sumV l).1 c→Q (c,(sumV l).2) h'):(Nm x).wp h Q:=by
 have hxl:=hx.len
 unfold Nm
 refine Zu (fun h1 e1 s1 g1=>?_)
 rw [hxl]
 refine M.loop_inv (fun (t:Sl × Int) hh=>∃ i:Nat,t.2=(i:Int)∧i≤l.length∧(∀ j (hj:j < l.length),j < i→l[j].k=1)∧Gw h1.size hh t.1 1 ((nsOf (l.take i)).map iv)∧Ext h1 hh) (fun t _=>((l.length:Int) - t.2).toNat) ?_
  ⟨0,rfl,Nat.zero_le _,fun j hj h0=>by omega,Gw.nil _ _ _,Ext.refl _⟩
 rintro ⟨r,t⟩ hh ⟨i,ht,hil,hk,G,E⟩ self hself
 dsimp only at ht G
 subst ht
 have hE:=E.size
 unfold Nl
 dsimp only
 refine KZ (fun hc=>?_) (fun hc=>?_)
 ·have hlt:i < l.length:=by have:=of_decide_eq_true hc; omega
  refine KAi (hx.ext (e1.trans E)) hlt rfl (fun a c hs hcs hv=>WF hs hcs (Zu (fun h2 e2 s2 g2=>ZQ hs (stR g2 (by rw [hs]; exact Nat.le_refl 4) hv.one (fun h3 u3 g3=>?_)))))
  rw [KS (by rw [Array.length_toList,hs]; rfl),Array.toArray_toList] at g3
  have e3:Ext hh h3:=e2.upd u3 (Nat.le_refl _)
  have k0:KO h3 ((⟨hh.size,0,none⟩:Addr).add 0)=some (.int .i64 l[i].k):=by rw [Ky g3]; exact (KDZ hv).1
  have k1:KO h3 ((⟨hh.size,0,none⟩:Addr).add 1)=some (.int .i64 l[i].n):=by rw [Ky g3]; exact (KDZ hv).2
  refine Jx k0 (KZ (fun hne=>?_) (fun heq=>?_))
  ·have hne:=bne_iff_ne.1 hne
   rw [KF6 hlt hne] at H
   have gp:=(E.trans e3).blk g1
   refine ZQ rfl (stR (cs:=vz) (vs:=ZO 0 0 [] Sl.nil) gp (Nat.le_refl 4) (ZR 0 0 [] Sl.nil) (fun h4 u4 g4=>?_))
   rw [KS (cs:=vz) (vs:=(ZO 0 0 [] Sl.nil).toList) rfl] at g4
   exact ldR g4 rfl (KF (H h4 _ ((e1.trans (E.trans e3)).upd u4 (Nat.le_refl _)) (Xw (fun _=>True) _).to))
  ·have heq:=bne_eq_false_iff_eq.1 heq
   refine Jx k1 (KJd (G.ext e3) (by have:=e3.size; omega) (by unfold nsOf; rw [List.length_map,List.length_take]; omega) (fun h4 r4 G4 hs4 same4 on4=>?_))
   rw [w64 (by omega) (by omega)]
   have e4:Ext h1 h4:=⟨by have:=(E.trans e3).size; omega,fun k hk=>(same4 k (by have:=(E.trans e3).size; omega) (fun ho=>by have:=(G.lt ho).2; omega)).trans ((E.trans e3).same k hk)⟩
   refine hself _ _ ⟨i+1,by simp,by omega,fun j hj hji=>?_,?_,e4⟩ (by dsimp only; omega)
   ·by_cases hje:j=i
    ·subst hje; exact heq
    ·exact hk j hj (by omega)
   ·have:nsOf (l.take (i+1))=nsOf (l.take i)++[l[i].n]:=by unfold nsOf; rw [List.take_succ_eq_append_getElem hlt,List.map_append]; rfl
    rw [this]; exact G4
 ·have hge:i=l.length:=by have:=of_decide_eq_false hc; omega
  subst hge
  rw [List.take_of_length_le (Nat.le_refl _)] at G
  refine KJ (KFQ G (by unfold nsOf; rw [List.length_map]; exact hl) (KJ8 hx) (fun h2 e2=>?_))
  exact KJ9 (m:=Xm) (e1.trans (E.trans e2)) (Nat.le_refl _) ((E.trans e2).blk g1) (fun j hj=>hk j hj hj) (KIU _) (fun HH=>KIH HH) H
theorem KGt {l:List Vl} {x:Sl} {h:Heap} {Q:Array Value × Int→Heap→Prop} (hx:VsRep h x l) (hl:l.length≤1099511627776) (H:∀ h' c,Ext h h'→VRep h' (sumV l).1 c→Q (c,(sumV l).2) h'):(VR x).wp h Q:=by
 have hxl:=hx.len
 unfold VR
 refine Zu (fun h1 e1 s1 g1=>?_)
 refine M.loop_inv (fun (t:Sl × Int) hh=>∃ i:Nat,t.2=(i:Int)∧i≤l.length∧(∀ j (hj:j < l.length),j < i→l[j].k=1)∧Gw h1.size hh t.1 1 ((nsOf (l.take i)).map iv)∧Ext h1 hh) (fun t _=>((l.length:Int) - t.2).toNat) ?_
  ⟨0,rfl,Nat.zero_le _,fun j hj h0=>by omega,Gw.nil _ _ _,Ext.refl _⟩
 rintro ⟨r,t⟩ hh ⟨i,ht,hil,hk,G,E⟩ self hself
 dsimp only at ht G
 subst ht
 have hE:=E.size
 unfold Wo
 dsimp only
 rw [hxl]
 refine KZ (fun hc=>?_) (fun hc=>?_)
 ·have hlt:i < l.length:=by have:=of_decide_eq_true hc; omega
  have X:=hx.ext (e1.trans E)
  refine KAi X hlt rfl (fun a c hs hcs hv=>Jx (by rw [hcs 0 (by decide)]; exact (KDZ hv).1) (KZ (fun hne=>?_) (fun heq=>?_)))
  ·have hne:=bne_iff_ne.1 hne
   rw [KF6 hlt hne] at H
   have gp:=E.blk g1
   refine ZQ rfl (stR (cs:=vz) (vs:=ZO 0 0 [] Sl.nil) gp (Nat.le_refl 4) (ZR 0 0 [] Sl.nil) (fun h4 u4 g4=>?_))
   rw [KS (cs:=vz) (vs:=(ZO 0 0 [] Sl.nil).toList) rfl] at g4
   exact ldR g4 rfl (KF (H h4 _ ((e1.trans E).upd u4 (Nat.le_refl _)) (Xw (fun _=>True) _).to))
  ·have heq:=bne_eq_false_iff_eq.1 heq
   refine KAi X hlt rfl (fun a c hs hcs hv=>Jx (by rw [hcs 1 (by decide)]; exact (KDZ hv).2) (KJd G hE (by unfold nsOf; rw [List.length_map,List.length_take]; omega) (fun h4 r4 G4 hs4 same4 on4=>?_)))
   rw [w64 (by omega) (by omega)]
   have e4:Ext h1 h4:=⟨by omega,fun k hk=>(same4 k (by omega) (fun ho=>by have:=(G.lt ho).2; omega)).trans (E.same k hk)⟩
   refine hself _ _ ⟨i+1,by simp,by omega,fun j hj hji=>?_,?_,e4⟩ (by dsimp only; omega)
   ·by_cases hje:j=i
    ·subst hje; exact heq
    ·exact hk j hj (by omega)
   ·have:nsOf (l.take (i+1))=nsOf (l.take i)++[l[i].n]:=by unfold nsOf; rw [List.take_succ_eq_append_getElem hlt,List.map_append]; rfl
    rw [this]; exact G4
 ·have hge:i=l.length:=by have:=of_decide_eq_false hc; omega
  subst hge
  rw [List.take_of_length_le (Nat.le_refl _)] at G
  refine KJ (KIS G (by unfold nsOf; rw [List.length_map]; exact hl) (KJ8 hx) (fun h2 e2=>?_))
  exact KJ9 (m:=Wm) (e1.trans (E.trans e2)) (Nat.le_refl _) ((E.trans e2).blk g1) (fun j hj=>hk j hj hj) (KIU _) (fun HH=>KLB (cs:=ZO 1 _ [] Sl.nil) rfl (ZR _ _ _ _) HH) H
end Gx
namespace Gx
open Go Go.Proofs Go.Shelf Go.RowKit Go.Lib
set_option linter.unusedVariables false
set_option linter.unusedSimpArgs false
set_option maxRecDepth 100000
def pick (p:Int→Bool):Vl→List Vl→Vl
 | m,[]=>m
 | m,v::l=>if p (cmpV v m)=true then pick p v l else pick p m l
def NP (p:Int→Bool):List Vl→Vl × Int
 | []=>(vl0,4)
 | v::l=>(pick p v l,0)
def qF:Int→Bool:=fun n=>decide (n < 0)
def qG:Int→Bool:=fun n=>decide (n > 0)
theorem KBy {p:Int→Bool} {m:Vl} {l:List Vl} {i:Nat} (hi:i < l.length):pick p m (l.drop i)=if p (cmpV l[i] m)=true then pick p l[i] (l.drop (i+1)) else pick p m (l.drop (i+1)):=by
 rw [List.drop_eq_getElem_cons hi,pick]
theorem KDa {p:Int→Bool} {m:Vl} {l:List Vl} {i:Nat} (hi:l.length≤i):pick p m (l.drop i)=m:=by
 rw [List.drop_of_length_le hi,pick]
theorem KAz {a b:Vl} {h:Heap} {Q:Int→Heap→Prop} {x y:Array Value} (hx:VRep h a x) (hy:VRep h b y) (H:∀ h',Ext h h'→Q (cmpV a b) h'):(KB2 Go.Proofs.Tryz.prog (fun r:Int=>.int .i64 r) (.func (.func Jl) #[] #[]) [.agg x,.agg y]).wp h Q :=
 KHQ Y0 (Xc x y) (XW hx hy H)
theorem KGu {l:List Vl} {x:Sl} {h:Heap} {Q:Array Value→Heap→Prop} (hx:VsRep h x l) (hl:0 < l.length) (H:∀ h' c,Ext h h'→Zp (· < h.size) h' (NP qF l).1 c→Q c h'):(K9 x (.func (.func Jl) #[] #[])).wp h Q:=by
 have hxl:=hx.len
 have hxb:=hx.big
 unfold K9
 refine Zu (fun h1 e1 s1 g1=>iteF (decide_eq_false (by omega)) ?_)
 have hS:VsRepS (· < h.size) h1 x l:=hx.lt.same (fun b hb=>e1.same b hb) (fun b hb=>hb)
 refine KAC hS hl rfl (fun a c hs hcs hv=>WF hs hcs (Zu (fun h2 e2 s2 g2=>ZQ hs (stR g2 (by rw [hs]; exact Nat.le_refl 4) hv.to.one (fun h3 u3 g3=>?_)))))
 rw [KS (by rw [Array.length_toList,hs]; rfl)] at g3
 have e3:Ext h1 h3:=e2.upd u3 (Nat.le_refl _)
 have hb0:(NP qF l).1=pick qF l[0] (l.drop 1):=by
  cases l with
  | nil=>cases hl
  | cons v r=>rfl
 have hb1:h.size < h1.size:=by omega
 refine M.loop_inv (fun (t:Int) hh=>∃ (i:Nat) (m:Vl) (cs:Array Value),t=(i:Int)∧1≤i∧i≤l.length∧pick qF m (l.drop i)=pick qF l[0] (l.drop 1)∧Zp (· < h.size) hh m cs∧Ext h1 hh∧hh[h1.size]?=some (.cells cs KB (0,0))) (fun t _=>((l.length:Int) - t).toNat) ?_
  ⟨1,l[0],c,rfl,Nat.le_refl _,hl,rfl,hv.same (fun b hb=>e3.same b (by omega)),e3,by simpa using g3⟩
 rintro t hh ⟨i,m,cs,rfl,h1i,hil,hp,hm,E,g⟩ self hself
 unfold Zg
 have X:VsRepS (· < h.size) hh x l:=hS.same (fun b hb=>E.same b (by omega)) (fun b hb=>hb)
 rw [hxl]
 refine KZ (fun hc=>?_) (fun hc=>?_)
 ·have hlt:i < l.length:=by have:=of_decide_eq_true hc; omega
  rw [KBy hlt] at hp
  refine KAC X hlt rfl (fun a2 c2 hs2 hcs2 hv2=>WF hs2 hcs2 (ldR g hm.size (KJ (KAz hv2.to hm.to (fun h4 e4=>?_)))))
  have E4:=E.trans e4
  have X4:VsRepS (· < h.size) h4 x l:=hS.same (fun b hb=>E4.same b (by omega)) (fun b hb=>hb)
  have g4:=e4.blk g
  refine KZ (fun hlt2=>?_) (fun hge2=>?_)
  ·rw [if_pos (show qF (cmpV l[i] m)=true from hlt2)] at hp
   refine KAC X4 hlt rfl (fun a5 c5 hs5 hcs5 hv5=>WF hs5 hcs5 (ZQ hs5 (stR g4 (by rw [hs5,hm.size]; exact Nat.le_refl 4) hv5.to.one (fun h6 u6 g6=>?_))))
   rw [KS (by rw [Array.length_toList,hs5,hm.size])] at g6
   unfold Kp
   rw [w64 (by omega) (by omega)]
   exact hself _ _ ⟨i+1,l[i],c5,by simp,by omega,by omega,hp,hv5.same (fun b hb=>u6.ne b (by omega)),E4.upd u6 (Nat.le_refl _),by simpa using g6⟩ (by omega)
  ·rw [if_neg (show ¬ qF (cmpV l[i] m)=true from by unfold qF; rw [hge2]; decide)] at hp
   unfold Kp
   rw [w64 (by omega) (by omega)]
   exact hself _ _ ⟨i+1,m,cs,by simp,by omega,by omega,hp,hm.same (fun b hb=>e4.same b (by have:=E.size; omega)),E4,g4⟩ (by omega)
 ·have hge:l.length≤i:=by have:=of_decide_eq_false hc; omega
  rw [KDa hge] at hp
  refine ldR g hm.size (ZQ hm.size (stR (E.blk g1) (by rw [hm.size]; exact Nat.le_refl 4) hm.to.one (fun h4 u4 g4=>?_)))
  rw [KS (by rw [Array.length_toList,hm.size]; rfl)] at g4
  rw [hb0,← hp] at H
  refine ldR g4 (by simpa using hm.size) (KF (H h4 _ ((e1.trans E).upd u4 (Nat.le_refl _)) ?_))
  have h9:=hm.same (fun b hb=>u4.ne b (by omega))
  simpa using h9
theorem KGv {l:List Vl} {x:Sl} {h:Heap} {Q:Array Value→Heap→Prop} (hx:VsRep h x l) (hl:0 < l.length) (H:∀ h' c,Ext h h'→Zp (· < h.size) h' (NP qG l).1 c→Q c h'):(ZA x (.func (.func Jl) #[] #[])).wp h Q:=by
 have hxl:=hx.len
 have hxb:=hx.big
 unfold ZA
 refine Zu (fun h1 e1 s1 g1=>iteF (decide_eq_false (by omega)) ?_)
 have hS:VsRepS (· < h.size) h1 x l:=hx.lt.same (fun b hb=>e1.same b hb) (fun b hb=>hb)
 refine KAC hS hl rfl (fun a c hs hcs hv=>WF hs hcs (Zu (fun h2 e2 s2 g2=>ZQ hs (stR g2 (by rw [hs]; exact Nat.le_refl 4) hv.to.one (fun h3 u3 g3=>?_)))))
 rw [KS (by rw [Array.length_toList,hs]; rfl)] at g3
 have e3:Ext h1 h3:=e2.upd u3 (Nat.le_refl _)
 have hb0:(NP qG l).1=pick qG l[0] (l.drop 1):=by
  cases l with
  | nil=>cases hl
  | cons v r=>rfl
 have hb1:h.size < h1.size:=by omega
 refine M.loop_inv (fun (t:Int) hh=>∃ (i:Nat) (m:Vl) (cs:Array Value),t=(i:Int)∧1≤i∧i≤l.length∧pick qG m (l.drop i)=pick qG l[0] (l.drop 1)∧Zp (· < h.size) hh m cs∧Ext h1 hh∧hh[h1.size]?=some (.cells cs KB (0,0))) (fun t _=>((l.length:Int) - t).toNat) ?_
  ⟨1,l[0],c,rfl,Nat.le_refl _,hl,rfl,hv.same (fun b hb=>e3.same b (by omega)),e3,by simpa using g3⟩
 rintro t hh ⟨i,m,cs,rfl,h1i,hil,hp,hm,E,g⟩ self hself
 unfold Zh
 have X:VsRepS (· < h.size) hh x l:=hS.same (fun b hb=>E.same b (by omega)) (fun b hb=>hb)
 rw [hxl]
 refine KZ (fun hc=>?_) (fun hc=>?_)
 ·have hlt:i < l.length:=by have:=of_decide_eq_true hc; omega
  rw [KBy hlt] at hp
  refine KAC X hlt rfl (fun a2 c2 hs2 hcs2 hv2=>WF hs2 hcs2 (ldR g hm.size (KJ (KAz hv2.to hm.to (fun h4 e4=>?_)))))
  have E4:=E.trans e4
  have X4:VsRepS (· < h.size) h4 x l:=hS.same (fun b hb=>E4.same b (by omega)) (fun b hb=>hb)
  have g4:=e4.blk g
  refine KZ (fun hlt2=>?_) (fun hge2=>?_)
  ·rw [if_pos (show qG (cmpV l[i] m)=true from hlt2)] at hp
   refine KAC X4 hlt rfl (fun a5 c5 hs5 hcs5 hv5=>WF hs5 hcs5 (ZQ hs5 (stR g4 (by rw [hs5,hm.size]; exact Nat.le_refl 4) hv5.to.one (fun h6 u6 g6=>?_))))
   rw [KS (by rw [Array.length_toList,hs5,hm.size])] at g6
   unfold Kt
   rw [w64 (by omega) (by omega)]
   exact hself _ _ ⟨i+1,l[i],c5,by simp,by omega,by omega,hp,hv5.same (fun b hb=>u6.ne b (by omega)),E4.upd u6 (Nat.le_refl _),by simpa using g6⟩ (by omega)
  ·rw [if_neg (show ¬ qG (cmpV l[i] m)=true from by unfold qG; rw [hge2]; decide)] at hp
   unfold Kt
   rw [w64 (by omega) (by omega)]
   exact hself _ _ ⟨i+1,m,cs,by simp,by omega,by omega,hp,hm.same (fun b hb=>e4.same b (by have:=E.size; omega)),E4,g4⟩ (by omega)
 ·have hge:l.length≤i:=by have:=of_decide_eq_false hc; omega
  rw [KDa hge] at hp
  refine ldR g hm.size (ZQ hm.size (stR (E.blk g1) (by rw [hm.size]; exact Nat.le_refl 4) hm.to.one (fun h4 u4 g4=>?_)))
  rw [KS (by rw [Array.length_toList,hm.size]; rfl)] at g4
  rw [hb0,← hp] at H
  refine ldR g4 (by simpa using hm.size) (KF (H h4 _ ((e1.trans E).upd u4 (Nat.le_refl _)) ?_))
  have h9:=hm.same (fun b hb=>u4.ne b (by omega))
  simpa using h9
theorem KDb (p:Int→Bool):∀ (l:List Vl) (m:Vl),pick p m l ∈ m::l
 | [],m=>by rw [pick]; exact List.mem_cons_self
 | v::l,m=>by
  rw [pick]
  split
  ·exact List.mem_cons_of_mem _ (KDb p l v)
  ·have:=KDb p l m
   rcases List.mem_cons.1 this with h | h
   ·rw [h]; exact List.mem_cons_self
   ·exact List.mem_cons_of_mem _ (List.mem_cons_of_mem _ h)
theorem KIW (p:Int→Bool):∀ l:List Vl,l≠[]→wt (NP p l).1≤wt.wts l
 | [],h=>absurd rfl h
 | v::l,_=>KHu (KDb p l v)
theorem KCf {S:Nat→Prop} {p:Int→Bool} {sign:Int} {l:List Vl} {x:Sl} {h:Heap} {Q:Array Value × Int→Heap→Prop} (hps:∀ a b,(cmpV a b == sign)=p (cmpV a b)) (hxS:VsRepS S h x l) (hSl:∀ b,S b→b < h.size) (H:∀ h' c,Ext h h'→Zp S h' (NP p l).1 c→Q (c,(NP p l).2) h'):(UN x sign).wp h Q:=by
 have hxl:=hxS.len
 have hxb:=hxS.big
 unfold UN
 refine Zu (fun h1 e1 s1 g1=>KZ (fun hz=>?_) (fun hz=>?_))
 ·have hl:l=[]:=List.length_eq_zero_iff.1 (by have:=eq_of_beq hz; omega)
  subst hl
  refine ZQ rfl (stR (cs:=vz) (vs:=ZO 0 0 [] Sl.nil) g1 (Nat.le_refl 4) (ZR 0 0 [] Sl.nil) (fun h2 u2 g2=>?_))
  rw [KS (cs:=vz) (vs:=(ZO 0 0 [] Sl.nil).toList) rfl] at g2
  exact ldR g2 rfl (KF (H h2 _ (e1.upd u2 (Nat.le_refl _)) (Xw _ _)))
 have hl:0 < l.length:=by
  rcases Nat.eq_zero_or_pos l.length with h0 | h0
  ·rw [show ((x.len:Int) == 0)=true by rw [hxl,h0]; rfl] at hz; cases hz
  ·exact h0
 have hS:VsRepS S h1 x l:=hxS.same (fun b hb=>e1.same b (hSl b hb)) (fun b hb=>hb)
 refine KAC hS hl rfl (fun a c hs hcs hv=>WF hs hcs (Zu (fun h2 e2 s2 g2=>ZQ hs (stR g2 (by rw [hs]; exact Nat.le_refl 4) hv.to.one (fun h3 u3 g3=>?_)))))
 rw [KS (by rw [Array.length_toList,hs]; rfl)] at g3
 have e3:Ext h1 h3:=e2.upd u3 (Nat.le_refl _)
 have hb0:NP p l=(pick p l[0] (l.drop 1),0):=by
  cases l with
  | nil=>cases hl
  | cons v r=>rfl
 rw [hb0] at H
 have hb1:h.size < h1.size:=by omega
 refine M.loop_inv (fun (t:Int) hh=>∃ (i:Nat) (m:Vl) (cs:Array Value),t=(i:Int)∧1≤i∧i≤l.length∧pick p m (l.drop i)=pick p l[0] (l.drop 1)∧Zp S hh m cs∧Ext h1 hh∧hh[h1.size]?=some (.cells cs KB (0,0))) (fun t _=>((l.length:Int) - t).toNat) ?_
  ⟨1,l[0],c,rfl,Nat.le_refl _,hl,rfl,hv.same (fun b hb=>e3.same b (by have:=hSl b hb; omega)),e3,by simpa using g3⟩
 rintro t hh ⟨i,m,cs,rfl,h1i,hil,hp,hm,E,g⟩ self hself
 unfold WP
 have X:VsRepS S hh x l:=hS.same (fun b hb=>E.same b (by have:=hSl b hb; omega)) (fun b hb=>hb)
 rw [hxl]
 refine KZ (fun hc=>?_) (fun hc=>?_)
 ·have hlt:i < l.length:=by have:=of_decide_eq_true hc; omega
  rw [KBy hlt] at hp
  refine KAC X hlt rfl (fun a2 c2 hs2 hcs2 hv2=>WF hs2 hcs2 (ldR g hm.size (KJ (zy hv2.to hm.to (fun h4 e4=>?_)))))
  have E4:=E.trans e4
  have X4:VsRepS S h4 x l:=hS.same (fun b hb=>E4.same b (by have:=hSl b hb; omega)) (fun b hb=>hb)
  have g4:=e4.blk g
  rw [hps]
  refine KZ (fun hlt2=>?_) (fun hge2=>?_)
  ·rw [if_pos hlt2] at hp
   refine KAC X4 hlt rfl (fun a5 c5 hs5 hcs5 hv5=>WF hs5 hcs5 (ZQ hs5 (stR g4 (by rw [hs5,hm.size]; exact Nat.le_refl 4) hv5.to.one (fun h6 u6 g6=>?_))))
   rw [KS (by rw [Array.length_toList,hs5,hm.size])] at g6
   unfold J8
   rw [w64 (by omega) (by omega)]
   exact hself _ _ ⟨i+1,l[i],c5,by simp,by omega,by omega,hp,hv5.same (fun b hb=>u6.ne b (by have:=hSl b hb; omega)),E4.upd u6 (Nat.le_refl _),by simpa using g6⟩ (by omega)
  ·rw [if_neg (show ¬ p (cmpV l[i] m)=true from by rw [hge2]; decide)] at hp
   unfold J8
   rw [w64 (by omega) (by omega)]
   exact hself _ _ ⟨i+1,m,cs,by simp,by omega,by omega,hp,hm.same (fun b hb=>e4.same b (by have:=E.size; have:=hSl b hb; omega)),E4,g4⟩ (by omega)
 ·have hge:l.length≤i:=by have:=of_decide_eq_false hc; omega
  rw [KDa hge] at hp
  refine ldR g hm.size (ZQ hm.size (stR (E.blk g1) (by rw [hm.size]; exact Nat.le_refl 4) hm.to.one (fun h4 u4 g4=>?_)))
  rw [KS (by rw [Array.length_toList,hm.size]; rfl)] at g4
  rw [← hp] at H
  refine ldR g4 (by simpa using hm.size) (KF (H h4 _ ((e1.trans E).upd u4 (Nat.le_refl _)) ?_))
  have h9:=hm.same (fun b hb=>u4.ne b (by have:=hSl b hb; omega))
  simpa using h9
theorem KIX {l:List Vl} {x:Sl} {h:Heap} {Q:Array Value × Int→Heap→Prop} (hx:VsRep h x l) (H:∀ h' c,Ext h h'→VRep h' (NP qF l).1 c→Q (c,(NP qF l).2) h'):(VS x).wp h Q:=by
 unfold VS
 refine Zu (fun h1 e1 s1 g1=>KJ (KCf (p:=qF) (fun a b=>?_) (hx.lt.same (fun b hb=>e1.same b hb) (fun b hb=>hb):VsRepS (· < h.size) h1 x l) (fun b hb=>by omega) (fun h2 c e2 V2=>ZQ V2.size (stR (e2.blk g1) (by rw [V2.size]; exact Nat.le_refl 4) V2.to.one (fun h3 u3 g3=>?_)))))
 ·have:=KF4 a b
  unfold Rng at this
  unfold qF
  rw [eqI]
  exact decide_eq_decide.2 (by omega)
 ·rw [KS (by rw [Array.length_toList,V2.size]; rfl)] at g3
  refine ldR g3 (by simpa using V2.size) (KF ?_)
  have:=H h3 c ((e1.trans e2).upd u3 (Nat.le_refl _)) ?_
  ·simpa using this
  ·exact (V2.same (fun b hb=>u3.ne b (by omega))).to
theorem KIY {l:List Vl} {x:Sl} {h:Heap} {Q:Array Value × Int→Heap→Prop} (hx:VsRep h x l) (hw:wt.wts l≤1000000000) (H:∀ h' c,Ext h h'→VRep h' (NP qF l).1 c→Q (c,(NP qF l).2) h'):(Nn x).wp h Q:=by
 have hxl:=hx.len
 unfold Nn
 refine Zu (fun h1 e1 s1 g1=>KZ (fun hz=>?_) (fun hz=>?_))
 ·have hl:l=[]:=List.length_eq_zero_iff.1 (by have:=eq_of_beq hz; omega)
  subst hl
  refine ZQ rfl (stR (cs:=vz) (vs:=ZO 0 0 [] Sl.nil) g1 (Nat.le_refl 4) (ZR 0 0 [] Sl.nil) (fun h2 u2 g2=>?_))
  rw [KS (cs:=vz) (vs:=(ZO 0 0 [] Sl.nil).toList) rfl] at g2
  exact ldR g2 rfl (KF (H h2 _ (e1.upd u2 (Nat.le_refl _)) (Xw (fun _=>True) _).to))
 have hl:0 < l.length:=by
  rcases Nat.eq_zero_or_pos l.length with h0 | h0
  ·rw [show ((x.len:Int) == 0)=true by rw [hxl,h0]; rfl] at hz; cases hz
  ·exact h0
 have hne:l≠[]:=by intro e; rw [e] at hl; cases hl
 have h2':(NP qF l).2=0:=by
  cases l with
  | nil=>cases hl
  | cons v r=>rfl
 rw [h2'] at H
 have hbw:=KIW qF l hne
 refine KJ (KGu (hx.ext e1) hl (fun h2 c e2 V2=>KJ (qw _ _ (Nat.lt_succ_self _) V2.to (by omega) (fun h3 d e3 V3=>ZQ V3.size (stR ((e2.trans e3).blk g1) (by rw [V3.size]; exact Nat.le_refl 4) V3.to.one (fun h4 u4 g4=>?_))))))
 rw [KS (by rw [Array.length_toList,V3.size]; rfl)] at g4
 have hs2:=e2.size
 exact ldR g4 V3.size (KF (H h4 _ (((e1.trans e2).trans e3).upd u4 (Nat.le_refl _)) (V3.same (fun b hb=>u4.ne b (by omega))).to))
theorem KIZ {l:List Vl} {x:Sl} {h:Heap} {Q:Array Value × Int→Heap→Prop} (hx:VsRep h x l) (H:∀ h' c,Ext h h'→VRep h' (NP qG l).1 c→Q (c,(NP qG l).2) h'):(VT x).wp h Q:=by
 unfold VT
 refine Zu (fun h1 e1 s1 g1=>KJ (KCf (p:=qG) (fun a b=>?_) (hx.lt.same (fun b hb=>e1.same b hb) (fun b hb=>hb):VsRepS (· < h.size) h1 x l) (fun b hb=>by omega) (fun h2 c e2 V2=>ZQ V2.size (stR (e2.blk g1) (by rw [V2.size]; exact Nat.le_refl 4) V2.to.one (fun h3 u3 g3=>?_)))))
 ·have:=KF4 a b
  unfold Rng at this
  unfold qG
  rw [eqI]
  exact decide_eq_decide.2 (by omega)
 ·rw [KS (by rw [Array.length_toList,V2.size]; rfl)] at g3
  refine ldR g3 (by simpa using V2.size) (KF ?_)
  have:=H h3 c ((e1.trans e2).upd u3 (Nat.le_refl _)) ?_
  ·simpa using this
  ·exact (V2.same (fun b hb=>u3.ne b (by omega))).to
theorem KIa {l:List Vl} {x:Sl} {h:Heap} {Q:Array Value × Int→Heap→Prop} (hx:VsRep h x l) (hw:wt.wts l≤1000000000) (H:∀ h' c,Ext h h'→VRep h' (NP qG l).1 c→Q (c,(NP qG l).2) h'):(No x).wp h Q:=by
 have hxl:=hx.len
 unfold No
 refine Zu (fun h1 e1 s1 g1=>KZ (fun hz=>?_) (fun hz=>?_))
 ·have hl:l=[]:=List.length_eq_zero_iff.1 (by have:=eq_of_beq hz; omega)
  subst hl
  refine ZQ rfl (stR (cs:=vz) (vs:=ZO 0 0 [] Sl.nil) g1 (Nat.le_refl 4) (ZR 0 0 [] Sl.nil) (fun h2 u2 g2=>?_))
  rw [KS (cs:=vz) (vs:=(ZO 0 0 [] Sl.nil).toList) rfl] at g2
  exact ldR g2 rfl (KF (H h2 _ (e1.upd u2 (Nat.le_refl _)) (Xw (fun _=>True) _).to))
 have hl:0 < l.length:=by
  rcases Nat.eq_zero_or_pos l.length with h0 | h0
  ·rw [show ((x.len:Int) == 0)=true by rw [hxl,h0]; rfl] at hz; cases hz
  ·exact h0
 have hne:l≠[]:=by intro e; rw [e] at hl; cases hl
 have h2':(NP qG l).2=0:=by
  cases l with
  | nil=>cases hl
  | cons v r=>rfl
 rw [h2'] at H
 have hbw:=KIW qG l hne
 refine KJ (KGv (hx.ext e1) hl (fun h2 c e2 V2=>KJ (qw _ _ (Nat.lt_succ_self _) V2.to (by omega) (fun h3 d e3 V3=>ZQ V3.size (stR ((e2.trans e3).blk g1) (by rw [V3.size]; exact Nat.le_refl 4) V3.to.one (fun h4 u4 g4=>?_))))))
 rw [KS (by rw [Array.length_toList,V3.size]; rfl)] at g4
 have hs2:=e2.size
 exact ldR g4 V3.size (KF (H h4 _ (((e1.trans e2).trans e3).upd u4 (Nat.le_refl _)) (V3.same (fun b hb=>u4.ne b (by omega))).to))
end Gx
namespace Gx
open Go Go.Proofs Go.Shelf Go.RowKit Go.Lib
set_option linter.unusedVariables false
set_option linter.unusedSimpArgs false
set_option maxRecDepth 100000
def NCS:List UInt8:=[97,98,99,100,101,102,103,104,105,106,107,108,109,110,111,112,113,114,115,116,117,118,119,120,121,122,65,66,67,68,69,70,71,72,73,74,75,76,77,78,79,80,81,82,83,84,85,86,87,88,89,90,48,49,50,51,52,53,54,55,56,57,95]
def isLt (n:Nat):Bool:=decide ((n=95∨(97≤n∧n≤122))∨(65≤n∧n≤90))
def isDg (n:Nat):Bool:=decide (48≤n∧n≤57)
def KLJ:List UInt8→Bool
 | []=>false
 | c::r=>decide ((c::r).length≤24) && isLt c.toNat && (c::r).all (fun d=>isLt d.toNat || isDg d.toNat)
theorem KAo (c:UInt8) (r:List UInt8):KLJ (c::r)=(decide ((c::r).length≤24) && isLt c.toNat && (c::r).all (fun d=>isLt d.toNat || isDg d.toNat)):=rfl
theorem KIb:∀ c:UInt8,NCS.contains c=(isLt c.toNat || isDg c.toNat):=by
 intro c
 have hk:∀ n,n < 256→NCS.contains (UInt8.ofNat n)=(isLt n || isDg n):=by decide +kernel
 have:=hk c.toNat c.toNat_lt
 rwa [UInt8.ofNat_toNat] at this
theorem KKA {p:UInt8→Bool}:∀ {l:List UInt8},(∀ x ∈ l.dropWhile p,p x=true)→∀ x ∈ l,p x=true
 | [],_,x,hx=>by cases hx
 | a::l,h,x,hx=>by
  by_cases ha:p a=true
  ·rw [List.dropWhile_cons_of_pos ha] at h
   rcases List.mem_cons.1 hx with rfl | hx
   ·exact ha
   ·exact KKA h x hx
  ·rw [List.dropWhile_cons_of_neg ha] at h
   exact absurd (h a List.mem_cons_self) ha
theorem KMZ {p:UInt8→Bool} {l:List UInt8}:(l.dropWhile p=[]↔∀ x ∈ l,p x=true):=by
 induction l with
 | nil=>simp
 | cons a l ih =>
  by_cases ha:p a=true
  ·rw [List.dropWhile_cons_of_pos ha,ih]
   constructor
   ·intro h x hx
    rcases List.mem_cons.1 hx with rfl | hx
    ·exact ha
    ·exact h x hx
   ·intro h x hx
    exact h x (List.mem_cons_of_mem _ hx)
  ·rw [List.dropWhile_cons_of_neg ha]
   constructor
   ·intro h; cases h
   ·intro h
    exact absurd (h a List.mem_cons_self) ha
theorem KJg (l cs:List UInt8):(Lib.trimS l cs=[]↔∀ x ∈ l,cs.contains x=true):=by
 unfold Lib.trimS Lib.trimLeftS Lib.trimRightS
 rw [KMZ]
 constructor
 ·intro h x hx
  exact KKA (l:=l.reverse) (p:=(cs.contains ·)) (fun y hy=>h y (List.mem_reverse.2 hy)) x (List.mem_reverse.2 hx)
 ·intro h x hx
  have h1:=List.mem_reverse.1 hx
  exact h x (List.mem_reverse.1 ((List.dropWhile_sublist _).mem h1))
theorem KLK {s:List UInt8} {h:Heap} {Q:Bool→Heap→Prop} (h0:0 < s.length) (h1:s.length≤24) (H:∀ h',Ext h h'→Q (s.all (fun d=>isLt d.toNat || isDg d.toNat)) h') :
  (WT (bs s) (⟨#[97,98,99,100,101,102,103,104,105,106,107,108,109,110,111,112,113,114,115,116,117,118,119,120,121,122,65,66,67,68,69,70,71,72,73,74,75,76,77,78,79,80,81,82,83,84,85,86,87,88,89,90,48,49,50,51,52,53,54,55,56,57,95]⟩:ByteArray)>>=fun x=>(M.pure (sEq x ByteArray.empty):M Bool)).wp h Q:=by
 refine KJ (show (WT _ _).wp h _ from ⟨by decide,by decide,by rw [JL]; exact h0,by rw [JL]; omega,?_,fun h' a b=>KF ?_⟩)
 ·exact ascii_of_all (l:=NCS) (by decide +kernel)
 ·have hs:(bs s).data.toList=s:=by simp [bs]
  have hc:((⟨#[97,98,99,100,101,102,103,104,105,106,107,108,109,110,111,112,113,114,115,116,117,118,119,120,121,122,65,66,67,68,69,70,71,72,73,74,75,76,77,78,79,80,81,82,83,84,85,86,87,88,89,90,48,49,50,51,52,53,54,55,56,57,95]⟩:ByteArray)).data.toList=NCS:=rfl
  rw [hs,hc]
  have:=H h' ⟨a,b⟩
  rw [show (⟨(Lib.trimS s NCS).toArray⟩:ByteArray)=bs (Lib.trimS s NCS) from rfl,sEq0]
  have e:decide (Lib.trimS s NCS=[])=s.all (fun d=>isLt d.toNat || isDg d.toNat):=by
   rw [Bool.eq_iff_iff,decide_eq_true_iff,KJg,List.all_eq_true]
   exact ⟨fun h x hx=>by rw [← KIb]; exact h x hx,fun h x hx=>by rw [KIb]; exact h x hx⟩
  rw [e]; exact this
theorem KGw {s:List UInt8} {h:Heap} {Q:Bool→Heap→Prop} (H:∀ h',Ext h h'→Q (KLJ s) h'):(GW (bs s)).wp h Q:=by
 unfold GW
 rw [sEq0,JL]
 refine KLI ?_
 cases s with
 | nil =>
  rw [decide_eq_true (show ([]:List UInt8)=[]∨((([]:List UInt8).length:Int) > 24) from .inl rfl)]
  exact Y5 rfl (Zc (iteT rfl (KF (H _ (Ext.refl _)))))
 | cons c r =>
  by_cases hl:(c::r).length≤24
  ·rw [decide_eq_false (show ¬ (c::r=[]∨(((c::r).length:Int) > 24)) from fun h=>by rcases h with h | h; cases h; omega)]
   refine NW rfl (ZZ (qE (i:=0) rfl (by simp) ?_))
   rw [show (c::r)[0]=c from rfl]
   have key:∀ b:Bool,b=isDg c.toNat→((M.ite b (M.pure false) (WT (bs (c::r)) (⟨#[97,98,99,100,101,102,103,104,105,106,107,108,109,110,111,112,113,114,115,116,117,118,119,120,121,122,65,66,67,68,69,70,71,72,73,74,75,76,77,78,79,80,81,82,83,84,85,86,87,88,89,90,48,49,50,51,52,53,54,55,56,57,95]⟩:ByteArray)>>=fun x=>M.pure (sEq x ByteArray.empty)):M Bool)).wp h Q:=by
    intro b hb
    simp only [KAo] at H
    rw [decide_eq_true hl] at H
    simp only [Bool.true_and] at H
    by_cases hd:isDg c.toNat=true
    ·refine iteT (hb.trans hd) (KF ?_)
     have:=H h (Ext.refl _)
     rw [show isLt c.toNat=false by unfold isDg at hd; unfold isLt; have:=of_decide_eq_true hd; exact decide_eq_false (by omega),Bool.false_and] at this
     exact this
    ·refine iteF (hb.trans (by simpa using hd)) (KLK (by simp) hl (fun h' e=>?_))
     have:=H h' e
     by_cases hlt:isLt c.toNat=true
     ·rw [hlt,Bool.true_and] at this; exact this
     ·have h1:isLt c.toNat=false:=by simpa using hlt
      have h2:isDg c.toNat=false:=by simpa using hd
      rw [h1,Bool.false_and] at this
      rw [List.all_cons,h1,h2,Bool.or_false,Bool.false_and]
      exact this
   by_cases hge:(c.toNat:Int) ≥ 48
   ·refine ZZ (Y5 (decide_eq_true hge) (ZZ (qE (i:=0) rfl (by simp) (Zc (Zc (key _ ?_))))))
    rw [show (c::r)[0]=c from rfl]
    unfold isDg
    exact decide_eq_decide.2 (by omega)
   ·refine ZZ (NW (decide_eq_false hge) (Zc (Zc (key _ ?_))))
    unfold isDg
    exact (decide_eq_false (by omega)).symm
  ·rw [decide_eq_true (show (c::r=[]∨(((c::r).length:Int) > 24)) from .inr (by omega))]
   refine Y5 rfl (Zc (iteT rfl (KF ?_)))
   have:=H _ (Ext.refl _)
   rw [KAo,decide_eq_false hl] at this
   exact this
theorem KF7 {n:Nat} {h:Heap} {Q:Bool→Heap→Prop} (H:Q (isLt n) h):(Jh (n:Int)).wp h Q:=by
 unfold Jh
 rw [eqI]
 have key:∀ b:Bool,b=decide (n=95∨(97≤n∧n≤122))→((M.ite b (M.pure true) (M.ite (decide ((n:Int) ≥ 65)) (M.pure (decide ((n:Int)≤90))) (M.pure false)>>=fun x=>M.pure x)>>=fun x=>M.pure x:M Bool)).wp h Q:=by
  intro b hb
  unfold isLt at H
  by_cases h1:n=95∨(97≤n∧n≤122)
  ·rw [decide_eq_true (Or.inl h1)] at H
   exact Y5 (hb.trans (decide_eq_true h1)) (Zc (KF H))
  ·refine NW (hb.trans (decide_eq_false h1)) (ZZ (KFt (Zc (KF ?_))))
   rw [show decide ((n:Int) ≥ 65∧(n:Int)≤90)=decide ((n=95∨(97≤n∧n≤122))∨(65≤n∧n≤90)) from decide_eq_decide.2 (by omega)]
   exact H
 by_cases h95:(n:Int)=95
 ·exact Y5 (decide_eq_true h95) (Zc (key _ (decide_eq_true (Or.inl (by omega))).symm))
 ·refine NW (decide_eq_false h95) (ZZ (KFt (Zc (key _ ?_))))
  exact decide_eq_decide.2 (by omega)
theorem KGx {s:List UInt8} {h:Heap} {Q:Bool→Heap→Prop} (H:Q (KLJ s) h):(Uy (bs s)).wp h Q:=by
 unfold Uy
 rw [sEq0,JL]
 refine KLI ?_
 cases s with
 | nil =>
  rw [decide_eq_true (show ([]:List UInt8)=[]∨((([]:List UInt8).length:Int) > 24) from .inl rfl)]
  exact Y5 rfl (Zc (iteT rfl (KF H)))
 | cons c r =>
  rw [KAo] at H
  by_cases hl:(c::r).length≤24
  ·rw [decide_eq_true hl,Bool.true_and] at H
   rw [decide_eq_false (show ¬ (c::r=[]∨(((c::r).length:Int) > 24)) from fun h=>by rcases h with h | h; cases h; omega)]
   refine NW rfl (ZZ (qE (i:=0) rfl (by simp) ?_))
   rw [show (c::r)[0]=c from rfl]
   refine ZZ (KJ (KF7 (Zc ?_)))
   by_cases hlt:isLt c.toNat=true
   ·rw [hlt,Bool.true_and] at H
    refine iteF (by rw [hlt]; rfl) ?_
    refine M.loop_inv (fun (t:Int) hh=>hh=h∧∃ i:Nat,t=(i:Int)∧i≤(c::r).length∧((c::r).drop i).all (fun d=>isLt d.toNat || isDg d.toNat)=(c::r).all (fun d=>isLt d.toNat || isDg d.toNat)) (fun t _=>(((c::r).length:Int) - t).toNat) ?_ ⟨rfl,0,rfl,Nat.zero_le _,rfl⟩
    rintro t hh ⟨rfl,i,rfl,hi,hall⟩ self hself
    unfold WQ
    rw [JL]
    refine KZ (fun hc=>?_) (fun hc=>?_)
    ·have hic:i < (c::r).length:=by have:=of_decide_eq_true hc; omega
     rw [List.drop_eq_getElem_cons hic,List.all_cons] at hall
     obtain ⟨d,hd⟩:∃ d,d=(c::r)[i]:=⟨_,rfl⟩
     refine qE rfl hic (KJ (KF7 ?_))
     rw [← hd] at hall ⊢
     have stop:isLt d.toNat=false→isDg d.toNat=false→Q false hh:=fun h1 h2=>by
      rw [h1,h2,Bool.or_false,Bool.false_and] at hall
      rw [← hall] at H; exact H
     have go:(isLt d.toNat || isDg d.toNat)=true→(self (IntKind.wrap .i64 ((i:Int)+1))).wp hh Q:=fun h1=>by
      rw [h1,Bool.true_and] at hall
      rw [w64 (by omega) (by omega)]
      exact hself _ _ ⟨rfl,i+1,by simp,by omega,hall⟩ (by omega)
     by_cases hld:isLt d.toNat=true
     ·exact NW (by rw [hld]; rfl) (Zc (iteF rfl (go (by rw [hld]; rfl))))
     ·have h1:isLt d.toNat=false:=by simpa using hld
      refine Y5 (by rw [h1]; rfl) (ZZ (qE rfl hic ?_))
      rw [← hd]
      by_cases h48:(d.toNat:Int) < 48
      ·exact ZZ (Y5 (decide_eq_true h48) (Zc (Zc (iteT rfl (KF (stop h1 (by unfold isDg; exact decide_eq_false (by omega))))))))
      ·refine ZZ (NW (decide_eq_false h48) (ZZ (qE rfl hic ?_)))
       rw [← hd]
       refine Zc (Zc ?_)
       by_cases h57:(d.toNat:Int) > 57
       ·exact iteT (decide_eq_true h57) (KF (stop h1 (by unfold isDg; exact decide_eq_false (by omega))))
       ·exact iteF (decide_eq_false h57) (go (by rw [h1,Bool.false_or]; unfold isDg; exact decide_eq_true (by omega)))
    ·have hic:i=(c::r).length:=by have:=of_decide_eq_false hc; omega
     rw [List.drop_of_length_le (by omega)] at hall
     refine KF ?_
     rw [← hall] at H; exact H
   ·have h1:isLt c.toNat=false:=by simpa using hlt
    rw [h1,Bool.false_and] at H
    exact iteT (by rw [h1]; rfl) (KF H)
  ·rw [decide_eq_true (show (c::r=[]∨(((c::r).length:Int) > 24)) from .inr (by omega))]
   rw [decide_eq_false hl] at H
   exact Y5 rfl (Zc (iteT rfl (KF H)))
theorem KIc {β:Type} {v:Vl} {p q:Nat} {c d:Array Value} {t u:TypeId} {z z':Nat × Nat} {h0 h:Heap} {Q:β→Heap→Prop} {f:Bool→M β} (e0:Ext h0 h) (gp:h[p]?=some (.cells c t z)) (gq:h[q]?=some (.cells d u z')) (hc:VRep h v c) (hd:VRep h v d) (H:∀ h',Ext h0 h'→Ext h h'→(f true).wp h' Q) :
  (M.ite true (ldG 4 ⟨p,0,none⟩>>=fun x=>ldG 4 ⟨q,0,none⟩>>=fun y=>Z4 x y>>=fun z=>M.pure z) (M.pure false)>>=f).wp h Q:=by
 refine Y5 rfl (ZZ (WF hc.size (fun i _=>by rw [Ky gp]) (ZZ (WF hd.size (fun i _=>by rw [Ky gq]) (ZZ (KJ (KCY hc hd (fun h1 e1=>Zc ?_))))))))
 rw [show decide (cmpV v v=0)=true from decide_eq_true (z8 _)]
 exact H h1 (e0.trans e1) e1
theorem KLL {β:Type} {n:Int} {h:Heap} {Q:β→Heap→Prop} {f:Bool→M β} (H:(f true).wp h Q):(M.ite true (M.pure (n == n)) (M.pure false)>>=f).wp h Q:=by
 refine Y5 rfl (Zc ?_)
 rw [beq_self_eq_true]; exact H
theorem KJh {l:List Vl} {s:List UInt8} {x:Sl} {h:Heap} {Q:Bool→Heap→Prop} (hx:VsRep h x l) (hw:wt.wts l≤1000000000) (hp:qN h) (hd:KBb h) (he:ErrV h)
  (H:∀ h',Ext h h'→Q true h'):(VU x (bs s)).wp h Q:=by
 have hcnt:=KBn l
 unfold VU
 refine KJ (KIV hx (by omega) (fun h1 a e1 V1=>?_))
 refine Zu (fun h2 e2 s2 g2=>ZQ V1.size (stR g2 (by rw [V1.size]; exact Nat.le_refl 4) V1.one (fun h3 u3 g3=>?_)))
 rw [KS (by rw [Array.length_toList,V1.size]; rfl),Array.toArray_toList] at g3
 have e13:Ext h1 h3:=e2.upd u3 (Nat.le_refl _)
 have E3:=e1.trans e13
 refine KJ (KGt (hx.ext E3) (by omega) (fun h4 b e4 V4=>?_))
 refine Zu (fun h5 e5 s5 g5=>ZQ V4.size (stR g5 (by rw [V4.size]; exact Nat.le_refl 4) V4.one (fun h6 u6 g6=>?_)))
 rw [KS (by rw [Array.length_toList,V4.size]; rfl),Array.toArray_toList] at g6
 have e46:Ext h4 h6:=e5.upd u6 (Nat.le_refl _)
 have e36:=e4.trans e46
 have E6:=E3.trans e36
 refine KJ (KIY (hx.ext E6) hw (fun h7 c e7 V7=>?_))
 refine Zu (fun h8 e8 s8 g8=>ZQ V7.size (stR g8 (by rw [V7.size]; exact Nat.le_refl 4) V7.one (fun h9 u9 g9=>?_)))
 rw [KS (by rw [Array.length_toList,V7.size]; rfl),Array.toArray_toList] at g9
 have e79:Ext h7 h9:=e8.upd u9 (Nat.le_refl _)
 have e69:=e7.trans e79
 have E9:=E6.trans e69
 refine KJ (KIX (hx.ext E9) (fun h10 d e10 V10=>?_))
 refine Zu (fun h11 e11 s11 g11=>ZQ V10.size (stR g11 (by rw [V10.size]; exact Nat.le_refl 4) V10.one (fun h12 u12 g12=>?_)))
 rw [KS (by rw [Array.length_toList,V10.size]; rfl),Array.toArray_toList] at g12
 have e1012:Ext h10 h12:=e11.upd u12 (Nat.le_refl _)
 have e912:=e10.trans e1012
 have E12:=E9.trans e912
 refine KJ (KIa (hx.ext E12) hw (fun h13 k e13' V13=>?_))
 refine Zu (fun h14 e14 s14 g14=>ZQ V13.size (stR g14 (by rw [V13.size]; exact Nat.le_refl 4) V13.one (fun h15 u15 g15=>?_)))
 rw [KS (by rw [Array.length_toList,V13.size]; rfl),Array.toArray_toList] at g15
 have e1315:Ext h13 h15:=e14.upd u15 (Nat.le_refl _)
 have e1215:=e13'.trans e1315
 have E15:=E12.trans e1215
 refine KJ (KIZ (hx.ext E15) (fun h16 m e16 V16=>?_))
 refine Zu (fun h17 e17 s17 g17=>ZQ V16.size (stR g17 (by rw [V16.size]; exact Nat.le_refl 4) V16.one (fun h18 u18 g18=>?_)))
 rw [KS (by rw [Array.length_toList,V16.size]; rfl),Array.toArray_toList] at g18
 have e1618:Ext h16 h18:=e17.upd u18 (Nat.le_refl _)
 have e1518:=e16.trans e1618
 have E18:=E15.trans e1518
 refine KJ (KEY (hp.ext E18) (hd.ext E18) (he.ext E18) (fun h19 e19=>?_))
 have E19:=E18.trans e19
 have t15:Ext h15 h19:=e1518.trans e19
 have t12:Ext h12 h19:=e1215.trans t15
 have t9:Ext h9 h19:=e912.trans t12
 have t6:Ext h6 h19:=e69.trans t9
 have t3:Ext h3 h19:=e36.trans t6
 refine KIc E19 (t3.blk g3) (t6.blk g6) (V1.ext (e13.trans t3)) (V4.ext (e46.trans t6)) (fun h20 E20 e20=>KLL ?_)
 refine KIc E20 ((t9.trans e20).blk g9) ((t12.trans e20).blk g12) (V7.ext (e79.trans (t9.trans e20))) (V10.ext (e1012.trans (t12.trans e20))) (fun h21 E21 e21=>KLL ?_)
 have e1921:=e20.trans e21
 refine KIc E21 ((t15.trans e1921).blk g15) ((e19.trans e1921).blk g18) (V13.ext (e1315.trans (t15.trans e1921))) (V16.ext (e1618.trans (e19.trans e1921))) (fun h22 E22 e22=>KLL ?_)
 refine Y5 rfl (ZZ (KJ (KGw (fun h23 e23=>ZZ (KJ (KGx (Zc (KF ?_))))))))
 rw [beq_self_eq_true]
 exact H _ (E22.trans e23)
end Gx
namespace Gx
open Go Go.RowKit Go.ChangeShapes Go.WideShapes Go.ChangeAt Go.Joins
set_option linter.unusedVariables false
section
variable {H:Type} {enc:TypeId × Value→H} {P:Program}
theorem KJi {W W':World} (he:Ext W.heap W'.heap) {p:MemPlace} (hp:p.block < W.heap.size):W.sameAt W' p:=by
 cases p with
 | cell b o=>exact World.cell?_of_block (w:=W) (he.same b hp)
 | map b=>exact he.same b hp
theorem KF8 {t:TypeId} (hl:laidOutB P=true) (hr:P.readableRec t=true) (hrow:t < P.types.size) {W W':World} {v:Value} {d:DataW H} {ps:List MemPlace}
  (h:DataW.Trod enc P W 0 (fun _=>true) true t v d ps) (he:Ext W.heap W'.heap) :
  DataW.Trod enc P W' 0 (fun b=>decide (b < W.heap.size)) true t v d ps:=by
 have hlt:∀ x ∈ ps,x.block < W.heap.size:=by
  obtain ⟨m,hm⟩:=h
  exact DataW.trod_lt m _ _ _ hm
 exact WideElems.Trod_stays hl hr hrow h (fun x hx=>KJi he (hlt x hx)) (fun x hx=>by simpa using hlt x hx)
theorem KId {W W':World} (he:Ext W.heap W'.heap) (hr:Rest W W') (may:MemPlace→Prop):W.keptBut W' may:=by
 refine ⟨hr.os,hr.output,fun i hi=>?_⟩
 rw [he.same i hi]
 split <;> simp_all
end
end Gx
