/- Own proofs: what those Lean programs compute. No condition. -/
import Derived.Test.YtpibdohdkfkcnaaGreatDoorP0
import Derived.Test.YtpibdohdkfkcnaaGreatDoorP1
import Derived.Test.YtpibdohdkfkcnaaGreatDoorP2
import Derived.Test.YtpibdohdkfkcnaaGreatDoorP3
import Derived.Test.YtpibdohdkfkcnaaGreatDoorP4
import Derived.Test.YtpibdohdkfkcnaaGreatDoorP5
import Derived.Test.YtpibdohdkfkcnaaGreatDoorP6
import Derived.Test.YtpibdohdkfkcnaaGreatDoorP7
import Derived.Test.YtpibdohdkfkcnaaGreatDoorP8
set_option linter.unusedVariables false
set_option linter.unusedSimpArgs false
set_option maxRecDepth 100000
open Go.Proofs
namespace Gx
open Go
def Uw (e:Int×Int):Value:=.iface XB (.agg #[.int .i64 e.1,.int .i64 e.2])
structure PRd (lo b en:Nat) (h:Heap) (ts:List Tkn) (n:Nat):Prop where
 obj:∃x:Sl,h[b]?=some (.cells #[x.v,.int .i64 (en:Int),.int .i64 (n:Int)] KBC (0,0))/\TkR h x ts/\x.len<=x.cap/\∀a,x.base=some a->ts≠[]->a.block≠b/\a.block<lo
 bl:b<lo
 lh:lo<=h.size
 small:ts.length<=1099511627776
 good:∀t∈ts,tokB t=true/\I64 t.n
 nb:n<=256
theorem TkR.sameB {h h':Heap} {x:Sl} {ts:List Tkn} (H:TkR h x ts) (hk:∀a,x.base=some a->ts≠[]->h'[a.block]?=h[a.block]?):TkR h' x ts:=by
 refine⟨H.1,?_⟩
 by_cases hne:ts=[]
 ·subst hne;exact .inl rfl
 rcases H.2 with h0|⟨a,ha,hr⟩
 ·exact .inl h0
 ·refine .inr ⟨a,ha,λj v hj=>?_⟩
  have:=hr j v hj
  unfold KJ at this⊢
  rw [Z8]at this⊢
  rw [hk a ha hne]
  exact this
theorem PRd.same {lo b en n:Nat} {h h':Heap} {ts:List Tkn} (R:PRd lo b en h ts n) (hs:h.size<=h'.size) (hk:∀k,k<lo->h'[k]?=h[k]?):PRd lo b en h' ts n:=by
 obtain⟨x,g,T,hc,hb⟩:=R.obj
 exact⟨⟨x,(hk b R.bl).trans g,T.sameB (λa ha hne=>hk _ (hb a ha hne).2),hc,hb⟩,R.bl,Fb R.lh hs,R.small,R.good,R.nb⟩
theorem PRd.ext {lo b en n:Nat} {h h':Heap} {ts:List Tkn} (R:PRd lo b en h ts n) (e:Ext h h'):PRd lo b en h' ts n:=R.same e.size (λk hk=>e.same k (by have:=R.lh;omega))
theorem PRd.upd {lo b en n g:Nat} {h h':Heap} {ts:List Tkn} (R:PRd lo b en h ts n) (u:Upd g h h') (hg:lo<=g):PRd lo b en h' ts n:=R.same (by rw [u.size];exact Ee _) (λk hk=>u.ne k (by omega))
theorem PRd.lt {lo b en n:Nat} {h:Heap} {ts:List Tkn} (R:PRd lo b en h ts n):b<h.size:=by have:=R.bl;have:=R.lh;omega
def zZ (en:Nat):List Tkn->Int
 | []=>(en:Int)
 |t::_=>t.a
def isT (k:Int) (s:Eb):List Tkn->Bool
 | []=>false
 |t::_=>decide (t.k=k)&&decide (t.s=s)
def nxT (en:Nat) (k:Int):List Tkn->Except (Int×Int) (Tkn×List Tkn)
 | []=>.error ((en:Int),160)
 |t::r=>if t.k=k then .ok (t,r)else .error (t.a,160)
theorem KBq {en:Nat} {k:Int} {t:Tkn} {r:List Tkn}:nxT en k (t::r)=if t.k=k then .ok (t,r)else .error (t.a,160):=rfl
def takT (en:Nat) (k:Int) (s:Eb) (ts:List Tkn):Except (Int×Int) (List Tkn):=if isT k s ts=true then .ok ts.tail else .error (zZ en ts,160)
theorem PRd.head {lo b en n:Nat} {h:Heap} {t:Tkn} {ts:List Tkn} {x:Sl} (T:TkR h x (t::ts)):∃a,x.base=some a/\∀j,j<4->KJ h (a.add j)=t.cells[j]?:=by
 obtain⟨a,ha,hc⟩:=T.at (i:=0) (by simp)
 refine⟨a,ha,λj hj=>?_⟩
 have:=hc j hj
 rwa [show 0*4=0 from rfl,add_zero]at this
theorem qn {lo b en n:Nat} {h:Heap} {ts:List Tkn} {Q:Int->Heap->Prop} (R:PRd lo b en h ts n) (H:Q (zZ en ts) h):(ZE (some ⟨b,0,none⟩)).wp h Q:=by
 obtain⟨x,g,T,hc,hb⟩:=R.obj
 unfold ZE
 have c0:KJ h ((⟨b,0,none⟩:Addr).add 0)=some x.v:=by rw [add_zero,KF g];rfl
 have c1:KJ h ((⟨b,0,none⟩:Addr).add 1)=some (.int .i64 (en:Int)):=by rw [KM,KF g];rfl
 refine Kc (Kn c0 ?_)
 have hl:=T.1
 cases ts with
 |nil=>exact iteF (Eo (by rw [hl];simp)) (Kc (KV c1 (KA H)))
 |cons t r=>
  obtain⟨a,ha,hca⟩:=PRd.head (lo:=lo) (b:=b) (en:=en) (n:=n) T
  exact iteT (Ej (by rw [hl,Ef];omega)) (Kc (Kn c0 (NM (by decide) (by rw [hl,Ef];omega) ha (KV (n:=t.a) (by rw [show(0:Int).toNat*4=0 from rfl,add_zero];exact hca 3 (by decide)) (KA H)))))
theorem KIu {lo b en n:Nat} {h:Heap} {ts:List Tkn} {k:Int} {s:Eb} {Q:Bool->Heap->Prop} (R:PRd lo b en h ts n) (H:Q (isT k s ts) h):(ZG (some ⟨b,0,none⟩) k (bs s)).wp h Q:=by
 obtain⟨x,g,T,hc,hb⟩:=R.obj
 unfold ZG
 have c0:KJ h ((⟨b,0,none⟩:Addr).add 0)=some x.v:=by rw [add_zero,KF g];rfl
 refine Kc (Kn c0 ?_)
 have hl:=T.1
 cases ts with
 |nil=>exact Y9 (Eo (by rw [hl];simp)) (KZ (Y9 rfl (KZ (KA H))))
 |cons t r=>
  obtain⟨a,ha,hca⟩:=PRd.head (lo:=lo) (b:=b) (en:=en) (n:=n) T
  have z:a.add ((0:Int).toNat*4)=a:=rfl
  refine Ve (Ej (by rw [hl,Ef];omega)) (KR (Kc (KR (Kn c0 (KR (NM (by decide) (by rw [hl,Ef];omega) ha (KR (KV (n:=t.k) (by rw [z];exact hca 0 (by decide)) (KZ ?_)))))))))
  rw [eqI]
  refine Jp (c:=decide (t.s=s)) (λ_ Q' hq=>Kc (Kn c0 (NM (by decide) (by rw [hl,Ef];omega) ha (WO (n:=bs t.s) (by rw [z];exact hca 1 (by decide)) (KA (by rw [KC4];exact hq)))))) (KA H)
theorem KVp {β:Type} {lo b en n:Nat} {h:Heap} {t:Tkn} {ts:List Tkn} {Q:β->Heap->Prop} {f:Unit->M β} (R:PRd lo b en h (t::ts) n) (H:∀h',Upd b h h'->PRd lo b en h' ts n->(f ()).wp h' Q):
  (nilP (some ⟨b,0,none⟩)>>=λa=>ldL (a.add 0)>>=λx=>slL x 1 x.len 4>>=λy=>nilP (some ⟨b,0,none⟩)>>=λc=>stV (c.add 0) (y:Sl).v>>=f).wp h Q:=by
 obtain⟨x,g,T,hc,hb⟩:=R.obj
 have c0:KJ h ((⟨b,0,none⟩:Addr).add 0)=some x.v:=by rw [add_zero,KF g];rfl
 have hl:=T.1
 rw [Ef]at hl
 have hsm:=R.small
 rw [Ef]at hsm
 refine Kc (Kn c0 (KYb (by decide) (by omega) (by omega) (Kc (qF (x:=x.v) c0 (by rw [add_zero];exact Kv g) (KC8 _) ?_))))
 rw [add_zero]
 obtain⟨y,hy⟩:∃y:Sl,y=⟨if x.cap=(1:Int).toNat then x.base else x.base.map (λa=>a.add ((1:Int).toNat*4)),(x.len:Int).toNat - (1:Int).toNat,x.cap - (1:Int).toNat⟩:=⟨_,rfl⟩
 rw [<-hy]
 have hyb:y.base=if x.cap=1 then x.base else x.base.map (λa=>a.add 4):=by rw [hy];rfl
 have hyl:y.len=x.len - 1:=by rw [hy];rfl
 have hyc:y.cap=x.cap - 1:=by rw [hy];rfl
 clear hy
 have u:=Upd.hset h b 0 y.v
 have g':=J8 (o:=0) (v:=y.v) g
 generalize hset h ⟨b,0,none⟩ y.v=h2 at u g'⊢
 refine H _ u ⟨⟨y,g',⟨by omega,?_⟩,by omega,λa ha _=>?_⟩,R.bl,by rw [u.size];exact R.lh,by omega,λt ht=>R.good t (Ev _ ht),R.nb⟩
 ·rcases T.2 with h0|⟨a,ha,hr⟩
  ·have:=Ew List.length h0
   rw [XH (KR6 _),KGg]at this;simp at this
  ·cases ts with
   |nil=>exact .inl rfl
   |cons t2 r=>
    rw [Ef]at hl
    rw [if_neg (by omega),ha]at hyb
    refine .inr ⟨a.add 4,hyb,λj v hj=>?_⟩
    have h1:=hr (4+j) v (by
     show(t.cells.toList++JC (tks (t2::r)))[4+j]?=some v
     rw [Fi (by show 4<=4+j;omega)]
     show(JC (tks (t2::r)))[4+j - 4]?=some v
     rw [Oq]
     exact hj)
    rw [Addr.add_add]
    unfold KJ at h1⊢
    rw [Z8]at h1⊢
    rw [u.ne a.block (hb a ha (by simp)).1]
    exact h1
 ·rw [hyb]at ha
  split at ha
  ·exact hb a ha (by simp)
  ·cases hx:x.base with
   |none=>rw [hx]at ha;cases ha
   |some q=>
    rw [hx]at ha
    cases ha
    rw [Z8]
    exact hb q hx (by simp)
theorem NX {at_ e:Int} {h:Heap} {Q:Value⊕Unit->Heap->Prop} (H:Q (.inl (Uw (at_,e))) h):(ZJ at_ e).wp h Q:=by
 unfold ZJ
 exact KA H
theorem KJ7 {lo b en n:Nat} {h:Heap} {ts:List Tkn} {k:Int} {s:Eb} {Q:Value⊕Unit->Heap->Prop} (R:PRd lo b en h ts n)
  (H1:∀r h',takT en k s ts=.ok r->Kb b h h'->PRd lo b en h' r n->Q (.inr ()) h') (H2:∀e h',takT en k s ts=.error e->Kb b h h'->Q (.inl (Uw e)) h'):(Jh (some ⟨b,0,none⟩) k (bs s)).wp h Q:=by
 unfold Jh
 refine KD (KIu R ?_)
 unfold takT at H1 H2
 cases hi:isT k s ts with
 |false=>
  rw [hi]at H2
  exact iteT rfl (KD (qn R (Zn (NX (H2 _ h rfl (Km.refl _ _))))))
 |true=>
  rw [hi]at H1
  cases ts with
  |nil=>cases hi
  |cons t r=>
   unfold Vm
   exact iteF rfl (KVp R (λh' u R'=>KA (H1 r h' rfl (Km.upd u rfl) R')))
theorem Ui {lo b en n:Nat} {h:Heap} {ts:List Tkn} {s:Eb} {Q:Value⊕Unit->Heap->Prop} (R:PRd lo b en h ts n)
  (H1:∀r h',takT en 4 s ts=.ok r->Kb b h h'->PRd lo b en h' r n->Q (.inr ()) h') (H2:∀e h',takT en 4 s ts=.error e->Kb b h h'->Q (.inl (Uw e)) h'):(KQ (some ⟨b,0,none⟩) (bs s)).wp h Q:=by
 unfold KQ
 exact Zn (KJ7 R (λr h' hr K R'=>KA (H1 r h' hr K R')) H2)
theorem Gi {lo b en n:Nat} {h:Heap} {ts:List Tkn} {k:Int} {Q:Value⊕Ea->Heap->Prop} (R:PRd lo b en h ts n)
  (H1:∀t r h',nxT en k ts=.ok (t,r)->Kb b h h'->PRd lo b en h' r n->Q (.inr t.cells) h') (H2:∀e h',nxT en k ts=.error e->Kb b h h'->Q (.inl (Uw e)) h'):(Ka (some ⟨b,0,none⟩) k).wp h Q:=by
 unfold Ka
 refine Kw (λh1 e1 s1 g1=>?_)
 have R1:=R.ext e1
 obtain⟨x,g,T,hc,hb⟩:=R1.obj
 have c0:KJ h1 ((⟨b,0,none⟩:Addr).add 0)=some x.v:=by rw [add_zero,KF g];rfl
 have hl:=T.1
 have hlo:=R.lh
 refine Kc (Kn c0 ?_)
 rw [eqI]
 cases ts with
 |nil=>
  exact Ve (Ej (by rw [hl];rfl)) (KZ (iteT rfl (KD (qn R1 (Zn (NX (H2 _ h1 rfl (Km.ext e1))))))))
 |cons t r=>
  obtain⟨a,ha,hca⟩:=PRd.head (lo:=lo) (b:=b) (en:=en) (n:=n) T
  have z:a.add ((0:Int).toNat*4)=a:=rfl
  rw [Ef]at hl
  refine Y9 (Eo (by rw [hl];omega)) (KR (Kc (KR (Kn c0 (KR (NM (by decide) (by omega) ha (KR (KV (n:=t.k) (by rw [z];exact hca 0 (by decide)) (KZ ?_)))))))))
  rw [bne,eqI]
  rw [show nxT en k (t::r)=if t.k=k then .ok (t,r)else .error (t.a,160)from rfl]at H1 H2
  refine KH (λhk=>?_) (λhk=>?_)
  ·rw [if_neg (λe=>by rw [Ej e]at hk;cases hk)]at H2
   exact KD (qn R1 (Zn (NX (H2 _ h1 rfl (Km.ext e1)))))
  ·rw [if_pos (EM (λe=>by rw [Eo e]at hk;cases hk))]at H1
   unfold Vn
   refine Kc (Kn c0 (NM (by decide) (by omega) ha (YF (cs:=t.cells) rfl (λi hi=>by rw [z];exact hca i hi) (Kw (λh2 e2 s2 g2=>ZH rfl (stR g2 (Ee 4) (Yc t) (λh3 u3 g3=>?_)))))))
   have g3:h3[h1.size]?=some (.cells t.cells KL (0,0)):=by
    have e:lay tkn0.cells 0 t.cells.toList=t.cells:=by rw [KW (cs:=tkn0.cells) (vs:=t.cells.toList) rfl,EG]
    rw [<-e];exact g3
   have E3:Ext h1 h3:=e2.upd u3 (Ee _)
   refine KVp (R1.ext E3) (λh4 u4 R4=>?_)
   have hbl:=R.lt
   have g4:=(u4.ne h1.size (by omega)).trans g3
   have gz:h4[h.size]?=some (.cells tkn0.cells KL (0,0)):=(u4.ne h.size (by omega)).trans (E3.blk g1)
   refine ldR g4 rfl (Nm (t0:=tkn0) (t:=t) gz (λh5 u5=>KA (H1 t r h5 rfl ?_ (R4.upd u5 hlo))))
   exact((Km.ext (e1.trans E3)).trans u4.kb).own u5 (Ee _)
end Gx
namespace Gx
open Go
theorem KEP {en:Nat} {k:Int} {s:Eb} {ts r:List Tkn} (h:takT en k s ts=.ok r):∃t,ts=t::r/\t.k=k/\t.s=s:=by
 unfold takT at h
 split at h
 ·rename_i hi
  cases ts with
  |nil=>cases hi
  |cons t q=>
   cases h
   unfold isT at hi
   rw [Eg]at hi
   exact⟨t,rfl,Ec hi.1,Ec hi.2⟩
 ·cases h
theorem KIv {en:Nat} {k:Int} {t:Tkn} {ts r:List Tkn} (h:nxT en k ts=.ok (t,r)):ts=t::r/\t.k=k:=by
 cases ts with
 |nil=>cases h
 |cons u q=>
  rw [KBq]at h
  split at h
  ·rename_i hk;cases h;exact⟨rfl,hk⟩
  ·cases h
def KFu (en:Nat) (k:Int) (r:List Tkn):Except (Int×Int) (Vl×List Tkn):=
 match takT en 4 [91] r with
 | .error e=>.error e
 | .ok r1=>match nxT en 2 r1 with
  | .error e=>.error e
  | .ok (t,r2)=>match takT en 4 [93] r2 with
   | .error e=>.error e
   | .ok r3=>.ok (.mk k t.n [] [],r3)
abbrev KFv:Eb:=[116,114,117,101]
abbrev KG2:Eb:=[102,97,108,115,101]
def KC6 (en:Nat):List Tkn->Option (Except (Int×Int) (Vl×List Tkn))
 | []=>none
 |t::r=>
  if t.k=2 then some (.ok (.mk 1 t.n [] [],r))else if t.k=3 then some (.ok (.mk 2 0 t.s [],r))
  else if(isT 1 KFv (t::r)||isT 1 KG2 (t::r))=true then some (.ok (.mk 3 (if t.s=KFv then 1 else 0) [] [],r))
  else if isT 1 [118] (t::r)=true then some (KFu en 6 r)else if isT 1 [101] (t::r)=true then some (KFu en 7 r)else none
theorem Wm {en:Nat} {t:Tkn} {r:List Tkn}:KC6 en (t::r)=if t.k=2 then some (.ok (.mk 1 t.n [] [],r))else if t.k=3 then some (.ok (.mk 2 0 t.s [],r))
  else if(isT 1 KFv (t::r)||isT 1 KG2 (t::r))=true then some (.ok (.mk 3 (if t.s=KFv then 1 else 0) [] [],r))
  else if isT 1 [118] (t::r)=true then some (KFu en 6 r)else if isT 1 [101] (t::r)=true then some (KFu en 7 r)else none:=rfl
def comT (en:Nat) (first:Bool) (ts:List Tkn):Except (Int×Int) (List Tkn):=if first=true then .ok ts else takT en 4 [44] ts
def Xq (pv:List Tkn->Except (Int×Int) (Vl×List Tkn)) (cl:Eb) (two:Bool) (en:Nat):Nat->List Tkn->List Vl->Except (Int×Int) (List Vl×List Tkn)
 |0,_,_=>.error (0,0)
 |f+1,ts,l=>if isT 4 cl ts=true then .ok (l,ts.tail)else
  match comT en l.isEmpty ts with
  | .error e=>.error e
  | .ok ts1=>match pv ts1 with
   | .error e=>.error e
   | .ok (v,ts2)=>if two=true then(match takT en 4 [58] ts2 with
     | .error e=>.error e
     | .ok ts3=>match pv ts3 with
      | .error e=>.error e
      | .ok (w,ts4)=>Xq pv cl two en f ts4 (l++[v]++[w]))else Xq pv cl two en f ts2 (l++[v])
def valT (en:Nat):Nat->List Tkn->Except (Int×Int) (Vl×List Tkn)
 |0,ts=>.error (zZ en ts,160)
 |d+1,ts=>match(match KC6 en ts with
   |some r=>r
   |none=>if isT 4 [91] ts=true then(match Xq (valT en d) [93] false en (ts.tail.length+1) ts.tail []with
     | .error e=>.error e
     | .ok (l,r)=>.ok (.mk 4 0 [] l,r))else if isT 4 [123] ts=true then(match Xq (valT en d) [125] true en (ts.tail.length+1) ts.tail []with
     | .error e=>.error e
     | .ok (l,r)=>.ok (.mk 5 0 [] l,r))else .error (zZ en ts,160))with
  | .error e=>.error e
  | .ok (v,r)=>if mayV 8 v=true then .ok (v,r)else .error (zZ en ts,160)
theorem KPd {en:Nat} {k:Int} {ts r:List Tkn} {v:Vl} (h:KFu en k ts=.ok (v,r)):r.length<ts.length:=by
 unfold KFu at h
 split at h
 ·cases h
 ·rename_i r1 h1
  obtain⟨t1,rfl,_⟩:=KEP h1
  split at h
  ·cases h
  ·rename_i t r2 h2
   obtain⟨rfl,_⟩:=KIv h2
   split at h
   ·cases h
   ·rename_i r3 h3
    obtain⟨t3,rfl,_⟩:=KEP h3
    cases h
    simp only [Ef];omega
theorem KSa {en:Nat} {ts r:List Tkn} {v:Vl} (h:KC6 en ts=some (.ok (v,r))):r.length<ts.length:=by
 cases ts with
 |nil=>cases h
 |cons t q=>
  rw [Wm]at h
  split at h
  ·cases h;simp
  split at h
  ·cases h;simp
  split at h
  ·cases h;simp
  split at h
  ·have:=KPd (Option.some.inj h);rw [Ef];omega
  split at h
  ·have:=KPd (Option.some.inj h);rw [Ef];omega
  ·cases h
theorem KXD {en:Nat} {f:Bool} {ts r:List Tkn} (h:comT en f ts=.ok r):r.length<=ts.length:=by
 unfold comT at h
 split at h
 ·cases h;exact Ee _
 ·obtain⟨t,rfl,_⟩:=KEP h;simp
theorem KND {k:Int} {s:Eb} {ts:List Tkn} (h:isT k s ts=true):ts.tail.length<ts.length:=by
 cases ts with
 |nil=>cases h
 |cons t r=>simp
theorem KHZ {pv:List Tkn->Except (Int×Int) (Vl×List Tkn)} {cl:Eb} {two:Bool} {en:Nat} (hp:∀ts v r,pv ts=.ok (v,r)->r.length<ts.length):∀(f:Nat) (ts:List Tkn) (l l':List Vl) (r:List Tkn),Xq pv cl two en f ts l=.ok (l',r)->r.length<ts.length
 |0,ts,l,l',r,h=>by cases h
 |f+1,ts,l,l',r,h=>by
  rw [Xq]at h
  split at h
  ·rename_i hi;cases h;exact KND hi
  split at h
  ·cases h
  ·rename_i ts1 h1
   have a1:=KXD h1
   split at h
   ·cases h
   ·rename_i v ts2 h2
    have a2:=hp _ _ _ h2
    split at h
    ·split at h
     ·cases h
     ·rename_i ts3 h3
      obtain⟨t3,rfl,_⟩:=KEP h3
      split at h
      ·cases h
      ·rename_i w ts4 h4
       have a4:=hp _ _ _ h4
       have:=KHZ hp f _ _ _ _ h
       rw [Ef]at a2
       omega
    ·have:=KHZ hp f _ _ _ _ h
     omega
theorem KIw {en:Nat}:∀(d:Nat) (ts:List Tkn) (v:Vl) (r:List Tkn),valT en d ts=.ok (v,r)->r.length<ts.length
 |0,ts,v,r,h=>by cases h
 |d+1,ts,v,r,h=>by
  have ih:=KIw (en:=en) d
  rw [valT]at h
  split at h
  ·cases h
  ·rename_i v1 r1 h1
   split at h
   ·cases h
    split at h1
    ·rename_i q hq
     subst h1
     exact KSa hq
    ·split at h1
     ·rename_i hi
      split at h1
      ·cases h1
      ·rename_i l r2 h2
       cases h1
       have:=KHZ ih _ _ _ _ _ h2
       have:=KND hi
       omega
     split at h1
     ·rename_i hi
      split at h1
      ·cases h1
      ·rename_i l r2 h2
       cases h1
       have:=KHZ ih _ _ _ _ _ h2
       have:=KND hi
       omega
     ·cases h1
   ·cases h
theorem KXE {β:Type} {k:IntKind} {cs:Ea} {i:Nat} {n:Int} {f:Int->M β} {h:Heap} {Q:β->Heap->Prop} (hc:cs[i]?=some (.int k n)) (H:(f n).wp h Q):(fdI k cs i>>=f).wp h Q:=⟨n,hc,H⟩
theorem KUZ {β:Type} {cs:Ea} {i:Nat} {n:ByteArray} {f:ByteArray->M β} {h:Heap} {Q:β->Heap->Prop} (hc:cs[i]?=some (.string n)) (H:(f n).wp h Q):(fdS cs i>>=f).wp h Q:=⟨n,hc,H⟩
theorem KNE {h:Heap} {Q:Value⊕(Ea×Bool)->Heap->Prop} {g:Nat} {z cs:Ea} {t:TypeId} {c:Bool} (hg:h[g]?=some (.cells z t (0,0))) (hz:z.size=4) (hc:cs.size=4) (h1:∀v∈cs.toList,one v=true)
  (H:∀h',Upd g h h'->Q (.inr (cs,c)) h'):(M.need (cs.size=4)>>=λ_=>stG ⟨g,0,none⟩ cs>>=λ_=>ldG 4 ⟨g,0,none⟩>>=λr=>(M.pure (.inr (r,c)):M (Value⊕(Ea×Bool)))).wp h Q:=by
 refine ZH hc (stR hg (by omega) h1 (λh' u g'=>?_))
 have hl:lay z 0 cs.toList=cs:=by
  rw [KW (by rw [Ep];omega)]
 rw [hl]at g'
 exact ldR g' hc (KA (H _ u))
theorem KJ8 {lo b en n:Nat} {h h0:Heap} {t0:Tkn} {ts:List Tkn} {k:Int} {g:Nat} {Q:Value⊕(Ea×Bool)->Heap->Prop} (R:PRd lo b en h (t0::ts) n) (ht0:t0.k=1) (hk:I64 k) (E:Ext h0 h) (hlo:lo<=h0.size) (hg0:h0.size<=g) (gz:h[g]?=some (.cells vz KB (0,0)))
  (H1:∀v r h' c,KFu en k ts=.ok (v,r)->Kb b h0 h'->PRd lo b en h' r n->(∀S h2,Zg S h2 v c)->Q (.inr (c,true)) h') (H2:∀e h',KFu en k ts=.error e->Kb b h0 h'->Q (.inl (Uw e)) h'):
  (Jv (some ⟨b,0,none⟩) ⟨g,0,none⟩ k).wp h Q:=by
 unfold Jv
 have hbl:=R.bl
 have K0:Kb b h0 h:=Km.ext E
 refine Zn (Gi R (λt r h1 hn K1 R1=>?_) (λe h1 hn K1=>?_))
 ·obtain⟨e1,_⟩:=KIv hn
  cases e1
  refine Zn (Ui R1 (λr1 h2 hr1 K2 R2=>?_) (λe h2 hr1 K2=>H2 e h2 (by unfold KFu;rw [hr1]) ((K0.trans K1).trans K2)))
  refine Zn (Gi R2 (λt2 r2 h3 hn2 K3 R3=>?_) (λe h3 hn2 K3=>H2 e h3 (by unfold KFu;rw [hr1];dsimp only;rw [hn2]) (((K0.trans K1).trans K2).trans K3)))
  have hI:I64 t2.n:=by
   obtain⟨rfl,_⟩:=KIv hn2
   exact(R2.good t2 (by simp)).2
  refine KXE (n:=t2.n) rfl (Kw (λh4 e4 s4 g4=>ZH rfl (stR g4 (Ee 4) (ZF k t2.n [] Sl.nil) (λh5 u5 g5=>?_))))
  have g5:h5[h3.size]?=some (.cells (ZK k t2.n [] Sl.nil) KB (0,0)):=by
   have e:lay vz 0 (ZK k t2.n [] Sl.nil).toList=ZK k t2.n [] Sl.nil:=KW (cs:=vz) (vs:=(ZK k t2.n [] Sl.nil).toList) rfl
   rw [<-e];exact g5
  have E5:Ext h3 h5:=e4.upd u5 (Ee _)
  have K5:Kb b h0 h5:=(((K0.trans K1).trans K2).trans K3).trans (Km.ext E5)
  refine Zn (Ui (R3.ext E5) (λr3 h6 hr3 K6 R6=>?_) (λe h6 hr3 K6=>H2 e h6 (by unfold KFu;rw [hr1];dsimp only;rw [hn2];dsimp only;rw [hr3]) (K5.trans K6)))
  have hz0:=E.size
  have hlt3:=R3.lt
  have g6:=K6.blk g5 (show ¬h3.size=b by omega)
  have gz6:=((((K1.trans K2).trans K3).trans (Km.ext E5)).trans K6).blk gz (show ¬g=b by omega)
  refine ldR g6 rfl (KNE gz6 rfl rfl (ZF k t2.n [] Sl.nil) (λh7 u7=>H1 (.mk k t2.n [] []) r3 h7 _ ?_ ((K5.trans K6).own u7 hg0) (R6.upd u7 (by omega)) (λS h'=>N4 S h' hk hI (by decide))))
  unfold KFu;rw [hr1];dsimp only;rw [hn2];dsimp only;rw [hr3]
 ·rw [KBq,if_pos ht0]at hn
  cases hn
theorem KOY {lo b en n:Nat} {h:Heap} {ts:List Tkn} {Q:Value⊕(Ea×Bool)->Heap->Prop} (R:PRd lo b en h ts n)
  (H0:∀h',KC6 en ts=none->Kb b h h'->PRd lo b en h' ts n->Q (.inr (vz,false)) h')
  (H1:∀v r h' c,KC6 en ts=some (.ok (v,r))->Kb b h h'->PRd lo b en h' r n->(∀S h2,Zg S h2 v c)->Q (.inr (c,true)) h')
  (H2:∀e h',KC6 en ts=some (.error e)->Kb b h h'->Q (.inl (Uw e)) h'):(VQ (some ⟨b,0,none⟩)).wp h Q:=by
 unfold VQ
 have hlh:=R.lh
 have hbl:=R.bl
 refine Kw (λh1 e1 s1 g1=>?_)
 have R1:=R.ext e1
 obtain⟨x,g,T,hc,hb⟩:=R1.obj
 have c0:KJ h1 ((⟨b,0,none⟩:Addr).add 0)=some x.v:=by rw [add_zero,KF g];rfl
 have hl:=T.1
 have none_:∀{h2:Heap},KC6 en ts=none->Ext h1 h2->(M.need ((vz:Ea).size=4)>>=λ_=>stG ⟨h.size,0,none⟩ vz>>=λ_=>ldG 4 ⟨h.size,0,none⟩>>=λr=>(M.pure (.inr (r,false)):M (Value⊕(Ea×Bool)))).wp h2 Q:=λ{h2} hp E2=>
  KNE (E2.blk g1) rfl rfl (ZF 0 0 [] Sl.nil) (λh3 u3=>H0 h3 hp ((Km.ext (e1.trans E2)).own u3 (Ee _)) ((R1.ext E2).upd u3 hlh))
 refine Kc (Kn c0 ?_)
 rw [eqI]
 cases ts with
 |nil=>exact iteT (Ej (by rw [hl];rfl)) (none_ rfl (Ext.refl _))
 |cons t r=>
  obtain⟨a,ha,hca⟩:=PRd.head (lo:=lo) (b:=b) (en:=en) (n:=n) T
  have z:a.add ((0:Int).toNat*4)=a:=rfl
  rw [Ef]at hl
  obtain⟨htok,hI⟩:=R.good t (by simp)
  refine iteF (Eo (by rw [hl];omega)) (Kc (Kn c0 (NM (by decide) (by omega) ha (YF (cs:=t.cells) rfl (λi hi=>by rw [z];exact hca i hi) (Kw (λh2 e2 s2 g2=>ZH rfl (stR g2 (Ee 4) (Yc t) (λh3 u3 g3=>?_))))))))
  have g3:h3[h1.size]?=some (.cells t.cells KL (0,0)):=by
   have e:lay tkn0.cells 0 t.cells.toList=t.cells:=by rw [KW (cs:=tkn0.cells) (vs:=t.cells.toList) rfl,EG]
   rw [<-e];exact g3
  have E3:Ext h1 h3:=e2.upd u3 (Ee _)
  have R3:=R1.ext E3
  have gz:=E3.blk g1
  have cK:KJ h3 ((⟨h1.size,0,none⟩:Addr).add 0)=some (.int .i64 t.k):=by rw [add_zero,KF g3];rfl
  have E03:=e1.trans E3
  rw [Wm]at H0 H1 H2 none_
  have nx:∀{h4:Heap} {F:Ea->M (Value⊕(Ea×Bool))} {k:Int},k=t.k->Ext h3 h4->PRd lo b en h4 (t::r) n->(∀h5,Kb b h4 h5->PRd lo b en h5 r n->h5[h.size]?=some (.cells vz KB (0,0))->(F t.cells).wp h5 Q)->(thr (Ka (some ⟨b,0,none⟩) k) F).wp h4 Q:=λ{h4 F k} hk E4 R4 HF=>by
   subst hk
   refine Zn (Gi R4 (λt' r' h5 hn K5 R5=>?_) (λe h5 hn K5=>?_))
   ·obtain⟨e,_⟩:=KIv hn
    cases e
    exact HF h5 K5 R5 (K5.blk (E4.blk gz) (by omega))
   ·rw [KBq,if_pos rfl]at hn
    cases hn
  refine KV cK ?_
  rw [eqI]
  refine KH (λk2=>?_) (λk2=>?_)
  ·rw [if_pos (Ec k2)]at H1
   refine KV cK (nx rfl (Ext.refl _) R3 (λh5 K5 R5 gz5=>KXE (n:=t.n) rfl (KVc (λh6 e6=>KNE (e6.blk gz5) rfl rfl (ZF 1 t.n [] Sl.nil) (λh7 u7=>H1 _ r h7 _ rfl ((((Km.ext E03).trans K5).trans (Km.ext e6)).own u7 (Ee _)) ((R5.ext e6).upd u7 hlh) (λS h'=>N4 S h' ⟨by decide,by decide⟩ hI (by decide)))))))
  rw [if_neg (Ed k2)]at H0 H1 H2 none_
  refine KV cK ?_
  rw [eqI]
  refine KH (λk3=>?_) (λk3=>?_)
  ·rw [if_pos (Ec k3)]at H1
   have hsl:=KPc htok
   refine KV cK (nx rfl (Ext.refl _) R3 (λh5 K5 R5 gz5=>KUZ (n:=bs t.s) rfl (KVd (λh6 e6=>KNE (e6.blk gz5) rfl rfl (ZF 2 0 t.s Sl.nil) (λh7 u7=>H1 _ r h7 _ rfl ((((Km.ext E03).trans K5).trans (Km.ext e6)).own u7 (Ee _)) ((R5.ext e6).upd u7 hlh) (λS h'=>N4 S h' ⟨by decide,by decide⟩ ⟨by decide,by decide⟩ (by omega)))))))
  rw [if_neg (Ed k3)]at H0 H1 H2 none_
  refine KD (KIu (s:=KFv) R3 ?_)
  refine or_b (c:=isT 1 KG2 (t::r)) (λ_ Q' hq=>KD (KIu (s:=KG2) R3 (KA hq))) ?_
  refine KH (λkb=>?_) (λkb=>?_)
  ·rw [if_pos kb]at H1
   refine KV cK (nx rfl (Ext.refl _) R3 (λh5 K5 R5 gz5=>KUZ (n:=bs t.s) rfl ?_))
   rw [show sEq (bs t.s) (⟨#[116,114,117,101]⟩:ByteArray)=decide (t.s=KFv)from KC4 t.s KFv]
   refine KOI (λh6 e6=>KNE (e6.blk gz5) rfl rfl (ZF 3 _ [] Sl.nil) (λh7 u7=>H1 _ r h7 _ rfl ((((Km.ext E03).trans K5).trans (Km.ext e6)).own u7 (Ee _)) ((R5.ext e6).upd u7 hlh) (λS h'=>?_)))
   have:(if decide (t.s=KFv)=true then(1:Int)else 0)=if t.s=KFv then 1 else 0:=by
    by_cases hh:t.s=KFv
    ·rw [if_pos hh,if_pos (Ej hh)]
    ·rw [if_neg hh,if_neg (by rw [Eo hh];decide)]
   rw [this]
   exact N4 S h' ⟨by decide,by decide⟩ (by split<;>exact⟨by decide,by decide⟩) (by decide)
  rw [if_neg (by rw [kb];decide)]at H0 H1 H2 none_
  have hk1:∀{w:Eb},isT 1 w (t::r)=true->t.k=1:=λ{w} hw=>by
   unfold isT at hw
   rw [Eg]at hw
   exact Ec hw.1
  refine KD (KIu (s:=[118]) R3 (KH (λkv=>?_) (λkv=>?_)))
  ·rw [if_pos kv]at H1 H2
   exact KJ8 R3 (hk1 kv) ⟨by decide,by decide⟩ E03 hlh (Ee _) gz (λv r' h' c hv K' R' V=>H1 v r' h' c (by rw [hv]) K' R' V) (λe h' hv K'=>H2 e h' (by rw [hv]) K')
  rw [if_neg (by rw [kv];decide)]at H0 H1 H2 none_
  refine KD (KIu (s:=[101]) R3 (KH (λke=>?_) (λke=>?_)))
  ·rw [if_pos ke]at H1 H2
   exact KJ8 R3 (hk1 ke) ⟨by decide,by decide⟩ E03 hlh (Ee _) gz (λv r' h' c hv K' R' V=>H1 v r' h' c (by rw [hv]) K' R' V) (λe h' hv K'=>H2 e h' (by rw [hv]) K')
  rw [if_neg (by rw [ke];decide)]at H0 H1 H2 none_
  exact none_ rfl E3
end Gx
namespace Gx
open Go
def KVq (en d:Nat):Prop:=∀(ts:List Tkn) (n:Nat) (h:Heap) (Q:Value⊕Ea->Heap->Prop) (lo b:Nat),PRd lo b en h ts n->
 (∀v r h' c,valT en d ts=.ok (v,r)->Kb b h h'->PRd lo b en h' r n->Zg (HS h h') h' v c->Q (.inr c) h')->
 (∀e h',valT en d ts=.error e->Kb b h h'->Q (.inl (Uw e)) h')->(Kj (some ⟨b,0,none⟩) ((9 - d:Nat):Int)).wp h Q
theorem KOZ {α:Type} (l:List α):l.isEmpty=!decide ((l.length:Int)>0):=by
 cases l with
 |nil=>rfl
 |cons a r=>rw [Ej (by rw [Ef];omega)];rfl
theorem KQt {en d:Nat} (hd:d<=7) (IH:KVq en d) {cl:Eb} {two:Bool} {ts:List Tkn} {n lo b:Nat} {h:Heap} {Q:Value⊕Sl->Heap->Prop} (R:PRd lo b en h ts n)
  (H1:∀l r h' x,Xq (valT en d) cl two en (ts.length+1) ts []=.ok (l,r)->Kb b h h'->PRd lo b en h' r n->VsRepS (HS h h') h' x l->Q (.inr x) h')
  (H2:∀e h',Xq (valT en d) cl two en (ts.length+1) ts []=.error e->Kb b h h'->Q (.inl (Uw e)) h'):
  (Gd (some ⟨b,0,none⟩) (bs cl) two ((8 - d:Nat):Int)).wp h Q:=by
 unfold Gd
 have hP:=KIw (en:=en) d
 have hlh:=R.lh
 have hbl:=R.bl
 have hsm:=R.small
 refine M.loop_inv (λ(x:Sl) hh=>∃(l:List Vl) (css:List (Ea)) (f:Nat) (ts':List Tkn),ts'.length<f/\l.length+ts'.length<=ts.length/\Kb b h hh/\PRd lo b en hh ts' n/\VGw h.size (λk=>h.size<=k/\k<hh.size/\¬Sl.on x k) hh x css l/\Xq (valT en d) cl two en f ts' l=Xq (valT en d) cl two en (ts.length+1) ts [])
  (λx _=>ts.length+1 - x.len) ?_ ⟨[],[],_,ts,EH _,by simp,Km.refl _ _,R,VGw.nil _ _ _,rfl⟩
 rintro x hh ⟨l,css,f,ts',hf,hli,K,R',G,hm⟩ self hself
 have hxl:x.len=l.length:=by rw [G.gw.len4 G.w4,G.len]
 obtain⟨f,rfl⟩:∃g,f=g+1:=⟨f - 1,by omega⟩
 rw [Xq]at hm
 have hKs:=K.size
 unfold Y6
 refine KD (KIu R' ?_)
 refine KH (λhne=>?_) (λheq=>?_)
 ·have hne:isT 4 cl ts'=false:=by simpa using hne
  rw [if_neg (by rw [hne];decide)]at hm
  have one_:∀{l2:List Vl} {css2:List (Ea)} {ts2:List Tkn} {h2:Heap} {x2:Sl} {Qs:Value⊕Sl->Heap->Prop} {F:Sl->M (Value⊕Sl)},l2.length<=1099511627776->Kb b h h2->PRd lo b en h2 ts2 n->VGw h.size (λk=>h.size<=k/\k<h2.size/\¬Sl.on x2 k) h2 x2 css2 l2->
    (∀v r h3 x3 css3,valT en d ts2=.ok (v,r)->Kb b h h3->PRd lo b en h3 r n->VGw h.size (λk=>h.size<=k/\k<h3.size/\¬Sl.on x3 k) h3 x3 css3 (l2++[v])->(F x3).wp h3 Qs)->
    (∀e h3,valT en d ts2=.error e->Kb b h h3->Qs (.inl (Uw e)) h3)->
    (thr (Gr Tryz.prog ZU #[.pointer (some ⟨b,0,none⟩),.int .i64 (IntKind.wrap .i64 (((8 - d:Nat):Int)+1))] (λr:Ea=>.agg r)) λXx24=>
     (Xs 4 1 (#[.int .i64 0,.int .i64 0,.string ByteArray.empty,.slice none 0 0]:Ea) [(0,.agg Xx24)]>>=λy=>bdL KB 1 y>>=λx=>apL KB 4 56 (#[.int .i64 0,.int .i64 0,.string ByteArray.empty,.slice none 0 0]:Ea) x2 x>>=F)).wp h2 Qs:=by
   intro l2 css2 ts2 h2 x2 Qs F hli2 K2 R2 G2 HF HE
   rw [w64 (by omega) (by omega),show(((8 - d:Nat):Int)+1)=((9 - d:Nat):Int) by omega]
   have hK2:=K2.size
   refine Zn (KEV (Vq _ _) (IH ts2 n h2 _ lo b R2 (λv r h3 c hv K3 R3 V3=>?_) (λe h3 hv K3=>HE e h3 hv (K2.trans K3))))
   have hK3:=K3.size
   have G3:VGw h.size (λk=>h.size<=k/\k<h3.size/\¬Sl.on x2 k) h3 x2 css2 l2:=
    (G2.same (λk hk=>K3.same k (G2.gw.lt hk).1 (λe=>by have:=(G2.gw.lt hk).2;omega)) (λk hk=>K3.same k hk.2.1 (λe=>by have:=hk.1;omega))).mono (λk hk=>⟨hk.1,by have:=hk.2.1;omega,hk.2.2⟩)
   refine KOH G3 (λk hk=>hk.2) (V3.mono (λk hk=>⟨by have:=hk.1;omega,hk.2,λho=>by have:=(G2.gw.lt ho).1;have:=hk.1;omega⟩)) (by omega) (by omega) (λh4 x4 G4 hs4 same4 on4=>?_)
   refine HF v r h4 x4 _ hv ⟨by omega,λk hk hkb=>(same4 k (by omega) (λho=>by have:=(G2.gw.lt ho).2;omega)).trans ((K2.trans K3).same k hk hkb)⟩ (R3.same hs4 (λk hk=>same4 k (by have:=R3.lh;omega) (λho=>by have:=(G2.gw.lt ho).2;omega))) (G4.mono (λk hk=>⟨hk.1,by have:=hk.2.1;omega,λho=>(on4 k ho).elim hk.2.2 (λh=>by have:=hk.2.1;omega)⟩))
  have body:∀(ts1:List Tkn) (h2:Heap),ts1.length<=ts'.length->Kb b h h2->PRd lo b en h2 ts1 n->VGw h.size (λk=>h.size<=k/\k<h2.size/\¬Sl.on x k) h2 x css l->
    (match valT en d ts1 with
     | .error e=>.error e
     | .ok (v,ts2)=>if two=true then(match takT en 4 [58] ts2 with
       | .error e=>.error e
       | .ok ts3=>match valT en d ts3 with
        | .error e=>.error e
        | .ok (w,ts4)=>Xq (valT en d) cl two en f ts4 (l++[v]++[w]))else Xq (valT en d) cl two en f ts2 (l++[v]))=Xq (valT en d) cl two en (ts.length+1) ts []->
    (UP self (some ⟨b,0,none⟩) two ((8 - d:Nat):Int) x).wp h2 Q:=by
   intro ts1 h2 hle K2 R2 G2 hm2
   unfold UP
   refine one_ (by omega) K2 R2 G2 (λv r h3 x3 css3 hv K3 R3 G3=>?_) (λe h3 hv K3=>?_)
   ·have hvj:=hP _ _ _ hv
    rw [hv]at hm2
    dsimp only at hm2
    have hx3:x3.len=(l++[v]).length:=by rw [G3.gw.len4 G3.w4,G3.len]
    rw [List.length_append,List.length_singleton]at hx3
    cases two with
    |false=>
     rw [if_neg (by decide)]at hm2
     exact iteF rfl (hself _ _ ⟨l++[v],css3,f,r,by omega,by rw [List.length_append,List.length_singleton];omega,K3,R3,G3,hm2⟩ (by omega))
    |true=>
     rw [if_pos rfl]at hm2
     refine iteT rfl (Zn (Ui (s:=[58]) R3 (λr2 h4 hr2 K4 R4=>?_) (λe h4 hr2 K4=>?_)))
     ·obtain⟨tc,rfl,_⟩:=KEP hr2
      rw [hr2]at hm2
      dsimp only at hm2
      rw [Ef]at hvj
      have hK4:=K4.size
      have G4:VGw h.size (λk=>h.size<=k/\k<h4.size/\¬Sl.on x3 k) h4 x3 css3 (l++[v]):=
       (G3.same (λk hk=>K4.same k (G3.gw.lt hk).1 (λe=>by have:=(G3.gw.lt hk).2;omega)) (λk hk=>K4.same k hk.2.1 (λe=>by have:=hk.1;omega))).mono (λk hk=>⟨hk.1,by have:=hk.2.1;omega,hk.2.2⟩)
      refine one_ (by rw [List.length_append,List.length_singleton];omega) (K3.trans K4) R4 G4 (λw r3 h5 x5 css5 hw K5 R5 G5=>?_) (λe h5 hw K5=>?_)
      ·have hwj:=hP _ _ _ hw
       rw [hw]at hm2
       dsimp only at hm2
       have hx5:x5.len=(l++[v]++[w]).length:=by rw [G5.gw.len4 G5.w4,G5.len]
       rw [List.length_append,List.length_append,List.length_singleton,List.length_singleton]at hx5
       exact hself _ _ ⟨l++[v]++[w],css5,f,r3,by omega,by rw [List.length_append,List.length_append,List.length_singleton,List.length_singleton];omega,K5,R5,G5,hm2⟩ (by omega)
      ·rw [hw]at hm2
       exact H2 e h5 hm2.symm K5
     ·rw [hr2]at hm2
      exact H2 e h4 hm2.symm (K3.trans K4)
   ·rw [hv]at hm2
    exact H2 e h3 hm2.symm K3
  unfold comT at hm
  rw [KOZ]at hm
  rw [hxl]
  refine KH (λhpos=>?_) (λhz=>?_)
  ·rw [hpos,if_neg (by decide)]at hm
   refine Zn (Ui (s:=[44]) R' (λr h2 hr K2 R2=>?_) (λe h2 hr K2=>?_))
   ·obtain⟨tc,rfl,_⟩:=KEP hr
    rw [hr]at hm
    have hK2:=K2.size
    exact body r h2 (by simp) (K.trans K2) R2 ((G.same (λk hk=>K2.same k (G.gw.lt hk).1 (λe=>by have:=(G.gw.lt hk).2;omega)) (λk hk=>K2.same k hk.2.1 (λe=>by have:=hk.1;omega))).mono (λk hk=>⟨hk.1,by have:=hk.2.1;omega,hk.2.2⟩)) hm
   ·rw [hr]at hm
    exact H2 e h2 hm.symm (K.trans K2)
  ·rw [hz,if_pos (show(!false)=true from rfl)]at hm
   exact body ts' hh (Ee _) K R' G hm
 ·have heq:isT 4 cl ts'=true:=by simpa using heq
  rw [if_pos heq]at hm
  refine Zn (Ui R' (λr h2 hr K2 R2=>?_) (λe h2 hr K2=>?_))
  ·unfold takT at hr
   rw [if_pos heq]at hr
   cases hr
   have hK2:=K2.size
   have hl9:l.length<=9223372036854775807:=by omega
   refine KA (H1 l ts'.tail h2 x hm.symm (K.trans K2) R2 ?_)
   refine(G.rep_ hl9).same (λk hk=>K2.same k ?_ ?_) (λk hk=>⟨?_,?_⟩)
   all_goals (rcases hk with hk|hk)
   ·exact hk.2.1
   ·exact(G.gw.lt hk).1
   ·intro e;have:=hk.1;omega
   ·intro e;have:=(G.gw.lt hk).2;omega
   ·exact hk.1
   ·exact(G.gw.lt hk).2
   ·have:=hk.2.1;omega
   ·have:=(G.gw.lt hk).1;omega
  ·unfold takT at hr
   rw [if_pos heq]at hr
   cases hr
theorem KUa {v:Vl} {h:Heap} {Q:Bool->Heap->Prop} {x:Ea} (hx:VRep h v x) (H:∀h',Ext h h'->Q (!mayV 8 v) h'):(XE x).wp h Q:=by
 unfold XE
 refine Kw (λh1 e1 s1 g1=>ldR g1 hx.size (KD (KIT (hx.ext e1) (λh2 e2=>KA ?_))))
 have:=H _ (e1.trans e2)
 unfold KFn
 cases hm:mayV 8 v<;>(rw [hm]at this;exact this)
theorem KEQ (en:Nat):∀d,d<=8->KVq en d
 |0,_=>λts n h Q lo b R H1 H2=>by
  unfold Kj
  refine Kw (λh1 e1 hs1 g1=>KD (qn (R.ext e1) (iteT (by rfl) (Zn (NX (H2 _ h1 rfl (Km.ext e1)))))))
 |d+1,hd=>λts n h Q lo b R H1 H2=>by
  have IH:=KEQ en d (by omega)
  unfold Kj
  have hlh:=R.lh
  have hbl:=R.bl
  refine Kw (λh1 e1 hs1 g1=>KD (qn (R.ext e1) (iteF (Eo (by omega)) ?_)))
  have R1:=R.ext e1
  unfold VT
  rw [valT]at H1 H2
  have K1:Kb b h h1:=Km.ext e1
  have fin:∀{v:Vl} {r:List Tkn} {c:Ea} {g:Nat} {h2:Heap},(∀e h',(if mayV 8 v=true then(.ok (v,r):Except (Int×Int) (Vl×List Tkn))else .error (zZ en ts,160))=.error e->Kb b h h'->Q (.inl (Uw e)) h')->
    (∀v' r' h' c',(if mayV 8 v=true then(.ok (v,r):Except (Int×Int) (Vl×List Tkn))else .error (zZ en ts,160))=.ok (v',r')->Kb b h h'->PRd lo b en h' r' n->Zg (HS h h') h' v' c'->Q (.inr c') h')->
    Kb b h1 h2->PRd lo b en h2 r n->h2[g]?=some (.cells c KB (0,0))->Zg (λk=>h1.size<=k/\k<h2.size/\k≠g) h2 v c->h1.size<=g->(ZY ⟨h.size,0,none⟩ (zZ en ts) ⟨g,0,none⟩).wp h2 Q:=λ{v r c g h2} HE HO K2 R2 gg V2 hg=>by
   unfold ZY
   refine ldR gg V2.size (KD (KUa V2.to (λh3 e3=>?_)))
   have K3:=(K1.trans K2).trans (Km.ext e3)
   cases hm:mayV 8 v with
   |false=>
    rw [hm]at HE
    exact iteT rfl (Zn (NX (HE _ h3 rfl K3)))
   |true=>
    rw [hm]at HO
    unfold VS
    have g3:=e3.blk gg
    have gz3:h3[h.size]?=some (.cells vz KB (0,0)):=e3.blk (K2.blk g1 (by omega))
    refine iteF rfl (ldR g3 V2.size (KRy gz3 rfl V2.size V2.to.one (λh4 u4=>HO v r h4 c rfl (K3.own u4 (Ee _)) ((R2.ext e3).upd u4 hlh) ?_)))
    have hz2:=K2.size
    have hz3:=e3.size
    have hz4:=u4.size
    exact(V2.same (λk hk=>(u4.ne k (by have:=hk.1;omega)).trans (e3.same k hk.2.1))).mono (λk hk=>⟨by have:=hk.1;omega,by have:=hk.2.1;omega⟩)
  refine Zn (KOY R1 (λh2 hp K2 R2=>?_) (λv r h2 c hp K2 R2 V2=>?_) (λe h2 hp K2=>H2 e h2 (by rw [hp]) (K1.trans K2)))
  ·rw [hp]at H1 H2
   dsimp only at H1 H2
   refine Kw (λh3 e3 hs3 g3=>ZH rfl (stR g3 (Ee 4) (ZF 0 0 [] Sl.nil) (λh4 u4 g4=>iteF rfl ?_)))
   have g4:h4[h2.size]?=some (.cells vz KB (0,0)):=by
    have e:lay vz 0 (vz:Ea).toList=vz:=KW (cs:=vz) (vs:=(vz:Ea).toList) rfl
    rw [<-e];exact g4
   have E4:Ext h2 h4:=e3.upd u4 (Ee _)
   have R4:=R2.ext E4
   have K4:=K2.trans (Km.ext E4)
   have hz2:=K2.size
   have hz4:=E4.size
   have hlt2:=R2.lt
   have coll:∀{cl:Eb} {two:Bool} {k:Int} {op:Eb} {F:Sl->M (Value⊕Ea)},I64 k->isT 4 op ts=true->
     (∀e h',Xq (valT en d) cl two en (ts.tail.length+1) ts.tail []=.error e->Kb b h h'->Q (.inl (Uw e)) h')->
     (∀l r h5 x,Xq (valT en d) cl two en (ts.tail.length+1) ts.tail []=.ok (l,r)->Kb b h4 h5->PRd lo b en h5 r n->VsRepS (HS h4 h5) h5 x l->(F x).wp h5 Q)->
     (thr (KQ (some ⟨b,0,none⟩) (bs op)) λx27=>thr (Gr Tryz.prog UD #[.pointer (some ⟨b,0,none⟩),.string (bs cl),.bool two,.int .i64 ((9 - (d+1):Nat):Int)] (λr:Sl=>(r:Sl).v)) F).wp h4 Q:=λ{cl two k op F} hk hop HE HF=>by
    refine Zn (Ui R4 (λr h5 hr K5 R5=>?_) (λe h5 hr K5=>?_))
    ·unfold takT at hr
     rw [if_pos hop]at hr
     cases hr
     rw [show((9 - (d+1):Nat):Int)=((8 - d:Nat):Int) by omega]
     refine Zn (KEV (KEG _ _ _ _) (KQt (by omega) IH R5 (λl r h6 x hl K6 R6 V6=>HF l r h6 x hl (K5.trans K6) R6 (V6.same (λ_ _=>rfl) (λk hk=>⟨by have:=hk.1;have:=K5.size;omega,hk.2⟩))) (λe h6 hl K6=>HE e h6 hl (((K1.trans K4).trans K5).trans K6))))
    ·unfold takT at hr
     rw [if_pos hop]at hr
     cases hr
   have put:∀{k:Int} {l:List Vl} {r:List Tkn} {h5:Heap} {x:Sl},I64 k->(∀e h',(if mayV 8 (.mk k 0 [] l)=true then(.ok (.mk k 0 [] l,r):Except (Int×Int) (Vl×List Tkn))else .error (zZ en ts,160))=.error e->Kb b h h'->Q (.inl (Uw e)) h')->
     (∀v' r' h' c',(if mayV 8 (.mk k 0 [] l)=true then(.ok (.mk k 0 [] l,r):Except (Int×Int) (Vl×List Tkn))else .error (zZ en ts,160))=.ok (v',r')->Kb b h h'->PRd lo b en h' r' n->Zg (HS h h') h' v' c'->Q (.inr c') h')->
     Kb b h4 h5->PRd lo b en h5 r n->VsRepS (HS h4 h5) h5 x l->(M.need ((#[.int .i64 k,.int .i64 0,.string ByteArray.empty,(x:Sl).v]:Ea).size=4)>>=λ_=>stG ⟨h2.size,0,none⟩ (#[.int .i64 k,.int .i64 0,.string ByteArray.empty,(x:Sl).v]:Ea)>>=λ_=>ZY ⟨h.size,0,none⟩ (zZ en ts) ⟨h2.size,0,none⟩:M (Value⊕Ea)).wp h5 Q:=λ{k l r h5 x} hk HE HO K5 R5 V5=>by
    have g5:=K5.blk g4 (show ¬h2.size=b by omega)
    have hz5:=K5.size
    refine ZH rfl (stR g5 (Ee 4) (ZF k 0 [] x) (λh6 u6 g6=>?_))
    have g6:h6[h2.size]?=some (.cells (ZK k 0 [] x) KB (0,0)):=by
     have e:lay vz 0 (ZK k 0 [] x).toList=ZK k 0 [] x:=KW (cs:=vz) (vs:=(ZK k 0 [] x).toList) rfl
     rw [<-e];exact g6
    have hlt4:h2.size<h4.size:=JV g4
    refine fin HE HO ((K4.trans K5).own u6 (by omega)) (R5.upd u6 (by have:=R2.lh;omega)) g6 (KFo hk ⟨by decide,by decide⟩ (V5.same (λk hk=>u6.ne k (by have:=hk.1;omega)) (λk hk=>⟨by have:=hk.1;omega,by have:=hk.2;have:=u6.size;omega,by have:=hk.1;omega⟩))) (by omega)
   refine KD (KIu (s:=[91]) R4 (KH (λhb1=>?_) (λhb1=>?_)))
   ·rw [if_pos hb1]at H1 H2
    refine coll (op:=[91]) (cl:=[93]) (two:=false) (k:=4) ⟨by decide,by decide⟩ hb1 (λe h' hl K'=>H2 e h' (by rw [hl]) K') (λl r h5 x hl K5 R5 V5=>?_)
    rw [hl]at H1 H2
    exact put ⟨by decide,by decide⟩ H2 H1 K5 R5 V5
   rw [if_neg (by rw [hb1];decide)]at H1 H2
   refine KD (KIu (s:=[123]) R4 (KH (λhb2=>?_) (λhb2=>?_)))
   ·rw [if_pos hb2]at H1 H2
    refine coll (op:=[123]) (cl:=[125]) (two:=true) (k:=5) ⟨by decide,by decide⟩ hb2 (λe h' hl K'=>H2 e h' (by rw [hl]) K') (λl r h5 x hl K5 R5 V5=>?_)
    rw [hl]at H1 H2
    exact put ⟨by decide,by decide⟩ H2 H1 K5 R5 V5
   rw [if_neg (by rw [hb2];decide)]at H2
   exact Zn (NX (H2 _ h4 rfl (K1.trans K4)))
  ·rw [hp]at H1 H2
   dsimp only at H1 H2
   refine Kw (λh3 e3 hs3 g3=>ZH (V2 (λ_=>True) h2).size (stR g3 (by rw [(V2 (λ_=>True) h2).size];exact Ee 4) (V2 (λ_=>True) h2).to.one (λh4 u4 g4=>iteT rfl ?_)))
   rw [KW (cs:=vz) (vs:=c.toList) (by rw [Ep,(V2 (λ_=>True) h2).size];rfl),EG]at g4
   have E4:Ext h2 h4:=e3.upd u4 (Ee _)
   exact fin H2 H1 (K2.trans (Km.ext E4)) (R2.ext E4) g4 (V2 _ _) (by have:=K2.size;omega)
end Gx
namespace Gx
open Go
def splW:Eb->List (Eb)
 | []=>[[]]
 |c::r=>if c=32 then []::splW r else match splW r with
  | []=>[[c]]
  |w::ws=>(c::w)::ws
theorem KOa:∀s,splW s≠[]
 | []=>by simp [splW]
 |c::r=>by
  rw [splW]
  split
  ·simp
  ·split<;>simp
theorem KSb:∀s:Eb,(if(32:UInt8)∈s then ∃a r,s=a++32::r/\Lib.indexByte s 32=(a.length:Int)/\splW s=a::splW r else Lib.indexByte s 32=-1/\splW s=[s])
 | []=>by simp [Lib.indexByte,splW]
 |c::r=>by
  have ih:=KSb r
  by_cases hc:c=32
  ·subst hc
   rw [if_pos (by simp)]
   exact⟨[],r,rfl,by simp [Lib.indexByte],by rw [splW,if_pos rfl]⟩
  ·have hb:(c==32)=false:=by simpa using hc
   have hm:((32:UInt8)∈c::r)↔(32:UInt8)∈r:=by
    rw [ED]
    exact⟨λh=>h.elim (λe=>absurd e.symm hc) id,.inr⟩
   by_cases hr:(32:UInt8)∈r
   ·rw [if_pos hr]at ih
    rw [if_pos (hm.2 hr)]
    obtain⟨a,q,h1,h2,h3⟩:=ih
    refine⟨c::a,q,by rw [h1];rfl,?_,?_⟩
    ·rw [Lib.indexByte,hb,h2]
     have:¬((a.length:Int)== -1)=true:=by simp
     simp only [Im,IF]
     rw [if_neg this];simp
    ·rw [splW,if_neg hc,h3]
   ·rw [if_neg hr]at ih
    rw [if_neg (λh=>hr (hm.1 h))]
    refine⟨?_,?_⟩
    ·rw [Lib.indexByte,hb,ih.1];simp
    ·rw [splW,if_neg hc,ih.2]
theorem KHa:∀s:Eb,(splW s).length=Lib.countByte s 32+1
 | []=>rfl
 |c::r=>by
  have ih:=KHa r
  unfold Lib.countByte at ih⊢
  rw [splW]
  by_cases hc:c=32
  ·subst hc
   rw [if_pos rfl,Ef,ih,List.count_cons_self]
  ·rw [if_neg hc,List.count_cons_of_ne hc]
   have:=KOa r
   split
   ·rename_i h;exact absurd h this
   ·rename_i w ws h;rw [h]at ih;rw [<-ih];rfl
def idxW:List (Eb)->Eb->Nat
 | [],_=>0
 |a::r,w=>if w=a then 1 else if idxW r w=0 then 0 else idxW r w+1
theorem KSc (z:Ea) (n:Nat):(zRow z n).size=n:=by unfold zRow;simp
theorem KJ9 {s:Eb} {h:Heap} {Q:Sl->Heap->Prop} (hs:s.length<=1073741824) (H:∀h' x,Ext h h'->x.len=(splW s).length->KAI h' x.base ((splW s).map sv)->Q x h'):(YY (bs s) (⟨#[32]⟩:ByteArray)).wp h Q:=by
 unfold YY XM
 have hN:=KHa s
 have hcl:Lib.countByte s 32<=s.length:=IX
 refine KD (iteF rfl (iteF ?_ (iteT rfl (KD ⟨32,rfl,?_⟩))))
 ·show sEq (bs [32]) ByteArray.empty=false
  rw [sEq0];rfl
 rw [show(bs s).data.toList=s by simp [bs]]
 unfold Wc
 rw [Ke]
 obtain⟨N,hNe⟩:∃N,N=(splW s).length:=⟨_,rfl⟩
 have hmin:iMin (IntKind.wrap .i64 (((Lib.countByte s 32:Nat):Int)+1)) (IntKind.wrap .i64 ((s.length:Int)+1))=(N:Int):=by
  rw [w64 (by omega) (by omega),w64 (by omega) (by omega)]
  unfold iMin
  split<;>omega
 rw [hmin,w64 (by omega) (by omega)]
 refine⟨by omega,by omega,by omega,by omega,?_⟩
 have e1:=Ext.push h (.cells (zRow (#[.string ByteArray.empty]:Ea) ((N:Int).toNat*1)) ZW)
 have g1:(h.push (.cells (zRow (#[.string ByteArray.empty]:Ea) ((N:Int).toNat*1)) ZW))[h.size]?=some (.cells (zRow (#[.string ByteArray.empty]:Ea) ((N:Int).toNat*1)) ZW (0,0)):=Kx
 have hsz:(zRow (#[.string ByteArray.empty]:Ea) ((N:Int).toNat*1)).size=N:=by rw [KSc];omega
 generalize zRow (#[.string ByteArray.empty]:Ea) ((N:Int).toNat*1)=C0 at e1 g1 hsz⊢
 generalize h.push (.cells C0 ZW)=h1 at e1 g1⊢
 rw [show((N:Int).toNat)=N from rfl]
 refine M.loop_inv (λ(x:ByteArray×Int) hh=>∃(i:Nat) (rest:Eb) (C:Ea),x=(bs rest,(i:Int))/\Ext h hh/\hh[h.size]?=some (.cells C ZW (0,0))/\C.size=N/\i+(splW rest).length=N/\rest.length<=s.length/\(splW s).drop i=splW rest/\∀j,j<i->C[j]?=((splW s).map sv)[j]?)
  (λx _=>N - x.2.toNat) ?_ ⟨0,s,C0,rfl,e1,g1,hsz,by omega,Ee _,rfl,λj hj=>by omega⟩
 rintro x hh ⟨i,rest,C,rfl,E,g,hC,hi,hr,hd,hdone⟩ self hself
 have hne:=KOa rest
 have hpos:0<(splW rest).length:=Fl.2 hne
 have cell:∀{j:Nat},j<N->∃v,KJ hh ((⟨h.size,0,none⟩:Addr).add ((j:Int).toNat*1))=some v:=λ{j} hj=>by
  rw [KM,KF g,show 0+(j:Int).toNat*1=j by omega]
  exact⟨_,EF (by omega)⟩
 have last:splW rest=[rest]->(Up ⟨some ⟨h.size,0,none⟩,N,N⟩ (bs rest) (i:Int)).wp hh Q:=λh1r=>by
  have hi1:i+1=N:=by rw [h1r]at hi;simpa using hi
  unfold Up
  obtain⟨v,hv⟩:=cell (j:=i) (by omega)
  refine NM (by omega) (by dsimp only;omega) rfl (qF (v:=.string (bs rest)) hv (by rw [KM];exact Kv g) rfl ?_)
  rw [KM,show 0+(i:Int).toNat*1=i by omega]
  have u:=Upd.hset hh h.size i (.string (bs rest))
  have g':=J8 (o:=i) (v:=.string (bs rest)) g
  generalize hset hh ⟨h.size,i,none⟩ (.string (bs rest))=h2 at u g'⊢
  rw [w64 (by omega) (by omega)]
  refine KYb (by omega) (by omega) (by dsimp only;omega) (KA (H _ _ (E.upd u (Ee _)) (by show((i:Int)+1).toNat - (0:Int).toNat=_;omega) ?_))
  have hb:(if N=(0:Int).toNat then some (⟨h.size,0,none⟩:Addr)else(some (⟨h.size,0,none⟩:Addr)).map (λa=>a.add ((0:Int).toNat*1)))=some ⟨h.size,0,none⟩:=by
   split<;>rfl
  show KAI h2 (if N=(0:Int).toNat then some (⟨h.size,0,none⟩:Addr)else(some (⟨h.size,0,none⟩:Addr)).map (λa=>a.add ((0:Int).toNat*1))) _
  rw [hb]
  refine .inr ⟨_,rfl,λj v hj=>?_⟩
  rw [KM,EC,KF g',<-hj]
  have hjN:j<N:=by
   have:=(Fj.1 hj).1
   rw [EL]at this
   omega
  rw [FN]
  by_cases hji:i=j
  ·subst hji
   rw [if_pos rfl,if_pos (by omega),Fs]
   have:(splW s)[i]?=some rest:=by
    have:=Ew (λl=>l[0]?) hd
    rw [h1r]at this
    simpa using this
   rw [this];rfl
  ·rw [if_neg hji]
   exact hdone j (by omega)
 unfold Xa
 dsimp only
 rw [w64 (by omega) (by omega)]
 have heq:=KSb rest
 refine KH (λhlt=>?_) (λhge=>?_)
 ·have hlt:=Ec hlt
  unfold Nx
  refine KD (KD ⟨32,rfl,KA ?_⟩)
  rw [show(bs rest).data.toList=rest by simp [bs]]
  by_cases hm:(32:UInt8)∈rest
  ·rw [if_pos hm]at heq
   obtain⟨a,q,h1,h2,h3⟩:=heq
   rw [h2]
   have hal:rest.length=a.length+(q.length+1):=by rw [h1];simp
   refine iteF (Eo (by omega)) ?_
   rw [w64 (by omega) (by omega)]
   refine KAu (a:=0) (b:=a.length) rfl (by omega) (El _) (by omega) ?_
   have e1':(rest.drop 0).take (a.length - 0)=a:=by rw [Fd,FW,h1,F7]
   rw [e1']
   obtain⟨v,hv⟩:=cell (j:=i) (by omega)
   refine NM (by omega) (by dsimp only;omega) rfl (qF (v:=.string (bs a)) hv (by rw [KM];exact Kv g) rfl ?_)
   rw [KM,show 0+(i:Int).toNat*1=i by omega]
   have u:=Upd.hset hh h.size i (.string (bs a))
   have g':=J8 (o:=i) (v:=.string (bs a)) g
   generalize hset hh ⟨h.size,i,none⟩ (.string (bs a))=h2 at u g'⊢
   rw [show((⟨#[32]⟩:ByteArray).size:Int)=1 from rfl,w64 (by omega) (by omega)]
   refine KAu (a:=a.length+1) (b:=rest.length) (by push_cast;rfl) (by rw [Ke]) (by omega) (Ee _) ?_
   have e2':(rest.drop (a.length+1)).take (rest.length - (a.length+1))=q:=by
    rw [EU (by rw [Ex];omega),h1]
    rw [List.drop_append,FA.2 (by omega)]
    simp
   rw [e2']
   rw [h3]at hd hi
   refine hself _ _ ⟨i+1,q,C.setIfInBounds i (.string (bs a)),by push_cast;rfl,E.upd u (Ee _),g',by simpa using hC,by rw [Ef]at hi;omega,by omega,?_,λj hj=>?_⟩ (by dsimp only;omega)
   ·have:=Ew List.tail hd
    rw [List.tail_drop]at this
    simpa using this
   ·rw [FN]
    by_cases hji:i=j
    ·subst hji
     rw [if_pos rfl,if_pos (by omega),Fs]
     have:(splW s)[i]?=some a:=by
      have:=Ew (λl=>l[0]?) hd
      simpa using this
     rw [this];rfl
    ·rw [if_neg hji]
     exact hdone j (by omega)
  ·rw [if_neg hm]at heq
   rw [heq.1]
   exact iteT rfl (last heq.2)
 ·have hge:=Ed hge
  refine last ?_
  by_cases hm:(32:UInt8)∈rest
  ·rw [if_pos hm]at heq
   obtain⟨a,q,h1,h2,h3⟩:=heq
   have:=KOa q
   have:0<(splW q).length:=Fl.2 this
   rw [h3,Ef]at hi
   omega
  ·rw [if_neg hm]at heq
   exact heq.2
theorem KOb {x:Sl} {ws:List (Eb)} {w:Eb} {h:Heap} {Q:Int->Heap->Prop} (hx:x.len=ws.length) (hr:KAI h x.base (ws.map sv)) (hm:ws.length<=1073741824) (H:Q ((idxW ws w:Int) - 1) h):(Zh x (bs w)).wp h Q:=by
 unfold Zh
 rw [hx]
 refine M.loop_inv (λ(t:Int) hh=>hh=h/\∃i:Nat,t=(i:Int)/\i<=ws.length/\idxW ws w=(if idxW (ws.drop i) w=0 then 0 else i+idxW (ws.drop i) w)) (λt _=>ws.length - t.toNat) ?_ ⟨rfl,0,rfl,El _,by rw [Fd];split<;>omega⟩
 rintro t hh ⟨rfl,i,rfl,hi,hidx⟩ self hself
 unfold Ji
 refine KH (λhlt=>?_) (λhge=>KA ?_)
 ·have hlt:i<ws.length:=by have:=Ec hlt;omega
  rw [Eh hlt,idxW]at hidx
  rcases hr with h0|⟨a,ha,hc⟩
  ·have:=Ew List.length h0
   rw [EL,En]at this
   omega
  ·have hci:=hc i (sv ws[i]) (by rw [Fs,Em hlt];rfl)
   refine NM (by omega) (by rw [hx];omega) ha (WO (n:=bs ws[i]) (by rw [show(i:Int).toNat*1=i by omega];exact hci) ?_)
   rw [KC4]
   refine KH (λhe=>KA ?_) (λhe=>?_)
   ·rw [if_pos (Ec he),if_neg (by decide)]at hidx
    rw [hidx]at H
    rw [show(((i+1:Nat):Int) - 1)=(i:Int) by omega]at H
    exact H
   ·rw [if_neg (Ed he)]at hidx
    rw [w64 (by omega) (by omega)]
    refine hself _ _ ⟨rfl,i+1,by push_cast;rfl,hlt,?_⟩ (by omega)
    rw [hidx]
    split
    ·simp
    ·rename_i h0
     rw [if_neg (by omega)]
     omega
 ·have hi':i=ws.length:=by have:=Ed hge;omega
  rw [FA.2 (by omega)]at hidx
  have hidx:idxW ws w=0:=hidx
  rw [hidx]at H
  exact H
theorem KLV:∀(ws:List (Eb)) (w:Eb),idxW ws w<=ws.length
 | [],_=>Ee _
 |a::r,w=>by
  have:=KLV r w
  rw [idxW,Ef]
  split
  ·omega
  split
  ·omega
  ·omega
theorem KIx {s w:Eb} {h:Heap} {Q:Int->Heap->Prop} (hs:s.length<=1000000) (H:∀h',Ext h h'->Q (idxW (splW s) w:Int) h'):(GX (bs s) (bs w)).wp h Q:=by
 unfold GX
 have h1:=KHa s
 have h2:Lib.countByte s 32<=s.length:=IX
 have h3:=KLV (splW s) w
 refine KD (KJ9 (by omega) (λh1 x e1 hx hr=>KD (KOb hx hr (by omega) (KA ?_))))
 rw [w64 (by omega) (by omega),show((idxW (splW s) w:Nat):Int) - 1+1=((idxW (splW s) w:Nat):Int) by omega]
 exact H h1 e1
end Gx
namespace Gx
open Go
def KNF (en:Nat) (ts:List Tkn):Except (Int×Int) (Eb×List Tkn):=
 match nxT en 3 ts with
 | .error e=>.error e
 | .ok (t,r)=>if Gf t.s=true then .ok (t.s,r)else .error (zZ en ts,160)
def numT (en:Nat) (ts:List Tkn):Except (Int×Int) (Int×List Tkn):=
 match nxT en 2 ts with
 | .error e=>.error e
 | .ok (t,r)=>if t.n<0\/t.n>9007199254740992 then .error (zZ en ts,160)else .ok (t.n,r)
theorem KQu {lo b en n:Nat} {h:Heap} {ts:List Tkn} {Q:Value⊕ByteArray->Heap->Prop} (R:PRd lo b en h ts n)
  (H1:∀s r h',KNF en ts=.ok (s,r)->s.length<=128->Kb b h h'->PRd lo b en h' r n->Q (.inr (bs s)) h') (H2:∀e h',KNF en ts=.error e->Kb b h h'->Q (.inl (Uw e)) h'):(WJ (some ⟨b,0,none⟩)).wp h Q:=by
 unfold WJ
 refine KD (qn R (Zn (Gi R (λt r h1 hn K1 R1=>?_) (λe h1 hn K1=>H2 e h1 (by unfold KNF;rw [hn]) K1))))
 have htok:tokB t=true:=by
  obtain⟨rfl,_⟩:=KIv hn
  exact(R.good t (by simp)).1
 unfold KNF at H1 H2
 rw [hn]at H1 H2
 dsimp only at H1 H2
 refine KUZ (n:=bs t.s) rfl ?_
 unfold Nz
 refine KD (KD (KJy (λh2 e2=>KA ?_)))
 unfold Vr
 cases hb:Gf t.s with
 |false=>
  rw [hb]at H2
  exact iteT rfl (Zn (NX (H2 _ h2 rfl (K1.trans (Km.ext e2)))))
 |true=>
  rw [hb]at H1
  exact iteF rfl (KA (H1 _ r h2 rfl (KPc htok) (K1.trans (Km.ext e2)) (R1.ext e2)))
theorem KSd {lo b en n:Nat} {h:Heap} {ts:List Tkn} {Q:Value⊕Int->Heap->Prop} (R:PRd lo b en h ts n)
  (H1:∀m r h',numT en ts=.ok (m,r)->I64 m->Kb b h h'->PRd lo b en h' r n->Q (.inr m) h') (H2:∀e h',numT en ts=.error e->Kb b h h'->Q (.inl (Uw e)) h'):(Wv (some ⟨b,0,none⟩)).wp h Q:=by
 unfold Wv
 refine KD (qn R (Zn (Gi R (λt r h1 hn K1 R1=>?_) (λe h1 hn K1=>H2 e h1 (by unfold numT;rw [hn]) K1))))
 have hI:I64 t.n:=by
  obtain⟨rfl,_⟩:=KIv hn
  exact(R.good t (by simp)).2
 unfold numT at H1 H2
 rw [hn]at H1 H2
 dsimp only at H1 H2
 refine KXE (n:=t.n) rfl ?_
 unfold zP
 refine KD (or_b (c:=decide (t.n>9007199254740992)) (λ_ Q' hq=>KA hq) (KA ?_))
 rw [<-Fe]
 unfold Wi
 refine KH (λhc=>?_) (λhc=>?_)
 ·rw [if_pos (Ec hc)]at H2
  exact Zn (NX (H2 _ h1 rfl K1))
 ·rw [if_neg (Ed hc)]at H1
  exact KA (H1 _ r h1 rfl hI K1 R1)
abbrev PR (σ:Type):=Except (Int×Int) (σ×List Tkn×Nat)
def KBb {σ:Type} (en least:Nat) (one:Nat->σ->List Tkn->Nat->PR σ):Nat->Nat->σ->List Tkn->Nat->PR σ
 |0,_,a,ts,n=>.ok (a,ts,n)
 |f+1,i,a,ts,n=>if(decide (least<=i)&&isT 4 [41] ts)=true then .ok (a,ts,n)else
  match(if 0<i then takT en 4 [44] ts else .ok ts)with
  | .error e=>.error e
  | .ok ts1=>match one i a ts1 n with
   | .error e=>.error e
   | .ok (a',ts2,n')=>KBb en least one f (i+1) a' ts2 n'
def KUb (en most:Nat) {σ:Type} (a:σ) (ts:List Tkn) (n:Nat):PR σ:=
 if(decide (most=32)&&isT 4 [44] ts)=true then .error (zZ en ts.tail,3)else match takT en 4 [41] ts with
  | .error e=>.error e
  | .ok r=>.ok (a,r,n)
def KGk {σ:Type} (en least most:Nat) (one:Nat->σ->List Tkn->Nat->PR σ) (a:σ) (ts:List Tkn) (n:Nat):PR σ:=
 match KBb en least one most 0 a ts n with
 | .error e=>.error e
 | .ok (a,ts,n)=>KUb en most a ts n
abbrev uEnc:Unit->Value:=λ_=>.tuple #[]
abbrev Fz (b sb z:Nat):Heap->Heap->Prop:=Km (λk=>k=b\/k=sb\/z<k)
theorem Km.wkb {S T:Nat->Prop} {h h':Heap} (a:Km S h h') (i:∀x,S x->T x):Km T h h':=⟨a.size,λj hj hn=>a.same j hj (λs=>hn (i j s))⟩
theorem KVr {σ:Type} {en lo b sb least most n:Nat} {one:Nat->σ->List Tkn->Nat->PR σ} {cv:Value} {h:Heap} {ts:List Tkn} {a0:σ} {Q:Value⊕Unit->Heap->Prop} (Inv:Nat->σ->Heap->Prop) (R:PRd lo b en h ts n) (hsb:sb<h.size) (hbsb:b≠sb) (hlos:lo<=sb) (hm:most<=1000)
  (hI00:∀h',Ext h h'->Inv 0 a0 h') (hIk:∀i a h1 h2,Inv i a h1->h.size<h1.size->Kb b h1 h2->Inv i a h2)
  (hone:∀(i:Nat) (a:σ) (ts:List Tkn) (n:Nat) (h1:Heap) (Q1:Value⊕Unit->Heap->Prop),i<most->Inv i a h1->h.size<h1.size->PRd lo b en h1 ts n->
   (∀a' r n' h2,one i a ts n=.ok (a',r,n')->Fz b sb h.size h1 h2->PRd lo b en h2 r n'->Inv (i+1) a' h2->Q1 (.inr ()) h2)->(∀e h2,one i a ts n=.error e->Fz b sb h.size h1 h2->Q1 (.inl (Uw e)) h2)->
   (KHy Tryz.prog uEnc cv [.int .i64 (i:Int)]).wp h1 Q1)
  (H1:∀i a r n' h',KGk en least most one a0 ts n=.ok (a,r,n')->Fz b sb h.size h h'->PRd lo b en h' r n'->i<=most->Inv i a h'->h.size<h'.size->Q (.inr ()) h')
  (H2:∀e h',KGk en least most one a0 ts n=.error e->Fz b sb h.size h h'->Q (.inl (Uw e)) h'):(JB (some ⟨b,0,none⟩) #[.int .i64 (least:Int),.int .i64 (most:Int)] cv).wp h Q:=by
 unfold JB
 refine Kw (λh1 e1 s1 g1=>?_)
 have hbl:=R.lt
 unfold KGk at H1 H2
 refine M.loop_inv (λ(x:Int) hh=>∃(i f:Nat) (a:σ) (ts':List Tkn) (n':Nat),x=(i:Int)/\i+f=most/\Inv i a hh/\PRd lo b en hh ts' n'/\Fz b sb h.size h1 hh/\h.size<hh.size/\KBb en least one f i a ts' n'=KBb en least one most 0 a0 ts n) (λx _=>most - x.toNat) ?_
  ⟨0,most,a0,ts,n,rfl,by omega,hI00 _ e1,R.ext e1,Km.refl _ _,by omega,rfl⟩
 rintro x hh ⟨i,f,a,ts',n',rfl,hif,hI,R',F,hz,hL⟩ self hself
 have gs:hh[h.size]?=some (.cells #[.int .i64 (least:Int),.int .i64 (most:Int)] ZA (0,0)):=F.blk g1 (by omega)
 have c0:KJ hh ((⟨h.size,0,none⟩:Addr).add 0)=some (.int .i64 (least:Int)):=by rw [add_zero,KF gs];rfl
 have c1:∀{h2:Heap},h2[h.size]?=some (.cells #[.int .i64 (least:Int),.int .i64 (most:Int)] ZA (0,0))->KJ h2 ((⟨h.size,0,none⟩:Addr).add 1)=some (.int .i64 (most:Int)):=λ{h2} g=>by rw [KM,KF g];rfl
 have Fh:∀{h2:Heap},Fz b sb h.size h1 h2->Fz b sb h.size h h2:=λ{h2} F2=>⟨by have:=F2.size;have:=e1.size;omega,λk hk hn=>(F2.same k (by omega) hn).trans (e1.same k hk)⟩
 have fin:KBb en least one most 0 a0 ts n=.ok (a,ts',n')->(UL (some ⟨b,0,none⟩) ⟨h.size,0,none⟩).wp hh Q:=λhend=>by
  rw [hend]at H1 H2
  dsimp only at H1 H2
  unfold KUb at H1 H2
  unfold UL
  refine KV (c1 gs) ?_
  rw [eqI,show decide ((most:Int)=32)=decide (most=32)from Es.2 (by omega)]
  refine Jp (c:=isT 4 [44] ts') (λ_ Q' hq=>KD (KIu (s:=[44]) R' (KA hq))) ?_
  refine KH (λhc=>?_) (λhc=>?_)
  ·rw [if_pos hc]at H2
   refine Zn (Ui (s:=[44]) R' (λr h2 hr K2 R2=>?_) (λe h2 hr K2=>?_))
   ·have hr':r=ts'.tail:=by
     obtain⟨t,rfl,_⟩:=KEP hr
     rfl
    subst hr'
    exact KD (qn R2 (Zn (NX (H2 _ h2 rfl (Fh ⟨by have:=F.size;have:=K2.size;omega,λk hk hn=>(K2.same k (by have:=F.size;omega) (λe=>hn (.inl e))).trans (F.same k hk hn)⟩)))))
   ·rw [Eg]at hc
    unfold takT at hr
    rw [if_pos hc.2]at hr
    cases hr
  ·rw [if_neg (by rw [hc];decide)]at H1 H2
   unfold Vo
   refine Zn (Ui (s:=[41]) R' (λr h2 hr K2 R2=>KA ?_) (λe h2 hr K2=>?_))
   ·rw [hr]at H1
    exact H1 i a r n' h2 rfl (Fh ⟨by have:=F.size;have:=K2.size;omega,λk hk hn=>(K2.same k (by have:=F.size;omega) (λe=>hn (.inl e))).trans (F.same k hk hn)⟩) R2 (by omega) (hIk i a hh h2 hI hz K2) (by have:=K2.size;omega)
   ·rw [hr]at H2
    exact H2 e h2 rfl (Fh ⟨by have:=F.size;have:=K2.size;omega,λk hk hn=>(K2.same k (by have:=F.size;omega) (λe=>hn (.inl e))).trans (F.same k hk hn)⟩)
 unfold Yx
 refine KV (c1 gs) ?_
 refine KH (λhlt=>?_) (λhge=>?_)
 ·have hlt:i<most:=by have:=Ec hlt;omega
  obtain⟨f,rfl⟩:∃g,f=g+1:=⟨f - 1,by omega⟩
  rw [KBb]at hL
  refine KV c0 ?_
  rw [show decide ((i:Int)>=(least:Int))=decide (least<=i)from Es.2 (by omega)]
  refine Jp (c:=isT 4 [41] ts') (λ_ Q' hq=>KD (KIu (s:=[41]) R' (KA hq))) ?_
  refine KH (λhc=>?_) (λhc=>?_)
  ·rw [if_pos hc]at hL
   exact fin hL.symm
  ·rw [if_neg (by rw [hc];decide)]at hL
   have go:∀{ts1:List Tkn} {h2:Heap},Kb b hh h2->PRd lo b en h2 ts1 n'->(match one i a ts1 n' with
     | .error e=>.error e
     | .ok (a',ts2,n')=>KBb en least one f (i+1) a' ts2 n')=KBb en least one most 0 a0 ts n->(UM self cv (i:Int)).wp h2 Q:=λ{ts1 h2} K2 R2 hL2=>by
    have hK2:=K2.size
    have F2:Fz b sb h.size h1 h2:=⟨by have:=F.size;omega,λk hk hn=>(K2.same k (by have:=F.size;omega) (λe=>hn (.inl e))).trans (F.same k hk hn)⟩
    unfold UM
    refine Zn (hone i a ts1 n' h2 _ hlt (hIk i a hh h2 hI hz K2) (by omega) R2 (λa' r n2 h3 ho F3 R3 I3=>?_) (λe h3 ho F3=>?_))
    ·rw [ho]at hL2
     have hF3:=F3.size
     rw [w64 (by omega) (by omega)]
     exact hself _ _ ⟨i+1,f,a',r,n2,by push_cast;rfl,by omega,I3,R3,F2.trans F3,by omega,hL2⟩ (by omega)
    ·rw [ho]at hL2
     rw [<-hL2]at H2
     exact H2 e h3 rfl (Fh (F2.trans F3))
   refine KH (λhp=>?_) (λhz0=>?_)
   ·rw [if_pos (show 0<i by have:=Ec hp;omega)]at hL
    refine Zn (Ui (s:=[44]) R' (λr h2 hr K2 R2=>?_) (λe h2 hr K2=>?_))
    ·rw [hr]at hL
     exact go K2 R2 hL
    ·rw [hr]at hL
     rw [<-hL]at H2
     exact H2 e h2 rfl (Fh ⟨by have:=F.size;have:=K2.size;omega,λk hk hn=>(K2.same k (by have:=F.size;omega) (λe=>hn (.inl e))).trans (F.same k hk hn)⟩)
   ·rw [if_neg (show ¬0<i by have:=Ed hz0;omega)]at hL
    exact go (Km.refl _ _) R' hL
 ·have hf0:f=0:=by have:=Ed hge;omega
  subst hf0
  exact fin hL.symm
def za (op:Nat):Nat×Nat:=if op=7\/op=8 then(0,32)else if op=9 then(2,2)else(1,1)
def Gj (p:Nat×Nat):Ea:=#[.int .i64 (p.1:Int),.int .i64 (p.2:Int)]
end Gx
namespace Gx
open Go
abbrev RepT (α:Type):=(Nat->Prop)->Heap->α->Ea->Prop
structure Stay {α:Type} (Rep:RepT α):Prop where
 same:∀{S T:Nat->Prop} {h h':Heap} {a:α} {c:Ea},Rep S h a c->(∀k,S k->h'[k]?=h[k]?)->(∀k,S k->T k)->Rep T h' a c
def WN (sz:Nat) (css:List (Ea)):Prop:=∀c∈css,c.size=sz/\∀u∈c.toList,one u=true
theorem KNG {sz:Nat}:∀{css:List (Ea)},WN sz css->(JC css).length=css.length*sz
 | [],_=>by simp [JC]
 |c::r,h=>by
  have:=KNG (css:=r) (λx hx=>h x (Ev _ hx))
  have hc:=(h c (by simp)).1
  unfold JC at this⊢
  rw [ET,List.length_append,this,Ep,hc,Ef,Io,Nat.one_mul];omega
theorem KIy {sz:Nat}:∀{css:List (Ea)},WN sz css->∀(i j:Nat),j<sz->(JC css)[i*sz+j]?=(css[i]?).bind (λc=>c[j]?)
 | [],_,i,j,_=>by simp [JC]
 |c::r,h,i,j,hj=>by
  have hc:=(h c (by simp)).1
  unfold JC
  rw [ET]
  cases i with
  |zero=>rw [Fk (by rw [Ep];omega)];simp
  |succ i=>
   rw [Fi (by rw [Ep,hc,Io];omega),Ep,hc,show(i+1)*sz+j - sz=i*sz+j by rw [Io];omega]
   have:=KIy (css:=r) (λx hx=>h x (Ev _ hx)) i j hj
   unfold JC at this
   rw [this];simp
theorem WN.append {sz:Nat} {a b:List (Ea)} (ha:WN sz a) (hb:WN sz b):WN sz (a++b):=λc hc=>(F0.1 hc).elim (ha c) (hb c)
structure RGw {α:Type} (Rep:RepT α) (sz lo:Nat) (S:Nat->Prop) (h:Heap) (r:Sl) (css:List (Ea)) (l:List α):Prop where
 gw:Gw lo h r sz (JC css)
 wn:WN sz css
 len:css.length=l.length
 rep:∀j (h1:j<l.length) (h2:j<css.length),Rep S h l[j] css[j]
theorem RGw.nil {α:Type} (Rep:RepT α) (sz lo:Nat) (S:Nat->Prop) (h:Heap):RGw Rep sz lo S h Sl.nil [] []:=⟨Gw.nil _ _ _,λc hc=>(by cases hc),rfl,λj h1=>(by cases h1)⟩
theorem RGw.rlen {α:Type} {Rep:RepT α} {sz lo:Nat} {S:Nat->Prop} {h:Heap} {r:Sl} {css:List (Ea)} {l:List α} (G:RGw Rep sz lo S h r css l) (hz:0<sz):r.len=l.length:=by
 have h1:=G.gw.len
 rw [KNG G.wn,G.len]at h1
 exact(Nat.eq_of_mul_eq_mul_right hz h1).symm
theorem RGw.same {α:Type} {Rep:RepT α} (ok:Stay Rep) {sz lo:Nat} {S T:Nat->Prop} {h h':Heap} {r:Sl} {css:List (Ea)} {l:List α} (G:RGw Rep sz lo S h r css l) (e1:∀k,Sl.on r k->h'[k]?=h[k]?) (e2:∀k,S k->h'[k]?=h[k]?) (e3:∀k,S k->T k):RGw Rep sz lo T h' r css l:=
 ⟨G.gw.same e1,G.wn,G.len,λj h1 h2=>ok.same (G.rep j h1 h2) e2 e3⟩
theorem KXF {α β:Type} {Rep:RepT α} (ok:Stay Rep) {sz lo bytes:Nat} {S:Nat->Prop} {ty:TypeId} {z:Ea} {h:Heap} {Q:β->Heap->Prop} {r:Sl} {css:List (Ea)} {l:List α} {a:α} {c:Ea} {f:Sl->M β} (hz:z.size=sz) (hsz:0<sz) (G:RGw Rep sz lo S h r css l) (hS:∀k,S k->k<h.size/\¬Sl.on r k)
  (hc:c.size=sz) (h1:∀u∈c.toList,one u=true) (hv:Rep S h a c) (hlo:lo<=h.size) (hm:(l.length+1)*bytes<=140737488355328) (hm2:l.length+1<=9223372036854775807)
  (H:∀h' r',RGw Rep sz lo S h' r' (css++[c]) (l++[a])->h.size<=h'.size->(∀i,i<h.size->¬Sl.on r i->h'[i]?=h[i]?)->(∀i,Sl.on r' i->Sl.on r i\/h.size<=i)->(f r').wp h' Q):
  (bdL ty 1 c>>=λx=>apL ty sz bytes z r x>>=f).wp h Q:=by
 refine KAz ?_
 have e1:=Ext.push h (.cells c ty)
 have g1:(h.push (.cells c ty))[h.size]?=some (.cells c ty (0,0)):=Kx
 generalize h.push (.cells c ty)=hA at e1 g1⊢
 have hs1:=e1.size
 have G1:RGw Rep sz lo S hA r css l:=G.same ok (λk hk=>e1.same k (G.gw.lt hk).1) (λk hk=>e1.same k (hS k hk).1) (λk hk=>hk)
 have hrl:=G.rlen hsz
 have hflat:JC [c]=c.toList:=by simp [JC]
 refine KD (KGA (vs:=JC css) (news:=JC [c]) hz G1.gw (by rw [hflat,Ep,hc];show sz=1*sz;omega) (.inr ⟨_,rfl,λj u hj=>?_⟩) (by rw [hflat];exact h1) (by show(r.len+1)*bytes<=_;rw [hrl];exact hm) (by show r.len+1<=_;omega) (by omega) (λh2 r2 G2 hlen2 hs2 same2 on2=>?_))
 ·rw [KM,EC,KF g1]
  rw [hflat,Fu]at hj
  exact hj
 ·have he:∀k,S k->h2[k]?=hA[k]?:=λk hk=>same2 k (by have:=(hS k hk).1;omega) (hS k hk).2
  refine H h2 r2 ⟨?_,G.wn.append (λx hx=>by simp only [ED,EP,Fr]at hx;subst hx;exact⟨hc,h1⟩),by rw [List.length_append,List.length_append,G.len];rfl,λj hj1 hj2=>?_⟩ (by omega) (λi hi ho=>(same2 i (by omega) ho).trans (e1.same i hi)) (λi hi=>(on2 i hi).imp id (λh=>by omega))
  ·unfold JC at G2⊢
   rw [Ij]
   exact G2
  ·by_cases hj:j<l.length
   ·rw [Fp hj,Fp (by rw [G.len];exact hj)]
    exact ok.same (G1.rep j hj (by rw [G.len];exact hj)) he (λ_ hk=>hk)
   ·have hj0:j=l.length:=by rw [List.length_append,List.length_singleton]at hj1;omega
    subst hj0
    rw [FE (Ee _),FE (by rw [G.len];exact Ee _)]
    simp only [G.len,Ou,FO]
    exact ok.same hv (λk hk=>(he k hk).trans (e1.same k (hS k hk).1)) (λ_ hk=>hk)
structure RowS {α:Type} (sz:Nat) (Rep:RepT α) (S:Nat->Prop) (h:Heap) (x:Sl) (l:List α):Prop where
 len:x.len=l.length
 cap:x.len<=x.cap
 at_:∀j (hj:j<l.length),∃a cs,x.base=some a/\S a.block/\cs.size=sz/\(∀m,m<sz->KJ h (a.add (j*sz+m))=cs[m]?)/\Rep S h l[j] cs
theorem RGw.row {α:Type} {Rep:RepT α} (ok:Stay Rep) {sz lo:Nat} {S:Nat->Prop} {h:Heap} {r:Sl} {css:List (Ea)} {l:List α} (hz:0<sz) (G:RGw Rep sz lo S h r css l):RowS sz Rep (λk=>S k\/Sl.on r k) h r l:=by
 refine⟨G.rlen hz,G.gw.cap,λj hj=>?_⟩
 have hjc:j<css.length:=by rw [G.len];exact hj
 have hc:=G.wn _ (EJ hjc)
 have h0:=KIy G.wn j 0 hz
 rw [Em hjc,FG,EF (by omega)]at h0
 obtain⟨b,hb,_⟩:=G.gw.cell h0
 refine⟨⟨b,0,none⟩,css[j],hb,.inr ⟨_,hb,rfl⟩,hc.1,λm hm=>?_,ok.same (G.rep j hj hjc) (λ_ _=>rfl) (λ_ hk=>.inl hk)⟩
 have hm':=KIy G.wn j m hm
 rw [Em hjc,FG,EF (by omega)]at hm'
 obtain⟨b',hb',hv⟩:=G.gw.cell hm'
 rw [hb]at hb'
 cases hb'
 rw [KM,EC,hv,EF (by omega)]
theorem RowS.same {α:Type} {sz:Nat} {Rep:RepT α} (ok:Stay Rep) {S T:Nat->Prop} {h h':Heap} {x:Sl} {l:List α} (H:RowS sz Rep S h x l) (e:∀k,S k->h'[k]?=h[k]?) (e2:∀k,S k->T k):RowS sz Rep T h' x l:=
 ⟨H.len,H.cap,λj hj=>by
  obtain⟨a,cs,h1,h2,h3,h4,h5⟩:=H.at_ j hj
  exact⟨a,cs,h1,e2 _ h2,h3,λm hm=>by rw [<-h4 m hm];unfold KJ;rw [Z8,e _ h2],ok.same h5 e e2⟩⟩
theorem RowS.nil {α:Type} {sz:Nat} {Rep:RepT α} {S:Nat->Prop} {h:Heap}:RowS sz Rep S h Sl.nil []:=⟨rfl,Ee _,λj hj=>by cases hj⟩
def zQ:RepT (Eb):=λ_ _ s c=>c=#[sv s]
def KAD:RepT Int:=λ_ _ n c=>c=#[.int .i64 n]/\I64 n
def GI:RepT (Int×List Vl):=λS h p c=>∃y:Sl,c=#[.int .i64 p.1,y.v]/\I64 p.1/\VsRepS S h y p.2
theorem Z0:Stay zQ:=⟨λh _ _=>h⟩
theorem Jq:Stay KAD:=⟨λh _ _=>h⟩
theorem JY:Stay GI:=⟨λ⟨y,h1,h2,h3⟩ e e2=>⟨y,h1,h2,h3.same e e2⟩⟩
inductive St where
 |mk (op:Int) (names:List (Eb)) (nums:List Int) (preds:List (Int×List Vl)) (vals:List Vl) (subs:List (List St))
mutual
def WR (S:Nat->Prop) (h:Heap):St->Ea->Prop
 | .mk op names nums preds vals subs,cs=>∃x1 x2 x3 x4 x5:Sl,cs=#[.int .i64 op,x1.v,x2.v,x3.v,x4.v,x5.v]/\I64 op/\RowS 1 zQ S h x1 names/\RowS 1 KAD S h x2 nums/\RowS 2 GI S h x3 preds/\VsRepS S h x4 vals/\(x5.len=subs.length/\x5.len<=x5.cap/\Yf S h subs x5.base 0)
def N6 (S:Nat->Prop) (h:Heap):List St->Option Addr->Nat->Prop
 | [],_,_=>True
 |s::l,b,i=>(∃a cs,b=some a/\S a.block/\cs.size=6/\(∀m,m<6->KJ h (a.add (i*6+m))=cs[m]?)/\WR S h s cs)/\N6 S h l b (i+1)
def Yf (S:Nat->Prop) (h:Heap):List (List St)->Option Addr->Nat->Prop
 | [],_,_=>True
 |l::r,b,i=>(∃a x,b=some a/\S a.block/\KJ h (a.add i)=some (Sl.v x)/\x.len=l.length/\x.len<=x.cap/\N6 S h l x.base 0)/\Yf S h r b (i+1)
end
mutual
theorem WR.stay {S T:Nat->Prop} {h h':Heap} (e:∀k,S k->h'[k]?=h[k]?) (e2:∀k,S k->T k):∀(s:St) (c:Ea),WR S h s c->WR T h' s c
 | .mk op names nums preds vals subs,c,H=>by
  rw [WR]at H⊢
  obtain⟨x1,x2,x3,x4,x5,h1,h2,h3,h4,h5,h6,h7,h8,h9⟩:=H
  exact⟨x1,x2,x3,x4,x5,h1,h2,h3.same Z0 e e2,h4.same Jq e e2,h5.same JY e e2,h6.same e e2,h7,h8,Yf.stay e e2 subs _ _ h9⟩
theorem N6.stay {S T:Nat->Prop} {h h':Heap} (e:∀k,S k->h'[k]?=h[k]?) (e2:∀k,S k->T k):∀(l:List St) (b:Option Addr) (i:Nat),N6 S h l b i->N6 T h' l b i
 | [],_,_,_=>by rw [N6];trivial
 |s::l,b,i,H=>by
  rw [N6]at H⊢
  obtain⟨⟨a,cs,h1,h2,h3,h4,h5⟩,h6⟩:=H
  exact⟨⟨a,cs,h1,e2 _ h2,h3,λm hm=>by rw [<-h4 m hm];unfold KJ;rw [Z8,e _ h2],WR.stay e e2 s cs h5⟩,N6.stay e e2 l b (i+1) h6⟩
theorem Yf.stay {S T:Nat->Prop} {h h':Heap} (e:∀k,S k->h'[k]?=h[k]?) (e2:∀k,S k->T k):∀(r:List (List St)) (b:Option Addr) (i:Nat),Yf S h r b i->Yf T h' r b i
 | [],_,_,_=>by rw [Yf];trivial
 |l::r,b,i,H=>by
  rw [Yf]at H⊢
  obtain⟨⟨a,x,h1,h2,h3,h4,h5,h6⟩,h7⟩:=H
  exact⟨⟨a,x,h1,e2 _ h2,by rw [<-h3];unfold KJ;rw [Z8,e _ h2],h4,h5,N6.stay e e2 l _ _ h6⟩,Yf.stay e e2 r b (i+1) h7⟩
end
def StR:RepT St:=λS h s c=>WR S h s c
theorem Vd:Stay StR:=⟨λh e e2=>WR.stay e e2 _ _ h⟩
def YE (S:Nat->Prop) (h:Heap) (x:Sl) (l:List St):Prop:=RowS 6 StR S h x l
def KAE:RepT (List St):=λS h l c=>∃y:Sl,c=#[y.v]/\YE S h y l
theorem UY:Stay KAE:=⟨λ⟨y,h1,h2⟩ e e2=>⟨y,h1,RowS.same Vd h2 e e2⟩⟩
theorem N6.get {S:Nat->Prop} {h:Heap}:∀{l:List St} {b:Option Addr} {i:Nat},N6 S h l b i->∀{j:Nat} (hj:j<l.length),∃a cs,b=some a/\S a.block/\cs.size=6/\(∀m,m<6->KJ h (a.add ((i+j)*6+m))=cs[m]?)/\WR S h l[j] cs
 | [],_,_,_,j,hj=>by simp at hj
 |s::l,b,i,H,0,hj=>by rw [N6]at H;exact H.1
 |s::l,b,i,H,j+1,hj=>by
  rw [N6]at H
  have:=N6.get H.2 (j:=j) (by simpa using hj)
  rw [show i+(j+1)=i+1+j by omega]
  exact this
theorem N6.of {S:Nat->Prop} {h:Heap}:∀{l:List St} {b:Option Addr} {i:Nat},(∀j (hj:j<l.length),∃a cs,b=some a/\S a.block/\cs.size=6/\(∀m,m<6->KJ h (a.add ((i+j)*6+m))=cs[m]?)/\WR S h l[j] cs)->N6 S h l b i
 | [],_,_,_=>by rw [N6];trivial
 |s::l,b,i,H=>by
  rw [N6]
  refine⟨H 0 (by simp),N6.of (λj hj=>?_)⟩
  have:=H (j+1) (by simpa using hj)
  rw [show i+(j+1)=i+1+j by omega]at this
  exact this
theorem YE.at {S:Nat->Prop} {h:Heap} {x:Sl} {l:List St} (H:YE S h x l):N6 S h l x.base 0:=N6.of (λj hj=>by rw [EC];exact H.at_ j hj)
theorem YE.of {S:Nat->Prop} {h:Heap} {x:Sl} {l:List St} (h1:x.len=l.length) (h2:x.len<=x.cap) (H:N6 S h l x.base 0):YE S h x l:=⟨h1,h2,λj hj=>by have:=H.get hj;rw [EC]at this;exact this⟩
theorem Yf.get {S:Nat->Prop} {h:Heap}:∀{r:List (List St)} {b:Option Addr} {i:Nat},Yf S h r b i->∀{j:Nat} (hj:j<r.length),∃a x,b=some a/\S a.block/\KJ h (a.add (i+j))=some (Sl.v x)/\YE S h x r[j]
 | [],_,_,_,j,hj=>by simp at hj
 |l::r,b,i,H,0,hj=>by
  rw [Yf]at H
  obtain⟨⟨a,x,h1,h2,h3,h4,h5,h6⟩,_⟩:=H
  exact⟨a,x,h1,h2,h3,YE.of h4 h5 h6⟩
 |l::r,b,i,H,j+1,hj=>by
  rw [Yf]at H
  have:=Yf.get H.2 (j:=j) (by simpa using hj)
  rw [show i+(j+1)=i+1+j by omega]
  exact this
theorem Yf.of {S:Nat->Prop} {h:Heap}:∀{r:List (List St)} {b:Option Addr} {i:Nat},(∀j (hj:j<r.length),∃a x,b=some a/\S a.block/\KJ h (a.add (i+j))=some (Sl.v x)/\YE S h x r[j])->Yf S h r b i
 | [],_,_,_=>by rw [Yf];trivial
 |l::r,b,i,H=>by
  rw [Yf]
  obtain⟨a,x,h1,h2,h3,h4⟩:=H 0 (by simp)
  refine⟨⟨a,x,h1,h2,h3,h4.len,h4.cap,YE.at h4⟩,Yf.of (λj hj=>?_)⟩
  have:=H (j+1) (by simpa using hj)
  rw [show i+(j+1)=i+1+j by omega]at this
  exact this
theorem WR.eq {S:Nat->Prop} {h:Heap} {op:Int} {names:List (Eb)} {nums:List Int} {preds:List (Int×List Vl)} {vals:List Vl} {subs:List (List St)} {cs:Ea}:WR S h (.mk op names nums preds vals subs) cs↔
  ∃x1 x2 x3 x4 x5:Sl,cs=#[.int .i64 op,x1.v,x2.v,x3.v,x4.v,x5.v]/\I64 op/\RowS 1 zQ S h x1 names/\RowS 1 KAD S h x2 nums/\RowS 2 GI S h x3 preds/\VsRepS S h x4 vals/\RowS 1 KAE S h x5 subs:=by
 rw [WR]
 constructor
 ·rintro⟨x1,x2,x3,x4,x5,h1,h2,h3,h4,h5,h6,h7,h8,h9⟩
  refine⟨x1,x2,x3,x4,x5,h1,h2,h3,h4,h5,h6,h7,h8,λj hj=>?_⟩
  obtain⟨a,x,g1,g2,g3,g4⟩:=h9.get hj
  refine⟨a,#[x.v],g1,g2,rfl,λm hm=>?_,x,rfl,g4⟩
  obtain rfl:m=0:=by omega
  rw [FT,FX]
  rw [EC]at g3
  exact g3
 ·rintro⟨x1,x2,x3,x4,x5,h1,h2,h3,h4,h5,h6,h7⟩
  refine⟨x1,x2,x3,x4,x5,h1,h2,h3,h4,h5,h6,h7.len,h7.cap,Yf.of (λj hj=>?_)⟩
  obtain⟨a,c,g1,g2,g3,g4,x,rfl,g5⟩:=h7.at_ j hj
  refine⟨a,x,g1,g2,?_,g5⟩
  have:=g4 0 (by omega)
  rw [FT,FX]at this
  rw [EC]
  exact this
end Gx
namespace Gx
open Go
theorem KSe {lo:Nat} {h:Heap} {r:Sl} {css:List (Ea)} {i:Nat} {c:Ea} (G:Gw lo h r 4 (JC css)) (hw:W4 css) (hi:i<css.length) (hc:c.size=4) (h1:∀u∈c.toList,one u=true) {g:Nat} (hb:r.base=some ⟨g,0,none⟩)
  {β:Type} {f:Unit->M β} {Q:β->Heap->Prop} (H:∀h',Upd g h h'->Gw lo h' r 4 (JC (css.set i c))->(f ()).wp h' Q):(stG ((⟨g,0,none⟩:Addr).add ((i:Int).toNat*4)) c>>=f).wp h Q:=by
 have key:=KY1 (f:=f) (Q:=Q) (t:=(i:Int)) G hw hi rfl hc h1 (λb h' hb' u G'=>by rw [hb]at hb';cases hb';exact H h' u G')
 obtain⟨a,⟨_,_,b',hb',rfl⟩,_,hst⟩:=key
 rw [hb]at hb'
 cases hb'
 exact hst
abbrev zvS:Ea:=#[.int .i64 0,.int .i64 0,.string ByteArray.empty,.slice none 0 0]
theorem KSf {en lo b n kb off cb z:Nat} {C:Ea} {ty:TypeId} {ts:List Tkn} {x5:Sl} {css:List (Ea)} {l:List Vl} {S:Nat->Prop} {h:Heap} {Q:Value⊕Unit->Heap->Prop} (R:PRd lo b en h ts n)
  (gk:h[kb]?=some (.cells C ty (0,0))) (hoff:C[off]?=some x5.v) (gc:KJ h ⟨cb,0,none⟩=some (.pointer (some ⟨b,0,none⟩))) (hkb:kb≠b) (hcb:cb≠b) (hck:cb≠kb) (hlk:lo<=kb) (hz:lo<=z) (hkz:kb<z)
  (hcz:cb<z) (hzh:z<=h.size) (G:VGw z S h x5 css l) (hS:∀k,S k->z<=k/\k<h.size/\¬Sl.on x5 k) (hl:l.length<=1000000) (hbz:b<lo)
  (H1:∀v r h' x' css',valT en 8 ts=.ok (v,r)->Km (λk=>k=b\/k=kb\/Sl.on x5 k) h h'->PRd lo b en h' r n->h'[kb]?=some (.cells (C.setIfInBounds off (Sl.v x')) ty (0,0))->VGw z (λk=>(S k\/h.size<=k)/\k<h'.size/\¬Sl.on x' k) h' x' css' (l++[v])->(∀k,Sl.on x' k->Sl.on x5 k\/h.size<=k)->Q (.inr ()) h')
  (H2:∀e h',valT en 8 ts=.error e->Kb b h h'->Q (.inl (Uw e)) h'):
  (thr (M.both (do
    thr (Kj (some ⟨b,0,none⟩) 1) λXx3=>do
     chk (λh:Heap=>(KJ h ⟨kb,off,none⟩=some ((x5:Sl).v))/\(KJ h ⟨cb,0,none⟩=some (.pointer (some ⟨b,0,none⟩))))
     let y_5<-Xs 4 1 zvS [(0,.agg zvS)]
     let Xx4<-bdL KB 1 y_5
     chk (λh:Heap=>(KJ h ⟨kb,off,none⟩=some ((x5:Sl).v))/\(KJ h ⟨cb,0,none⟩=some (.pointer (some ⟨b,0,none⟩))))
     M.pure (.inr (Xx3,Xx4))
    ) (do
    let y_7<-Xs 4 1 zvS [(0,.agg zvS)]
    let Xx6<-bdL KB 1 y_7
    chk (λh:Heap=>(KJ h ⟨kb,off,none⟩=some ((x5:Sl).v))/\(KJ h ⟨cb,0,none⟩=some (.pointer (some ⟨b,0,none⟩))))
    thr (Kj (some ⟨b,0,none⟩) 1) λXx8=>do
     chk (λh:Heap=>(KJ h ⟨kb,off,none⟩=some ((x5:Sl).v))/\(KJ h ⟨cb,0,none⟩=some (.pointer (some ⟨b,0,none⟩))))
     M.pure (.inr (Xx8,Xx6))
    ):M (Value⊕(Ea×Sl))) λy_9=>do
   let Xx10<-apL KB 4 56 zvS x5 y_9.2
   let Xx11<-ixL Xx10 (x5.len:Int) 4
   let y_16<-do
    M.both (do
     M.need (y_9.1.size=4)
     stG Xx11 y_9.1
     stV ⟨kb,off,none⟩ ((Xx10:Sl).v)
     M.pure ()
     ) (do
     stV ⟨kb,off,none⟩ ((Xx10:Sl).v)
     M.need (y_9.1.size=4)
     stG Xx11 y_9.1
     M.pure ()
     )
   (M.pure (.inr ()):M (Value⊕Unit))).wp h Q:=by
 have hv1:∀{h1:Heap} {Q1:Value⊕Ea->Heap->Prop},PRd lo b en h1 ts n->(∀v r h' c,valT en 8 ts=.ok (v,r)->Kb b h1 h'->PRd lo b en h' r n->Zg (HS h1 h') h' v c->Q1 (.inr c) h')->(∀e h',valT en 8 ts=.error e->Kb b h1 h'->Q1 (.inl (Uw e)) h')->(Kj (some ⟨b,0,none⟩) 1).wp h1 Q1:=λR1 h1 h2=>KEQ en 8 (Ee _) ts n _ _ lo b R1 h1 h2
 have hkh:kb<h.size:=JV gk
 have hch:cb<h.size:=N3 gc
 have ck:∀{h':Heap},h'[kb]?=h[kb]?->h'[cb]?=h[cb]?->(KJ h' ⟨kb,off,none⟩=some ((x5:Sl).v))/\(KJ h' ⟨cb,0,none⟩=some (.pointer (some ⟨b,0,none⟩))):=λ{h'} e1 e2=>by
  refine⟨by rw [KF (e1.trans gk)];exact hoff,?_⟩
  unfold KJ at gc⊢
  rw [show(⟨cb,0,none⟩:Addr).block=cb from rfl]at gc⊢
  rw [e2]
  exact gc
 have hxl:x5.len=l.length:=by rw [G.gw.len4 G.w4,G.len]
 have zsz:(zvS:Ea).size=4:=rfl
 have rest:∀{h3:Heap} {v:Vl} {r:List Tkn} {c:Ea} {q:Nat},valT en 8 ts=.ok (v,r)->Kb b h h3->PRd lo b en h3 r n->Zg (λk=>h.size<=k/\k<h3.size/\k≠q) h3 v c->h3[q]?=some (.cells zvS KB (0,0))->h.size<=q->(do
   let Xx10<-apL KB 4 56 zvS x5 (⟨some ⟨q,0,none⟩,1,1⟩:Sl)
   let Xx11<-ixL Xx10 (x5.len:Int) 4
   let y_16<-do
    M.both (do
     M.need (c.size=4)
     stG Xx11 c
     stV ⟨kb,off,none⟩ ((Xx10:Sl).v)
     M.pure ()
     ) (do
     stV ⟨kb,off,none⟩ ((Xx10:Sl).v)
     M.need (c.size=4)
     stG Xx11 c
     M.pure ()
     )
   (M.pure (.inr ()):M (Value⊕Unit))).wp h3 Q:=λ{h3 v r c q} hv K R3 V gq hq=>by
  have hK:=K.size
  have G3:VGw z S h3 x5 css l:=G.same (λk hk=>K.same k (G.gw.lt hk).1 (λe=>by have:=(G.gw.lt hk).2;omega)) (λk hk=>K.same k (hS k hk).2.1 (λe=>by have:=(hS k hk).1;omega))
  have hzs:JC [zvS]=(zvS:Ea).toList:=by simp [JC]
  refine KD (KPE (l':=[vl0]) (css':=[zvS]) G3 (by omega) (λk hk=>⟨by have:=(hS k hk).2.1;omega,(hS k hk).2.2⟩) (λx hx=>by simp only [ED,EP,Fr]at hx;subst hx;exact⟨rfl,ZF 0 0 [] Sl.nil⟩) rfl rfl (.inr ⟨_,rfl,λj u hj=>?_⟩) (λj h1 h2=>?_) (by simp only [Ef,En];omega) (λh4 x' G4 hs4 same4 on4=>?_))
  ·rw [KM,EC,KF gq]
   rw [hzs,Fu]at hj
   exact hj
  ·have hj0:j=0:=by simp only [Ef,En]at h1;omega
   subst hj0
   exact KIY S h3
  have hcl:css.length=l.length:=G.len
  have hi4:l.length<(css++[zvS]).length:=by rw [List.length_append,List.length_singleton];omega
  have hx':x'.len=l.length+1:=by rw [G4.gw.len4 G4.w4,List.length_append,List.length_singleton,hcl]
  obtain⟨g,hg,hgon,_⟩:=G4.gw.row4 G4.w4 hi4
  have hg4:g<h4.size/\z<=g:=G4.gw.lt hgon
  have hgn:Sl.on x5 g\/h3.size<=g:=on4 g hgon
  have hkx:∀{k:Nat},Sl.on x5 k->z<=k:=λ{k} ho=>(G.gw.lt ho).2
  have nk:¬Sl.on x5 kb:=λho=>by have:=hkx ho;omega
  have gk4:h4[kb]?=some (.cells C ty (0,0)):=(same4 kb (by omega) nk).trans (K.blk gk hkb)
  have hcon:∀k,(h.size<=k/\k<h3.size/\k≠q)->h4[k]?=h3[k]?/\k≠g/\k≠kb:=λk hk=>by
   have nx:¬Sl.on x5 k:=λho=>by have:=(G.gw.lt ho).1;omega
   exact⟨same4 k hk.2.1 nx,λe=>by subst e;exact hgn.elim nx (λh=>by omega),by omega⟩
  have fin:∀{h6:Heap},h6.size=h4.size->(∀k,k≠g->k≠kb->h6[k]?=h4[k]?)->h6[kb]?=some (.cells (C.setIfInBounds off (Sl.v x')) ty (0,0))->Gw z h6 x' 4 (JC ((css++[zvS]).set l.length c))->Q (.inr ()) h6:=λ{h6} hs6 same6 gk6 G6=>by
   have hset:(css++[zvS]).set l.length c=css++[c]:=by rw [<-hcl,List.set_append_right _ _ (Ee _)];simp
   rw [hset]at G6
   refine H1 v r h6 x' (css++[c]) hv ⟨by omega,λk hk hn=>?_⟩ (R3.same (by omega) (λk hk=>?_)) gk6 ?_ (λk hk=>(on4 k hk).imp id (λh=>by omega))
   ·have n1:k≠b:=λe=>hn (.inl e)
    have n2:k≠kb:=λe=>hn (.inr (.inl e))
    have n3:¬Sl.on x5 k:=λe=>hn (.inr (.inr e))
    have n4:k≠g:=λe=>by subst e;exact hgn.elim n3 (λh=>by omega)
    exact(same6 k n4 n2).trans ((same4 k (by omega) n3).trans (K.same k hk n1))
   ·have n3:¬Sl.on x5 k:=λe=>by have:=hkx e;omega
    exact(same6 k (by omega) (by omega)).trans (same4 k (by have:=R3.lh;omega) n3)
   ·have hb6:∀k,S k->h6[k]?=h4[k]?:=λk hk=>same6 k (λe=>by subst e;exact hgn.elim (hS _ hk).2.2 (λh=>by have:=(hS _ hk).2.1;omega)) (λe=>by have:=(hS k hk).1;omega)
    refine⟨G6,G.w4.append (λx hx=>by simp only [ED,EP,Fr]at hx;subst hx;exact⟨V.size,V.to.one⟩),by rw [List.length_append,List.length_append,hcl];rfl,λj h1 h2=>?_⟩
    by_cases hj:j<l.length
    ·rw [Fp hj,Fp (by omega)]
     have:=G4.rep j (by rw [List.length_append];omega) (by rw [List.length_append];omega)
     rw [Fp hj,Fp (by omega)]at this
     refine(this.same hb6).mono (λk hk=>⟨.inl hk,by have:=(hS k hk).2.1;omega,λho=>(on4 k ho).elim (hS k hk).2.2 (λh=>by have:=(hS k hk).2.1;omega)⟩)
    ·have hj0:j=l.length:=by rw [List.length_append,List.length_singleton]at h1;omega
     subst hj0
     rw [FE (Ee _),FE (by omega)]
     simp only [hcl,Ou,FO]
     refine(V.same (λk hk=>(same6 k (hcon k hk).2.1 (hcon k hk).2.2).trans (hcon k hk).1)).mono (λk hk=>⟨.inr hk.1,by omega,λho=>(on4 k ho).elim (λho=>by have:=(G.gw.lt ho).1;omega) (λh=>by omega)⟩)
  rw [hxl]
  refine NM (by omega) (by omega) hg (KVU ?_ ?_)
  ·refine KR (ZH V.size (KR (KSe G4.gw G4.w4 hi4 V.size V.to.one hg (λh5 u5 G5=>?_))))
   have gk5:=(u5.ne kb (by omega)).trans gk4
   refine KR (qF (x:=x5.v) (by rw [KF gk5];exact hoff) (Kv gk5) (KC8 _) (KZ (KA ?_)))
   have u6:=Upd.hset h5 kb off (Sl.v x')
   have g6:=J8 (o:=off) (v:=Sl.v x') gk5
   generalize hset h5 ⟨kb,off,none⟩ (Sl.v x')=h6 at u6 g6⊢
   exact fin (by rw [u6.size,u5.size]) (λk n1 n2=>(u6.ne k n2).trans (u5.ne k n1)) g6 (G5.same (λk hk=>u6.ne k (by have:=(G5.lt hk).2;omega)))
  ·refine KR (qF (x:=x5.v) (by rw [KF gk4];exact hoff) (Kv gk4) (KC8 _) ?_)
   have u5:=Upd.hset h4 kb off (Sl.v x')
   have g5:=J8 (o:=off) (v:=Sl.v x') gk4
   generalize hset h4 ⟨kb,off,none⟩ (Sl.v x')=h5 at u5 g5⊢
   have G5:Gw z h5 x' 4 (JC (css++[zvS])):=G4.gw.same (λk hk=>u5.ne k (by have:=(G4.gw.lt hk).2;omega))
   refine KR (ZH V.size (KR (KSe G5 G4.w4 hi4 V.size V.to.one hg (λh6 u6 G6=>KZ (KA ?_)))))
   exact fin (by rw [u6.size,u5.size]) (λk n1 n2=>(u6.ne k n1).trans (u5.ne k n2)) ((u6.ne kb (by omega)).trans g5) G6
 refine Zn (KJn ?_ ?_)
 ·refine Zn (hv1 R (λv r h2 c hv K2 R2 V2=>?_) (λe h2 hv K2=>H2 e h2 hv K2))
  have hK2:=K2.size
  refine qE (ck (K2.same kb hkh hkb) (K2.same cb hch hcb)) (zD rfl (KAz ?_))
  have e3:=Ext.push h2 (.cells zvS KB)
  have g3:(h2.push (.cells zvS KB))[h2.size]?=some (.cells zvS KB (0,0)):=Kx
  generalize h2.push (.cells zvS KB)=h3 at e3 g3⊢
  have hs3:=e3.size
  refine qE (ck ((e3.same kb (by omega)).trans (K2.same kb hkh hkb)) ((e3.same cb (by omega)).trans (K2.same cb hch hcb))) (KA ?_)
  exact rest hv (K2.trans (Km.ext e3)) (R2.ext e3) ((V2.same (λk hk=>e3.same k hk.2)).mono (λk hk=>⟨hk.1,by have:=hk.2;omega,by have:=hk.2;omega⟩)) g3 hK2
 ·refine zD rfl (KAz ?_)
  have e2:=Ext.push h (.cells zvS KB)
  have g2:(h.push (.cells zvS KB))[h.size]?=some (.cells zvS KB (0,0)):=Kx
  have hs2':(h.push (.cells zvS KB)).size=h.size+1:=F4 ..
  generalize h.push (.cells zvS KB)=h2 at e2 g2 hs2'⊢
  refine qE (ck (e2.same kb hkh) (e2.same cb hch)) (Zn (hv1 (R.ext e2) (λv r h3 c hv K3 R3 V3=>?_) (λe h3 hv K3=>H2 e h3 hv ((Km.ext e2).trans K3))))
  have hK3:=K3.size
  refine qE (ck ((K3.same kb (by omega) hkb).trans (e2.same kb hkh)) ((K3.same cb (by omega) hcb).trans (e2.same cb hch))) (KA ?_)
  exact rest hv ((Km.ext e2).trans K3) R3 (V3.mono (λk hk=>⟨by have:=hk.1;omega,hk.2,by have:=hk.1;omega⟩)) (K3.blk g2 (by omega)) (Ee _)
end Gx
namespace Gx
open Go
def prW:Eb:=[101,113,32,110,101,113,32,108,116,32,108,116,101,32,103,116,32,103,116,101,32,119,105,116,104,105,110,32,119,105,116,104,111,117,116,32,98,101,116,119,101,101,110]
def opT:List Tkn->Nat
 | []=>0
 |t::_=>if t.k=1 then idxW (splW prW) t.s else 0
def KIz (en:Nat):Nat->List Vl->List Tkn->Nat->PR (List Vl):=λ_ l ts n=>match valT en 8 ts with
 | .error e=>.error e
 | .ok (v,r)=>.ok (l++[v],r,n)
def KLW (en:Nat) (ts:List Tkn) (n:Nat):PR (Int×List Vl):=
 if opT ts=0 then(match valT en 8 ts with
  | .error e=>.error e
  | .ok (v,r)=>.ok ((1,[v]),r,n))
 else match takT en 4 [40] ts.tail with
  | .error e=>.error e
  | .ok r1=>match KGk en (za (opT ts)).1 (za (opT ts)).2 (KIz en) [] r1 n with
   | .error e=>.error e
   | .ok (l,r,n')=>.ok (((opT ts:Nat),l),r,n')
theorem KNH {h:Heap} {Q:Ea->Heap->Prop} {g:Nat} {z:Ea} {p:Nat×Nat} {ty:TypeId} (hg:h[g]?=some (.cells z ty (0,0))) (hz:z.size=2) (H:∀h',Upd g h h'->Q (Gj p) h'):
  (M.need ((Gj p).size=2)>>=λ_=>stG ⟨g,0,none⟩ (Gj p)>>=λ_=>ldG 2 ⟨g,0,none⟩>>=λr=>(M.pure r:M (Ea))).wp h Q:=by
 refine ZH rfl (stR hg (by rw [hz];exact Ee 2) (by intro v hv;simp only [Gj,ED,EP,Fr]at hv;rcases hv with rfl|rfl<;>rfl) (λh' u g'=>?_))
 have e:lay z 0 (Gj p).toList=Gj p:=KW (by rw [hz];rfl)
 rw [e]at g'
 exact ldR g' rfl (KA (H _ u))
theorem Jw {k:Nat} {h:Heap} {Q:Ea->Heap->Prop} (H:∀h',Ext h h'->Q (Gj (k,k)) h'):(Zb (k:Int)).wp h Q:=by
 unfold Zb
 exact Kw (λh1 e1 s1 g1=>KNH (p:=(k,k)) g1 rfl (λh2 u2=>H _ (e1.upd u2 (Ee _))))
theorem qo {k:Nat} {h:Heap} {Q:Ea->Heap->Prop} (H:∀h',Ext h h'->Q (Gj (k,32)) h'):(WH (k:Int)).wp h Q:=by
 unfold WH
 exact Kw (λh1 e1 s1 g1=>KNH (p:=(k,32)) g1 rfl (λh2 u2=>H _ (e1.upd u2 (Ee _))))
theorem KLX {k:Nat} {h:Heap} {Q:Ea->Heap->Prop} (H:∀h',Ext h h'->Q (Gj (za k)) h'):(XF (k:Int)).wp h Q:=by
 unfold XF
 refine Kw (λh1 e1 s1 g1=>?_)
 have g1':∀{h2:Heap},Ext h1 h2->h2[h.size]?=some (.cells #[.int .i64 0,.int .i64 0] ZA (0,0)):=λe=>e.blk g1
 have j1:∀c:Bool,c=decide (k=7\/k=8)->(WK ⟨h.size,0,none⟩ (k:Int) c).wp h1 Q:=λc hc=>by
  unfold WK
  unfold za at H
  refine KH (λh0=>?_) (λh0=>?_)
  ·rw [if_pos (Ec (hc.symm.trans h0))]at H
   exact KD (qo (k:=0) (λh2 e2=>KNH (p:=(0,32)) (g1' e2) rfl (λh3 u3=>H _ ((e1.trans e2).upd u3 (Ee _)))))
  ·rw [if_neg (Ed (hc.symm.trans h0))]at H
   rw [eqI,show decide ((k:Int)=9)=decide (k=9)from Es.2 (by omega)]
   refine KH (λh9=>?_) (λh9=>?_)
   ·rw [if_pos (Ec h9)]at H
    exact KD (Jw (k:=2) (λh2 e2=>KNH (p:=(2,2)) (g1' e2) rfl (λh3 u3=>H _ ((e1.trans e2).upd u3 (Ee _)))))
   ·rw [if_neg (Ed h9)]at H
    exact KD (Jw (k:=1) (λh2 e2=>KNH (p:=(1,1)) (g1' e2) rfl (λh3 u3=>H _ ((e1.trans e2).upd u3 (Ee _)))))
 rw [eqI,eqI,show decide ((k:Int)=7)=decide (k=7)from Es.2 (by omega),show decide ((k:Int)=8)=decide (k=8)from Es.2 (by omega)]
 refine KH (λh7=>?_) (λh7=>?_)
 ·rw [h7]
  exact j1 true (Ej (.inl (Ec h7))).symm
 ·refine j1 _ (Es.2 ⟨.inr,λhh=>hh.resolve_left (Ed h7)⟩)
theorem KLY {p:Int×List Vl} {y:Sl}:∀u∈(#[.int .i64 p.1,y.v]:Ea).toList,one u=true:=by
 intro u hu
 simp only [ED,EP,Fr]at hu
 rcases hu with rfl|rfl
 ·rfl
 ·exact KC8 _
theorem KSg {h:Heap} {Q:Value⊕Ea->Heap->Prop} {g:Nat} {z:Ea} {op:Int} {y:Sl} {t:TypeId} (hg:h[g]?=some (.cells z t (0,0))) (hz:z.size=2)
  (H:∀h',Upd g h h'->Q (.inr #[.int .i64 op,y.v]) h'):(M.need ((#[.int .i64 op,y.v]:Ea).size=2)>>=λ_=>stG ⟨g,0,none⟩ (#[.int .i64 op,y.v]:Ea)>>=λ_=>ldG 2 ⟨g,0,none⟩>>=λr=>(M.pure (.inr r):M (Value⊕Ea))).wp h Q:=by
 refine ZH rfl (stR hg (by rw [hz];exact Ee 2) (KLY (p:=(op,[]))) (λh' u g'=>?_))
 have e:lay z 0 (#[.int .i64 op,y.v]:Ea).toList=#[.int .i64 op,y.v]:=KW (by rw [hz];rfl)
 rw [e]at g'
 exact ldR g' rfl (KA (H _ u))
theorem KSh {lo q sz:Nat} {h:Heap} {c:Ea} {ty:TypeId} (g:h[q]?=some (.cells c ty (0,0))) (hc:c.size=sz) (hl:lo<=q):Gw lo h ⟨some ⟨q,0,none⟩,1,1⟩ sz (JC [c]):=by
 have hf:JC [c]=c.toList:=by simp [JC]
 rw [hf]
 exact .inr ⟨q,ty,c,rfl,hl,g,by rw [hc];show sz=1*sz;omega,Ee _,by rw [Ep,hc];show sz=1*sz;omega,λj v hj=>by rw [<-hj];simp⟩
theorem KZG (ts:List Tkn):opT ts<=10:=by
 cases ts with
 |nil=>exact El _
 |cons t r=>
  rw [show opT (t::r)=if t.k=1 then idxW (splW prW) t.s else 0 from rfl]
  split
  ·have h1:=KLV (splW prW) t.s
   have h2:(splW prW).length=9:=by decide+kernel
   omega
  ·exact El _
theorem KUc (k:Nat):(za k).1<=2/\(za k).2<=32:=by
 unfold za
 split
 ·exact⟨by decide,by decide⟩
 ·split<;>exact⟨by decide,by decide⟩
theorem KQv {lo b en n:Nat} {h:Heap} {ts:List Tkn} {Q:Value⊕Ea->Heap->Prop} (R:PRd lo b en h ts n)
  (H1:∀p r n' h' c,KLW en ts n=.ok (p,r,n')->Kb b h h'->PRd lo b en h' r n'->GI (HS h h') h' p c->Q (.inr c) h') (H2:∀e h',KLW en ts n=.error e->Kb b h h'->Q (.inl (Uw e)) h'):(WL (some ⟨b,0,none⟩)).wp h Q:=by
 unfold WL
 have hlh:=R.lh
 have hbl:=R.bl
 refine Kw (λh1 e1 s1 g1=>Kw (λh2 e2 s2 g2=>?_))
 have E2:=e1.trans e2
 have R2:=R.ext E2
 have g1':=e2.blk g1
 have cP:KJ h2 ⟨h.size,0,none⟩=some (.pointer (some ⟨b,0,none⟩)):=oneC g1'
 have j1:∀{h3:Heap},Ext h2 h3->(UQ ⟨h.size,0,none⟩ ⟨h1.size,0,none⟩ ((opT ts:Nat):Int)).wp h3 Q:=λ{h3} e3=>by
  have E3:=E2.trans e3
  have hz3:=E3.size
  have hz32:=e3.size
  have R3:=R.ext E3
  have k1:=e3.blk g1'
  have k2:=e3.blk g2
  unfold UQ
  rw [eqI,show decide (((opT ts:Nat):Int)=0)=decide (opT ts=0)from Es.2 (by omega)]
  unfold KLW at H1 H2
  refine KH (λh0=>?_) (λh0=>?_)
  ·rw [if_pos (Ec h0)]at H1 H2
   refine zd (n:=some ⟨b,0,none⟩) (oneC k1) (Zn (KEQ en 8 (Ee _) ts n h3 _ lo b R3 (λv r h4 c hv K4 R4 V4=>?_) (λe h4 hv K4=>H2 e h4 (by rw [hv]) ((Km.ext E3).trans K4))))
   rw [hv]at H1
   have hz4:=K4.size
   refine zD V4.size (KAz ?_)
   have e5:=Ext.push h4 (.cells c KB)
   have g5:(h4.push (.cells c KB))[h4.size]?=some (.cells c KB (0,0)):=Kx
   have hs5:(h4.push (.cells c KB)).size=h4.size+1:=F4 ..
   generalize h4.push (.cells c KB)=h5 at e5 g5 hs5⊢
   have k5:=e5.blk (K4.blk k2 (show ¬h1.size=b by omega))
   refine KSg (op:=1) (y:=⟨some ⟨h4.size,0,none⟩,1,1⟩) k5 rfl (λh6 u6=>H1 (1,[v]) r n h6 _ rfl ?_ ((R4.ext e5).upd u6 (by omega)) ?_)
   ·exact(((Km.ext E3).trans K4).trans (Km.ext e5)).own u6 (by omega)
   ·have g6:=(u6.ne h4.size (by omega)).trans g5
    have G:VGw h.size (HS h h4) h6 ⟨some ⟨h4.size,0,none⟩,1,1⟩ [c] [v]:=⟨KSh g6 V4.size (by omega),λx hx=>by simp only [ED,EP,Fr]at hx;subst hx;exact⟨V4.size,V4.to.one⟩,rfl,λj a1 a2=>by
     obtain rfl:j=0:=by simp only [Ef,En]at a1;omega
     exact(V4.same (λk hk=>(u6.ne k (by have:=hk.1;omega)).trans (e5.same k hk.2))).mono (λk hk=>⟨by have:=hk.1;omega,hk.2⟩)⟩
    refine⟨_,rfl,⟨by show(-9223372036854775808:Int)<=1;decide,by show(1:Int)<=9223372036854775807;decide⟩,(G.rep_ (by show 1<=9223372036854775807;decide)).same (λ_ _=>rfl) (λk hk=>?_)⟩
    rcases hk with hk|hk
    ·exact⟨hk.1,by have:=hk.2;have:=u6.size;omega⟩
    ·obtain⟨a,ha,rfl⟩:=hk
     cases ha
     exact⟨by show h.size<=h4.size;omega,by show h4.size<h6.size;have:=u6.size;omega⟩
  ·have h0:=Ed h0
   rw [if_neg h0]at H1 H2
   have hne:∃t r0,ts=t::r0/\t.k=1:=by
    cases ts with
    |nil=>exact absurd rfl h0
    |cons t r0=>
     refine⟨t,r0,rfl,EM (λe=>h0 ?_)⟩
     show(if t.k=1 then _ else _)=0
     rw [if_neg e]
   obtain⟨t,r0,hts,htk⟩:=hne
   have hop:=KZG ts
   have hle:=KUc (opT ts)
   obtain⟨op,hope⟩:∃op,op=opT ts:=⟨_,rfl⟩
   rw [<-hope]at H1 H2 hop hle⊢
   subst hts
   refine Kw (λh4 e4 s4 g4=>ZH rfl (stR g4 (Ee 2) (KLY (p:=((op:Int),[])) (y:=Sl.nil)) (λh5 u5 g5=>?_)))
   have g5:h5[h3.size]?=some (.cells #[.int .i64 (op:Int),(Sl.nil:Sl).v] VZ (0,0)):=by
    have e:lay (#[.int .i64 0,.slice none 0 0]:Ea) 0 (#[.int .i64 (op:Int),(Sl.nil:Sl).v]:Ea).toList=#[.int .i64 (op:Int),(Sl.nil:Sl).v]:=KW (by rfl)
    rw [<-e];exact g5
   have E5:Ext h3 h5:=e4.upd u5 (Ee _)
   have R5:=R3.ext E5
   refine zd (n:=some ⟨b,0,none⟩) (oneC (E5.blk k1)) (Zn (Gi R5 (λt' r' h6 hn K6 R6=>?_) (λe h6 hn K6=>?_)))
   ·obtain⟨e,_⟩:=KIv hn
    cases e
    have g6:=K6.blk g5 (show ¬h3.size=b by omega)
    have k6:=K6.blk (E5.blk k1) (show ¬h.size=b by omega)
    refine zd (n:=some ⟨b,0,none⟩) (oneC k6) (Zn (Ui (s:=[40]) R6 (λr1 h7 hr1 K7 R7=>?_) (λe h7 hr1 K7=>H2 e h7 (by rw [show(t::r0).tail=r0 from rfl,hr1]) ((((Km.ext E3).trans (Km.ext E5)).trans K6).trans K7))))
    rw [show(t::r0).tail=r0 from rfl,hr1]at H1 H2
    dsimp only at H1 H2
    have k7:=K7.blk k6 (show ¬h.size=b by omega)
    have g7:=K7.blk g6 (show ¬h3.size=b by omega)
    refine zd (n:=some ⟨b,0,none⟩) (oneC k7) (KD (KLX (λh8 e8=>qE (oneC (e8.blk k7)) ?_)))
    have R8:=R7.ext e8
    have k8:=e8.blk k7
    have g8:=e8.blk g7
    have K08:Kb b h h8:=((((Km.ext E3).trans (Km.ext E5)).trans K6).trans K7).trans (Km.ext e8)
    have hz8:h3.size<h8.size:=JV g8
    have k2':h8[h1.size]?=some (.cells (#[.int .i64 0,.slice none 0 0]:Ea) VZ (0,0)):=e8.blk (K7.blk (K6.blk (E5.blk k2) (by omega)) (by omega))
    refine Zn (KVr (one:=KIz en) (a0:=[]) (sb:=h3.size) (λi l hh=>∃r css,hh[h3.size]?=some (.cells #[.int .i64 (op:Int),(r:Sl).v] VZ (0,0))/\VGw (h8.size+1) (λk=>h8.size+1<=k/\k<hh.size/\¬Sl.on r k) hh r css l/\hh[h.size]?=some (.cells #[.pointer (some ⟨b,0,none⟩)] Z9 (0,0))/\l.length<=i)
     R8 hz8 (by omega) (by omega) (by omega) ?_ ?_ ?_ ?_ ?_)
    ·exact λh' e'=>⟨Sl.nil,[],e'.blk g8,VGw.nil _ _ _,e'.blk k8,Ee _⟩
    ·rintro i l ha hb ⟨r,css,a1,a2,a3,a4⟩ hsz K
     have hK:=K.size
     exact⟨r,css,K.blk a1 (by omega),(a2.same (λk hk=>K.same k (a2.gw.lt hk).1 (by have:=(a2.gw.lt hk).2;omega)) (λk hk=>K.same k hk.2.1 (by have:=hk.1;omega))).mono (λk hk=>⟨hk.1,by have:=hk.2.1;omega,hk.2.2⟩),K.blk a3 (by omega),a4⟩
    ·rintro i l ts2 n2 h9 Q1 hi ⟨r,css,a1,a2,a3,a4⟩ hsz R9 G1 G2
     refine KKU KAl (KBV (i:Int) ⟨h3.size,0,none⟩ ⟨h.size,0,none⟩) ?_
     unfold qg
     refine Kn (n:=r) (by rw [KM,KF a1];rfl) (zd (n:=some ⟨b,0,none⟩) (oneC a3) ?_)
     simp only [KM,EC]
     unfold KIz at G1 G2
     refine KSf (C:=#[.int .i64 (op:Int),r.v]) (z:=h8.size+1) (kb:=h3.size) (cb:=h.size) (off:=1) R9 a1 rfl (oneC a3) (by omega) (by omega) (by omega) (by omega) (by omega) (by omega) (by omega) (by omega) a2 (λk hk=>hk) (by omega) hbl ?_ ?_
     ·intro v r' h' x' css' hv K' R' g' V' on'
      rw [hv]at G1
      have hK':=K'.size
      refine G1 (l++[v]) r' n2 h' rfl ⟨hK',λk hk hn=>K'.same k hk (λhh=>hh.elim (λe=>hn (.inl e)) (λhh=>hh.elim (λe=>hn (.inr (.inl e))) (λho=>hn (.inr (.inr (by have:=(a2.gw.lt ho).2;omega))))))⟩ R' ⟨x',css',g',?_,?_,by rw [List.length_append,List.length_singleton];omega⟩
      ·exact V'.mono (λk hk=>⟨hk.1.elim (λh=>h.1) (λh=>by omega),hk.2.1,hk.2.2⟩)
      ·exact K'.blk a3 (λhh=>hh.elim (λe=>by omega) (λhh=>hh.elim (λe=>by omega) (λho=>by have:=(a2.gw.lt ho).2;omega)))
     ·intro e h' hv K'
      rw [hv]at G2
      exact G2 e h' rfl (K'.wkb (λk hk=>.inl hk))
    ·rintro i l r' n' h9 hs F9 R9 hi ⟨r,css,a1,a2,a3,a4⟩ hsz
     rw [hs]at H1
     have hF:=F9.size
     have k9:h9[h1.size]?=some (.cells (#[.int .i64 0,.slice none 0 0]:Ea) VZ (0,0)):=F9.blk k2' (by omega)
     refine ldR a1 rfl (KSg (op:=(op:Int)) (y:=r) k9 rfl (λh10 u10=>H1 ((op:Int),l) r' n' h10 _ rfl ?_ (R9.upd u10 (by omega)) ?_))
     ·refine⟨by have:=K08.size;have:=u10.size;omega,λk hk hn=>(u10.ne k (by omega)).trans ((F9.same k (by have:=K08.size;omega) (λhh=>hh.elim hn (λhh=>by omega))).trans (K08.same k hk hn))⟩
     ·have hu:=u10.size
      refine⟨r,rfl,⟨by show(-9223372036854775808:Int)<=(op:Int);omega,by show(op:Int)<=9223372036854775807;omega⟩,(a2.rep_ (by omega)).same (λk hk=>u10.ne k ?_) (λk hk=>?_)⟩
      ·rcases hk with hk|hk
       ·have:=hk.1;omega
       ·have:=(a2.gw.lt hk).2;omega
      ·rcases hk with hk|hk
       ·exact⟨by have:=hk.1;omega,by have:=hk.2.1;omega⟩
       ·exact⟨by have:=(a2.gw.lt hk).2;omega,by have:=(a2.gw.lt hk).1;omega⟩
    ·intro e h9 hs F9
     rw [hs]at H2
     exact H2 e h9 rfl ⟨by have:=F9.size;have:=K08.size;omega,λk hk hn=>(F9.same k (by have:=K08.size;omega) (λhh=>hh.elim hn (λhh=>by omega))).trans (K08.same k hk hn)⟩
   ·rw [KBq,if_pos htk]at hn
    cases hn
 obtain⟨x,g,T,hc,hb⟩:=R2.obj
 have c0:KJ h2 ((⟨b,0,none⟩:Addr).add 0)=some x.v:=by rw [add_zero,KF g];rfl
 have hl:=T.1
 refine zd cP (Kc (Kn c0 ?_))
 cases ts with
 |nil=>exact Y9 (Eo (by rw [hl];simp)) (KZ (iteF rfl (j1 (Ext.refl _))))
 |cons t r=>
  obtain⟨a,ha,hca⟩:=PRd.head (lo:=lo) (b:=b) (en:=en) (n:=n) T
  have z:a.add ((0:Int).toNat*4)=a:=rfl
  rw [Ef]at hl
  have htok:=(R.good t (by simp)).1
  refine Ve (Ej (by rw [hl];omega)) (KR (zd cP (KR (Kc (KR (Kn c0 (KR (NM (by decide) (by omega) ha (KR (KV (n:=t.k) (by rw [z];exact hca 0 (by decide)) (KZ ?_)))))))))))
  rw [eqI]
  have hopt:opT (t::r)=if t.k=1 then idxW (splW prW) t.s else 0:=rfl
  refine KH (λhk=>?_) (λhk=>?_)
  ·rw [if_pos (Ec hk)]at hopt
   refine zd cP (Kc (Kn c0 (NM (by decide) (by omega) ha (WO (n:=bs t.s) (by rw [z];exact hca 1 (by decide)) (KD (KIx (s:=prW) (by decide) (λh3 e3=>?_)))))))
   have:=j1 e3
   rw [hopt]at this
   exact this
  ·rw [if_neg (Ed hk)]at hopt
   have:=j1 (Ext.refl h2)
   rw [hopt]at this
   exact this
end Gx
namespace Gx
open Go
structure Shp where
 (n u p v s:Nat×Nat)
def shp0:Shp:=⟨(0,0),(0,0),(0,0),(0,0),(0,0)⟩
def shpV (x:Shp):Ea:=#[.int .i64 (x.n.1:Int),.int .i64 (x.n.2:Int),.int .i64 (x.u.1:Int),.int .i64 (x.u.2:Int),.int .i64 (x.p.1:Int),.int .i64 (x.p.2:Int),.int .i64 (x.v.1:Int),.int .i64 (x.v.2:Int),.int .i64 (x.s.1:Int),.int .i64 (x.s.2:Int)]
def Kz (op:Int):Shp:=
 if op=1\/op=2 then⟨(0,0),(0,32),(0,0),(0,0),(0,0)⟩else
 if op=3 then⟨(0,0),(0,0),(0,0),(0,32),(0,0)⟩else
 if op=4\/op=15\/op=16\/op=42\/op=46\/op=47 then⟨(1,1),(0,0),(0,0),(0,0),(0,0)⟩else
 if op=5\/op=6\/op=7\/op=8\/op=9\/op=10\/op=32\/op=33 then⟨(0,32),(0,0),(0,0),(0,0),(0,0)⟩else
 if op=17\/op=43 then⟨(1,32),(0,0),(0,0),(0,0),(0,0)⟩else
 if op=48 then⟨(0,1),(0,0),(0,0),(0,0),(0,0)⟩else
 if op=14 then⟨(1,1),(0,0),(1,1),(0,0),(0,0)⟩else
 if op=18 then⟨(0,0),(1,32),(0,0),(0,0),(0,0)⟩else
 if op=19 then⟨(0,0),(0,0),(1,1),(0,0),(0,0)⟩else
 if op=20\/op=21\/op=52 then⟨(0,0),(0,0),(0,0),(0,0),(1,1)⟩else
 if op=22\/op=23\/op=50\/op=51 then⟨(0,0),(0,0),(0,0),(0,0),(1,32)⟩else
 if op=53 then⟨(0,0),(0,0),(0,0),(0,0),(3,3)⟩else
 if op=26\/op=27\/op=29 then⟨(0,0),(1,1),(0,0),(0,0),(0,0)⟩else
 if op=28 then⟨(0,0),(2,2),(0,0),(0,0),(0,0)⟩else
 if op=34 then⟨(0,0),(0,0),(0,0),(1,1),(0,0)⟩else
 if op=54\/op=56 then⟨(0,0),(1,1),(0,0),(0,0),(1,1)⟩else
 if op=55 then⟨(0,0),(0,0),(0,0),(0,0),(2,2)⟩else
 if op=57 then⟨(3,3),(0,0),(0,0),(0,0),(0,0)⟩else
 if op=58 then⟨(1,1),(0,0),(0,0),(1,1),(0,0)⟩else
 shp0
theorem KXG {β:Type} {ps:List (Nat×Nat)} {z cs:Ea} {parts:List (Nat×Value)} {f:Ea->M β} {h:Heap} {Q:β->Heap->Prop} (hc:Instr.fill (ps[·]?) z parts=some cs) (H:(f cs).wp h Q):(qD ps z parts>>=f).wp h Q:=⟨cs,hc,H⟩
theorem KNI (x:Shp):∀u∈(shpV x).toList,one u=true:=by
 intro u hu
 simp only [shpV,ED,EP,Fr]at hu
 rcases hu with rfl|rfl|rfl|rfl|rfl|rfl|rfl|rfl|rfl|rfl<;>rfl
theorem KQw {op:Int} {h:Heap} {Q:Ea->Heap->Prop} (H:∀h',Ext h h'->Q (shpV (Kz op)) h'):(X8 op).wp h Q:=by
 unfold X8
 refine Kw (λh1 e1 s1 g1=>?_)
 have put:∀{x:Shp} {h2:Heap},Ext h1 h2->(∀h',Ext h h'->Q (shpV x) h')->(M.need ((shpV x).size=10)>>=λ_=>stG ⟨h.size,0,none⟩ (shpV x)>>=λ_=>ldG 10 ⟨h.size,0,none⟩>>=λr=>(M.pure r:M (Ea))).wp h2 Q:=λ{x h2} e2 HH=>by
  refine ZH rfl (stR (e2.blk g1) (by simp [shpV]) (KNI x) (λh' u g'=>?_))
  have e:lay (Array.replicate 10 (.int .i64 0):Ea) 0 (shpV x).toList=shpV x:=KW (by simp [shpV])
  rw [e]at g'
  exact ldR g' rfl (KA (HH _ ((e1.trans e2).upd u (Ee _))))
 have leaf:∀{x:Shp} {h2:Heap} {parts:List (Nat×Value)},Ext h1 h2->Instr.fill (([(0,2),(2,2),(4,2),(6,2),(8,2)]:List (Nat×Nat))[·]?) (Array.replicate 10 (.int .i64 0):Ea) parts=some (shpV x)->(∀h',Ext h h'->Q (shpV x) h')->
   (qD [(0,2),(2,2),(4,2),(6,2),(8,2)] (Array.replicate 10 (.int .i64 0):Ea) parts>>=λc=>M.need (c.size=10)>>=λ_=>stG ⟨h.size,0,none⟩ c>>=λ_=>ldG 10 ⟨h.size,0,none⟩>>=λr=>(M.pure r:M (Ea))).wp h2 Q:=λe2 hf HH=>KXG hf (put e2 HH)
 by_cases hop:op∈([1,2,3,4,15,16,42,46,47,5,6,7,8,9,10,32,33,17,43,48,14,18,19,20,21,52,22,23,50,51,53,26,27,29,28,34,54,56,55,57,58]:List Int)
 ·simp only [ED,EP,Fr]at hop
  rcases hop with rfl|rfl|rfl|rfl|rfl|rfl|rfl|rfl|rfl|rfl|rfl|rfl|rfl|rfl|rfl|rfl|rfl|rfl|rfl|rfl|rfl|rfl|rfl|rfl|rfl|rfl|rfl|rfl|rfl|rfl|rfl|rfl|rfl|rfl|rfl|rfl|rfl|rfl|rfl|rfl|rfl
  all_goals (repeat first|refine iteF rfl ?_|refine iteT rfl ?_)
  iterate 2 exact KD (qo (k:=0) (λh2 e2=>leaf (x:=⟨(0,0),(0,32),(0,0),(0,0),(0,0)⟩) (e2) rfl H))
  iterate 1 exact KD (qo (k:=0) (λh2 e2=>leaf (x:=⟨(0,0),(0,0),(0,0),(0,32),(0,0)⟩) (e2) rfl H))
  iterate 6 exact KD (Jw (k:=1) (λh2 e2=>leaf (x:=⟨(1,1),(0,0),(0,0),(0,0),(0,0)⟩) (e2) rfl H))
  iterate 8 exact KD (qo (k:=0) (λh2 e2=>leaf (x:=⟨(0,32),(0,0),(0,0),(0,0),(0,0)⟩) (e2) rfl H))
  iterate 2 exact KD (qo (k:=1) (λh2 e2=>leaf (x:=⟨(1,32),(0,0),(0,0),(0,0),(0,0)⟩) (e2) rfl H))
  iterate 1 exact leaf (x:=⟨(0,1),(0,0),(0,0),(0,0),(0,0)⟩) (Ext.refl _) rfl H
  iterate 1 exact KD (Jw (k:=1) (λh2 e2=>KD (Jw (k:=1) (λh3 e3=>leaf (x:=⟨(1,1),(0,0),(1,1),(0,0),(0,0)⟩) ((e2.trans e3)) rfl H))))
  iterate 1 exact KD (qo (k:=1) (λh2 e2=>leaf (x:=⟨(0,0),(1,32),(0,0),(0,0),(0,0)⟩) (e2) rfl H))
  iterate 1 exact KD (Jw (k:=1) (λh2 e2=>leaf (x:=⟨(0,0),(0,0),(1,1),(0,0),(0,0)⟩) (e2) rfl H))
  iterate 3 exact KD (Jw (k:=1) (λh2 e2=>leaf (x:=⟨(0,0),(0,0),(0,0),(0,0),(1,1)⟩) (e2) rfl H))
  iterate 4 exact KD (qo (k:=1) (λh2 e2=>leaf (x:=⟨(0,0),(0,0),(0,0),(0,0),(1,32)⟩) (e2) rfl H))
  iterate 1 exact KD (Jw (k:=3) (λh2 e2=>leaf (x:=⟨(0,0),(0,0),(0,0),(0,0),(3,3)⟩) (e2) rfl H))
  iterate 3 exact KD (Jw (k:=1) (λh2 e2=>leaf (x:=⟨(0,0),(1,1),(0,0),(0,0),(0,0)⟩) (e2) rfl H))
  iterate 1 exact KD (Jw (k:=2) (λh2 e2=>leaf (x:=⟨(0,0),(2,2),(0,0),(0,0),(0,0)⟩) (e2) rfl H))
  iterate 1 exact KD (Jw (k:=1) (λh2 e2=>leaf (x:=⟨(0,0),(0,0),(0,0),(1,1),(0,0)⟩) (e2) rfl H))
  iterate 2 exact KD (Jw (k:=1) (λh2 e2=>KD (Jw (k:=1) (λh3 e3=>leaf (x:=⟨(0,0),(1,1),(0,0),(0,0),(1,1)⟩) ((e2.trans e3)) rfl H))))
  iterate 1 exact KD (Jw (k:=2) (λh2 e2=>leaf (x:=⟨(0,0),(0,0),(0,0),(0,0),(2,2)⟩) (e2) rfl H))
  iterate 1 exact KD (Jw (k:=3) (λh2 e2=>leaf (x:=⟨(3,3),(0,0),(0,0),(0,0),(0,0)⟩) (e2) rfl H))
  iterate 1 exact KD (Jw (k:=1) (λh2 e2=>KD (Jw (k:=1) (λh3 e3=>leaf (x:=⟨(1,1),(0,0),(0,0),(1,1),(0,0)⟩) ((e2.trans e3)) rfl H))))
 simp only [ED,EP,Fr,not_or]at hop
 have hz:Kz op=shp0:=by
  unfold Kz
  simp only [hop,Fr,IF]
 rw [hz]at H
 iterate 41 refine iteF (by simp only [eqI,EQ,hop,I9]) ?_
 exact put (x:=shp0) (Ext.refl _) H
end Gx
namespace Gx
open Go
structure Ac where
 ns:List (Eb)
 us:List Int
 ps:List (Int×List Vl)
 vs:List Vl
 ss:List (List St)
def Ac.cnt (a:Ac):Nat:=a.ns.length+a.us.length+a.ps.length+a.vs.length+a.ss.length
def U3 (en:Nat) (x:Shp) (tr:List Tkn->Nat->PR (List St)):Nat->Ac->List Tkn->Nat->PR Ac:=λi a ts n=>
 if i<x.n.2 then(match KNF en ts with
  | .error e=>.error e
  | .ok (s,r)=>.ok ({a with ns:=a.ns++[s]},r,n))
 else if i<x.n.2+x.u.2 then(match numT en ts with
  | .error e=>.error e
  | .ok (m,r)=>.ok ({a with us:=a.us++[m]},r,n))
 else if a.ps.length<x.p.2 then(match KLW en ts n with
  | .error e=>.error e
  | .ok (p,r,n')=>.ok ({a with ps:=a.ps++[p]},r,n'))
 else if a.vs.length<x.v.2 then(match valT en 8 ts with
  | .error e=>.error e
  | .ok (v,r)=>.ok ({a with vs:=a.vs++[v]},r,n))
 else match tr ts n with
  | .error e=>.error e
  | .ok (l,r,n')=>.ok ({a with ss:=a.ss++[l]},r,n')
def VR:RepT Vl:=λS h v c=>Zg S h v c
theorem KGl:Stay VR:=⟨λh e e2=>(h.same e).mono e2⟩
theorem VGw.toR {lo:Nat} {S:Nat->Prop} {h:Heap} {r:Sl} {css:List (Ea)} {l:List Vl} (G:VGw lo S h r css l):RGw VR 4 lo S h r css l:=⟨G.gw,G.w4,G.len,G.rep⟩
theorem RGw.toV {lo:Nat} {S:Nat->Prop} {h:Heap} {r:Sl} {css:List (Ea)} {l:List Vl} (G:RGw VR 4 lo S h r css l):VGw lo S h r css l:=⟨G.gw,G.wn,G.len,G.rep⟩
def SS (z:Nat) (h:Heap) (r:Fin 5->Sl):Nat->Prop:=λk=>z<=k/\k<h.size/\∀i,¬Sl.on (r i) k
def updR (r:Fin 5->Sl) (j:Fin 5) (x:Sl):Fin 5->Sl:=λi=>if i=j then x else r i
theorem KBc (r:Fin 5->Sl) (j:Fin 5) (x:Sl):updR r j x j=x:=if_pos rfl
theorem KGm (r:Fin 5->Sl) {i j:Fin 5} (x:Sl) (h:i≠j):updR r j x i=r i:=if_neg h
structure StI (z sb:Nat) (op:Int) (r:Fin 5->Sl) (a:Ac) (h:Heap):Prop where
 cell:h[sb]?=some (.cells #[.int .i64 op,(r 0).v,(r 1).v,(r 2).v,(r 3).v,(r 4).v] KU (0,0))
 g0:∃css,RGw zQ 1 z (SS z h r) h (r 0) css a.ns
 g1:∃css,RGw KAD 1 z (SS z h r) h (r 1) css a.us
 g2:∃css,RGw GI 2 z (SS z h r) h (r 2) css a.ps
 g3:∃css,RGw VR 4 z (SS z h r) h (r 3) css a.vs
 g4:∃css,RGw KAE 1 z (SS z h r) h (r 4) css a.ss
 dj:∀i j,i≠j->∀k,Sl.on (r i) k->¬Sl.on (r j) k
theorem KNJ {α:Type} {Rep:RepT α} (ok:Stay Rep) {z b sz:Nat} {h h':Heap} {r:Fin 5->Sl} {i:Fin 5} {css:List (Ea)} {l:List α} (G:RGw Rep sz z (SS z h r) h (r i) css l) (K:Kb b h h') (hb:b<z):RGw Rep sz z (SS z h' r) h' (r i) css l:=
 G.same ok (λk hk=>K.same k (G.gw.lt hk).1 (by have:=(G.gw.lt hk).2;omega)) (λk hk=>K.same k hk.2.1 (by have:=hk.1;omega)) (λk hk=>⟨hk.1,Ez hk.2.1 K.size,hk.2.2⟩)
theorem StI.km {z sb b:Nat} {op:Int} {r:Fin 5->Sl} {a:Ac} {h h':Heap} (I:StI z sb op r a h) (K:Kb b h h') (hb:b<z) (hbs:b≠sb):StI z sb op r a h':=by
 obtain⟨c0,G0⟩:=I.g0
 obtain⟨c1,G1⟩:=I.g1
 obtain⟨c2,G2⟩:=I.g2
 obtain⟨c3,G3⟩:=I.g3
 obtain⟨c4,G4⟩:=I.g4
 exact⟨K.blk I.cell (λe=>hbs e.symm),⟨c0,KNJ Z0 G0 K hb⟩,⟨c1,KNJ Jq G1 K hb⟩,⟨c2,KNJ JY G2 K hb⟩,⟨c3,KNJ KGl G3 K hb⟩,⟨c4,KNJ UY G4 K hb⟩,I.dj⟩
theorem StI.z_le {z sb:Nat} {op:Int} {r:Fin 5->Sl} {a:Ac} {h:Heap} (I:StI z sb op r a h) (i:Fin 5) (k:Nat) (hk:Sl.on (r i) k):z<=k/\k<h.size:=by
 obtain⟨c0,G0⟩:=I.g0
 obtain⟨c1,G1⟩:=I.g1
 obtain⟨c2,G2⟩:=I.g2
 obtain⟨c3,G3⟩:=I.g3
 obtain⟨c4,G4⟩:=I.g4
 match i,hk with
 |0,hk=>exact⟨(G0.gw.lt hk).2,(G0.gw.lt hk).1⟩
 |1,hk=>exact⟨(G1.gw.lt hk).2,(G1.gw.lt hk).1⟩
 |2,hk=>exact⟨(G2.gw.lt hk).2,(G2.gw.lt hk).1⟩
 |3,hk=>exact⟨(G3.gw.lt hk).2,(G3.gw.lt hk).1⟩
 |4,hk=>exact⟨(G4.gw.lt hk).2,(G4.gw.lt hk).1⟩
structure Grown (z b sb:Nat) (r:Fin 5->Sl) (j:Fin 5) (x:Sl) (h h4:Heap):Prop where
 size:h.size<=h4.size
 zh:z<=h.size
 same:∀k,k<h.size->k≠b->k≠sb->¬Sl.on (r j) k->h4[k]?=h[k]?
 on_:∀k,Sl.on x k->Sl.on (r j) k\/h.size<=k
 sbz:sb<z
 bz:b<z
theorem KI0 {α:Type} {Rep:RepT α} (ok:Stay Rep) {z b sb sz:Nat} {op:Int} {a:Ac} {h h4:Heap} {r:Fin 5->Sl} {j:Fin 5} {x:Sl} {css:List (Ea)} {l:List α} (g:Grown z b sb r j x h h4) (I:StI z sb op r a h) (G:RGw Rep sz z (λk=>(SS z h r k\/h.size<=k)/\k<h4.size/\¬Sl.on x k) h4 x css l):RGw Rep sz z (SS z h4 (updR r j x)) h4 (updR r j x j) css l:=by
 rw [KBc]
 have hzh:=g.zh
 refine G.same ok (λk hk=>rfl) (λk hk=>rfl) (λk hk=>⟨hk.1.elim (λh=>h.1) (λh=>by omega),hk.2.1,λi=>?_⟩)
 by_cases hi:i=j
 ·subst hi
  rw [KBc]
  exact hk.2.2
 ·rw [KGm r x hi]
  exact λho=>hk.1.elim (λh=>h.2.2 i ho) (λh=>by have:=(I.z_le i k ho).2;omega)
theorem WM {α:Type} {Rep:RepT α} (ok:Stay Rep) {z b sb sz:Nat} {op:Int} {a:Ac} {h h4:Heap} {r:Fin 5->Sl} {i j:Fin 5} {x:Sl} {css:List (Ea)} {l:List α} (g:Grown z b sb r j x h h4) (I:StI z sb op r a h) (hij:i≠j) (G:RGw Rep sz z (SS z h r) h (r i) css l):RGw Rep sz z (SS z h4 (updR r j x)) h4 (updR r j x i) css l:=by
 rw [KGm r x hij]
 have hs:=g.size
 have hsb:=g.sbz
 have hbz:=g.bz
 refine G.same ok (λk hk=>g.same k (G.gw.lt hk).1 (by have:=(G.gw.lt hk).2;omega) (by have:=(G.gw.lt hk).2;omega) (I.dj i j hij k hk)) (λk hk=>g.same k hk.2.1 (by have:=hk.1;omega) (by have:=hk.1;omega) (hk.2.2 j)) (λk hk=>⟨hk.1,by have:=hk.2.1;omega,λi'=>?_⟩)
 by_cases hi:i'=j
 ·subst hi
  rw [KBc]
  exact λho=>(g.on_ k ho).elim (hk.2.2 i') (λh=>by have:=hk.2.1;omega)
 ·rw [KGm r x hi]
  exact hk.2.2 i'
theorem KNK {z b sb:Nat} {op:Int} {a:Ac} {h h4:Heap} {r:Fin 5->Sl} {j:Fin 5} {x:Sl} (g:Grown z b sb r j x h h4) (I:StI z sb op r a h):∀i i',i≠i'->∀k,Sl.on (updR r j x i) k->¬Sl.on (updR r j x i') k:=by
 intro i i' hii k h1 h2
 by_cases hi:i=j
 ·subst hi
  rw [KBc]at h1
  rw [KGm r x (λe=>hii e.symm)]at h2
  rcases g.on_ k h1 with h3|h3
  ·exact I.dj i i' hii k h3 h2
  ·have:=(I.z_le i' k h2).2;omega
 ·rw [KGm r x hi]at h1
  by_cases hi':i'=j
  ·subst hi'
   rw [KBc]at h2
   rcases g.on_ k h2 with h3|h3
   ·exact I.dj i i' hii k h1 h3
   ·have:=(I.z_le i k h1).2;omega
  ·rw [KGm r x hi']at h2
   exact I.dj i i' hii k h1 h2
theorem KPe {α β:Type} {Rep:RepT α} (ok:Stay Rep) {sz lo bytes:Nat} {S:Nat->Prop} {ty:TypeId} {z:Ea} {h:Heap} {Q:β->Heap->Prop} {P:Heap->Prop} {r:Sl} {css:List (Ea)} {l:List α} {a:α} {c:Ea} {f:Sl->M β} (hz:z.size=sz) (hsz:0<sz) (G:RGw Rep sz lo S h r css l) (hS:∀k,S k->k<h.size/\¬Sl.on r k)
  (hc:c.size=sz) (h1:∀u∈c.toList,one u=true) (hv:Rep S h a c) (hlo:lo<=h.size) (hm:(l.length+1)*bytes<=140737488355328) (hm2:l.length+1<=9223372036854775807) (hP:∀h',Ext h h'->P h')
  (H:∀h' r',RGw Rep sz lo S h' r' (css++[c]) (l++[a])->h.size<=h'.size->(∀i,i<h.size->¬Sl.on r i->h'[i]?=h[i]?)->(∀i,Sl.on r' i->Sl.on r i\/h.size<=i)->(f r').wp h' Q):
  (bdL ty 1 c>>=λx=>chk P>>=λ_=>apL ty sz bytes z r x>>=f).wp h Q:=by
 have key:=KXF (ty:=ty) (Q:=Q) (f:=f) ok hz hsz G hS hc h1 hv hlo hm hm2 H
 obtain⟨x,hx,hw⟩:=key
 exact⟨x,hx,(),hP _ (Ext.push _ _),hw⟩
end Gx
namespace Gx
open Go
def stW:Eb:=[86,32,69,32,105,110,106,101,99,116,32,97,100,100,86,32,111,117,116,32,105,110,32,98,111,116,104,32,111,117,116,69,32,105,110,69,32,98,111,116,104,69,32,111,117,116,86,32,105,110,86,32,98,111,116,104,86,32,104,97,115,32,104,97,115,75,101,121,32,104,97,115,78,111,116,32,104,97,115,76,97,98,101,108,32,104,97,115,73,100,32,105,115,32,119,104,101,114,101,32,110,111,116,32,97,110,100,32,111,114,32,100,101,100,117,112,32,115,105,109,112,108,101,80,97,116,104,32,108,105,109,105,116,32,115,107,105,112,32,114,97,110,103,101,32,116,97,105,108,32,105,100,32,108,97,98,101,108,32,118,97,108,117,101,115,32,118,97,108,117,101,77,97,112,32,99,111,110,115,116,97,110,116,32,99,111,117,110,116,32,115,117,109,32,109,105,110,32,109,97,120,32,102,111,108,100,32,117,110,102,111,108,100,32,112,97,116,104,32,97,115,32,115,101,108,101,99,116,32,111,114,100,101,114,32,111,114,100,101,114,68,101,115,99,32,111,114,100,101,114,66,121,32,111,114,100,101,114,66,121,68,101,115,99,32,103,114,111,117,112,67,111,117,110,116,32,108,111,111,112,115,32,117,110,105,111,110,32,99,111,97,108,101,115,99,101,32,111,112,116,105,111,110,97,108,32,99,104,111,111,115,101,32,116,105,109,101,115,32,117,110,116,105,108,32,101,109,105,116,32,97,100,100,69,32,112,114,111,112,101,114,116,121,32,100,114,111,112,32,105,100,101,110,116,105,116,121]
def Shp.least (x:Shp):Nat:=x.n.1+x.u.1+x.p.1+x.v.1+x.s.1
def Shp.most (x:Shp):Nat:=x.n.2+x.u.2+x.p.2+x.v.2+x.s.2
def KER (en:Nat) (tr:List Tkn->Nat->PR (List St)) (ts:List Tkn) (n:Nat):PR St:=
 match nxT en 1 ts with
 | .error e=>.error e
 | .ok (t,r)=>if idxW (splW stW) t.s=0 then .error (zZ en ts,160)else if n+1>256 then .error (zZ en ts,3)else
  match takT en 4 [40] r with
  | .error e=>.error e
  | .ok r1=>match KGk en (Kz (idxW (splW stW) t.s:Nat)).least (Kz (idxW (splW stW) t.s:Nat)).most (U3 en (Kz (idxW (splW stW) t.s:Nat)) tr) ⟨[],[],[],[],[]⟩ r1 (n+1)with
   | .error e=>.error e
   | .ok (a,r2,n2)=>.ok (.mk (idxW (splW stW) t.s:Nat) a.ns a.us a.ps a.vs a.ss,r2,n2)
def KI1 (stp:List Tkn->Nat->PR St):Nat->List St->List Tkn->Nat->PR (List St)
 |0,_,_,_=>.error (0,0)
 |f+1,l,ts,n=>if isT 4 [46] ts=true then(match stp ts.tail n with
   | .error e=>.error e
   | .ok (s,r,n')=>KI1 stp f (l++[s]) r n')else .ok (l,ts,n)
def NJ (en:Nat):Nat->List Tkn->Nat->PR (List St)
 |0,ts,_=>.error (zZ en ts,3)
 |d+1,ts,n=>match KER en (NJ en d) ts n with
  | .error e=>.error e
  | .ok (s,r,n')=>KI1 (KER en (NJ en d)) (r.length+1) [s] r n'
def KNL (en d:Nat):Prop:=∀(ts:List Tkn) (n:Nat) (h:Heap) (Q:Value⊕Sl->Heap->Prop) (lo b:Nat),PRd lo b en h ts n->
 (∀l r n' h' x,NJ en d ts n=.ok (l,r,n')->Kb b h h'->PRd lo b en h' r n'->YE (HS h h') h' x l->Q (.inr x) h')->
 (∀e h',NJ en d ts n=.error e->Kb b h h'->Q (.inl (Uw e)) h')->(ZP (some ⟨b,0,none⟩) ((9 - d:Nat):Int)).wp h Q
theorem KQx {en d lo b sb z c2 c3 c7 i n:Nat} {op:Int} {x:Shp} {r:Fin 5->Sl} {a:Ac} {h:Heap} {ts:List Tkn} {Q1:Value⊕Unit->Heap->Prop} (TR:KNL en d) (hd:d<=7) (I:StI z sb op r a h) (R:PRd lo b en h ts n)
  (k2:h[c2]?=some (.cells #[.pointer (some ⟨b,0,none⟩)] Z9 (0,0))) (k3:h[c3]?=some (.cells #[.int .i64 ((8 - d:Nat):Int)] WS (0,0))) (k7:h[c7]?=some (.cells (shpV x) Wz (0,0)))
  (l2:lo<=c2) (l3:lo<=c3) (l7:lo<=c7) (ls:lo<=sb) (z2:c2<z) (z3:c3<z) (z7:c7<z) (zs:sb<z) (zh:z<=h.size) (d2:c2≠sb) (d3:c3≠sb) (d7:c7≠sb) (hcnt:a.cnt<=i) (hi:i<=1000) (hx1:x.n.2<=1000) (hx2:x.u.2<=1000)
  (G1:∀a' r' n' h2 rr,U3 en x (NJ en d) i a ts n=.ok (a',r',n')->Km (λk=>k=b\/k=sb\/z<=k) h h2->PRd lo b en h2 r' n'->StI z sb op rr a' h2->a'.cnt<=i+1->Q1 (.inr ()) h2)
  (G2:∀e h2,U3 en x (NJ en d) i a ts n=.error e->Kb b h h2->Q1 (.inl (Uw e)) h2):
  (Xd (i:Int) ⟨c7,0,none⟩ ⟨sb,0,none⟩ ⟨c2,0,none⟩ ⟨c3,0,none⟩).wp h Q1:=by
 have hbl:=R.bl
 unfold Xd
 unfold Ac.cnt at hcnt G1
 have c7a:∀{m:Nat} {v:Int},(shpV x)[m]?=some (.int .i64 v)->∀{o p:Nat},o+p=m->KJ h (((⟨c7,0,none⟩:Addr).add o).add p)=some (.int .i64 v):=λ{m v} hv {o p} hop=>by
  rw [KM,KM,KF k7,show 0+o+p=m by omega];exact hv
 have cells:∀{h2:Heap},Kb b h h2->StI z sb op r a h2/\h2[c2]?=some (.cells #[.pointer (some ⟨b,0,none⟩)] Z9 (0,0))/\h2[c3]?=some (.cells #[.int .i64 ((8 - d:Nat):Int)] WS (0,0)):=λ{h2} K=>⟨I.km K (by omega) (by omega),K.blk k2 (by omega),K.blk k3 (by omega)⟩
 have fin:∀{j:Fin 5} {h2 h3:Heap} {x':Sl} {m:Nat},Kb b h h2->StI z sb op r a h2->h2.size<=h3.size->(∀k,k<h2.size->¬Sl.on (r j) k->h3[k]?=h2[k]?)->(∀k,Sl.on x' k->Sl.on (r j) k\/h2.size<=k)->m<6->
   (∀h4,Upd sb h3 h4->h4[sb]?=some (.cells ((#[.int .i64 op,(r 0).v,(r 1).v,(r 2).v,(r 3).v,(r 4).v]:Ea).setIfInBounds m x'.v) KU (0,0))->Grown z b sb r j x' h2 h4->Km (λk=>k=b\/k=sb\/z<=k) h h4->(∀ts' n',PRd lo b en h2 ts' n'->PRd lo b en h4 ts' n')->Q1 (.inr ()) h4)->
   (stV ((⟨sb,0,none⟩:Addr).add m) x'.v>>=λ_=>(M.pure (.inr ()):M (Value⊕Unit))).wp h3 Q1:=λ{j h2 h3 x' m} K2 I2 hs same on_ hm HH=>by
  have hsb2:sb<h2.size:=JV I2.cell
  have gs:=(same sb hsb2 (λho=>by have:=(I2.z_le j sb ho).1;omega)).trans I2.cell
  obtain⟨w,hw⟩:∃w,(#[.int .i64 op,(r 0).v,(r 1).v,(r 2).v,(r 3).v,(r 4).v]:Ea)[m]?=some w:=⟨_,EF (show m<6 from hm)⟩
  refine qF (x:=w) (by rw [KM,EC,KF gs];exact hw) (by rw [KM];exact Kv gs) (KC8 _) (KA ?_)
  rw [KM,EC]
  have u:=Upd.hset h3 sb m x'.v
  have g':=J8 (o:=m) (v:=x'.v) gs
  generalize hset h3 ⟨sb,m,none⟩ x'.v=h4 at u g'⊢
  have hu:=u.size
  have hK:=K2.size
  refine HH h4 u g' ⟨by omega,by omega,λk hk hb hsb hno=>(u.ne k hsb).trans (same k hk hno),on_,zs,by omega⟩ ⟨by omega,λk hk hn=>?_⟩ (λts' n' R'=>R'.same (by omega) (λk hk=>(u.ne k (by omega)).trans (same k (by omega) (λho=>by have:=(I2.z_le j k ho).1;omega))))
  have n1:k≠b:=λe=>hn (.inl e)
  have n2:k≠sb:=λe=>hn (.inr (.inl e))
  have n3:¬z<=k:=λe=>hn (.inr (.inr e))
  exact(u.ne k n2).trans ((same k (by omega) (λho=>n3 (I2.z_le j k ho).1)).trans (K2.same k hk n1))
 have mono_:∀{α:Type} {Rep:RepT α} (ok:Stay Rep) {sz:Nat} {j:Fin 5} {h2 h3 h4:Heap} {x':Sl} {css:List (Ea)} {l:List α},StI z sb op r a h2->Upd sb h3 h4->(∀k,Sl.on x' k->Sl.on (r j) k\/h2.size<=k)->h2.size<=h3.size->RGw Rep sz z (SS z h2 r) h3 x' css l->RGw Rep sz z (λk=>(SS z h2 r k\/h2.size<=k)/\k<h4.size/\¬Sl.on x' k) h4 x' css l:=λ{α Rep} ok {sz j h2 h3 h4 x' css l} I2 u on_ hs G=>by
  have hu:=u.size
  exact G.same ok (λk hk=>u.ne k (by have:=(G.gw.lt hk).2;omega)) (λk hk=>u.ne k (by have:=hk.1;omega)) (λk hk=>⟨.inl hk,by have:=hk.2.1;omega,λho=>(on_ k ho).elim (hk.2.2 j) (λh=>by have:=hk.2.1;omega)⟩)
 have ckS:∀{h2:Heap},StI z sb op r a h2->∀{m:Nat} {v:Value},(#[.int .i64 op,(r 0).v,(r 1).v,(r 2).v,(r 3).v,(r 4).v]:Ea)[m]?=some v->KJ h2 ((⟨sb,0,none⟩:Addr).add m)=some v:=λ{h2} I2 {m v} hv=>by rw [KM,EC,KF I2.cell];exact hv
 refine KV (n:=(x.n.2:Int)) (c7a (m:=1) rfl rfl) ?_
 rw [show decide ((i:Int)<(x.n.2:Int))=decide (i<x.n.2)from Es.2 (by omega)]
 unfold U3 at G1 G2
 refine KH (λq1=>?_) (λq1=>?_)
 ·rw [if_pos (Ec q1)]at G1 G2
  refine Kn (n:=r 0) (ckS I rfl) (zd (n:=some ⟨b,0,none⟩) (oneC k2) (Zn (KQu R (λs r' h2 hr hsl K2 R2=>?_) (λe h2 hr K2=>G2 e h2 (by rw [hr]) K2))))
  rw [hr]at G1
  dsimp only at G1
  obtain⟨I2,k22,k32⟩:=cells K2
  obtain⟨css,G0⟩:=I2.g0
  have hz2:=K2.size
  refine qE ⟨ckS I2 rfl,oneC k22⟩ (KPe Z0 (a:=s) (sz:=1) rfl (by decide) G0 (λk hk=>⟨hk.2.1,hk.2.2 0⟩) rfl (λu hu=>by simp only [ED,EP,Fr]at hu;subst hu;rfl) rfl (by omega) (by omega) (by omega) (λh' e'=>⟨ckS (I2.km (Km.ext (S:=λk=>k=b) e') (by omega) (by omega)) rfl,oneC (e'.blk k22)⟩) (λh3 x' G3 hs same on_=>?_))
  refine fin (j:=0) K2 I2 hs same on_ (by decide) (λh4 u4 g4 gr F PR4=>G1 _ r' n h4 (updR r 0 x') rfl F (PR4 _ _ R2) ⟨g4,⟨_,KI0 Z0 gr I2 (mono_ Z0 (j:=0) I2 u4 on_ hs G3)⟩,I2.g1.imp (λc G=>WM Jq gr I2 (by decide) G),I2.g2.imp (λc G=>WM JY gr I2 (by decide) G),I2.g3.imp (λc G=>WM KGl gr I2 (by decide) G),I2.g4.imp (λc G=>WM UY gr I2 (by decide) G),KNK gr I2⟩ (by dsimp only;rw [List.length_append,List.length_singleton];omega))
 rw [if_neg (Ed q1)]at G1 G2
 refine KV (n:=(x.n.2:Int)) (c7a (m:=1) rfl rfl) (KV (n:=(x.u.2:Int)) (c7a (m:=3) rfl rfl) ?_)
 rw [w64 (by omega) (by omega),show decide ((i:Int)<(x.n.2:Int)+(x.u.2:Int))=decide (i<x.n.2+x.u.2)from Es.2 (by omega)]
 refine KH (λq2=>?_) (λq2=>?_)
 ·rw [if_pos (Ec q2)]at G1 G2
  refine Kn (n:=r 1) (ckS I rfl) (zd (n:=some ⟨b,0,none⟩) (oneC k2) (Zn (KSd R (λm r' h2 hr hI K2 R2=>?_) (λe h2 hr K2=>G2 e h2 (by rw [hr]) K2))))
  rw [hr]at G1
  dsimp only at G1
  obtain⟨I2,k22,k32⟩:=cells K2
  obtain⟨css,G0⟩:=I2.g1
  have hz2:=K2.size
  refine qE ⟨ckS I2 rfl,oneC k22⟩ (KPe Jq (a:=m) (sz:=1) rfl (by decide) G0 (λk hk=>⟨hk.2.1,hk.2.2 1⟩) rfl (λu hu=>by simp only [ED,EP,Fr]at hu;subst hu;rfl) ⟨rfl,hI⟩ (by omega) (by omega) (by omega) (λh' e'=>⟨ckS (I2.km (Km.ext (S:=λk=>k=b) e') (by omega) (by omega)) rfl,oneC (e'.blk k22)⟩) (λh3 x' G3 hs same on_=>?_))
  refine fin (j:=1) K2 I2 hs same on_ (by decide) (λh4 u4 g4 gr F PR4=>G1 _ r' n h4 (updR r 1 x') rfl F (PR4 _ _ R2) ⟨g4,I2.g0.imp (λc G=>WM Z0 gr I2 (by decide) G),⟨_,KI0 Jq gr I2 (mono_ Jq (j:=1) I2 u4 on_ hs G3)⟩,I2.g2.imp (λc G=>WM JY gr I2 (by decide) G),I2.g3.imp (λc G=>WM KGl gr I2 (by decide) G),I2.g4.imp (λc G=>WM UY gr I2 (by decide) G),KNK gr I2⟩ (by dsimp only;rw [List.length_append,List.length_singleton];omega))
 rw [if_neg (Ed q2)]at G1 G2
 have hl2:(r 2).len=a.ps.length:=by obtain⟨css,G0⟩:=I.g2;exact G0.rlen (by decide)
 refine Kn (n:=r 2) (ckS I rfl) (KV (n:=(x.p.2:Int)) (c7a (m:=5) rfl rfl) ?_)
 rw [hl2,show decide (((a.ps.length:Nat):Int)<(x.p.2:Int))=decide (a.ps.length<x.p.2)from Es.2 (by omega)]
 refine KH (λq3=>?_) (λq3=>?_)
 ·rw [if_pos (Ec q3)]at G1 G2
  refine Kn (n:=r 2) (ckS I rfl) (zd (n:=some ⟨b,0,none⟩) (oneC k2) (Zn (KQv R (λp r' n' h2 c hr K2 R2 V2=>?_) (λe h2 hr K2=>G2 e h2 (by rw [hr]) K2))))
  rw [hr]at G1
  dsimp only at G1
  obtain⟨I2,k22,k32⟩:=cells K2
  obtain⟨css,G0⟩:=I2.g2
  have hz2:=K2.size
  have V2':GI (SS z h2 r) h2 p c:=JY.same V2 (λ_ _=>rfl) (λk hk=>⟨by have:=hk.1;omega,hk.2,λi ho=>by have:=(I.z_le i k ho).2;have:=hk.1;omega⟩)
  obtain⟨y,hcy,hI,_⟩:=id V2
  have hcs:c.size=2:=by rw [hcy];rfl
  have hco:∀u∈c.toList,one u=true:=by rw [hcy];exact KLY
  refine qE ⟨ckS I2 rfl,oneC k22⟩ (zD hcs (KPe JY (a:=p) (sz:=2) rfl (by decide) G0 (λk hk=>⟨hk.2.1,hk.2.2 2⟩) hcs hco V2' (by omega) (by omega) (by omega) (λh' e'=>⟨ckS (I2.km (Km.ext (S:=λk=>k=b) e') (by omega) (by omega)) rfl,oneC (e'.blk k22)⟩) (λh3 x' G3 hs same on_=>?_)))
  refine fin (j:=2) K2 I2 hs same on_ (by decide) (λh4 u4 g4 gr F PR4=>G1 _ r' n' h4 (updR r 2 x') rfl F (PR4 _ _ R2) ⟨g4,I2.g0.imp (λc G=>WM Z0 gr I2 (by decide) G),I2.g1.imp (λc G=>WM Jq gr I2 (by decide) G),⟨_,KI0 JY gr I2 (mono_ JY (j:=2) I2 u4 on_ hs G3)⟩,I2.g3.imp (λc G=>WM KGl gr I2 (by decide) G),I2.g4.imp (λc G=>WM UY gr I2 (by decide) G),KNK gr I2⟩ (by dsimp only;rw [List.length_append,List.length_singleton];omega))
 rw [if_neg (Ed q3)]at G1 G2
 have hl3:(r 3).len=a.vs.length:=by obtain⟨css,G0⟩:=I.g3;exact G0.rlen (by decide)
 refine Kn (n:=r 3) (ckS I rfl) (KV (n:=(x.v.2:Int)) (c7a (m:=7) rfl rfl) ?_)
 rw [hl3,show decide (((a.vs.length:Nat):Int)<(x.v.2:Int))=decide (a.vs.length<x.v.2)from Es.2 (by omega)]
 refine KH (λq4=>?_) (λq4=>?_)
 ·rw [if_pos (Ec q4)]at G1 G2
  obtain⟨css,G0⟩:=I.g3
  refine Kn (n:=r 3) (ckS I rfl) (zd (n:=some ⟨b,0,none⟩) (oneC k2) ?_)
  simp only [KM,EC]
  refine KSf (z:=z) (kb:=sb) (cb:=c2) (off:=4) R I.cell rfl (oneC k2) (by omega) (by omega) d2 ls (by omega) zs z2 zh G0.toV (λk hk=>⟨hk.1,hk.2.1,hk.2.2 3⟩) (by omega) hbl (λv r' h' x' css' hv K' R' g' V' on'=>?_) (λe h' hv K'=>G2 e h' (by rw [hv]) K')
  rw [hv]at G1
  have gr:Grown z b sb r 3 x' h h':=⟨K'.size,zh,λk hk hb hsb hno=>K'.same k hk (λhh=>hh.elim hb (λhh=>hh.elim hsb hno)),on',zs,by omega⟩
  refine G1 _ r' n h' (updR r 3 x') rfl (K'.wkb (λk hk=>hk.imp id (λhh=>hh.imp id (λho=>(I.z_le 3 k ho).1)))) R' ⟨g',I.g0.imp (λc G=>WM Z0 gr I (by decide) G),I.g1.imp (λc G=>WM Jq gr I (by decide) G),I.g2.imp (λc G=>WM JY gr I (by decide) G),⟨_,KI0 KGl gr I V'.toR⟩,I.g4.imp (λc G=>WM UY gr I (by decide) G),KNK gr I⟩ (by dsimp only;rw [List.length_append,List.length_singleton];omega)
 rw [if_neg (Ed q4)]at G1 G2
 refine Kn (n:=r 4) (ckS I rfl) (zd (n:=some ⟨b,0,none⟩) (oneC k2) (KV (oneC k3) ?_))
 rw [w64 (by omega) (by omega),show(((8 - d:Nat):Int)+1)=((9 - d:Nat):Int) by omega]
 refine Zn (TR ts n h _ lo b R (λl r' n' h2 y hr K2 R2 V2=>?_) (λe h2 hr K2=>G2 e h2 (by rw [hr]) K2))
 rw [hr]at G1
 dsimp only at G1
 obtain⟨I2,k22,k32⟩:=cells K2
 obtain⟨css,G0⟩:=I2.g4
 have hz2:=K2.size
 have V2':KAE (SS z h2 r) h2 l #[y.v]:=⟨y,rfl,RowS.same Vd V2 (λ_ _=>rfl) (λk hk=>⟨by have:=hk.1;omega,hk.2,λi ho=>by have:=(I.z_le i k ho).2;have:=hk.1;omega⟩)⟩
 refine qE ⟨ckS I2 rfl,oneC k22,oneC k32⟩ (KPe UY (a:=l) (sz:=1) rfl (by decide) G0 (λk hk=>⟨hk.2.1,hk.2.2 4⟩) rfl (λu hu=>by simp only [ED,EP,Fr]at hu;subst hu;exact KC8 _) V2' (by omega) (by omega) (by omega) (λh' e'=>⟨ckS (I2.km (Km.ext (S:=λk=>k=b) e') (by omega) (by omega)) rfl,oneC (e'.blk k22),oneC (e'.blk k32)⟩) (λh3 x' G3 hs same on_=>?_))
 refine fin (j:=4) K2 I2 hs same on_ (by decide) (λh4 u4 g4 gr F PR4=>G1 _ r' n' h4 (updR r 4 x') rfl F (PR4 _ _ R2) ⟨g4,I2.g0.imp (λc G=>WM Z0 gr I2 (by decide) G),I2.g1.imp (λc G=>WM Jq gr I2 (by decide) G),I2.g2.imp (λc G=>WM JY gr I2 (by decide) G),I2.g3.imp (λc G=>WM KGl gr I2 (by decide) G),⟨_,KI0 UY gr I2 (mono_ UY (j:=4) I2 u4 on_ hs G3)⟩,KNK gr I2⟩ (by dsimp only;rw [List.length_append,List.length_singleton];omega))
end Gx
namespace Gx
open Go
def shOk (x:Shp):Bool:=decide ((x.n.1<=32/\x.n.2<=32)/\(x.u.1<=32/\x.u.2<=32)/\(x.p.1<=32/\x.p.2<=32)/\(x.v.1<=32/\x.v.2<=32)/\(x.s.1<=32/\x.s.2<=32))
theorem KZH {p:Prop} [Decidable p] {a b:Shp} (ha:shOk a=true) (hb:shOk b=true):shOk (if p then a else b)=true:=by
 split
 ·exact ha
 ·exact hb
theorem KUd (op:Int):shOk (Kz op)=true:=by
 unfold Kz
 repeat' first|rfl|refine KZH rfl ?_
theorem KNM:(splW stW).length=60:=by decide+kernel
theorem KXH {β:Type} {sz len:Nat} {z cs:Ea} {parts:List (Nat×Value)} {f:Ea->M β} {h:Heap} {Q:β->Heap->Prop} (hc:Instr.fill (λi=>some (i*sz,sz)) (zRow z (len*sz)) parts=some cs) (H:(f cs).wp h Q):(Xs sz len z parts>>=f).wp h Q:=⟨cs,hc,H⟩
def Shp.at (x:Shp):Nat->Nat×Nat
 |0=>x.n
 |1=>x.u
 |2=>x.p
 |3=>x.v
 |_=>x.s
def sumT (x:Shp):Nat->Nat×Nat
 |0=>(0,0)
 |i+1=>((sumT x i).1+(x.at i).1,(sumT x i).2+(x.at i).2)
theorem KSi (x:Shp) {i m:Nat} (hi:i<5) (hm:m<2):(shpV x)[i*2+m]?=(Gj (x.at i))[m]?:=by
 match i,hi,m,hm with
 |0,_,0,_=>rfl
 |0,_,1,_=>rfl
 |1,_,0,_=>rfl
 |1,_,1,_=>rfl
 |2,_,0,_=>rfl
 |2,_,1,_=>rfl
 |3,_,0,_=>rfl
 |3,_,1,_=>rfl
 |4,_,0,_=>rfl
 |4,_,1,_=>rfl
theorem KNN (p:Nat×Nat):∀u∈(Gj p).toList,one u=true:=by
 intro u hu
 simp only [Gj,ED,EP,Fr]at hu
 rcases hu with rfl|rfl<;>rfl
theorem KHb {op:Int} {x1 x2 x3 x4 x5:Sl}:∀u∈(#[.int .i64 op,x1.v,x2.v,x3.v,x4.v,x5.v]:Ea).toList,one u=true:=by
 intro u hu
 simp only [ED,EP,Fr]at hu
 rcases hu with rfl|rfl|rfl|rfl|rfl|rfl
 ·rfl
 all_goals exact KC8 _
theorem StI.rep {z sb:Nat} {op:Int} {r:Fin 5->Sl} {a:Ac} {h:Heap} (I:StI z sb op r a h) (hop:I64 op) (hv:a.vs.length<=9223372036854775807):WR (λk=>z<=k/\k<h.size) h (.mk op a.ns a.us a.ps a.vs a.ss) #[.int .i64 op,(r 0).v,(r 1).v,(r 2).v,(r 3).v,(r 4).v]:=by
 obtain⟨c0,G0⟩:=I.g0
 obtain⟨c1,G1⟩:=I.g1
 obtain⟨c2,G2⟩:=I.g2
 obtain⟨c3,G3⟩:=I.g3
 obtain⟨c4,G4⟩:=I.g4
 have key:∀{i:Fin 5} (k:Nat),(SS z h r k\/Sl.on (r i) k)->z<=k/\k<h.size:=λ{i} k hk=>hk.elim (λhk=>⟨hk.1,hk.2.1⟩) (λho=>I.z_le i k ho)
 exact WR.eq.2 ⟨r 0,r 1,r 2,r 3,r 4,rfl,hop,(G0.row Z0 (by decide)).same Z0 (λ_ _=>rfl) key,(G1.row Jq (by decide)).same Jq (λ_ _=>rfl) key,(G2.row JY (by decide)).same JY (λ_ _=>rfl) key,(G3.toV.rep_ hv).same (λ_ _=>rfl) key,(G4.row UY (by decide)).same UY (λ_ _=>rfl) key⟩
theorem KUe {x:Shp} (hx:shOk x=true) (i:Nat):(x.at i).1<=32/\(x.at i).2<=32:=by
 have h:=Ec hx
 match i with
 |0=>exact h.1
 |1=>exact h.2.1
 |2=>exact h.2.2.1
 |3=>exact h.2.2.2.1
 |_+4=>exact h.2.2.2.2
theorem KKA {x:Shp} (hx:shOk x=true):∀i,(sumT x i).1<=32*i/\(sumT x i).2<=32*i
 |0=>⟨Ee _,Ee _⟩
 |i+1=>by
  have h1:=KKA hx i
  have h2:=KUe hx i
  rw [sumT]
  dsimp only
  omega
theorem KHc (x:Shp):sumT x 5=(x.least,x.most):=by
 simp only [sumT,Shp.at,Shp.least,Shp.most,EC]
theorem KUf {en d:Nat} (hd:d<=7) (TR:KNL en d) {lo b n c2 c3 c4 c6 c7 c8 op:Nat} {hh:Heap} {ts:List Tkn} {sh:Shp} {Q:Value⊕Ea->Heap->Prop} (R:PRd lo b en hh ts n) (hok:shOk sh=true)
  (g2:hh[c2]?=some (.cells #[.pointer (some ⟨b,0,none⟩)] Z9 (0,0))) (g3:hh[c3]?=some (.cells #[.int .i64 ((8 - d:Nat):Int)] WS (0,0)))
  (g4:hh[c4]?=some (.cells (#[.int .i64 0,.slice none 0 0,.slice none 0 0,.slice none 0 0,.slice none 0 0,.slice none 0 0]:Ea) KU (0,0))) (g6:hh[c6]?=some (.cells #[.int .i64 (op:Int),(Sl.nil:Sl).v,(Sl.nil:Sl).v,(Sl.nil:Sl).v,(Sl.nil:Sl).v,(Sl.nil:Sl).v] KU (0,0)))
  (l2:lo<=c2) (l3:lo<=c3) (l4:lo<=c4) (l6:lo<=c6) (d2:c2≠c6) (d3:c3≠c6) (d4:c4≠c6) (hop60:op<=60)
  (g7:hh[c7]?=some (.cells (shpV sh) Wz (0,0))) (g8:hh[c8]?=some (.cells (Gj (sh.least,sh.most)) ZA (0,0))) (l7:lo<=c7) (d7:c7≠c6)
  (H1:∀a r' n' h' c,KGk en sh.least sh.most (U3 en sh (NJ en d)) ⟨[],[],[],[],[]⟩ ts n=.ok (a,r',n')->Km (λk=>k=b\/k=c6\/k=c4) hh h'->PRd lo b en h' r' n'->WR (λk=>hh.size<=k/\k<h'.size) h' (.mk (op:Int) a.ns a.us a.ps a.vs a.ss) c->Q (.inr c) h')
  (H2:∀e h',KGk en sh.least sh.most (U3 en sh (NJ en d)) ⟨[],[],[],[],[]⟩ ts n=.error e->Km (λk=>k=b\/k=c6\/k=c4) hh h'->Q (.inl (Uw e)) h'):
  (ldP ⟨c2,0,none⟩>>=λx72=>ldG 2 ⟨c8,0,none⟩>>=λx73=>thr (JB x72 x73 (Value.func (.func GM) #[] #[.pointer (some ⟨c7,0,none⟩),.pointer (some ⟨c6,0,none⟩),.pointer (some ⟨c2,0,none⟩),.pointer (some ⟨c3,0,none⟩)])) λ_=>
   ldG 6 ⟨c6,0,none⟩>>=λx76=>M.need (x76.size=6)>>=λ_=>stG ⟨c4,0,none⟩ x76>>=λ_=>ldG 6 ⟨c4,0,none⟩>>=λr4=>(M.pure (.inr r4):M (Value⊕Ea))).wp hh Q:=by
 have hbl:=R.bl
 have hlh:=R.lh
 have y2:=JV g2
 have y3:=JV g3
 have y4:=JV g4
 have y6:=JV g6
 have y7:=JV g7
 refine zd (n:=some ⟨b,0,none⟩) (oneC g2) (ldR g8 rfl ?_)
 have hcnt0:(⟨[],[],[],[],[]⟩:Ac).cnt=0:=rfl
 refine Zn (KVr (one:=U3 en sh (NJ en d)) (a0:=⟨[],[],[],[],[]⟩) (sb:=c6) (λi a h20=>(∃rr,StI (hh.size+1) c6 (op:Int) rr a h20)/\h20[c2]?=some (.cells #[.pointer (some ⟨b,0,none⟩)] Z9 (0,0))/\h20[c3]?=some (.cells #[.int .i64 ((8 - d:Nat):Int)] WS (0,0))/\h20[c7]?=some (.cells (shpV sh) Wz (0,0))/\a.cnt<=i) R (by omega) (by omega) (by omega) ?_ ?_ ?_ ?_ ?_ ?_)
 ·have:=KKA hok 5
  rw [KHc]at this
  dsimp only at this
  omega
 ·intro h20 e20
  exact⟨⟨λ_=>Sl.nil,e20.blk g6,⟨[],RGw.nil _ _ _ _ _⟩,⟨[],RGw.nil _ _ _ _ _⟩,⟨[],RGw.nil _ _ _ _ _⟩,⟨[],RGw.nil _ _ _ _ _⟩,⟨[],RGw.nil _ _ _ _ _⟩,λ_ _ _ k hk=>absurd hk (by unfold Sl.on;rintro⟨a,ha,_⟩;cases ha)⟩,e20.blk g2,e20.blk g3,e20.blk g7,Ee _⟩
 ·rintro i a ha hb ⟨⟨rr,I⟩,k1,k2,k7,hcn⟩ hsz K
  exact⟨⟨rr,I.km K (by omega) (by omega)⟩,K.blk k1 (by omega),K.blk k2 (by omega),K.blk k7 (by omega),hcn⟩
 ·rintro i a ts2 n2 h20 Q1 hi ⟨⟨rr,I⟩,k1,k2,k7,hcn⟩ hsz R20 G1 G2
  refine KKU KAm (KBU (i:Int) ⟨c7,0,none⟩ ⟨c6,0,none⟩ ⟨c2,0,none⟩ ⟨c3,0,none⟩) ?_
  have hm5:=KKA hok 5
  rw [KHc]at hm5
  dsimp only at hm5
  have hn1:=(KUe hok 0).2
  have hn2:=(KUe hok 1).2
  refine KQx TR hd I R20 k1 k2 k7 (by omega) (by omega) (by omega) (by omega) (by omega) (by omega) (by omega) (by omega) (by omega) (by omega) (by omega) (by omega) hcn (by omega) (Fb hn1 (by decide)) (Fb hn2 (by decide)) ?_ ?_
  ·intro a' r' n' h21 rr' ho K21 R21 I21 hc21
   exact G1 a' r' n' h21 ho (K21.wkb (λk hk=>hk.elim .inl (λhk=>hk.elim (λe=>.inr (.inl e)) (λe=>.inr (.inr (by omega)))))) R21 ⟨⟨rr',I21⟩,K21.blk k1 (by omega),K21.blk k2 (by omega),K21.blk k7 (by omega),hc21⟩
  ·intro e h21 ho K21
   exact G2 e h21 ho (K21.wkb (λk hk=>.inl hk))
 ·rintro i a r' n' h20 hs F20 R20 hi ⟨⟨rr,I⟩,k1,k2,k7,hcn⟩ hsz
  rw [hs]at H1
  have hF:=F20.size
  have k3:=F20.blk g4 (by omega)
  refine ldR I.cell rfl (ZH rfl (stR k3 (Ee 6) KHb (λh21 u21 g21=>?_)))
  have g21:h21[c4]?=some (.cells #[.int .i64 (op:Int),(rr 0).v,(rr 1).v,(rr 2).v,(rr 3).v,(rr 4).v] KU (0,0)):=by
   have e:lay (#[.int .i64 0,.slice none 0 0,.slice none 0 0,.slice none 0 0,.slice none 0 0,.slice none 0 0]:Ea) 0 (#[.int .i64 (op:Int),(rr 0).v,(rr 1).v,(rr 2).v,(rr 3).v,(rr 4).v]:Ea).toList=#[.int .i64 (op:Int),(rr 0).v,(rr 1).v,(rr 2).v,(rr 3).v,(rr 4).v]:=KW (by rfl)
   rw [<-e];exact g21
  refine ldR g21 rfl (KA ?_)
  have hu21:=u21.size
  refine H1 _ r' n' h21 _ rfl ⟨by omega,λk hk hn=>(u21.ne k (λe=>hn (.inr (.inr e)))).trans (F20.same k hk (λe=>e.elim (λe=>hn (.inl e)) (λe=>e.elim (λe=>hn (.inr (.inl e))) (λe=>by omega))))⟩ (R20.upd u21 (by omega)) ?_
  have hvs:a.vs.length<=9223372036854775807:=by
   have hm5:=KKA hok 5
   rw [KHc]at hm5
   unfold Ac.cnt at hcn
   dsimp only at hm5
   omega
  refine WR.stay (λk hk=>u21.ne k (by have:=hk.1;omega)) (λk hk=>⟨by have:=hk.1;omega,by have:=hk.2;omega⟩) _ _ (I.rep ⟨by show(-9223372036854775808:Int)<=(op:Int);omega,by show(op:Int)<=9223372036854775807;omega⟩ hvs)
 ·intro e h20 hs F20
  rw [hs]at H2
  have hF:=F20.size
  exact H2 e h20 rfl ⟨by omega,λk hk hn=>F20.same k hk (λe=>e.elim (λe=>hn (.inl e)) (λe=>e.elim (λe=>hn (.inr (.inl e))) (λe=>by omega)))⟩
end Gx
namespace Gx
open Go
theorem zr10 (z:Value):zRow #[z,z] (5*2)=#[z,z,z,z,z,z,z,z,z,z]:=by
 apply Iw
 simp [zRow,List.range,List.range.loop]
theorem KUg (a0 a1 a2 a3 a4 a5 a6 a7 a8 a9 z:Value):Instr.fill (λi=>some (i*2,2)) (zRow #[z,z] (5*2)) [(0,.agg #[a0,a1]),(1,.agg #[a2,a3]),(2,.agg #[a4,a5]),(3,.agg #[a6,a7]),(4,.agg #[a8,a9])]=some #[a0,a1,a2,a3,a4,a5,a6,a7,a8,a9]:=by
 rw [zr10,zf (off:=0) (size:=2) rfl rfl (by simp),zf (off:=2) (size:=2) rfl rfl (by simp [KAK]),zf (off:=4) (size:=2) rfl rfl (by simp [KAK]),zf (off:=6) (size:=2) rfl rfl (by simp [KAK]),zf (off:=8) (size:=2) rfl rfl (by simp [KAK])]
 show some _=some _
 refine Ew some (Iw ?_)
 simp [lay,Value.cells]
theorem KOc {en d:Nat} (hd:d<=7) (TR:KNL en d) {lo b n c2 c3 c4 c6 op:Nat} {h:Heap} {r:List Tkn} {Q:Value⊕Ea->Heap->Prop} (R:PRd lo b en h r n)
  (g2:h[c2]?=some (.cells #[.pointer (some ⟨b,0,none⟩)] Z9 (0,0))) (g3:h[c3]?=some (.cells #[.int .i64 ((8 - d:Nat):Int)] WS (0,0)))
  (g4:h[c4]?=some (.cells (#[.int .i64 0,.slice none 0 0,.slice none 0 0,.slice none 0 0,.slice none 0 0,.slice none 0 0]:Ea) KU (0,0))) (g6:h[c6]?=some (.cells #[.int .i64 (op:Int),(Sl.nil:Sl).v,(Sl.nil:Sl).v,(Sl.nil:Sl).v,(Sl.nil:Sl).v,(Sl.nil:Sl).v] KU (0,0)))
  (l2:lo<=c2) (l3:lo<=c3) (l4:lo<=c4) (l6:lo<=c6) (d2:c2≠c6) (d3:c3≠c6) (d4:c4≠c6) (hop60:op<=60)
  (H1:∀r1 a r' n' h' c,takT en 4 [40] r=.ok r1->KGk en (Kz (op:Int)).least (Kz (op:Int)).most (U3 en (Kz (op:Int)) (NJ en d)) ⟨[],[],[],[],[]⟩ r1 n=.ok (a,r',n')->Km (λk=>k=b\/k=c6\/k=c4) h h'->PRd lo b en h' r' n'->WR (λk=>h.size<=k/\k<h'.size) h' (.mk (op:Int) a.ns a.us a.ps a.vs a.ss) c->Q (.inr c) h')
  (H2:∀e h',takT en 4 [40] r=.error e->Kb b h h'->Q (.inl (Uw e)) h')
  (H3:∀r1 e h',takT en 4 [40] r=.ok r1->KGk en (Kz (op:Int)).least (Kz (op:Int)).most (U3 en (Kz (op:Int)) (NJ en d)) ⟨[],[],[],[],[]⟩ r1 n=.error e->Km (λk=>k=b\/k=c6\/k=c4) h h'->Q (.inl (Uw e)) h'):
  (UN ⟨c2,0,none⟩ ⟨c3,0,none⟩ ⟨c4,0,none⟩ ⟨c6,0,none⟩).wp h Q:=by
 have hbl:=R.bl
 have hlh:=R.lh
 unfold UN
 refine zd (n:=some ⟨b,0,none⟩) (oneC g2) (Zn (Ui (s:=[40]) R (λr1 h9 hr1 K9 R9=>?_) (λe h9 hr1 K9=>H2 e h9 hr1 K9)))
 have hz9:=K9.size
 have v1:=K9.blk g2 (by omega)
 have v2:=K9.blk g3 (by omega)
 have v3:=K9.blk g4 (by omega)
 have v6:=K9.blk g6 (by omega)
 refine KV (n:=(op:Int)) (by rw [add_zero,KF v6];rfl) (KD (KQw (λh10 e10=>?_)))
 have hok:=KUd (op:Int)
 obtain⟨sh,hsh⟩:∃sh,sh=Kz (op:Int):=⟨_,rfl⟩
 rw [<-hsh]at H1 H3 hok⊢
 refine Kw (λh11 e11 s11 g11=>ZH rfl (stR g11 (by simp [shpV]) (KNI sh) (λh12 u12 g12=>?_)))
 have g12:h12[h10.size]?=some (.cells (shpV sh) Wz (0,0)):=by
  have e:lay (Array.replicate 10 (.int .i64 0):Ea) 0 (shpV sh).toList=shpV sh:=KW (by simp [shpV])
  rw [<-e];exact g12
 have E12:Ext h9 h12:=(e10.trans e11).upd u12 e10.size
 refine Kw (λh13 e13 s13 g13=>ZH rfl (stR g13 (Ee 2) (KNN (0,0)) (λh14 u14 g14=>?_)))
 have g14:h14[h12.size]?=some (.cells (Gj (0,0)) ZA (0,0)):=by
  have e:lay (#[.int .i64 0,.int .i64 0]:Ea) 0 (Gj (0,0)).toList=Gj (0,0):=KW (by rfl)
  rw [<-e];exact g14
 have E14:Ext h12 h14:=e13.upd u14 (Ee _)
 have g12':=E14.blk g12
 have cs7:∀{o j:Nat},j<5->o=j*2->∀m,m<2->KJ h14 (((⟨h10.size,0,none⟩:Addr).add o).add m)=(Gj (sh.at j))[m]?:=λ{o j} hj ho m hm=>by
  rw [KM,KM,KF g12',show 0+o+m=j*2+m by omega];exact KSi sh hj hm
 refine YF (cs:=Gj (sh.at 0)) rfl (cs7 (by decide) (by decide)) (YF (cs:=Gj (sh.at 1)) rfl (cs7 (by decide) (by decide)) (YF (cs:=Gj (sh.at 2)) rfl (cs7 (by decide) (by decide)) (YF (cs:=Gj (sh.at 3)) rfl (cs7 (by decide) (by decide)) (YF (cs:=Gj (sh.at 4)) rfl (cs7 (by decide) (by decide)) (KXH (cs:=shpV sh) (KUg _ _ _ _ _ _ _ _ _ _ _) (KAz ?_))))))
 have e15:=Ext.push h14 (.cells (shpV sh) ZA)
 have g15:(h14.push (.cells (shpV sh) ZA))[h14.size]?=some (.cells (shpV sh) ZA (0,0)):=Kx
 have hs15:(h14.push (.cells (shpV sh) ZA)).size=h14.size+1:=F4 ..
 generalize h14.push (.cells (shpV sh) ZA)=h15 at e15 g15 hs15⊢
 have hz10:=e10.size
 have hz12:=E12.size
 have hz14:=E14.size
 have hlt10:h10.size<h12.size:=JV g12
 have hlt12:h12.size<h14.size:=JV g14
 have E15:Ext h9 h15:=(E12.trans E14).trans e15
 refine M.loop_inv (λ(y:Int) hh=>∃i:Nat,y=(i:Int)/\i<=5/\Km (λk=>k=h12.size) h15 hh/\hh[h12.size]?=some (.cells (Gj (sumT sh i)) ZA (0,0))) (λy _=>5 - y.toNat) ?_ ⟨0,rfl,El _,Km.refl _ _,e15.blk g14⟩
 rintro y hh ⟨i,rfl,hi,KK,gc⟩ self hself
 have hzK:=KK.size
 unfold Yy
 refine KH (λhlt=>?_) (λhge=>?_)
 ·have hlt:i<5:=by have:=Ec hlt;dsimp only at this;omega
  have g15':=KK.blk g15 (show ¬h14.size=h12.size by omega)
  refine NM (by omega) (by dsimp only;omega) rfl (YF (cs:=Gj (sh.at i)) rfl (λm hm=>by rw [KM,KM,KF g15',show 0+(i:Int).toNat*2+m=i*2+m by omega];exact KSi sh hlt hm) (Kw (λh16 e16 s16 g16=>ZH rfl (stR g16 (Ee 2) (KNN (sh.at i)) (λh17 u17 g17=>?_)))))
  have g17:h17[hh.size]?=some (.cells (Gj (sh.at i)) ZA (0,0)):=by
   have e:lay (#[.int .i64 0,.int .i64 0]:Ea) 0 (Gj (sh.at i)).toList=Gj (sh.at i):=KW (by rfl)
   rw [<-e];exact g17
  have E17:Ext hh h17:=e16.upd u17 (Ee _)
  have gc17:=E17.blk gc
  have hcl:=JV gc
  have hsum:=KKA hok i
  have hat:=KUe hok i
  have l60:KJ h17 ((⟨h12.size,0,none⟩:Addr).add 0)=some (.int .i64 ((sumT sh i).1:Int)):=by rw [add_zero,KF gc17];rfl
  have l65:KJ h17 ((⟨h12.size,0,none⟩:Addr).add 1)=some (.int .i64 ((sumT sh i).2:Int)):=by rw [KM,KF gc17];rfl
  have l62:KJ h17 ((⟨hh.size,0,none⟩:Addr).add 0)=some (.int .i64 ((sh.at i).1:Int)):=by rw [add_zero,KF g17];rfl
  have l67:KJ h17 ((⟨hh.size,0,none⟩:Addr).add 1)=some (.int .i64 ((sh.at i).2:Int)):=by rw [KM,KF g17];rfl
  refine KV l67 ((λkey=>KD (KJn (KV l60 (KJn (KV l62 (KV l65 (KA key))) (KV l65 (KV l62 (KA key))))) (KJn (KV l62 (KJn (KV l60 (KV l65 (KA key))) (KV l65 (KV l60 (KA key))))) (KV l65 (KJn (KV l60 (KV l62 (KA key))) (KV l62 (KV l60 (KA key)))))))) ?_)
  dsimp only
  rw [show((sumT sh i).1:Int)+((sh.at i).1:Int)=((sumT sh (i+1)).1:Int) by rw [sumT];push_cast;rfl,show((sumT sh i).2:Int)+((sh.at i).2:Int)=((sumT sh (i+1)).2:Int) by rw [sumT];push_cast;rfl]
  have hs1:=KKA hok (i+1)
  rw [w64 (n:=((sumT sh (i+1)).1:Int)) (by omega) (by omega),w64 (n:=((sumT sh (i+1)).2:Int)) (by omega) (by omega),w64 (n:=(i:Int)+1) (by omega) (by omega)]
  refine qF l60 (by rw [KM];exact Kv gc17) rfl ?_
  rw [show(⟨h12.size,0,none⟩:Addr).add 0=⟨h12.size,0+0,none⟩from rfl]
  have u18:=Upd.hset h17 h12.size (0+0) (.int .i64 ((sumT sh (i+1)).1:Int))
  have g18:=J8 (o:=0+0) (v:=.int .i64 ((sumT sh (i+1)).1:Int)) gc17
  generalize hset h17 ⟨h12.size,0+0,none⟩ (.int .i64 ((sumT sh (i+1)).1:Int))=h18 at u18 g18⊢
  refine qE (by rw [KM,KF ((u18.ne _ (by omega)).trans g17)];rfl) ?_
  refine qF (x:=.int .i64 ((sumT sh i).2:Int)) (by rw [KM,KF g18];rfl) (by rw [KM];exact Kv g18) rfl ?_
  rw [show(⟨h12.size,0,none⟩:Addr).add 1=⟨h12.size,0+1,none⟩from rfl]
  have u19:=Upd.hset h18 h12.size (0+1) (.int .i64 ((sumT sh (i+1)).2:Int))
  have g19:=J8 (o:=0+1) (v:=.int .i64 ((sumT sh (i+1)).2:Int)) g18
  generalize hset h18 ⟨h12.size,0+1,none⟩ (.int .i64 ((sumT sh (i+1)).2:Int))=h19 at u19 g19⊢
  have hu18:=u18.size
  have hu19:=u19.size
  have hE17:=E17.size
  refine hself _ _ ⟨i+1,by push_cast;rfl,by omega,⟨by omega,λk hk hn=>?_⟩,g19⟩ (by omega)
  exact(u19.ne k hn).trans ((u18.ne k hn).trans ((E17.same k (by omega)).trans (KK.same k hk hn)))
 ·have hge:i=5:=by have:=Ed hge;dsimp only at this;omega
  subst hge
  rw [KHc]at gc
  have hz15:=E15.size
  have KE:Kb b h h15:=K9.trans (Km.ext E15)
  have sm:∀k,k<h.size->k≠b->hh[k]?=h[k]?:=λk hk hb=>(KK.same k (by omega) (by omega)).trans (KE.same k hk hb)
  have RR:PRd lo b en hh r1 n:=(R9.ext E15).same (by omega) (λk hk=>KK.same k (by omega) (by omega))
  have y2:=JV g2
  have y3:=JV g3
  have y4:=JV g4
  have y6:=JV g6
  refine KUf hd TR RR hok ((sm c2 y2 (by omega)).trans g2) ((sm c3 y3 (by omega)).trans g3) ((sm c4 y4 (by omega)).trans g4) ((sm c6 y6 (by omega)).trans g6) l2 l3 l4 l6 d2 d3 d4 hop60 (KK.blk (e15.blk g12') (by omega)) gc (by omega) (by omega) ?_ ?_
  ·intro a r' n' h' c hs K' R' S'
   refine H1 r1 a r' n' h' c hr1 hs ⟨by have:=K'.size;omega,λk hk hn=>(K'.same k (by omega) hn).trans (sm k hk (λe=>hn (.inl e)))⟩ R' (WR.stay (λ_ _=>rfl) (λk hk=>⟨by have:=hk.1;omega,hk.2⟩) _ _ S')
  ·intro e h' hs K'
   exact H3 r1 e h' hr1 hs ⟨by have:=K'.size;omega,λk hk hn=>(K'.same k (by omega) hn).trans (sm k hk (λe=>hn (.inl e)))⟩
end Gx
namespace Gx
open Go
theorem KKB {en d:Nat} (hd:d<=7) (TR:KNL en d) {lo b n:Nat} {h:Heap} {ts:List Tkn} {Q:Value⊕Ea->Heap->Prop} (R:PRd lo b en h ts n)
  (H1:∀s r n' h' c,KER en (NJ en d) ts n=.ok (s,r,n')->Kb b h h'->PRd lo b en h' r n'->WR (HS h h') h' s c->Q (.inr c) h')
  (H2:∀e h',KER en (NJ en d) ts n=.error e->Kb b h h'->Q (.inl (Uw e)) h'):(Uh (some ⟨b,0,none⟩) ((8 - d:Nat):Int)).wp h Q:=by
 unfold Uh
 have hlh:=R.lh
 have hbl:=R.bl
 refine Kw (λh1 e1 s1 g1=>Kw (λh2 e2 s2 g2=>Kw (λh3 e3 s3 g3=>?_)))
 have E3:=(e1.trans e2).trans e3
 have R3:=R.ext E3
 have q1:=e3.blk (e2.blk g1)
 have q2:=e3.blk g2
 refine zd (n:=some ⟨b,0,none⟩) (oneC q1) (KD (qn R3 (zd (n:=some ⟨b,0,none⟩) (oneC q1) (Zn (Gi R3 (λt r h4 hn K4 R4=>?_) (λe h4 hn K4=>H2 e h4 (by unfold KER;rw [hn]) ((Km.ext E3).trans K4)))))))
 unfold KER at H1 H2
 rw [hn]at H1 H2
 dsimp only at H1 H2
 have hz3:=E3.size
 have hz4:=K4.size
 have p1:=K4.blk q1 (by omega)
 have p2:=K4.blk q2 (by omega)
 have p3:=K4.blk g3 (by omega)
 refine KUZ (n:=bs t.s) rfl (KD (KIx (s:=stW) (by decide) (λh5 e5=>?_)))
 have hop60:=KLV (splW stW) t.s
 rw [KNM]at hop60
 obtain⟨op,hope⟩:∃op,op=idxW (splW stW) t.s:=⟨_,rfl⟩
 rw [<-hope]at H1 H2 hop60⊢
 refine Kw (λh6 e6 s6 g6=>ZH rfl (stR g6 (Ee 6) (KHb (op:=(op:Int)) (x1:=Sl.nil) (x2:=Sl.nil) (x3:=Sl.nil) (x4:=Sl.nil) (x5:=Sl.nil)) (λh7 u7 g7=>?_)))
 have g7:h7[h5.size]?=some (.cells #[.int .i64 (op:Int),(Sl.nil:Sl).v,(Sl.nil:Sl).v,(Sl.nil:Sl).v,(Sl.nil:Sl).v,(Sl.nil:Sl).v] KU (0,0)):=by
  have e:lay (#[.int .i64 0,.slice none 0 0,.slice none 0 0,.slice none 0 0,.slice none 0 0,.slice none 0 0]:Ea) 0 (#[.int .i64 (op:Int),(Sl.nil:Sl).v,(Sl.nil:Sl).v,(Sl.nil:Sl).v,(Sl.nil:Sl).v,(Sl.nil:Sl).v]:Ea).toList=#[.int .i64 (op:Int),(Sl.nil:Sl).v,(Sl.nil:Sl).v,(Sl.nil:Sl).v,(Sl.nil:Sl).v,(Sl.nil:Sl).v]:=KW (by rfl)
  rw [<-e];exact g7
 have E7:Ext h4 h7:=(e5.trans e6).upd u7 e5.size
 have R7:=R4.ext E7
 have K7:Kb b h h7:=((Km.ext E3).trans K4).trans (Km.ext E7)
 have hz5:=e5.size
 have hz7:h5.size<h7.size:=JV g7
 refine KV (n:=(op:Int)) (by rw [add_zero,KF g7];rfl) ?_
 rw [eqI,show decide ((op:Int)=0)=decide (op=0)from Es.2 (by omega)]
 refine KH (λh0=>?_) (λh0=>?_)
 ·rw [if_pos (Ec h0)]at H2
  exact Zn (NX (H2 _ h7 rfl K7))
 rw [if_neg (Ed h0)]at H1 H2
 unfold Vp
 have p1':=E7.blk p1
 have p2':=E7.blk p2
 have p3':=E7.blk p3
 obtain⟨x,gx,T,hc,hb⟩:=R7.obj
 have hnb:=R7.nb
 refine zd (n:=some ⟨b,0,none⟩) (oneC p1') (Kc (KV (n:=(n:Int)) (by rw [KM,KF gx];rfl) (Kc (qF (x:=.int .i64 (n:Int)) (by rw [KM,KF gx];rfl) (by rw [KM];exact Kv gx) rfl ?_))))
 rw [w64 (by omega) (by omega),KM,show(n:Int)+1=((n+1:Nat):Int) by push_cast;rfl]
 have u8:=Upd.hset h7 b (0+2) (.int .i64 ((n+1:Nat):Int))
 have g8:=J8 (o:=0+2) (v:=.int .i64 ((n+1:Nat):Int)) gx
 generalize hset h7 ⟨b,0+2,none⟩ (.int .i64 ((n+1:Nat):Int))=h8 at u8 g8⊢
 have K8:Kb b h h8:=K7.trans u8.kb
 have w1:=(u8.ne _ (by omega)).trans p1'
 refine zd (n:=some ⟨b,0,none⟩) (oneC w1) (Kc (KV (n:=((n+1:Nat):Int)) (by rw [KM,KF g8];rfl) ?_))
 rw [show decide (((n+1:Nat):Int)>256)=decide (n+1>256)from Es.2 (by omega)]
 refine KH (λhbig=>?_) (λhbig=>?_)
 ·rw [if_pos (Ec hbig)]at H2
  exact Zn (NX (H2 _ h8 rfl K8))
 have hbig:=Ed hbig
 rw [if_neg hbig]at H1 H2
 have hz8:=u8.size
 have R8:PRd lo b en h8 r (n+1):=⟨⟨x,g8,T.sameB (λa ha hne=>u8.ne _ (hb a ha hne).1),hc,hb⟩,hbl,by have:=R7.lh;omega,R7.small,R7.good,by omega⟩
 have hlt:=u8.size
 have dn2:=(u8.ne _ (show h1.size≠b by omega)).trans p2'
 have dn3:=(u8.ne _ (show h2.size≠b by omega)).trans p3'
 have dn6:=(u8.ne _ (show h5.size≠b by omega)).trans g7
 refine KOc hd TR R8 w1 dn2 dn3 dn6 (by omega) (by omega) (by omega) (by omega) (by omega) (by omega) (by omega) hop60 ?_ ?_ ?_
 ·intro r1 a r' n' h' c hr1 hs K' R' S'
  rw [hr1]at H1
  dsimp only at H1
  rw [hs]at H1
  have hk8:=K8.size
  exact H1 _ r' n' h' c rfl ⟨by have:=K'.size;omega,λk hk hn=>(K'.same k (by omega) (λe=>e.elim hn (λe=>by omega))).trans (K8.same k hk hn)⟩ R' (WR.stay (λ_ _=>rfl) (λk hk=>⟨by have:=hk.1;omega,hk.2⟩) _ _ S')
 ·intro e h' hr1 K'
  rw [hr1]at H2
  exact H2 e h' rfl (K8.trans K')
 ·intro r1 e h' hr1 hs K'
  rw [hr1]at H2
  dsimp only at H2
  rw [hs]at H2
  have hk8:=K8.size
  exact H2 e h' rfl ⟨by have:=K'.size;omega,λk hk hn=>(K'.same k (by omega) (λe=>e.elim hn (λe=>by omega))).trans (K8.same k hk hn)⟩
end Gx
