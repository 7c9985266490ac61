/- Own proofs: what those Lean programs compute. No condition. -/
import Derived.Test.YtpibdohdkfkcnaaGreatDoorP0
import Derived.Test.YtpibdohdkfkcnaaGreatDoorP1
import Derived.Test.YtpibdohdkfkcnaaGreatDoorP2
import Derived.Test.YtpibdohdkfkcnaaGreatDoorP3
import Derived.Test.YtpibdohdkfkcnaaGreatDoorP4
import Derived.Test.YtpibdohdkfkcnaaGreatDoorP5
import Derived.Test.YtpibdohdkfkcnaaGreatDoorP6
import Derived.Test.YtpibdohdkfkcnaaGreatDoorP7
import Derived.Test.YtpibdohdkfkcnaaGreatDoorP8
import Derived.Test.YtpibdohdkfkcnaaGreatDoorP9
import Derived.KernelRfl
set_option linter.unusedVariables false
set_option linter.unusedSimpArgs false
set_option maxRecDepth 100000
open Go.Proofs
namespace Gx
open Go
theorem KSj {en:Nat} {k:Int} {ts r:List Tkn} {t:Tkn} (h:nxT en k ts=.ok (t,r)):r.length<ts.length:=by
 cases ts with
 |nil=>cases h
 |cons t' r'=>
  rw [KBq]at h
  split at h
  ·cases h;exact EH _
  ·cases h
theorem KLZ {en:Nat} {k:Int} {s:Eb} {ts r:List Tkn} (h:takT en k s ts=.ok r):r.length<ts.length:=by
 unfold takT at h
 split at h
 ·next h1=>cases h;exact KND h1
 ·cases h
theorem KUh {en:Nat} {ts r:List Tkn} {s:Eb} (h:KNF en ts=.ok (s,r)):r.length<ts.length:=by
 unfold KNF at h
 split at h
 ·cases h
 ·next t r' h1=>
  split at h
  ·cases h;exact KSj h1
  ·cases h
theorem KXI {en:Nat} {ts r:List Tkn} {m:Int} (h:numT en ts=.ok (m,r)):r.length<ts.length:=by
 unfold numT at h
 split at h
 ·cases h
 ·next t r' h1=>
  split at h
  ·cases h
  ·cases h;exact KSj h1
theorem KPf {σ:Type} {en least:Nat} {one:Nat->σ->List Tkn->Nat->PR σ} (ho:∀i a ts n a' r n',one i a ts n=.ok (a',r,n')->r.length<=ts.length):∀(f i:Nat) (a:σ) (ts:List Tkn) (n:Nat) (a':σ) (r:List Tkn) (n':Nat),KBb en least one f i a ts n=.ok (a',r,n')->r.length<=ts.length
 |0,i,a,ts,n,a',r,n',h=>by
  rw [KBb]at h
  cases h;exact Ee _
 |f+1,i,a,ts,n,a',r,n',h=>by
  rw [KBb]at h
  split at h
  ·cases h;exact Ee _
  ·split at h
   ·cases h
   ·next ts1 h1=>
    have l1:ts1.length<=ts.length:=by
     split at h1
     ·exact Nat.le_of_lt (KLZ h1)
     ·cases h1;exact Ee _
    split at h
    ·cases h
    ·next a2 ts2 n2 h2=>
     exact Fb (KPf ho f _ _ _ _ _ _ _ h) (Fb (ho _ _ _ _ _ _ _ h2) l1)
theorem KPg {σ:Type} {en least most:Nat} {one:Nat->σ->List Tkn->Nat->PR σ} (ho:∀i a ts n a' r n',one i a ts n=.ok (a',r,n')->r.length<=ts.length) {a a':σ} {ts r:List Tkn} {n n':Nat} (h:KGk en least most one a ts n=.ok (a',r,n')):r.length<ts.length:=by
 unfold KGk at h
 split at h
 ·cases h
 ·next a2 ts2 n2 h2=>
  have l2:=KPf ho _ _ _ _ _ _ _ _ h2
  unfold KUb at h
  split at h
  ·cases h
  ·split at h
   ·cases h
   ·next r2 h3=>
    have:=KLZ h3
    cases h
    omega
theorem KUi {en:Nat} {ts r:List Tkn} {n n':Nat} {p:Int×List Vl} (h:KLW en ts n=.ok (p,r,n')):r.length<=ts.length:=by
 unfold KLW at h
 split at h
 ·split at h
  ·cases h
  ·next v r' h1=>have:=KIw _ _ _ _ h1;cases h;omega
 ·split at h
  ·cases h
  ·next r1 h1=>
   have l1:=KLZ h1
   have l0:ts.tail.length<=ts.length:=by rw [Oe];omega
   split at h
   ·cases h
   ·next l2 r2 n2 h2=>
    have:=KPg (one:=KIz en) (λi a ts n a' r n' ho=>by
     unfold KIz at ho
     split at ho
     ·cases ho
     ·next v r' h1=>have:=KIw _ _ _ _ h1;cases ho;omega) h2
    cases h
    omega
theorem KQy {en:Nat} {x:Shp} {tr:List Tkn->Nat->PR (List St)} (ht:∀ts n l r n',tr ts n=.ok (l,r,n')->r.length<=ts.length) (i:Nat) (a:Ac) (ts:List Tkn) (n:Nat) (a':Ac) (r:List Tkn) (n':Nat) (h:U3 en x tr i a ts n=.ok (a',r,n')):r.length<=ts.length:=by
 unfold U3 at h
 split at h
 ·split at h
  ·cases h
  ·next h1=>have:=KUh h1;cases h;omega
 ·split at h
  ·split at h
   ·cases h
   ·next h1=>have:=KXI h1;cases h;omega
  ·split at h
   ·split at h
    ·cases h
    ·next h1=>have:=KUi h1;cases h;omega
   ·split at h
    ·split at h
     ·cases h
     ·next h1=>have:=KIw _ _ _ _ h1;cases h;omega
    ·split at h
     ·cases h
     ·next h1=>have:=ht _ _ _ _ _ h1;cases h;omega
theorem KLa {en:Nat} {tr:List Tkn->Nat->PR (List St)} (ht:∀ts n l r n',tr ts n=.ok (l,r,n')->r.length<=ts.length) {ts r:List Tkn} {n n':Nat} {s:St} (h:KER en tr ts n=.ok (s,r,n')):r.length<ts.length:=by
 unfold KER at h
 split at h
 ·cases h
 ·next t r0 h0=>
  have l0:=KSj h0
  split at h
  ·cases h
  ·split at h
   ·cases h
   ·split at h
    ·cases h
    ·next r1 h1=>
     have l1:=KLZ h1
     split at h
     ·cases h
     ·next a r2 n2 h2=>
      have:=KPg (KQy ht) h2
      cases h
      omega
theorem KPh {stp:List Tkn->Nat->PR St} (hs:∀ts n s r n',stp ts n=.ok (s,r,n')->r.length<ts.length):∀(f:Nat) (l:List St) (ts:List Tkn) (n:Nat) (l':List St) (r:List Tkn) (n':Nat),KI1 stp f l ts n=.ok (l',r,n')->r.length<=ts.length
 |0,l,ts,n,l',r,n',h=>by rw [KI1]at h;cases h
 |f+1,l,ts,n,l',r,n',h=>by
  rw [KI1]at h
  split at h
  ·split at h
   ·cases h
   ·next s r1 n1 h1=>
    have h2:=hs _ _ _ _ _ h1
    have h3:=KPh hs f _ _ _ _ _ _ h
    rw [Oe]at h2
    omega
  ·cases h;exact Ee _
theorem KLb {en:Nat}:∀(d:Nat) (ts:List Tkn) (n:Nat) (l:List St) (r:List Tkn) (n':Nat),NJ en d ts n=.ok (l,r,n')->r.length<=ts.length
 |0,ts,n,l,r,n',h=>by rw [NJ]at h;cases h
 |d+1,ts,n,l,r,n',h=>by
  rw [NJ]at h
  split at h
  ·cases h
  ·next s r1 n1 h1=>
   have h2:=KLa (λ_ _ _ _ _=>KLb d _ _ _ _ _) h1
   have h3:=KPh (λ_ _ _ _ _ h=>KLa (λ_ _ _ _ _=>KLb d _ _ _ _ _) h) _ _ _ _ _ _ _ h
   omega
theorem StR.ones {S:Nat->Prop} {h:Heap} {s:St} {c:Ea} (H:StR S h s c):c.size=6/\∀u∈c.toList,one u=true:=by
 cases s with
 |mk op names nums preds vals subs=>
  obtain⟨x1,x2,x3,x4,x5,rfl,_⟩:=WR.eq.1 H
  exact⟨rfl,KHb⟩
theorem KKC {en:Nat}:∀d,d<=8->KNL en d
 |0,_=>by
  intro ts n h Q lo b R H1 H2
  unfold ZP
  exact KH (λ_=>KD (qn R (Zn (NX (H2 _ h rfl (Km.refl _ _)))))) (λhc=>absurd (Ed hc) (by decide))
 |d+1,hd=>by
  have TR:=KKC (en:=en) d (by omega)
  intro ts n h Q lo b R H1 H2
  unfold ZP
  rw [show 9 - (d+1)=8 - d by omega]
  refine KH (λhc=>absurd (Ec hc) (by omega)) (λ_=>?_)
  unfold Jo
  rw [NJ]at H1 H2
  refine Zn (KKB (by omega) TR R (λs r n' h1 c hs K1 R1 S1=>?_) (λe h1 hs K1=>H2 e h1 (by rw [hs]) K1))
  rw [hs]at H1 H2
  dsimp only at H1 H2
  have hst:∀{ts n s r n'},KER en (NJ en d) ts n=.ok (s,r,n')->r.length<ts.length:=λh=>KLa (λ_ _ _ _ _=>KLb d _ _ _ _ _) h
  have l1:=hst hs
  have hz1:=K1.size
  have sm:=R.small
  have lh:=R.lh
  have bl:=R.bl
  refine zD (StR.ones S1).1 (KAz ?_)
  have e2:=Ext.push h1 (.cells c KU)
  have g2:(h1.push (.cells c KU))[h1.size]?=some (.cells c KU (0,0)):=Kx
  have hs2:(h1.push (.cells c KU)).size=h1.size+1:=F4 ..
  generalize h1.push (.cells c KU)=h2 at e2 g2 hs2⊢
  have K2:Kb b h h2:=K1.trans (Km.ext e2)
  have R2:=R1.ext e2
  have G2':RGw StR 6 h.size (λk=>h.size<=k/\k<h2.size/\¬Sl.on ⟨some ⟨h1.size,0,none⟩,1,1⟩ k) h2 ⟨some ⟨h1.size,0,none⟩,1,1⟩ [c] [s]:=⟨KSh g2 (StR.ones S1).1 hz1,λx hx=>by simp only [ED,EP,Fr]at hx;subst hx;exact StR.ones S1,rfl,λj a1 a2=>by
   obtain rfl:j=0:=by simp only [Ef,En]at a1;omega
   exact WR.stay (λk hk=>e2.same k hk.2) (λk hk=>⟨hk.1,by have:=hk.2;omega,λho=>by obtain⟨a,ha,rfl⟩:=ho;cases ha;exact absurd hk.2 (Nat.lt_irrefl _)⟩) _ _ S1⟩
  refine M.loop_inv (λ(x:Sl) hh=>∃(f:Nat) (l:List St) (css:List (Ea)) (ts':List Tkn) (n1:Nat),ts'.length<f/\l.length+ts'.length<=ts.length/\Kb b h hh/\PRd lo b en hh ts' n1/\RGw StR 6 h.size (λk=>h.size<=k/\k<hh.size/\¬Sl.on x k) hh x css l/\KI1 (KER en (NJ en d)) f l ts' n1=KI1 (KER en (NJ en d)) (r.length+1) [s] r n') (λx _=>ts.length+1 - x.len) ?_
   ⟨r.length+1,[s],[c],r,n',by omega,by simp;omega,K2,R2,G2',rfl⟩
  rintro x hh ⟨f,l,css,ts',n1,hf,hl,K,R',G,hL⟩ self hself
  have hxl:x.len=l.length:=G.rlen (by decide)
  obtain⟨f,rfl⟩:∃g,f=g+1:=⟨f - 1,by omega⟩
  rw [KI1]at hL
  have hKs:=K.size
  unfold Vb
  refine KD (KIu R' ?_)
  refine KH (λhdot=>?_) (λhdot=>?_)
  ·rw [if_pos hdot]at hL
   have hlt:=KND hdot
   have htk:takT en 4 [46] ts'=.ok ts'.tail:=by unfold takT;rw [if_pos hdot]
   refine Zn (Ui (s:=[46]) R' (λr3 h3 hr3 K3 R3=>?_) (λe h3 hr3 K3=>by rw [htk]at hr3;cases hr3))
   rw [htk]at hr3
   cases hr3
   have KK3:=K.trans K3
   refine Zn (KKB (by omega) TR R3 (λs4 r4 n4 h4 c4 hs4 K4 R4 S4=>?_) (λe h4 hs4 K4=>H2 e h4 (by rw [<-hL,hs4]) (KK3.trans K4)))
   rw [hs4]at hL
   dsimp only at hL
   have l4:=hst hs4
   have KK4:=KK3.trans K4
   have hz4:=K4.size
   have hz3:=K3.size
   have onlt:∀k,Sl.on x k->h.size<=k/\k<hh.size:=λk hk=>⟨(G.gw.lt hk).2,(G.gw.lt hk).1⟩
   have G4:RGw StR 6 h.size (λk=>h.size<=k/\k<h4.size/\¬Sl.on x k) h4 x css l:=G.same Vd (λk hk=>(K4.same k (by have:=(onlt k hk).2;omega) (by have:=(onlt k hk).1;omega)).trans (K3.same k (onlt k hk).2 (by have:=(onlt k hk).1;omega))) (λk hk=>(K4.same k (by have:=hk.2.1;omega) (by have:=hk.1;omega)).trans (K3.same k hk.2.1 (by have:=hk.1;omega))) (λk hk=>⟨hk.1,by have:=hk.2.1;omega,hk.2.2⟩)
   have S4':StR (λk=>h.size<=k/\k<h4.size/\¬Sl.on x k) h4 s4 c4:=WR.stay (λ_ _=>rfl) (λk hk=>⟨by have:=hk.1;omega,hk.2,λho=>by have:=(onlt k ho).2;have:=hk.1;omega⟩) _ _ S4
   refine zD (StR.ones S4).1 (KXF Vd (a:=s4) (sz:=6) (lo:=h.size) (bytes:=128) rfl (by decide) G4 (λk hk=>hk.2) (StR.ones S4).1 (StR.ones S4).2 S4' (by omega) (by omega) (by omega) (λh5 x5 G5 hs5 same5 on5=>?_))
   have hx5:x5.len=(l++[s4]).length:=G5.rlen (by decide)
   rw [List.length_append,List.length_singleton]at hx5
   refine hself _ _ ⟨f,l++[s4],css++[c4],r4,n4,by omega,by rw [List.length_append,List.length_singleton];omega,⟨by omega,λk hk hkb=>(same5 k (by omega) (λho=>by have:=(onlt k ho).1;omega)).trans (KK4.same k hk hkb)⟩,R4.same hs5 (λk hk=>same5 k (by omega) (λho=>by have:=(onlt k ho).1;omega)),?_,hL⟩ (by omega)
   exact G5.same Vd (λ_ _=>rfl) (λ_ _=>rfl) (λk hk=>⟨hk.1,by have:=hk.2.1;omega,λho=>(on5 k ho).elim hk.2.2 (λh=>by have:=hk.2.1;omega)⟩)
  ·rw [if_neg (by rw [hdot];decide)]at hL
   refine KA (H1 l ts' n1 hh x hL.symm K R' ?_)
   exact(G.row Vd (by decide)).same Vd (λ_ _=>rfl) (λk hk=>hk.elim (λhk=>⟨hk.1,hk.2.1⟩) (λho=>⟨(G.gw.lt ho).2,(G.gw.lt ho).1⟩))
end Gx
namespace Gx
open Go Go.Proofs Go.Shelf Go.RowKit Go.Lib Gx.Last
def KAh (p4 p5:Addr):M (Int×Int):=do
 let i<-ldI .i64 p4
 let e<-ldI .i64 p5
 M.pure (i,e)
def KSk (p4 p5 q:Addr):M Unit:=do
 let x12<-ldI .i64 (q.add 0)
 let x14<-ldI .i64 (q.add 1)
 stV p4 (.int .i64 x12)
 chk (λh:Heap=>(KJ h (q.add 0)=some (.int .i64 x12))/\(KJ h (q.add 1)=some (.int .i64 x14)))
 stV p5 (.int .i64 x14)
 M.pure ()
def KBr (p4 p5:Addr) (u:Value):M Unit:=do
 let x<-M.get (λ_ (x:Int×Int)=>u=Uw x)
 let q<-mkB XB (#[.int .i64 0,.int .i64 0]:Ea)
 M.need ((#[.int .i64 x.1,.int .i64 x.2]:Ea).size=2)
 stG q (#[.int .i64 x.1,.int .i64 x.2]:Ea)
 KSk p4 p5 q
def KOd (p4 p5:Addr) (n:Int):M (Int×Int):=do
 stV p4 (.int .i64 n)
 stV p5 (.int .i64 0)
 KAh p4 p5
def KPi (p4 p5:Addr):M (Int×Int):=do
 let x16<-ldI .i64 p4
 let x17<-ldI .i64 p5
 stV p4 (.int .i64 x16)
 chk (λh:Heap=>(KJ h p4=some (.int .i64 x16))/\(KJ h p5=some (.int .i64 x17)))
 stV p5 (.int .i64 x17)
 KAh p4 p5
def prdM (x0:ByteArray) (x1:Value):M (Int×Int):=do
 let p4<-mkB WS (#[.int .i64 0]:Ea)
 let p5<-mkB zF (#[.int .i64 0]:Ea)
 let t<-KIA x0
 stV p4 (.int .i64 t.2.1)
 stV p5 (.int .i64 t.2.2)
 let e<-ldI .i64 p5
 M.ite (e !=0) (KPi p4 p5) (do
  let r<-mkB KBC (#[(t.1:Sl).v,.int .i64 (x0.size:Int),.int .i64 0]:Ea)
  let v<-KHy Tryz.prog uEnc x1 [.pointer (some r)]
  match v with
  | .inl u=>KBr p4 p5 u>>=λ_=>KAh p4 p5
  | .inr _=>do
   let l<-ldL (r.add 0)
   M.ite (decide ((l.len:Int)>0)) (do
    let hr<-ZE (some r)
    let v<-ZJ hr 160
    match v with
    | .inl u=>KBr p4 p5 u>>=λ_=>KAh p4 p5
    | .inr _=>M.fail) (KOd p4 p5 (x0.size:Int)))
def KKD (r:Int×Int):Value:=.tuple #[.int .i64 r.1,.int .i64 r.2]
theorem KZI:szB Tryz.prog 137 2=true:=by kernel_rfl
theorem KUj:KHm Tryz.prog 137 0=some 0:=by kernel_rfl
theorem KUk:KHm Tryz.prog 137 1=some 1:=by kernel_rfl
theorem KZJ:((Tryz.prog.info? 139).bind (·.zero))=some (.agg (#[.slice none 0 0,.int .i64 0,.int .i64 0]:Ea)):=by kernel_rfl
theorem KZK:Gl Tryz.prog 139=some [(0,1),(1,1),(2,1)]:=by kernel_rfl
theorem KXJ:KNm Tryz.f104 7 [[],[0],[],[2],[1,0,1],[3,4,0,1,2,3,4]] [[],[0],[],[2],[1],[3]] [[],[0],[],[2],[0,1],[0,1,2,3,4]]=true:=by kernel_rfl
theorem KZL:KNm Tryz.f63 3 [[],[],[0,0],[1,2,0,1,2]] [[],[],[0],[1]] [[],[],[0],[0,1,2]]=true:=by kernel_rfl
theorem KBd {P:Program} {Q:Exit->Act->List Frame->World->Prop} {a:Act} {cs cs':List Frame} {w:World} {id d1:Nat} {ty1:TypeId} {pos1:String} {aft1:Array Edge} {n:Frm} {l:List (Nat×Value)} {v:Value}
  (hE:Env n a l) (hn1:Nat.blt d1 n.size=true) (hv:recoverD cs=some (v,cs')\/(recoverD cs=none/\v=.nilIface/\cs'=cs))
  (h:∀a',Env n a' ((d1,v)::l)->Q .normal a' cs' w):
  (Code.region id #[⟨some d1,.call {callee:=.builtin .recover,args:=#[],argTypes:=#[]},ty1,pos1,aft1,none⟩] false).wpS P Q a cs w:=by
 refine wpS_region ?_
 have hf:=h _ (hE.put d1 v hn1)
 show wpOpsS P _ Q [0] a cs w
 rcases hv with hv|⟨hv,rfl,rfl⟩
 ·simp [wpOpsS,Region.wanted,KAY,hv]
  exact hf
 ·simp [wpOpsS,Region.wanted,KAY,hv]
  exact hf
abbrev a104 (p4 p5:Addr):Act:={tmps:=#[.pointer (some p4),.pointer (some p5)]++Array.replicate (15 - 2) undef,defers:=[]}
theorem KPj (p4 p5:Addr):Env ⟨15,[]⟩ (a104 p4 p5) [(0,.pointer (some p4)),(1,.pointer (some p5))]:=
 Env.enter (n:=15) #[.pointer (some p4),.pointer (some p5)] _ (Fc rfl) (KAH ⟨rfl,rfl,trivial⟩)
theorem KUl {p4 p5:Addr} {w:World} {R:Ending->FrameMode->World->Prop} (h:R (.returned (.tuple #[])) .returning w):CallsD Tryz.prog 104 #[.pointer (some p4),.pointer (some p5)] .returning w R:=by
 refine callsD_of_wpS Tryz.func104 rfl (λc₀ cs hu=>?_)
 refine wpS_seq (KBd (v:=.nilIface) (cs':=c₀::cs) (KPj p4 p5) rfl (.inr ⟨by simp [recoverD,hu],rfl,rfl⟩) (λa hE=>?_))
 refine KHV (N:=λa w'=>w'=w/\Env ⟨15,[]⟩ a [(0,.pointer (some p4))]) (R:=λ_ _=>False) ?_ (λa w' hh=>?_) (λ_ _ h=>h.elim)
 ·refine KHk ?_
  refine GQ (λK hK_2=>?_)
  refine JE ?_
  refine VD (v:=.bool true) rfl rfl hE rfl (KJB hE rfl rfl (g_ni (b:=true) (.inl ⟨rfl,rfl⟩)) (KL8 KPB (.inl ⟨rfl,rfl⟩))) (λa hE=>?_)
  refine zb ?_
  refine hK_2 _ _ ?_
  refine KCw true hE rfl (λ_=>?_) (λhb=>by cases hb)
  refine JE ?_
  refine VD (v:=.nilIface) rfl rfl hE rfl (zB hE rfl) (λa hE=>?_)
  refine zb ?_
  exact⟨rfl,hE.cut (.cons rfl Subs.nil)⟩
 ·obtain⟨rfl,hE⟩:=hh
  exact⟨hE.defers,.returning,by rw [<-hu],_,qB (rs:=[]) (vs:=[]) hE rfl RV.nil,h⟩
theorem KUm {p4 p5:Addr} {w:World} {u:Value} {Q:Unit->Heap->Prop} {R:Ending->FrameMode->World->Prop} (H:(KBr p4 p5 u).wp w.heap Q)
  (h:∀w',Rest w w'->Q () w'.heap->R (.returned (.tuple #[])) (.panicking [{v:=u,recovered:=true}]) w'):CallsD Tryz.prog 104 #[.pointer (some p4),.pointer (some p5)] (.panicking [{v:=u,recovered:=false}]) w R:=by
 refine callsD_of_wpS Tryz.func104 rfl (λc₀ cs hu=>?_)
 obtain⟨x,hi,H⟩:=H
 subst hi
 refine wpS_seq (KBd (v:=Uw x) (cs':={c₀ with mode:=.panicking [{v:=Uw x,recovered:=true}]}::cs) (KPj p4 p5) rfl (.inl (by simp [recoverD,hu])) (λa hE=>?_))
 have hR:Rest w w:=Rest.refl w
 refine KHV (N:=λa w'=>Rest w w'/\Q () w'.heap/\Env ⟨15,[]⟩ a [(0,.pointer (some p4))]) (R:=λ_ _=>False) ?_ (λa w' hh=>?_) (λ_ _ h=>h.elim)
 ·unfold Uw at hE
  refine KHk ?_
  refine GQ (λK hK_2=>?_)
  refine JE ?_
  refine VD (v:=.bool false) rfl rfl hE rfl (KJB hE rfl rfl (g_ni (b:=false) (.inr ⟨⟨_,_,rfl⟩,rfl⟩)) (KL8 KPB (.inr ⟨⟨_,_,rfl⟩,rfl⟩))) (λa hE=>?_)
  refine zb ?_
  refine hK_2 _ _ ?_
  refine KCw false hE rfl (λhb=>by cases hb) (λ_=>?_)
  refine GQ (λK hK_3=>?_)
  refine JE ?_
  refine VD (v:=.tuple #[.agg #[.int .i64 x.1,.int .i64 x.2],.bool true]) rfl rfl hE rfl (KMl hE rfl Tryz.underlying137) (λa hE=>?_)
  refine VD (v:=.bool true) rfl rfl hE rfl (YJ hE rfl rfl) (λa hE=>?_)
  refine VD (v:=.agg #[.int .i64 x.1,.int .i64 x.2]) rfl rfl hE rfl (YJ hE rfl rfl) (λa hE=>?_)
  refine zb ?_
  refine hK_3 _ _ ?_
  refine KCw true hE rfl (λ_=>?_) (λhb=>by cases hb)
  refine GQ (λK hK_4=>?_)
  refine JE ?_
  obtain⟨q,hq,H⟩:=H
  refine KEZ (v:=.pointer (some q)) rfl rfl hE rfl hR (GR KYr hq) (λa w hE hR hh=>?_)
  replace H:=M.at hh H;clear hh
  obtain⟨qz,H⟩:=H
  obtain⟨u_3,qu_3,H⟩:=H
  refine KJC rfl rfl hE hR (KAG hE rfl rfl KZI qz qu_3) (λa w hE hR hh=>?_)
  replace H:=M.at hh H;clear hh
  refine zb ?_
  refine hK_4 _ _ ?_
  replace hE:Env ⟨15,[]⟩ a [(0,.pointer (some p4)),(1,.pointer (some p5)),(3,.pointer (some q))]:=hE.cut (.cons rfl (.cons rfl (.cons rfl Subs.nil)))
  obtain⟨x12,qx12,H⟩:=H
  obtain⟨x14,qx14,H⟩:=H
  have hT:=KL3 KXJ rfl rfl
  refine KF3 (λw:World=>(λh:Heap=>(KJ h ((q).add 0)=some (.int .i64 x12))/\(KJ h ((q).add 1)=some (.int .i64 x14))) w.heap) [5] #[false,false,false,false,false,false] mo hR rfl rfl (λw' e=>by rw [e];exact⟨qx12,qx14⟩) (λw hh hR hs=>?_)
  replace H:=M.at hh H;clear hh
  refine KAx (i:=0) (v:=.pointer (some ((q).add 0))) #[true,false,false,false,false,false] rfl rfl hT (by kernel_rfl) hE rfl (Kg rfl) (λw=>WU hE rfl KUj) (λa hE=>?_)
  refine KAx (i:=2) (v:=.pointer (some ((q).add 1))) #[true,false,true,false,false,false] rfl rfl hT (by kernel_rfl) hE rfl (Kg rfl) (λw=>WU hE rfl KUk) (λa hE=>?_)
  refine KHr (i:=1) (v:=.int .i64 x12) #[true,true,true,false,false,false] rfl rfl hT (by kernel_rfl) hE rfl (Kg rfl) hs (λw s=>qA hE rfl sc3 s.1) (λa hE=>?_)
  refine KHr (i:=3) (v:=.int .i64 x14) #[true,true,true,true,false,false] rfl rfl hT (by kernel_rfl) hE rfl (Kg rfl) hs (λw s=>qA hE rfl sc23 s.2) (λa hE=>?_)
  obtain⟨u_3,qu_3,H⟩:=H
  obtain⟨_,sA,H⟩:=H
  refine KRD (i:=4) #[true,true,true,true,true,false] rfl rfl hT (by kernel_rfl) rfl hE hR (Kg rfl) (Jr hE rfl rfl sz3 qu_3)  (λw' e=>by rw [e];exact sA) (λa w hE hR hh hs=>?_)
  replace H:=M.at hh H;clear hh
  obtain⟨u_4,qu_4,H⟩:=H
  refine KGs (i:=5) #[true,true,true,true,true,true] rfl rfl hT (by kernel_rfl) rfl hE hR (Kg rfl) (Jr hE rfl rfl sz23 qu_4)  (λa w hE hR hh=>?_)
  replace H:=M.at hh H;clear hh
  refine KJk hT (by kernel_rfl) ?_
  exact⟨hR,H,hE.cut (.cons rfl Subs.nil)⟩
 ·obtain⟨hR,hq,hE⟩:=hh
  exact⟨hE.defers,_,rfl,_,qB (rs:=[]) (vs:=[]) hE rfl RV.nil,h _ hR hq⟩
theorem KI2 {Q:Int×Int->Heap->Prop} {w0 w:World} {a:Act} {l:List (Nat×Value)} {p4 p5:Addr} {l0:List Deferred} (hE:EnvD l0 38 a l) (h4:look l 4=some (.pointer (some p4))) (h5:look l 5=some (.pointer (some p5))) (hR:Rest w0 w) (H:(KAh p4 p5).wp w.heap Q):
  ∃v,(results Tryz.f63 a.tmps).run Tryz.prog w=.ok v w/\∃r,Ending.returned v=.returned (KKD r)/\Q r w.heap/\Rest w0 w:=by
 obtain⟨i,qi,H⟩:=H
 obtain⟨e,qe,H⟩:=H
 exact⟨_,qB (a:={tmps:=a.tmps,defers:=[]}) (rs:=[.cell 4 3,.cell 5 23]) hE.env rfl (RV.cell h4 sc3 qi (RV.cell h5 sc23 qe RV.nil)),(i,e),rfl,H,hR⟩
abbrev dfp (p4 p5:Addr):Deferred:={target:=.fn (.func 104) #[.pointer (some p4),.pointer (some p5)],args:=#[]}
theorem KNO {p4 p5:Addr} {w:World}:(invoke (.fn (.func 104) #[.pointer (some p4),.pointer (some p5)]) #[]).run Tryz.prog w=.ok (.enter 104 #[.pointer (some p4),.pointer (some p5)]) w:=by
 have h:=KC Tryz.func104 (by kernel_rfl) rfl #[.pointer (some p4),.pointer (some p5)] w
 simp [invoke,h]
theorem KXK {Q:Int×Int->Heap->Prop} {w0 w:World} {a:Act} {l:List (Nat×Value)} {p4 p5:Addr} (hE:EnvD [dfp p4 p5] 38 a l) (h4:look l 4=some (.pointer (some p4))) (h5:look l 5=some (.pointer (some p5))) (hR:Rest w0 w) (H:(KAh p4 p5).wp w.heap Q):
  Leaves Tryz.prog Tryz.f63 a.tmps (λe w'=>∃r,e=.returned (KKD r)/\Q r w'.heap/\Rest w0 w') a.defers .returning w:=by
 rw [hE.def_]
 refine leaves_cons (by simp) KNO (KUl ?_)
 exact KI2 hE h4 h5 hR H
theorem KSl {Q:Int×Int->Heap->Prop} {w0 w:World} {a:Act} {l:List (Nat×Value)} {p4 p5:Addr} {u:Value} (hE:EnvD [dfp p4 p5] 38 a l) (h4:look l 4=some (.pointer (some p4))) (h5:look l 5=some (.pointer (some p5))) (hR:Rest w0 w) (H:(KBr p4 p5 u>>=λ_=>KAh p4 p5).wp w.heap Q):
  Leaves Tryz.prog Tryz.f63 a.tmps (λe w'=>∃r,e=.returned (KKD r)/\Q r w'.heap/\Rest w0 w') a.defers (.panicking [{v:=u,recovered:=false}]) w:=by
 rw [hE.def_]
 refine leaves_cons (by simp) KNO (KUm (M.unbind H) (λw' hR' H'=>?_))
 show Leaves _ _ _ _ [] (settle (.panicking [{v:=u,recovered:=true}])) w'
 exact KI2 hE h4 h5 (hR.trans hR') H'
end Gx
namespace Gx
open Go Go.Proofs Go.Shelf Go.RowKit Go.Lib Gx.Last
section
variable {P:Program} {ops:Array Oper} {Q:Exit->Act->World->Prop} {a:Act} {w w0:World} {l:List (Nat×Value)} {rest:List Oper} {o:Oper} {ds:List Deferred} {m:Nat}
theorem KVs {d:Option Nat} {f:FuncId} {as':Array Operand} {ts:Array TypeId} {ty:TypeId} {pos:String} {aft:Array Edge} {vs:List Value} {ρ:Type} {enc:ρ->Value} {F:M ρ} {Qx:ρ->Heap->Prop}
  (hE:EnvD ds m a l) (hR:Rest w0 w) (hc:Callee? P f) (ha:opvs l as'.toList=some vs) (hS:KY P f vs.toArray enc F) (H:F.wp w.heap Qx)
  (h:∀r a' w',a'=a.put d (enc r)->Rest w0 w'->Qx r w'.heap->wpListIn (Fw none) 1 P ops Q rest a' w'):
  wpListIn (Fw none) 1 P ops Q (⟨d,.call {callee:=.value (.func f),args:=as',argTypes:=ts},ty,pos,aft,none⟩::rest) a w:=by
 refine wpListIn_plain rfl λK' hK=>⟨λ_ _=>trivial,?_⟩
 have hrun:(execOp a.eval ⟨d,.call {callee:=.value (.func f),args:=as',argTypes:=ts},ty,pos,aft,none⟩).run P w=.ok (.enter f vs.toArray) w:=KJi (a:={tmps:=a.tmps,defers:=[]}) hE.env hc ha
 rw [KEY hrun (λd h=>by cases h),Oper.uponIn_enter]
 refine⟨λ_=>Ee 1,Gk ((hS w _ H).mono ?_)⟩
 rintro e w' ⟨r,he,hq,hr⟩
 subst he
 exact hK _ _ (h r _ w' rfl (hR.trans hr) hq)
theorem KUn {d:Option Nat} {x:Operand} {as':Array Operand} {ts:Array TypeId} {ty:TypeId} {pos:String} {aft:Array Edge} {v:Value} {vs:List Value} {ρ:Type} {enc:ρ->Value} {Qx:Value⊕ρ->Heap->Prop}
  (hE:EnvD ds m a l) (hR:Rest w0 w) (hx:opv l x=some v) (ha:opvs l as'.toList=some vs) (H:(KHy P enc v vs).wp w.heap Qx)
  (hp:∀v w',Rest w0 w'->Qx (.inl v) w'.heap->Q (.panic [{v:=v,recovered:=false}]) a w')
  (h:∀r a' w',a'=a.put d (enc r)->Rest w0 w'->Qx (.inr r) w'.heap->wpListIn (Fw none) 1 P ops Q rest a' w'):
  wpListIn (Fw none) 1 P ops Q (⟨d,.call {callee:=.value x,args:=as',argTypes:=ts},ty,pos,aft,none⟩::rest) a w:=by
 obtain⟨f,cap,rfl,hc,hC⟩:=H w rfl
 refine wpListIn_plain rfl λK' hK=>⟨λ_ _=>trivial,?_⟩
 have hrun:(execOp a.eval ⟨d,.call {callee:=.value x,args:=as',argTypes:=ts},ty,pos,aft,none⟩).run P w=.ok (.enter f (vs.toArray++cap)) w:=KKT (a:={tmps:=a.tmps,defers:=[]}) hE.env hx hc ha
 rw [KEY hrun (λd h=>by cases h),Oper.uponIn_enter]
 refine⟨λ_=>Ee 1,Gk (hC.mono ?_)⟩
 rintro e w' ⟨r,he,hq,hr⟩
 cases r with
 |inl v=>subst he;exact hp v w' (hR.trans hr) hq
 |inr r=>subst he;exact hK _ _ (h r _ w' rfl (hR.trans hr) hq)
end
theorem KaL (x0:ByteArray) (x1:Value):KY Tryz.prog No #[.string x0,x1] KKD (prdM x0 x1):=by
 intro W0 Q H
 refine calls_of_wp_defers Tryz.func63 rfl ?_
 refine(λhs=>wpIn_wide.1 hs) (?_:Code.wpIn (Fw none) 1 _ _ _ _ _)
 have hE0:Env ⟨38,[]⟩ {tmps:=#[.string x0,x1]++Array.replicate (38 - 2) undef,defers:=[]} [(0,.string x0),(1,x1)]:=Env.enter (n:=38) #[.string x0,x1] _ (Fc rfl) (KAH ⟨rfl,rfl,trivial⟩)
 have hE:EnvD [] 38 {tmps:=#[.string x0,x1]++Array.replicate (38 - 2) undef,defers:=[]} [(0,.string x0),(1,x1)]:=⟨hE0,rfl⟩
 have hR:Rest W0 W0:=Rest.refl W0
 obtain⟨p4,q4,H⟩:=H
 refine wpIn_seq (Vf ?_)
 refine KH1 (v:=.pointer (some p4)) rfl rfl hE rfl hR (λb hE=>GR zr3 q4) (λa w1 hE hR hh=>?_)
 replace H:=M.at hh H;clear hh
 obtain⟨p5,q5,H⟩:=H
 refine KH1 (v:=.pointer (some p5)) rfl rfl hE rfl hR (λb hE=>GR zr23 q5) (λa w1 hE hR hh=>?_)
 replace H:=M.at hh H;clear hh
 refine KEi ?_
 refine wpIn_seq (Vf ?_)
 refine WV (v:=.string x0) rfl rfl hE rfl (λb hE=>VC hE rfl) (λa hE=>?_)
 refine KVs hE hR KQX rfl (KRi x0) (M.unbind H) (λt a1 w1 ea hR H=>?_)
 replace hE:EnvD [] 38 a1 _:=ea▸hE.put 10 (.tuple #[(t.1:Sl).v,.int .i64 t.2.1,.int .i64 t.2.2]) rfl
 refine WV (v:=.tuple #[(t.1:Sl).v,.int .i64 t.2.1,.int .i64 t.2.2]) rfl rfl hE rfl (λb hE=>VC hE rfl) (λa hE=>?_)
 refine WV (v:=(t.1:Sl).v) rfl rfl hE rfl (λb hE=>YJ hE rfl rfl) (λa hE=>?_)
 refine WV (v:=.int .i64 t.2.1) rfl rfl hE rfl (λb hE=>YJ hE rfl rfl) (λa hE=>?_)
 refine WV (v:=.int .i64 t.2.2) rfl rfl hE rfl (λb hE=>YJ hE rfl rfl) (λa hE=>?_)
 refine WV (v:=(t.1:Sl).v) rfl rfl hE rfl (λb hE=>zB hE rfl) (λa hE=>?_)
 obtain⟨u_6,qu_6,H⟩:=H
 refine KME rfl rfl hE hR (λb hE=>Jr hE rfl rfl sz3 qu_6) (λa w hE hR hh=>?_)
 replace H:=M.at hh H;clear hh
 obtain⟨u_7,qu_7,H⟩:=H
 refine KME rfl rfl hE hR (λb hE=>Jr hE rfl rfl sz23 qu_7) (λa w hE hR hh=>?_)
 replace H:=M.at hh H;clear hh
 replace hE:EnvD [] 38 a [(0,.string x0),(1,x1),(4,.pointer (some p4)),(5,.pointer (some p5)),(6,(t.1:Sl).v)]:=⟨hE.env.cut (.cons rfl (.cons rfl (.cons rfl (.cons rfl (.cons rfl Subs.nil))))),hE.def_⟩
 refine KEi ?_
 obtain⟨e,qe,H⟩:=H
 refine wpIn_seq (wpIn_mono (Q:=Exit.then (λa w1=>EnvD [] 38 a [(0,.string x0),(1,x1),(4,.pointer (some p4)),(5,.pointer (some p5)),(6,(t.1:Sl).v)]/\Rest W0 w1/\w1.heap=w.heap/\(e !=0)=false)
  (bodyPostD Tryz.prog Tryz.f63 (λe w'=>∃r,e=.returned (KKD r)/\Q r w'.heap/\Rest W0 w'))) ?_ ?_)
 ·refine wpIn_seq (Vf ?_)
  refine WV (v:=.int .i64 e) rfl rfl hE rfl (λb hE=>qA hE rfl sc23 qe) (λa hE=>?_)
  refine WV (v:=.bool (e !=0)) rfl rfl hE rfl (λb hE=>KJB hE rfl rfl KEX KXu) (λa hE=>?_)
  refine KEi ?_
  refine KRg (e !=0) hE rfl (λhb=>?_) (λhb=>?_)
  ·replace H:=M.ite_t hb H
   obtain⟨x16,qx16,H⟩:=H
   obtain⟨x17,qx17,H⟩:=H
   refine wpIn_seq (wpIn_mono (Q:=Ps (λa w'=>Env ⟨38,[]⟩ a [(4,.pointer (some p4)),(5,.pointer (some p5))]/\Rest W0 w'/\(KAh p4 p5).wp w'.heap Q) X0 (λ_ _=>False)) ?_ ?_)
   ·have hE':Env ⟨38,[]⟩ a [(4,.pointer (some p4)),(5,.pointer (some p5))]:=by
     have h1:=hE.env.cut (l':=[(4,.pointer (some p4)),(5,.pointer (some p5))]) (.cons rfl (.cons rfl Subs.nil))
     have h2:=hE.def_
     cases a
     cases h2
     exact h1
    replace hE:=hE'
    have hT:=KL3 KZL rfl rfl
    refine KF3 (λw:World=>(λh:Heap=>(KJ h p4=some (.int .i64 x16))/\(KJ h p5=some (.int .i64 x17))) w.heap) [3] #[false,false,false,false] mo hR rfl rfl (λw' e=>by rw [e];exact⟨qx16,qx17⟩) (λw hh hR hs=>?_)
    replace H:=M.at hh H;clear hh
    refine KHr (i:=0) (v:=.int .i64 x16) #[true,false,false,false] rfl rfl hT (by kernel_rfl) hE rfl (Kg rfl) hs (λw s=>qA hE rfl sc3 s.1) (λa hE=>?_)
    refine KHr (i:=1) (v:=.int .i64 x17) #[true,true,false,false] rfl rfl hT (by kernel_rfl) hE rfl (Kg rfl) hs (λw s=>qA hE rfl sc23 s.2) (λa hE=>?_)
    obtain⟨u_3,qu_3,H⟩:=H
    obtain⟨_,sA,H⟩:=H
    refine KRD (i:=2) #[true,true,true,false] rfl rfl hT (by kernel_rfl) rfl hE hR (Kg rfl) (Jr hE rfl rfl sz3 qu_3)  (λw' e=>by rw [e];exact sA) (λa w hE hR hh hs=>?_)
    replace H:=M.at hh H;clear hh
    obtain⟨u_4,qu_4,H⟩:=H
    refine KGs (i:=3) #[true,true,true,true] rfl rfl hT (by kernel_rfl) rfl hE hR (Kg rfl) (Jr hE rfl rfl sz23 qu_4)  (λa w hE hR hh=>?_)
    replace H:=M.at hh H;clear hh
    refine KJk hT (by kernel_rfl) ?_
    exact⟨hE.cut (.cons rfl (.cons rfl Subs.nil)),hR,H⟩
   ·intro e' a w hh
    cases e' with
    |normal=>
     obtain⟨hE,hR,H⟩:=hh
     refine wpIn_ret ?_
     show Leaves _ _ _ _ a.defers .returning w
     rw [hE.defers]
     exact KI2 (l0:=[]) (l:=[(4,.pointer (some p4)),(5,.pointer (some p5))]) ⟨by have h2:=hE.defers;cases a;cases h2;exact hE,hE.defers⟩ rfl rfl hR H
    |exit i=>exact hh.2.elim
    |ret=>exact hh.elim
    |goto l=>exact hh.elim
    |panic c=>obtain⟨_,_,hh⟩:=hh;exact hh.elim
    |outgrown=>exact hh.elim
  ·refine wpIn_skip ?_
   exact⟨⟨hE.env.cut (.cons rfl (.cons rfl (.cons rfl (.cons rfl (.cons rfl Subs.nil))))),hE.def_⟩,hR,rfl,hb⟩
 ·intro e' a w2 hh
  cases e' with
  |normal=>
   obtain⟨hE,hR,hh2,hb⟩:=hh
   replace H:=M.ite_f hb H
   replace H:=M.at hh2 H;clear hh2
   refine wpIn_seq (Vf ?_)
   refine WV (v:=.func (.func 104) #[] #[.pointer (some p4),.pointer (some p5)]) rfl rfl hE rfl (λb hE=>KF9 hE rfl) (λa hE=>?_)
   refine KRf hE rfl (λa hE=>?_)
   replace hE:EnvD [dfp p4 p5] 38 a [(0,.string x0),(1,x1),(4,.pointer (some p4)),(5,.pointer (some p5)),(6,(t.1:Sl).v)]:=⟨hE.env.cut (.cons rfl (.cons rfl (.cons rfl (.cons rfl (.cons rfl Subs.nil))))),hE.def_⟩
   refine KEi ?_
   refine wpIn_seq (Vf ?_)
   refine WV (v:=(t.1:Sl).v) rfl rfl hE rfl (λb hE=>VC hE rfl) (λa hE=>?_)
   refine WV (v:=.string x0) rfl rfl hE rfl (λb hE=>VC hE rfl) (λa hE=>?_)
   refine WV (v:=.int .i64 (x0.size:Int)) rfl rfl hE rfl (λb hE=>KJh hE rfl un9') (λa hE=>?_)
   refine WV (v:=.agg (#[(t.1:Sl).v,.int .i64 (x0.size:Int),.int .i64 0]:Ea)) rfl rfl hE rfl (λb hE=>KAy hE rfl KZJ KZK (by rfl)) (λa hE=>?_)
   obtain⟨r,qr,H⟩:=H
   refine KH1 (v:=.pointer (some r)) rfl rfl hE rfl hR (λb hE=>KTR hE rfl qr) (λa w1 hE hR hh=>?_)
   replace H:=M.at hh H;clear hh
   refine WV (v:=.pointer (some r)) rfl rfl hE rfl (λb hE=>zB hE rfl) (λa hE=>?_)
   replace hE:EnvD [dfp p4 p5] 38 a [(0,.string x0),(1,x1),(4,.pointer (some p4)),(5,.pointer (some p5)),(7,.pointer (some r))]:=⟨hE.env.cut (.cons rfl (.cons rfl (.cons rfl (.cons rfl (.cons rfl Subs.nil))))),hE.def_⟩
   refine KEi ?_
   refine wpIn_seq (Vf ?_)
   refine WV (v:=x1) rfl rfl hE rfl (λb hE=>VC hE rfl) (λa hE=>?_)
   refine WV (v:=.pointer (some r)) rfl rfl hE rfl (λb hE=>VC hE rfl) (λa hE=>?_)
   refine KUn hE hR rfl rfl (M.unbind H) (λu w1 hR H=>?_) (λcs a1 w1 ea hR H=>?_)
   ·exact KSl hE rfl rfl hR H
   replace hE:EnvD [dfp p4 p5] 38 a1 _:=ea▸hE.put 26 (uEnc cs) rfl
   replace hE:EnvD [dfp p4 p5] 38 a1 [(0,.string x0),(4,.pointer (some p4)),(5,.pointer (some p5)),(7,.pointer (some r))]:=⟨hE.env.cut (.cons rfl (.cons rfl (.cons rfl (.cons rfl Subs.nil)))),hE.def_⟩
   refine KEi ?_
   obtain⟨sl,qsl,H⟩:=H
   refine wpIn_seq (wpIn_mono (Q:=Exit.then (λa w1=>EnvD [dfp p4 p5] 38 a [(0,.string x0),(4,.pointer (some p4)),(5,.pointer (some p5))]/\Rest W0 w1/\(KOd p4 p5 (x0.size:Int)).wp w1.heap Q)
    (bodyPostD Tryz.prog Tryz.f63 (λe w'=>∃r,e=.returned (KKD r)/\Q r w'.heap/\Rest W0 w'))) ?_ ?_)
   ·refine wpIn_seq (Vf ?_)
    refine WV (v:=.pointer (some r)) rfl rfl hE rfl (λb hE=>VC hE rfl) (λa hE=>?_)
    refine WV (v:=.pointer (some r)) rfl rfl hE rfl (λb hE=>N7 hE rfl) (λa hE=>?_)
    refine WV (v:=.pointer (some (r.add 0))) rfl rfl hE rfl (λb hE=>WU hE rfl KWn) (λa hE=>?_)
    refine WV (v:=(sl:Sl).v) rfl rfl hE rfl (λb hE=>qA hE rfl sc22 qsl) (λa hE=>?_)
    refine WV (v:=.int .i64 (sl.len:Int)) rfl rfl hE rfl (λb hE=>KV6 hE rfl 29 un22) (λa hE=>?_)
    refine WV (v:=.bool (decide ((sl.len:Int)>0))) rfl rfl hE rfl (λb hE=>KJB hE rfl rfl KEX KV8) (λa hE=>?_)
    refine KEi ?_
    refine KRg (decide ((sl.len:Int)>0)) hE rfl (λhb=>?_) (λhb=>?_)
    ·replace H:=M.ite_t hb H
     refine Vf ?_
     refine WV (v:=.pointer (some r)) rfl rfl hE rfl (λb hE=>VC hE rfl) (λa hE=>?_)
     refine KVs hE hR Nc rfl (qV (some r)) (M.unbind H) (λi a1 w1 ea hR H=>?_)
     replace hE:EnvD [dfp p4 p5] 38 a1 _:=ea▸hE.put 34 (.int .i64 i) rfl
     refine KN2 hE hR UU rfl (VP i 160) (M.unbind H) (λu w1 hR H=>?_) (λcs a1 w1 ea hR H=>H.elim)
     exact KSl hE rfl rfl hR H
    ·replace H:=M.ite_f hb H
     refine wpIn_skip ?_
     exact⟨⟨hE.env.cut (.cons rfl (.cons rfl (.cons rfl Subs.nil))),hE.def_⟩,hR,H⟩
   ·intro e a w hh
    cases e with
    |normal=>
     obtain⟨hE,hR,H⟩:=hh
     obtain⟨u_6,qu_6,H⟩:=H
     refine wpIn_seq (Vf ?_)
     refine WV (v:=.string x0) rfl rfl hE rfl (λb hE=>VC hE rfl) (λa hE=>?_)
     refine WV (v:=.int .i64 (x0.size:Int)) rfl rfl hE rfl (λb hE=>KJh hE rfl un9') (λa hE=>?_)
     refine KME rfl rfl hE hR (λb hE=>Jr hE rfl rfl sz3 qu_6) (λa w hE hR hh=>?_)
     replace H:=M.at hh H;clear hh
     obtain⟨u_7,qu_7,H⟩:=H
     refine KME rfl rfl hE hR (λb hE=>Jr hE rfl rfl sz23 qu_7) (λa w hE hR hh=>?_)
     replace H:=M.at hh H;clear hh
     refine KEi ?_
     refine wpIn_ret ?_
     exact KXK hE rfl rfl hR H
    |exit i=>exact hh
    |ret=>exact hh
    |goto l=>exact hh
    |panic c=>exact hh
    |outgrown=>exact hh
  |exit i=>exact hh
  |ret=>exact hh
  |goto l=>exact hh
  |panic c=>exact hh
  |outgrown=>exact hh
end Gx
namespace Gx
open Go
def prdP {α:Type} (f:Nat->List Tkn->Nat->Except (Int×Int) (α×List Tkn×Nat)) (s:Eb):(Int×Int)×Option α:=
 if(lexP s).2.2≠0 then((((lexP s).2.1:Int),(lexP s).2.2),none)else
 match f s.length (lexP s).1 0 with
 | .error e=>(e,none)
 | .ok (a,r,_)=>if r=[]then(((s.length:Int),0),some a)else((zZ s.length r,160),none)
theorem KSm {p4 p5:Nat} {x:Int×Int} {v4 v5:Int} {h:Heap} {Q:Int×Int->Heap->Prop} (g4:h[p4]?=some (.cells #[.int .i64 v4] WS (0,0))) (g5:h[p5]?=some (.cells #[.int .i64 v5] zF (0,0))) (hne:p4≠p5)
  (H:∀h',Km (λk=>k=p4\/k=p5) h h'->Q x h'):(KBr ⟨p4,0,none⟩ ⟨p5,0,none⟩ (Uw x)>>=λ_=>KAh ⟨p4,0,none⟩ ⟨p5,0,none⟩).wp h Q:=by
 unfold KBr
 refine KR ⟨x,rfl,?_⟩
 have y4:=JV g4
 have y5:=JV g5
 refine KR (Kw (λh1 e1 s1 g1=>KR (ZH rfl (KR (stR g1 (Ee 2) (by intro u hu;simp only [ED,EP,Fr]at hu;rcases hu with rfl|rfl<;>rfl) (λh2 u2 g2=>?_))))))
 have g2:h2[h.size]?=some (.cells #[.int .i64 x.1,.int .i64 x.2] XB (0,0)):=by
  have e:lay (#[.int .i64 0,.int .i64 0]:Ea) 0 (#[.int .i64 x.1,.int .i64 x.2]:Ea).toList=#[.int .i64 x.1,.int .i64 x.2]:=KW (by rfl)
  rw [<-e];exact g2
 have q4:=(u2.ne _ (by omega)).trans (e1.blk g4)
 have q5:=(u2.ne _ (by omega)).trans (e1.blk g5)
 unfold KSk
 have l0:KJ h2 ((⟨h.size,0,none⟩:Addr).add 0)=some (.int .i64 x.1):=by rw [add_zero,KF g2];rfl
 have l1:KJ h2 ((⟨h.size,0,none⟩:Addr).add 1)=some (.int .i64 x.2):=by rw [KM,KF g2];rfl
 refine KR (KV l0 (KR (KV l1 (KR (stO q4 rfl (λh3 u3 k3=>KR (qE ?_ (KR (stO ((u3.ne _ (by omega)).trans q5) rfl (λh4 u4 k4=>KZ ?_))))))))))
 ·have g3:=(u3.ne _ (by omega)).trans g2
  exact⟨by rw [add_zero,KF g3];rfl,by rw [KM,KF g3];rfl⟩
 ·unfold KAh
  refine KV (oneC ((u4.ne _ (by omega)).trans k3)) (KV (oneC k4) (KA (H h4 ⟨by have:=e1.size;rw [u4.size,u3.size,u2.size];omega,λk hk hn=>?_⟩)))
  exact(u4.ne k (λe=>hn (.inr e))).trans ((u3.ne k (λe=>hn (.inl e))).trans ((u2.ne k (by omega)).trans (e1.same k hk)))
theorem TkR.off {h:Heap} {x:Sl} {ts:List Tkn} (T:TkR h x ts) (hne:ts≠[]) {a:Addr} (ha:x.base=some a):a.block<h.size/\∀(k:Nat) (v:Value) (ty:TypeId),h[k]?=some (.cells #[v] ty (0,0))->a.block≠k:=by
 cases ts with
 |nil=>exact absurd rfl hne
 |cons t r=>
  obtain⟨a',ha',hc⟩:=T.at (i:=0) (by simp)
  rw [ha]at ha'
  cases ha'
  have h0:=hc 0 (by decide)
  have h1:=hc 1 (by decide)
  rw [show(t::r)[0].cells=#[.int .i64 t.k,.string (bs t.s),.int .i64 t.n,.int .i64 t.a]from rfl]at h0 h1
  refine⟨?_,λk v ty hk hak=>?_⟩
  ·have:=N3 h0
   rwa [Z8,Z8]at this
  ·unfold KJ at h1
   rw [Z8,Z8,hak,hk]at h1
   dsimp only at h1
   split at h1
   ·cases h1
   ·rw [show((a.add (0*4)).add 1).off=a.off+0*4+1 from rfl]at h1
    rw [EV (by simp)]at h1
    cases h1
theorem KUo {α:Type} {f:Nat->List Tkn->Nat->Except (Int×Int) (α×List Tkn×Nat)} {s:Eb} {cv:Value} {c:Nat} {h:Heap} {Q:Int×Int->Heap->Prop} (I:α->Heap->Prop) (he:ErrV h) (hcs:c<h.size)
  (hI:∀a ha hb,I a ha->ha.size<=hb.size->(∀k,k<ha.size->k≠h.size->k≠h.size+1->hb[k]?=ha[k]?)->I a hb)
  (hcb:∀(lo b:Nat) (h1:Heap) (Q1:Value⊕Unit->Heap->Prop),Ext h h1->h.size+2<=b->PRd lo b s.length h1 (lexP s).1 0->
   (∀a r n' h2,f s.length (lexP s).1 0=.ok (a,r,n')->Km (λk=>k=b\/k=c) h1 h2->PRd lo b s.length h2 r n'->I a h2->Q1 (.inr ()) h2)->
   (∀e h2,f s.length (lexP s).1 0=.error e->Km (λk=>k=b\/k=c) h1 h2->Q1 (.inl (Uw e)) h2)->(KHy Tryz.prog uEnc cv [.pointer (some ⟨b,0,none⟩)]).wp h1 Q1)
  (H1:∀a h',prdP f s=(((s.length:Int),0),some a)->Km (λk=>k=c) h h'->I a h'->Q ((s.length:Int),0) h')
  (H2:∀x h',prdP f s=(x,none)->Km (λk=>k=c) h h'->Q x h'):(prdM (bs s) cv).wp h Q:=by
 unfold prdM
 unfold prdP at H1 H2
 refine Kw (λh1 e1 s1 g1=>Kw (λh2 e2 s2 g2=>KD (KUQ (he.ext (e1.trans e2)) (λh3 t e3 T htc=>?_))))
 have E3:=(e1.trans e2).trans e3
 have hz1:=e1.size
 have q1:=e3.blk (e2.blk g1)
 have q2:=e3.blk g2
 have hs1:h1.size=h.size+1:=s1
 have hs2:h2.size=h1.size+1:=s2
 have hz3:=e3.size
 refine stO q1 rfl (λh4 u4 k4=>stO ((u4.ne _ (by omega)).trans q2) rfl (λh5 u5 k5=>?_))
 have k4':=(u5.ne _ (by omega)).trans k4
 have hz5:h5.size=h3.size:=by rw [u5.size,u4.size]
 have sm5:∀k,k<h3.size->k≠h.size->k≠h1.size->h5[k]?=h3[k]?:=λk hk a1 a2=>(u5.ne k a2).trans (u4.ne k a1)
 refine KV (oneC k5) (KH (λhne=>?_) (λheq=>?_))
 ·have hne:(lexP s).2.2≠0:=by simpa using hne
  rw [if_pos hne]at H2
  unfold KPi
  refine KV (oneC k4') (KV (oneC k5) (stO k4' rfl (λh6 u6 k6=>qE ⟨oneC k6,oneC ((u6.ne _ (by omega)).trans k5)⟩ (stO ((u6.ne _ (by omega)).trans k5) rfl (λh7 u7 k7=>?_)))))
  unfold KAh
  refine KV (oneC ((u7.ne _ (by omega)).trans k6)) (KV (oneC k7) (KA (H2 _ h7 rfl ⟨by rw [u7.size,u6.size];omega,λk hk hn=>?_⟩)))
  exact(u7.ne k (by omega)).trans ((u6.ne k (by omega)).trans ((sm5 k (by omega) (by omega) (by omega)).trans (E3.same k hk)))
 ·have h0:(lexP s).2.2=0:=by simpa using heq
  rw [if_neg (by rw [h0];simp)]at H1 H2
  obtain⟨hsl,hlx,htl,_⟩:=KW4 h0
  refine Kw (λh6 e6 s6 g6=>?_)
  have hs6:h6.size=h5.size+1:=s6
  have E6:Ext h h6:=⟨by omega,λk hk=>(e6.same k (by omega)).trans ((sm5 k (by omega) (by omega) (by omega)).trans (E3.same k hk))⟩
  have hoff:=λhne a ha=>TkR.off T (hne:(lexP s).1≠[]) (a:=a) ha
  have T6:TkR h6 t (lexP s).1:=T.sameB (λa ha hne=>(e6.same _ (by have:=(hoff hne a ha).1;omega)).trans (sm5 _ (hoff hne a ha).1 ((hoff hne a ha).2 _ _ _ q1) ((hoff hne a ha).2 _ _ _ q2)))
  have hgood:∀u∈(lexP s).1,tokB u=true/\I64 u.n:=by
   rw [hlx]
   exact λu hu=>⟨(KJ2 s u hu).1,KSZ s u hu⟩
  have R6:PRd (h5.size+1) h5.size s.length h6 (lexP s).1 0:=⟨⟨t,by rw [Ke]at g6;exact g6,T6,htc,λa ha hne=>⟨by have:=(hoff hne a ha).1;omega,by have:=(hoff hne a ha).1;omega⟩⟩,by omega,by omega,by rw [hlx];exact Fb htl (by decide),hgood,by decide⟩
  have kk4:=e6.blk k4'
  have kk5:=e6.blk k5
  refine KD (hcb (h5.size+1) h5.size h6 _ E6 (by omega) R6 (λa r n' h7 hf K7 R7 I7=>?_) (λe h7 hf K7=>?_))
  ·rw [hf]at H1 H2
   dsimp only at H1 H2⊢
   have hz7:=K7.size
   have m4:=K7.blk kk4 (by omega)
   have m5:=K7.blk kk5 (by omega)
   have K07:Km (λk=>k=c) h h7:=⟨by omega,λk hk hn=>(K7.same k (by omega) (by omega)).trans (E6.same k hk)⟩
   obtain⟨x,gx,Tx,hxc,_⟩:=R7.obj
   have hxl:=Tx.1
   refine Kn (n:=x) (by rw [KM,KF gx];rfl) (KH (λhgt=>?_) (λhle=>?_))
   ·have hgt:=Ec hgt
    have hr:¬r=[]:=λe=>by subst e;rw [En]at hxl;omega
    rw [if_neg hr]at H2
    refine KD (qn R7 (KD ?_))
    unfold ZJ
    refine KA ?_
    exact KSm (x:=(zZ s.length r,160)) m4 m5 (by omega) (λh8 K8=>H2 _ h8 rfl ⟨by have:=K8.size;omega,λk hk hn=>(K8.same k (by omega) (by omega)).trans (K07.same k hk hn)⟩)
   ·have hle:=Ed hle
    have hr:r=[]:=List.eq_nil_of_length_eq_zero (by omega)
    rw [if_pos hr]at H1
    unfold KOd KAh
    rw [Ke]
    refine stO m4 rfl (λh8 u8 k8=>stO ((u8.ne _ (by omega)).trans m5) rfl (λh9 u9 k9=>KV (oneC ((u9.ne _ (by omega)).trans k8)) (KV (oneC k9) (KA (H1 a h9 rfl ?_ ?_)))))
    ·exact⟨by rw [u9.size,u8.size];omega,λk hk hn=>(u9.ne k (by omega)).trans ((u8.ne k (by omega)).trans (K07.same k hk hn))⟩
    ·exact hI a h7 h9 I7 (by rw [u9.size,u8.size];exact Ee _) (λk hk a1 a2=>(u9.ne k (by omega)).trans (u8.ne k (by omega)))
  ·rw [hf]at H2
   dsimp only at H2⊢
   have hz7:=K7.size
   have m4:=K7.blk kk4 (by omega)
   have m5:=K7.blk kk5 (by omega)
   exact KSm (x:=e) m4 m5 (by omega) (λh8 K8=>H2 _ h8 rfl ⟨by have:=K8.size;omega,λk hk hn=>(K8.same k (by omega) (by omega)).trans ((K7.same k (by omega) (by omega)).trans (E6.same k hk))⟩)
end Gx
namespace Gx
open Go
def parF (en:Nat) (ts:List Tkn) (n:Nat):Except (Int×Int) (List St×List Tkn×Nat):=match takT en 1 [103] ts with
 | .error e=>.error e
 | .ok r1=>match takT en 4 [46] r1 with
  | .error e=>.error e
  | .ok r2=>NJ en 8 r2 n
def KZM (cs:Ea):Prop:=∀(o:Nat) (t:Tkn),(∀j,j<4->cs[o+j]?=t.cells[j]?)->False
theorem KZN (v:Value):KZM #[v]:=λo t hh=>by
 have h1:=hh 1 (by decide)
 rw [EV (by simp)]at h1
 cases h1
theorem PRd.updc {lo b en n c:Nat} {h h':Heap} {r:List Tkn} {cs:Ea} {ty:TypeId} (R:PRd lo b en h r n) (u:Upd c h h') (hcb:b≠c) (g:h[c]?=some (.cells cs ty (0,0))) (hn:KZM cs):PRd lo b en h' r n:=by
 obtain⟨x,gx,T,hc,hb⟩:=R.obj
 refine⟨⟨x,(u.ne _ hcb).trans gx,T.sameB (λa ha hne=>u.ne _ (λhac=>?_)),hc,hb⟩,R.bl,by rw [u.size];exact R.lh,R.small,R.good,R.nb⟩
 cases r with
 |nil=>exact hne rfl
 |cons t r=>
  obtain⟨a',ha',hcc⟩:=T.at (i:=0) (by simp)
  rw [ha]at ha'
  cases ha'
  refine hn a.off t (λj hj=>?_)
  have h1:=hcc j hj
  rw [show(t::r)[0]=t from rfl]at h1
  unfold KJ at h1
  rw [Z8,Z8,hac,g]at h1
  dsimp only at h1
  split at h1
  ·have h2:t.cells[j]?=some t.cells[j]:=EF (show j<4 from hj)
   rw [h2]at h1
   cases h1
  ·rw [<-h1]
   by_cases hj0:j=0
   ·subst hj0;simp [Addr.add]
   ·simp [Addr.add,hj0]
theorem KES {s:Eb} {h:Heap} {Q:Sl×Int×Int->Heap->Prop} (he:ErrV h) (hz:∀x,prdP parF s=(x,none)->x.2≠0)
  (H1:∀l h' x,prdP parF s=(((s.length:Int),0),some l)->Ext h h'->YE (HS h h') h' x l->Q (x,(s.length:Int),0) h')
  (H2:∀x h',prdP parF s=(x,none)->Ext h h'->Q (Sl.nil,x.1,x.2) h'):(XZ (bs s)).wp h Q:=by
 unfold XZ
 refine Kw (λh2 e2 s2 g2=>KD (YI (KaL _ _) ?_))
 have hs2:h2.size=h.size+1:=s2
 refine KUo (f:=parF) (c:=h.size) (λl ha=>∃x:Sl,ha[h.size]?=some (.cells #[x.v] Gm (0,0))/\YE (λk=>h2.size+2<=k/\k<ha.size) ha x l) (he.ext e2) (by omega) ?_ ?_ ?_ ?_
 ·rintro l ha hb ⟨x,g,V⟩ hsz hk
  exact⟨x,(hk _ (JV g) (by omega) (by omega)).trans g,RowS.same Vd V (λk hh=>hk k hh.2 (by have:=hh.1;omega) (by have:=hh.1;omega)) (λk hh=>⟨hh.1,by have:=hh.2;omega⟩)⟩
 ·intro lo b h3 Q1 e3 hb R G1 G2
  refine KKU KHD (KII (some ⟨b,0,none⟩) ⟨h.size,0,none⟩) ?_
  unfold KFc
  unfold parF at G1 G2
  have hbl:=R.lt
  have hlo:=R.bl
  have hlh:=R.lh
  refine Zn (KJ7 (s:=[103]) R (λr1 h4 h1t K4 R4=>?_) (λe h4 h1t K4=>G2 e h4 (by rw [h1t]) (K4.wkb (λk hk=>.inl hk))))
  rw [h1t]at G1 G2
  dsimp only at G1 G2
  refine Zn (Ui (s:=[46]) R4 (λr2 h5 h2t K5 R5=>?_) (λe h5 h2t K5=>G2 e h5 (by rw [h2t]) ((K4.trans K5).wkb (λk hk=>.inl hk))))
  rw [h2t]at G1 G2
  dsimp only at G1 G2
  refine Zn (KKC 8 (Ee _) _ 0 h5 _ lo b R5 (λl r n' h6 x hl K6 R6 V6=>?_) (λe h6 hl K6=>G2 e h6 hl (((K4.trans K5).trans K6).wkb (λk hk=>.inl hk))))
  have K46:=(K4.trans K5).trans K6
  have hz46:=K46.size
  have hz4:=(K4.trans K5).size
  have g6:=K46.blk (e3.blk g2) (show ¬h.size=b by omega)
  refine stO g6 (KC8 _) (λh7 u7 g7=>KA (G1 l r n' h7 hl ?_ (R6.updc u7 (by omega) g6 (KZN _)) ⟨x,g7,?_⟩))
  ·exact⟨by rw [u7.size];exact hz46,λk hk hn=>(u7.ne k (λe=>hn (.inr e))).trans (K46.same k hk (λe=>hn (.inl e)))⟩
  ·exact RowS.same Vd V6 (λk hk=>u7.ne k (by have:=hk.1;omega)) (λk hk=>⟨by have:=hk.1;omega,by have:=hk.2;rw [u7.size];omega⟩)
 ·rintro l h' hv K ⟨x,g,V⟩
  have hzk:=K.size
  refine iteF rfl (Kn (oneC g) (KA (H1 l h' x hv ⟨by omega,λk hk=>(K.same k (by omega) (by omega)).trans (e2.same k hk)⟩ ?_)))
  exact RowS.same Vd V (λ_ _=>rfl) (λk hk=>⟨by have:=hk.1;omega,hk.2⟩)
 ·intro x h' hx K
  have hzk:=K.size
  exact iteT (by simpa using hz x hx) (KA (H2 x h' hx ⟨by omega,λk hk=>(K.same k (by omega) (by omega)).trans (e2.same k hk)⟩))
end Gx
namespace Gx
open Go
def bgA:Eb:=[103,46,86,40,49,41,46,111,117,116,40,39,107,110,111,119,115,39,41,46,104,97,115,40,39,97,103,101,39,44,103,116,40,51,48,41,41,46,99,111,117,110,116,40,41]
def bgB:Eb:=[103,46,86,40]
theorem KaM:(prdP parF bgA).1=(45,0)/\(prdP parF bgA).2.map List.length=some 4:=by
 constructor<;>kernel_rfl
theorem KaN:(prdP parF bgB).1=(4,160)/\(prdP parF bgB).2.map List.length=none:=by
 constructor<;>kernel_rfl
def KI3 (l:List (Eb)) (n:Int):Eb:=if n<1\/n>(l.length:Int)then []else l[(n - 1).toNat]?.getD []
theorem KSn {s:Eb} {n:Int} {h:Heap} {Q:ByteArray->Heap->Prop} (hs:s.length<=1000000) (H:∀h',Ext h h'->Q (bs (KI3 (splW s) n)) h'):(zr (bs s) n).wp h Q:=by
 unfold zr
 have h1:=KHa s
 have h2:Lib.countByte s 32<=s.length:=IX
 refine KD (KJ9 (by omega) (λh1 x e1 hx hr=>?_))
 have H:=H h1 e1
 unfold KI3 at H
 rw [hx]
 have done:n<1\/n>((splW s).length:Int)->Q ByteArray.empty h1:=λhc=>by rw [if_pos hc]at H;exact H
 refine KJF (λhlt=>KZ (iteT rfl (KA (done (.inl (Ec hlt)))))) (λhge=>KZ ?_)
 have hge:=Ed hge
 refine KH (λhgt=>KA (done (.inr (Ec hgt)))) (λhle=>?_)
 have hle:=Ed hle
 rw [if_neg (by omega)]at H
 have hlt:(n - 1).toNat<(splW s).length:=by omega
 rw [w64 (by omega) (by omega)]
 rcases hr with h0|⟨a,ha,hr⟩
 ·exfalso
  have:=Ew List.length h0
  simp at this
  rw [this]at hlt
  simp at hlt
 ·have hg:=hr (n - 1).toNat (sv ((splW s)[(n - 1).toNat])) (by rw [Fs,Em hlt];rfl)
  refine NM (by omega) (by omega) ha (WO (n:=bs ((splW s)[(n - 1).toNat])) (by rw [FT];exact hg) (KA ?_))
  rw [Em hlt]at H
  exact H
theorem KSo {n:Int} {h:Heap} {Q:ByteArray->Heap->Prop} (H:∀h',Ext h h'->Q (bs (KI3 (splW stW) n)) h'):(zt n).wp h Q:=by
 unfold zt
 exact KD (KSn (s:=stW) (by decide) (λh' e=>KA (H h' e)))
theorem KXL:KI3 (splW stW) 47=[111,114,100,101,114,66,121,68,101,115,99]:=by kernel_rfl
theorem KG3 {h:Heap} {Q:Bool->Heap->Prop} (he:ErrV h) (H:∀h',Ext h h'->Q true h'):(Uf).wp h Q:=by
 unfold Uf
 obtain⟨a1,a2⟩:=KaM
 obtain⟨b1,b2⟩:=KaN
 refine KD (KES (s:=bgA) he (λx hx=>by rw [hx]at a2;cases a2) (λl h1 x hp e1 S=>?_) (λx h1 hp e1=>by rw [hp]at a2;cases a2))
 refine KD (KES (s:=bgB) (he.ext e1) (λx hx=>by rw [hx]at b1;dsimp only at b1;rw [b1];decide) (λl h2 x hp e1 S=>by rw [hp]at b2;cases b2) (λy h2 hp2 e2=>?_))
 rw [hp]at a2
 rw [hp2]at b1
 dsimp only at b1
 subst b1
 have hl:l.length=4:=by simpa using a2
 have hx:x.len=4:=S.1.trans hl
 have hc1:((x.len:Int)==4)=true:=by rw [hx];rfl
 refine Ve hc1 (KZ (Ve rfl (KZ (Ve rfl (KZ (Ve rfl (KZ (Ve rfl (KR (KD (KSo (λh3 e3=>KZ (KA ?_)))))))))))))
 rw [KXL,show sEq (bs [111,114,100,101,114,66,121,68,101,115,99]) ⟨#[111,114,100,101,114,66,121,68,101,115,99]⟩=true from(KC4 (a:=[111,114,100,101,114,66,121,68,101,115,99]) (b:=[111,114,100,101,114,66,121,68,101,115,99])).trans (Ej rfl)]
 exact H _ ((e1.trans e2).trans e3)
end Gx
namespace Gx
open Go
def layT:List (Eb×Tkn)->Eb
 | []=>[]
 |x::r=>x.1++(tkT x.2++layT r)
def KKE (t:Tkn):List (Eb×Tkn)->Prop
 | []=>True
 |y::_=>t.k=1\/t.k=2->y.1≠[]\/y.2.k=4
def Je:List (Eb×Tkn)->Prop
 | []=>True
 |x::r=>(∀c∈x.1,JD c=true)/\tokB x.2=true/\NumT x.2/\KKE x.2 r/\Je r
theorem KKF {c:UInt8} (h:JD c=true):KAA c=false:=by
 revert h
 refine KBp (p:=λc=>JD c=true->KAA c=false) (by decide+kernel) c
theorem KXM {t:Tkn} {r:List (Eb×Tkn)} (ha:KKE t r) (hg:Je r) (hk:t.k=1\/t.k=2):∀c,(layT r).head?=some c->KAA c=false:=by
 intro c hc
 cases r with
 |nil=>cases hc
 |cons y r=>
  obtain⟨g1,g2,_⟩:=hg
  rw [layT]at hc
  cases hy:y.1 with
  |cons d w=>
   rw [hy]at hc
   cases hc
   exact KKF (g1 c (by rw [hy];simp))
  |nil=>
   rw [hy]at hc
   obtain⟨d,w,hd,_,hw⟩:=KHX g2
   rw [EW,hd]at hc
   cases hc
   exact hw ((ha hk).resolve_left (λe=>e hy))
theorem Je.app:∀{a b:List (Eb×Tkn)},Je a->Je b->(∀y r,b=y::r->y.1≠[]\/y.2.k=4)->Je (a++b)
 | [],b,_,hb,_=>hb
 |x::a,b,ha,hb,hc=>by
  obtain⟨h1,h2,h3,h4,h5⟩:=ha
  refine⟨h1,h2,h3,?_,Je.app h5 hb hc⟩
  cases a with
  |cons y a=>exact h4
  |nil=>
   cases b with
   |nil=>trivial
   |cons y r=>exact λ_=>hc y r rfl
theorem KFw:∀(a b:List (Eb×Tkn)),layT (a++b)=layT a++layT b
 | [],b=>rfl
 |x::a,b=>by rw [Ey,layT,layT,KFw a b,Ek,Ek]
def mk4 (c:UInt8):Tkn:=⟨4,[c],0,0⟩
def shwT (ev od:UInt8):List (Eb->List (Eb×Tkn))->Eb->List (Eb×Tkn)
 | [],_=>[]
 | [a],sep=>a sep
 |a::b::r,sep=>a sep++(([],mk4 ev)::shwT od ev (b::r) [32])
def NY:Nat->Vl->Eb->List (Eb×Tkn)
 |0,_,_=>[]
 |d+1,.mk k n s l,sep=>
  if k=1 then [(sep,⟨2,[],n,0⟩)]else if k=2 then [(sep,⟨3,s,0,0⟩)]else if k=3 then [(sep,⟨1,if n=1 then KFv else KG2,0,0⟩)]
  else if k=6 then [(sep,⟨1,[118],0,0⟩),([],mk4 91),([],⟨2,[],n,0⟩),([],mk4 93)]else if k=7 then [(sep,⟨1,[101],0,0⟩),([],mk4 91),([],⟨2,[],n,0⟩),([],mk4 93)]
  else if k=4 then(sep,mk4 91)::(shwT 44 44 (l.map (NY d)) []++[([],mk4 93)])else if k=5 then(sep,mk4 123)::(shwT 58 44 (l.map (NY d)) []++[([],mk4 125)])else []
theorem KFx (c:UInt8) (h:GL c=true):tkT (mk4 c)=[c]:=by
 have ht:tokB (mk4 c)=true:=by simp [tokB,mk4,KIe,h]
 rw [Yd ht]
 rfl
theorem KSp {ev od:UInt8}:∀(l:List (Eb->List (Eb×Tkn))) (ts:List (Eb)) (sep:Eb) (ev od:UInt8),GL ev=true->GL od=true->l.length=ts.length->(∀i (h1:i<l.length) (h2:i<ts.length) (sep:Eb),layT (l[i] sep)=sep++ts[i])->
  l≠[]->layT (shwT ev od l sep)=sep++shw [ev,32] [od,32] ts
 | [],ts,sep,ev,od,_,_,hl,H,hne=>absurd rfl hne
 | [a],ts,sep,ev,od,_,_,hl,H,_=>by
  match ts,hl with
  | [t],_=>exact H 0 (by simp) (by simp) sep
 |a::b::r,ts,sep,ev,od,he,ho,hl,H,_=>by
  match ts,hl with
  |t::u::q,hl=>
   have ih:=KSp (ev:=ev) (od:=od) (b::r) (u::q) [32] od ev ho he (by simpa using hl) (λi h1 h2 sep=>H (i+1) (by simpa using h1) (by simpa using h2) sep) (by simp)
   have h0:=H 0 (by simp) (by simp) sep
   rw [show(a::b::r)[0]=a from rfl,show(t::u::q)[0]=t from rfl]at h0
   rw [shwT,KFw,h0,layT,ih,shw,KFx ev he]
   simp
end Gx
namespace Gx
open Go
theorem KSq {d:Nat} {l:List Vl} (h:l.all (mayV d)=true):∀x∈l,mayV d x=true:=EB.1 h
theorem tkI (n:Int):tokB ⟨2,[],n,0⟩=true:=by simp [tokB]
theorem tkS {s:Eb} (h:s.length<=128):tokB ⟨3,s,0,0⟩=true:=by simp [tokB,h]
theorem tkW {s:Eb} (h:Gf s=true):tokB ⟨1,s,0,0⟩=true:=by simp [tokB,h]
theorem tkM {c:UInt8} (h:GL c=true):tokB (mk4 c)=true:=by simp [tokB,mk4,KIe,h]
theorem KPk:∀(d:Nat) (v:Vl) (sep:Eb),mayV d v=true->layT (NY d v sep)=sep++txt d v
 |0,v,sep,h=>by simp [mayV]at h
 |d+1,.mk k n s l,sep,h=>by
  have two:∀(ev:UInt8) (a b:UInt8),GL ev=true->GL a=true->GL b=true->l.all (mayV d)=true->layT ((sep,mk4 a)::(shwT ev 44 (l.map (NY d)) []++[([],mk4 b)]))=sep++([a]++shw [ev,32] [44,32] (l.map (txt d))++[b]):=λev a b h1 h2 h3 hall=>by
   have hi:layT (shwT ev 44 (l.map (NY d)) [])=shw [ev,32] [44,32] (l.map (txt d)):=by
    by_cases hl:l=[]
    ·subst hl;rfl
    ·have:=KSp (ev:=0) (od:=0) (l.map (NY d)) (l.map (txt d)) [] ev 44 h1 (by decide) (by simp) (λi a1 a2 sp=>by
      rw [Ie,Ie]
      exact KPk d _ sp (KSq hall _ (EJ _))) (by simpa using hl)
     rw [this,EW]
   rw [layT,KFw,hi]
   simp only [layT,KFx a h2,KFx b h3,E0,EW,Ek]
  have ref:∀(c:UInt8),Gf [c]=true->layT [(sep,(⟨1,[c],0,0⟩:Tkn)),([],mk4 91),([],⟨2,[],n,0⟩),([],mk4 93)]=sep++([c,91]++Lib.itoa n++[93]):=λc hc=>by
   simp only [layT,KFx 91 (by decide),KFx 93 (by decide),Yd (tkI n),Yd (tkW hc)]
   simp
  rw [mayV]at h
  rw [NY,txt]
  split at h
  ·next hk=>rw [if_pos hk,if_pos hk];simp only [layT,Yd (tkI n)];simp
  ·next hk1=>
   rw [if_neg hk1,if_neg hk1]
   split at h
   ·next hk=>
    subst hk
    simp only [↓reduceIte,Int.reduceEq]
    have hw:Gf (if n=1 then KFv else KG2)=true:=by split<;>decide
    simp only [layT,Yd (tkW hw)]
    simp
   ·next hk3=>
    split at h
    ·next hk=>
     rcases hk with rfl|rfl
     ·simp only [↓reduceIte,Int.reduceEq]
      exact ref 118 (by decide)
     ·simp only [↓reduceIte,Int.reduceEq]
      exact ref 101 (by decide)
    ·next hk67=>
     split at h
     ·next hk=>
      subst hk
      simp only [↓reduceIte]
      simp only [Eg,EN]at h
      simp only [layT,Yd (tkS h.2)]
      simp
     ·next hk2=>
      rw [if_neg hk2,if_neg hk2,if_neg hk3,if_neg hk3,if_neg (λe=>hk67 (.inl e)),if_neg (λe=>hk67 (.inl e)),if_neg (λe=>hk67 (.inr e)),if_neg (λe=>hk67 (.inr e))]
      split at h
      ·next hk=>
       rw [if_pos hk,if_pos hk]
       simp only [Eg]at h
       exact two 44 91 93 (by decide) (by decide) (by decide) h.2.2
      ·next hk4=>
       rw [if_neg hk4,if_neg hk4]
       split at h
       ·next hk=>
        rw [if_pos hk,if_pos hk]
        simp only [Eg]at h
        exact two 58 123 125 (by decide) (by decide) (by decide) h.2.2
       ·cases h
end Gx
namespace Gx
open Go
theorem KOe {t:Tkn} (h:t.k≠2):NumT t:=λe=>absurd e h
theorem nM (c:UInt8):NumT (mk4 c):=KOe (show(4:Int)≠2 by decide)
theorem n1 (s:Eb):NumT ⟨1,s,0,0⟩:=KOe (show(1:Int)≠2 by decide)
theorem n3 (s:Eb):NumT ⟨3,s,0,0⟩:=KOe (show(3:Int)≠2 by decide)
theorem Je.cons {x:Eb×Tkn} {r:List (Eb×Tkn)} (h1:∀c∈x.1,JD c=true) (h2:tokB x.2=true) (h3:NumT x.2) (h4:KKE x.2 r) (h5:Je r):Je (x::r):=⟨h1,h2,h3,h4,h5⟩
theorem KLc {t t':Tkn} {s:Eb} {r:List (Eb×Tkn)} (h:t'.k=4):KKE t ((s,t')::r):=λ_=>.inr h
theorem KKG {t:Tkn} {r:List (Eb×Tkn)} (h:t.k=4):KKE t r:=by
 cases r with
 |nil=>trivial
 |cons y r=>exact λe=>by omega
theorem KPl:∀(l:List (Eb->List (Eb×Tkn))) (sep:Eb) (ev od:UInt8),GL ev=true->GL od=true->(∀c∈sep,JD c=true)->(∀a∈l,∀sp:Eb,(∀c∈sp,JD c=true)->Je (a sp))->Je (shwT ev od l sep)
 | [],sep,ev,od,_,_,_,_=>trivial
 | [a],sep,ev,od,_,_,hs,H=>H a (by simp) sep hs
 |a::b::r,sep,ev,od,he,ho,hs,H=>by
  have ih:=KPl (b::r) [32] od ev ho he (λc hc=>by simp at hc;subst hc;rfl) (λx hx=>H x (Ev _ hx))
  rw [shwT]
  refine Je.app (H a (by simp) sep hs) (Je.cons (λc hc=>by cases hc) (tkM he) (nM _) (KKG rfl) ih) (λy q hy=>?_)
  cases hy
  exact .inr rfl
theorem KNP:∀(d:Nat) (v:Vl) (sep:Eb),mayV d v=true->WfV d v->(∀c∈sep,JD c=true)->Je (NY d v sep)
 |0,v,sep,h,_,_=>by simp [mayV]at h
 |d+1,.mk k n s l,sep,h,hw,hs=>by
  have e0:∀c∈([]:Eb),JD c=true:=λc hc=>by cases hc
  have two:∀(ev:UInt8) (a b:UInt8),GL ev=true->GL a=true->GL b=true->l.all (mayV d)=true->Je ((sep,mk4 a)::(shwT ev 44 (l.map (NY d)) []++[([],mk4 b)])):=λev a b h1 h2 h3 hall=>by
   refine Je.cons hs (tkM h2) (nM _) (KKG rfl) (Je.app (KPl _ [] ev 44 h1 (by decide) e0 (λx hx sp hsp=>?_)) (Je.cons e0 (tkM h3) (nM _) trivial trivial) (λy q hy=>by cases hy;exact .inr rfl))
   obtain⟨w,hwm,rfl⟩:=Fv.1 hx
   exact KNP d w sp (KSq hall w hwm) (hw.2 w hwm) hsp
  have ref:∀(c:UInt8),Gf [c]=true->Je [(sep,(⟨1,[c],0,0⟩:Tkn)),([],mk4 91),([],⟨2,[],n,0⟩),([],mk4 93)]:=λc hc=>
   Je.cons hs (tkW hc) (n1 _) (KLc rfl) (Je.cons e0 (tkM (by decide)) (nM _) (KKG rfl) (Je.cons e0 (tkI n) (NumT.of hw.1) (KLc rfl) (Je.cons e0 (tkM (by decide)) (nM _) trivial trivial)))
  rw [mayV]at h
  rw [NY]
  split at h
  ·next hk=>rw [if_pos hk];exact Je.cons hs (tkI n) (NumT.of hw.1) trivial trivial
  ·next hk1=>
   rw [if_neg hk1]
   split at h
   ·next hk=>
    subst hk
    simp only [↓reduceIte,Int.reduceEq]
    exact Je.cons hs (tkW (by split<;>decide)) (n1 _) trivial trivial
   ·next hk3=>
    split at h
    ·next hk=>
     rcases hk with rfl|rfl
     ·simp only [↓reduceIte,Int.reduceEq]
      exact ref 118 (by decide)
     ·simp only [↓reduceIte,Int.reduceEq]
      exact ref 101 (by decide)
    ·next hk67=>
     split at h
     ·next hk=>
      subst hk
      simp only [↓reduceIte]
      simp only [Eg,EN]at h
      exact Je.cons hs (tkS h.2) (n3 _) trivial trivial
     ·next hk2=>
      rw [if_neg hk2,if_neg hk3,if_neg (λe=>hk67 (.inl e)),if_neg (λe=>hk67 (.inr e))]
      split at h
      ·next hk=>
       rw [if_pos hk]
       simp only [Eg]at h
       exact two 44 91 93 (by decide) (by decide) (by decide) h.2.2
      ·next hk4=>
       rw [if_neg hk4]
       split at h
       ·next hk=>
        rw [if_pos hk]
        simp only [Eg]at h
        exact two 58 123 125 (by decide) (by decide) (by decide) h.2.2
       ·cases h
end Gx
namespace Gx
open Go
abbrev Key:=Int×Eb×Int
theorem XP {ts:List Tkn} {k n:Int} {s:Eb} {q:List Key} (h:ts.map keyT=(k,s,n)::q):∃t r,ts=t::r/\t.k=k/\t.s=s/\t.n=n/\r.map keyT=q:=by
 cases ts with
 |nil=>cases h
 |cons t r=>
  rw [Er]at h
  injection h with h1 h2
  unfold keyT at h1
  injection h1 with a1 a2
  injection a2 with a2 a3
  exact⟨t,r,rfl,a1,a2,a3,h2⟩
theorem UC {ts:List Tkn} {k k' n:Int} {s s':Eb} {q:List Key} (h:ts.map keyT=(k,s,n)::q):isT k' s' ts=(decide (k=k')&&decide (s=s')):=by
 obtain⟨t,r,rfl,h1,h2,h3,h4⟩:=XP h
 rw [isT,h1,h2]
theorem VY {en:Nat} {ts:List Tkn} {k n:Int} {s:Eb} {q:List Key} (h:ts.map keyT=(k,s,n)::q):takT en k s ts=.ok ts.tail/\ts.tail.map keyT=q:=by
 obtain⟨t,r,rfl,h1,h2,h3,h4⟩:=XP h
 refine⟨?_,h4⟩
 unfold takT
 rw [UC h]
 simp
theorem KLd {en:Nat} {ts:List Tkn} {k n:Int} {s:Eb} {q:List Key} (h:ts.map keyT=(k,s,n)::q):∃t r,nxT en k ts=.ok (t,r)/\t.s=s/\t.n=n/\r.map keyT=q:=by
 obtain⟨t,r,rfl,h1,h2,h3,h4⟩:=XP h
 exact⟨t,r,by rw [KBq,if_pos h1],h2,h3,h4⟩
def KAb (d:Nat) (v:Vl):List Key:=(NY d v []).map (λx=>keyT x.2)
def KSr:List Key->Prop
 | []=>False
 |x::_=>¬(x.1=4/\(x.2.1=[93]\/x.2.1=[125]))
def KNQ (pv:List Tkn->Except (Int×Int) (Vl×List Tkn)) (K:Vl->List Key) (v:Vl):Prop:=KSr (K v)/\∀(ts:List Tkn) (rest:List Key),ts.map keyT=K v++rest->∃r,pv ts=.ok (v,r)/\r.map keyT=rest
def seqK (K:Vl->List Key):List Vl->List Key
 | []=>[]
 |x::l=>(4,[44],0)::(K x++seqK K l)
theorem KNR {pv:List Tkn->Except (Int×Int) (Vl×List Tkn)} {K:Vl->List Key} {en:Nat}:∀(l:List Vl) (acc:List Vl) (f:Nat) (ts:List Tkn) (rest:List Key),l.length<f->acc≠[]->(∀v∈l,KNQ pv K v)->ts.map keyT=seqK K l++((4,[93],0)::rest)->
  ∃r,Xq pv [93] false en f ts acc=.ok (acc++l,r)/\r.map keyT=rest
 | [],acc,f,ts,rest,hf,ha,H,h=>by
  obtain⟨f,rfl⟩:∃g,f=g+1:=⟨f - 1,by simp at hf;omega⟩
  rw [seqK,EW]at h
  rw [Xq,UC h]
  exact⟨ts.tail,by simp,(VY (en:=en) h).2⟩
 |x::l,acc,f,ts,rest,hf,ha,H,h=>by
  rw [Ef]at hf
  obtain⟨f,rfl⟩:∃g,f=g+1:=⟨f - 1,by omega⟩
  rw [seqK,Ey]at h
  have hem:acc.isEmpty=false:=by cases acc with
   |nil=>exact absurd rfl ha
   |cons _ _=>rfl
  rw [Xq,UC h,hem]
  obtain⟨h1,h2⟩:=VY (en:=en) h
  rw [Ek]at h2
  obtain⟨r,h3,h4⟩:=(H x (by simp)).2 _ _ h2
  obtain⟨r2,h5,h6⟩:=KNR (en:=en) l (acc++[x]) f r rest (by omega) (by simp) (λv hv=>H v (Ev _ hv)) h4
  refine⟨r2,?_,h6⟩
  simp only [comT,h1]
  simp
  rw [h3]
  dsimp only
  rw [h5]
  simp
theorem KQz {pv:List Tkn->Except (Int×Int) (Vl×List Tkn)} {K:Vl->List Key} {en:Nat} (x:Vl) (l:List Vl) (f:Nat) (ts:List Tkn) (rest:List Key) (hf:l.length+1<f) (H:∀v∈x::l,KNQ pv K v) (h:ts.map keyT=K x++(seqK K l++((4,[93],0)::rest))):
  ∃r,Xq pv [93] false en f ts []=.ok (x::l,r)/\r.map keyT=rest:=by
 obtain⟨f,rfl⟩:∃g,f=g+1:=⟨f - 1,by omega⟩
 obtain⟨ho,hx⟩:=H x (by simp)
 obtain⟨r,h3,h4⟩:=hx _ _ h
 obtain⟨r2,h5,h6⟩:=KNR (en:=en) l [x] f r rest (by omega) (by simp) (λv hv=>H v (Ev _ hv)) h4
 refine⟨r2,?_,h6⟩
 have hno:isT 4 [93] ts=false:=by
  cases hk:K x with
  |nil=>rw [hk]at ho;exact ho.elim
  |cons y q=>
   rw [hk]at h ho
   rw [UC (k:=y.1) (s:=y.2.1) (n:=y.2.2) h]
   by_cases h1:y.1=4
   ·by_cases h2:y.2.1=[93]
    ·exact absurd ⟨h1,.inl h2⟩ ho
    ·simp [h2]
   ·simp [h1]
 rw [Xq,hno]
 simp [comT]
 rw [h3]
 dsimp only
 rw [h5]
 simp
end Gx
namespace Gx
open Go
def seqM (K:Vl->List Key):List Vl->List Key
 |a::b::r=>(4,[44],0)::(K a++((4,[58],0)::(K b++seqM K r)))
 |_=>[]
theorem KXN {K:List Key} {ts:List Tkn} {q:List Key} (ho:KSr K) (h:ts.map keyT=K++q):isT 4 [93] ts=false/\isT 4 [125] ts=false:=by
 cases hk:K with
 |nil=>rw [hk]at ho;exact ho.elim
 |cons y q'=>
  rw [hk]at h ho
  have e:∀s',isT 4 s' ts=(decide (y.1=4)&&decide (y.2.1=s')):=λs'=>UC (k:=y.1) (s:=y.2.1) (n:=y.2.2) h
  rw [e,e]
  by_cases h1:y.1=4
  ·refine⟨?_,?_⟩
   ·by_cases h2:y.2.1=[93]
    ·exact absurd ⟨h1,.inl h2⟩ ho
    ·simp [h2]
   ·by_cases h2:y.2.1=[125]
    ·exact absurd ⟨h1,.inr h2⟩ ho
    ·simp [h2]
  ·simp [h1]
theorem KPm {pv:List Tkn->Except (Int×Int) (Vl×List Tkn)} {K:Vl->List Key} {en:Nat}:∀(l:List Vl) (acc:List Vl) (f:Nat) (ts:List Tkn) (rest:List Key),l.length%2=0->l.length<f->acc≠[]->(∀v∈l,KNQ pv K v)->ts.map keyT=seqM K l++((4,[125],0)::rest)->
  ∃r,Xq pv [125] true en f ts acc=.ok (acc++l,r)/\r.map keyT=rest
 | [],acc,f,ts,rest,_,hf,ha,H,h=>by
  obtain⟨f,rfl⟩:∃g,f=g+1:=⟨f - 1,by simp at hf;omega⟩
  rw [seqM,EW]at h
  ·rw [Xq,UC h]
   exact⟨ts.tail,by simp,(VY (en:=en) h).2⟩
  ·intro a b r e;cases e
 | [a],acc,f,ts,rest,h2,_,_,_,_=>by simp at h2
 |x::y::l,acc,f,ts,rest,hp,hf,ha,H,h=>by
  rw [Ef,Ef]at hf hp
  obtain⟨f,rfl⟩:∃g,f=g+1:=⟨f - 1,by omega⟩
  rw [seqM,Ey,Ek,Ey,Ek]at h
  have hem:acc.isEmpty=false:=by cases acc with
   |nil=>exact absurd rfl ha
   |cons _ _=>rfl
  rw [Xq,UC h,hem]
  obtain⟨h1,h2⟩:=VY (en:=en) h
  obtain⟨r,h3,h4⟩:=(H x (by simp)).2 _ _ h2
  obtain⟨c1,c2⟩:=VY (en:=en) h4
  obtain⟨r3,h7,h8⟩:=(H y (by simp)).2 _ _ c2
  obtain⟨r2,h5,h6⟩:=KPm (en:=en) l (acc++[x]++[y]) f r3 rest (by omega) (by omega) (by simp) (λv hv=>H v (Ev _ (Ev _ hv))) h8
  refine⟨r2,?_,h6⟩
  simp only [comT,h1]
  simp
  rw [h3]
  dsimp only
  rw [c1]
  dsimp only
  rw [h7]
  dsimp only
  rw [show acc++x::[y]=acc++[x]++[y] by simp,h5]
  simp
theorem KSs {pv:List Tkn->Except (Int×Int) (Vl×List Tkn)} {K:Vl->List Key} {en:Nat} (x y:Vl) (l:List Vl) (f:Nat) (ts:List Tkn) (rest:List Key) (hp:l.length%2=0) (hf:l.length+2<f) (H:∀v∈x::y::l,KNQ pv K v) (h:ts.map keyT=K x++((4,[58],0)::(K y++(seqM K l++((4,[125],0)::rest))))):
  ∃r,Xq pv [125] true en f ts []=.ok (x::y::l,r)/\r.map keyT=rest:=by
 obtain⟨f,rfl⟩:∃g,f=g+1:=⟨f - 1,by omega⟩
 obtain⟨ho,hx⟩:=H x (by simp)
 obtain⟨r,h3,h4⟩:=hx _ _ h
 obtain⟨c1,c2⟩:=VY (en:=en) h4
 obtain⟨r3,h7,h8⟩:=(H y (by simp)).2 _ _ c2
 obtain⟨r2,h5,h6⟩:=KPm (en:=en) l [x,y] f r3 rest hp (by omega) (by simp) (λv hv=>H v (Ev _ (Ev _ hv))) h8
 refine⟨r2,?_,h6⟩
 rw [Xq,(KXN ho h).2]
 simp [comT]
 rw [h3]
 dsimp only
 rw [c1]
 dsimp only
 rw [h7]
 dsimp only
 rw [h5]
 simp
end Gx
namespace Gx
open Go
abbrev KK (x:Eb×Tkn):Key:=keyT x.2
theorem KBs (d:Nat) (v:Vl) (sep:Eb):(NY d v sep).map KK=KAb d v:=by
 unfold KAb
 cases d with
 |zero=>rfl
 |succ d=>
  obtain⟨k,n,s,l⟩:=v
  rw [NY,NY]
  repeat' split
  all_goals rfl
theorem KPn {d:Nat}:∀(l:List Vl) (x:Vl) (sep:Eb),(shwT 44 44 ((x::l).map (NY d)) sep).map KK=KAb d x++seqK (KAb d) l
 | [],x,sep=>by
  show(NY d x sep).map KK=_
  rw [KBs,seqK,E0]
 |y::l,x,sep=>by
  have ih:=KPn (d:=d) l y [32]
  simp only [Er]at ih⊢
  rw [shwT,Fm,Er,ih,KBs,seqK]
  rfl
theorem KNS {d:Nat}:∀(n:Nat) (l:List Vl) (x y:Vl) (sep:Eb),l.length<=n->l.length%2=0->(shwT 58 44 ((x::y::l).map (NY d)) sep).map KK=KAb d x++((4,[58],0)::(KAb d y++seqM (KAb d) l))
 |_,[],x,y,sep,_,_=>by
  show(NY d x sep++(([],mk4 58)::NY d y [32])).map KK=_
  rw [Fm,Er,KBs,KBs,seqM,E0]
  ·rfl
  ·intro a b r e;cases e
 |_,[a],x,y,sep,_,h=>by simp at h
 |0,a::b::l,x,y,sep,hn,h=>by simp at hn
 |n+1,a::b::l,x,y,sep,hn,h=>by
  have ih:=KNS (d:=d) n l a b [32] (by simp at hn;omega) (by simp at h;omega)
  rw [seqM]
  simp only [Er]at ih⊢
  rw [shwT,Fm,Er,KBs,shwT,Fm,Er,KBs,ih]
  rfl
theorem KSt:∀(d:Nat) (v:Vl),mayV d v=true->KSr (KAb d v)
 |0,v,h=>by simp [mayV]at h
 |d+1,.mk k n s l,h=>by
  unfold KAb
  rw [mayV]at h
  rw [NY]
  repeat' split
  all_goals first
   |(simp [KSr,keyT,mk4];done)
   |(exfalso;simp_all)
end Gx
namespace Gx
open Go
theorem KSu:∀(d e:Nat) (v:Vl),d<=e->mayV d v=true->mayV e v=true
 |0,e,v,_,h=>by simp [mayV]at h
 |d+1,0,v,hde,h=>by omega
 |d+1,e+1,.mk k n s l,hde,h=>by
  have key:l.all (mayV d)=true->l.all (mayV e)=true:=λhh=>EB.2 (λx hx=>KSu d e x (by omega) (EB.1 hh x hx))
  rw [mayV]at h⊢
  split at h
  ·next hk=>rw [if_pos hk];exact h
  ·next hk1=>
   rw [if_neg hk1]
   split at h
   ·next hk=>rw [if_pos hk];exact h
   ·next hk3=>
    rw [if_neg hk3]
    split at h
    ·next hk=>rw [if_pos hk];exact h
    ·next hk67=>
     rw [if_neg hk67]
     split at h
     ·next hk=>rw [if_pos hk];exact h
     ·next hk2=>
      rw [if_neg hk2]
      split at h
      ·next hk=>
       rw [if_pos hk]
       simp only [Eg]at h⊢
       exact⟨h.1,h.2.1,key h.2.2⟩
      ·next hk4=>
       rw [if_neg hk4]
       split at h
       ·next hk=>
        rw [if_pos hk]
        simp only [Eg]at h⊢
        exact⟨h.1,h.2.1,key h.2.2⟩
       ·cases h
theorem KAc {en d:Nat} {ts r:List Tkn} {v:Vl} (hm:mayV 8 v=true) (h:(match KC6 en ts with
   |some r=>r
   |none=>if isT 4 [91] ts=true then(match Xq (valT en d) [93] false en (ts.tail.length+1) ts.tail []with
     | .error e=>.error e
     | .ok (l,r)=>.ok (.mk 4 0 [] l,r))else if isT 4 [123] ts=true then(match Xq (valT en d) [125] true en (ts.tail.length+1) ts.tail []with
     | .error e=>.error e
     | .ok (l,r)=>.ok (.mk 5 0 [] l,r))else .error (zZ en ts,160))=(.ok (v,r):Except (Int×Int) (Vl×List Tkn))):valT en (d+1) ts=.ok (v,r):=by
 have key:∀X:Except (Int×Int) (Vl×List Tkn),X=.ok (v,r)->(match X with
  | .error e=>.error e
  | .ok (v,r)=>if mayV 8 v=true then .ok (v,r)else .error (zZ en ts,160))=(.ok (v,r):Except (Int×Int) (Vl×List Tkn)):=by
  rintro _ rfl
  simp [hm]
 rw [valT]
 exact key _ h
theorem KPo {en:Nat} {k n:Int} {r:List Tkn} {rest:List Key} (h:r.map keyT=(4,[91],0)::(2,[],n)::(4,[93],0)::rest):∃r',KFu en k r=.ok (.mk k n [] [],r')/\r'.map keyT=rest:=by
 obtain⟨h1,h2⟩:=VY (en:=en) h
 obtain⟨t,r2,h3,_,h4,h5⟩:=KLd (en:=en) h2
 obtain⟨h6,h7⟩:=VY (en:=en) h5
 refine⟨r2.tail,?_,h7⟩
 unfold KFu
 rw [h1]
 dsimp only
 rw [h3]
 dsimp only
 rw [h6]
 dsimp only
 rw [h4]
theorem KPp (K:Vl->List Key):∀l:List Vl,l.length<=(seqK K l).length
 | []=>Ee _
 |x::l=>by have:=KPp K l;rw [seqK,Ef,Ef,List.length_append];omega
theorem KPq (K:Vl->List Key):∀(n:Nat) (l:List Vl),l.length<=n->l.length%2=0->l.length<=(seqM K l).length
 |_,[],_,_=>El _
 |_,[a],_,h=>by simp at h
 |0,a::b::l,hn,h=>by simp at hn
 |n+1,a::b::l,hn,h=>by
  have:=KPq K n l (by simp at hn;omega) (by simp at h;omega)
  simp only [seqM,Ef,List.length_append]
  omega
theorem KLe {K:List Key} (h:KSr K):1<=K.length:=by
 cases K with
 |nil=>exact h.elim
 |cons _ _=>simp
theorem KHd {en:Nat}:∀(d:Nat) (v:Vl),d<=8->mayV d v=true->∀(ts:List Tkn) (rest:List Key),ts.map keyT=KAb d v++rest->∃r,valT en d ts=.ok (v,r)/\r.map keyT=rest
 |0,v,_,h,_,_,_=>by simp [mayV]at h
 |d+1,.mk k n s l,hd,h,ts,rest,hk=>by
  have hm8:=KSu (d+1) 8 _ hd h
  have IH:l.all (mayV d)=true->∀x∈l,KNQ (valT en d) (KAb d) x:=λhh x hx=>⟨KSt d x (EB.1 hh x hx),KHd d x (by omega) (EB.1 hh x hx)⟩
  have bare:KIS s l=true->s=[]/\l=[]:=λhb=>by
   simp only [KIS,Eg,EN,IT]at hb
   exact hb
  unfold KAb at hk
  rw [mayV]at h
  rw [NY]at hk
  split at h
  ·next h1=>
   subst h1
   obtain⟨rfl,rfl⟩:=bare h
   simp only [↓reduceIte]at hk
   obtain⟨t,r,rfl,e1,e2,e3,e4⟩:=XP (k:=2) (s:=[]) (n:=n) (q:=rest) hk
   refine⟨r,KAc hm8 ?_,e4⟩
   rw [Wm,if_pos e1,e3]
  ·next h1=>
   rw [if_neg h1]at hk
   split at h
   ·next h3=>
    subst h3
    simp only [Eg]at h
    obtain⟨rfl,rfl⟩:=bare h.1
    simp only [↓reduceIte,Int.reduceEq]at hk
    obtain⟨t,r,rfl,e1,e2,e3,e4⟩:=XP (k:=1) (s:=if n=1 then KFv else KG2) (n:=0) (q:=rest) hk
    refine⟨r,KAc hm8 ?_,e4⟩
    rw [Wm,if_neg (by omega),if_neg (by omega),UC hk,UC hk,e2]
    have hn:n=0\/n=1:=by simpa using h.2
    rcases hn with rfl|rfl
    ·simp
    ·simp
   ·next h3=>
    rw [if_neg h3]at hk
    split at h
    ·next h67=>
     simp only [Eg]at h
     obtain⟨rfl,rfl⟩:=bare h.1.1
     rcases h67 with rfl|rfl
     ·simp only [↓reduceIte,Int.reduceEq]at hk
      obtain⟨t,r,rfl,e1,e2,e3,e4⟩:=XP (k:=1) (s:=[118]) (n:=0) (q:=(4,[91],0)::(2,[],n)::(4,[93],0)::rest) hk
      obtain⟨r',g1,g2⟩:=KPo (en:=en) (k:=6) e4
      refine⟨r',KAc hm8 ?_,g2⟩
      rw [Wm,if_neg (by omega),if_neg (by omega),UC (k:=1) (s:=[118]) (n:=0) hk,UC (k:=1) (s:=[118]) (n:=0) hk,UC (k:=1) (s:=[118]) (n:=0) hk,if_neg (by decide),if_pos (by decide)]
      exact g1
     ·simp only [↓reduceIte,Int.reduceEq]at hk
      obtain⟨t,r,rfl,e1,e2,e3,e4⟩:=XP (k:=1) (s:=[101]) (n:=0) (q:=(4,[91],0)::(2,[],n)::(4,[93],0)::rest) hk
      obtain⟨r',g1,g2⟩:=KPo (en:=en) (k:=7) e4
      refine⟨r',KAc hm8 ?_,g2⟩
      rw [Wm,if_neg (by omega),if_neg (by omega),UC (k:=1) (s:=[101]) (n:=0) hk,UC (k:=1) (s:=[101]) (n:=0) hk,UC (k:=1) (s:=[101]) (n:=0) hk,UC (k:=1) (s:=[101]) (n:=0) hk,if_neg (by decide),if_neg (by decide),if_pos (by decide)]
      exact g1
    ·next h67=>
     rw [if_neg (λe=>h67 (.inl e)),if_neg (λe=>h67 (.inr e))]at hk
     split at h
     ·next h2=>
      subst h2
      simp only [Eg,EN,IT]at h
      obtain⟨⟨rfl,rfl⟩,hl⟩:=h
      simp only [↓reduceIte]at hk
      obtain⟨t,r,rfl,e1,e2,e3,e4⟩:=XP (k:=3) (s:=s) (n:=0) (q:=rest) hk
      refine⟨r,KAc hm8 ?_,e4⟩
      rw [Wm,if_neg (by omega),if_pos e1,e2]
     ·next h2=>
      rw [if_neg h2]at hk
      split at h
      ·next h4=>
       subst h4
       simp only [Eg,EN]at h
       obtain⟨_,⟨rfl,rfl⟩,hall⟩:=h
       have IHl:=IH hall
       simp only [↓reduceIte]at hk
       rw [Er,Fm,Ey,Ek]at hk
       obtain⟨t,r,rfl,e1,e2,e3,e4⟩:=XP (k:=4) (s:=[91]) (n:=0) (q:=(shwT 44 44 (l.map (NY d)) []).map KK++((4,[93],0)::rest)) hk
       have hnone:KC6 en (t::r)=none:=by
        rw [Wm,if_neg (by omega),if_neg (by omega)]
        simp [isT,e1]
       have hopen:isT 4 [91] (t::r)=true:=by simp [isT,e1,e2]
       cases l with
       |nil=>
        have h93:=VY (en:=en) (k:=4) (s:=[93]) (n:=0) (q:=rest) e4
        refine⟨r.tail,KAc hm8 ?_,h93.2⟩
        rw [hnone]
        dsimp only
        rw [if_pos hopen,Ip,Xq,UC (k:=4) (s:=[93]) (n:=0) (q:=rest) e4]
        simp
       |cons x l=>
        rw [KPn,Ek]at e4
        have hlen:=Ew List.length e4
        rw [EL,List.length_append,List.length_append,Ef]at hlen
        have p1:=KPp (KAb d) l
        have p2:=KLe (IHl x (by simp)).1
        obtain⟨r2,g1,g2⟩:=KQz (en:=en) x l (r.length+1) r rest (by omega) IHl e4
        refine⟨r2,KAc hm8 ?_,g2⟩
        rw [hnone]
        dsimp only
        rw [if_pos hopen,Ip,g1]
      ·next h4=>
       rw [if_neg h4]at hk
       split at h
       ·next h5=>
        subst h5
        simp only [Eg,EN]at h
        obtain⟨⟨⟨_,hev⟩,_⟩,⟨rfl,rfl⟩,hall⟩:=h
        have IHl:=IH hall
        simp only [↓reduceIte]at hk
        rw [Er,Fm,Ey,Ek]at hk
        obtain⟨t,r,rfl,e1,e2,e3,e4⟩:=XP (k:=4) (s:=[123]) (n:=0) (q:=(shwT 58 44 (l.map (NY d)) []).map KK++((4,[125],0)::rest)) hk
        have hnone:KC6 en (t::r)=none:=by
         rw [Wm,if_neg (by omega),if_neg (by omega)]
         simp [isT,e1]
        have hopen:isT 4 [123] (t::r)=true:=by simp [isT,e1,e2]
        have hno:isT 4 [91] (t::r)=false:=by simp [isT,e1,e2]
        match l,hev,IHl,e4 with
        | [],_,IHl,e4=>
         have h125:=VY (en:=en) (k:=4) (s:=[125]) (n:=0) (q:=rest) e4
         refine⟨r.tail,KAc hm8 ?_,h125.2⟩
         rw [hnone]
         dsimp only
         rw [if_neg (by rw [hno];decide),if_pos hopen,Ip,Xq,UC (k:=4) (s:=[125]) (n:=0) (q:=rest) e4]
         simp
        | [a],hev,_,_=>simp at hev
        |x::y::l,hev,IHl,e4=>
         have hev:l.length%2=0:=by simp at hev;omega
         rw [KNS l.length l x y [] (Ee _) hev,Ek,Ey,Ek]at e4
         have hlen:=Ew List.length e4
         rw [EL,List.length_append,Ef,List.length_append,List.length_append,Ef]at hlen
         have p1:=KPq (KAb d) l.length l (Ee _) hev
         have p2:=KLe (IHl x (by simp)).1
         have p3:=KLe (IHl y (by simp)).1
         obtain⟨r2,g1,g2⟩:=KSs (en:=en) x y l (r.length+1) r rest hev (by omega) IHl e4
         refine⟨r2,KAc hm8 ?_,g2⟩
         rw [hnone]
         dsimp only
         rw [if_neg (by rw [hno];decide),if_pos hopen,Ip,g1]
       ·cases h
end Gx
namespace Gx
open Go
end Gx
namespace Gx
open Go
end Gx
namespace Gx
open Go
abbrev Ly:=List (Eb×Tkn)
def KJd (p:Nat×Nat) (n:Nat):Bool:=decide (p.1<=n)&&decide (n<=p.2)
def numB (n:Int):Bool:=decide (0<=n)&&decide (n<=9007199254740992)
def okP (p:Int×List Vl):Bool:=decide (1<=p.1)&&decide (p.1<=9)&&KJd (za p.1.toNat) p.2.length&&p.2.all (mayV 8)
def okA (op:Int) (ns:List (Eb)) (us:List Int) (ps:List (Int×List Vl)) (vs:List Vl) (k:Nat):Bool:=
 decide (1<=op)&&decide (op<=60)&&(KJd (Kz op).n ns.length&&KJd (Kz op).u us.length&&KJd (Kz op).p ps.length&&KJd (Kz op).v vs.length&&KJd (Kz op).s k)&&(ns.all Gf&&us.all numB&&ps.all okP&&vs.all (mayV 8))
mutual
def gdS:St->Bool
 | .mk op ns us ps vs ss=>okA op ns us ps vs ss.length&&gdSs ss
def gdL:List St->Bool
 | []=>true
 |s::l=>gdS s&&gdL l
def gdSs:List (List St)->Bool
 | []=>true
 |l::r=>!l.isEmpty&&gdL l&&gdSs r
end
mutual
def cntS:St->Nat
 | .mk _ _ _ _ _ ss=>1+NZ ss
def cntL:List St->Nat
 | []=>0
 |s::l=>cntS s+cntL l
def NZ:List (List St)->Nat
 | []=>0
 |l::r=>cntL l+NZ r
end
mutual
def dpS:St->Nat
 | .mk _ _ _ _ _ ss=>dpSs ss
def dpL:List St->Nat
 | []=>0
 |s::l=>max (dpS s) (dpL l)
def dpSs:List (List St)->Nat
 | []=>0
 |l::r=>max (1+dpL l) (dpSs r)
end
mutual
def wfS:St->Prop
 | .mk _ _ _ ps vs ss=>(∀v∈vs,WfV 8 v)/\(∀p∈ps,∀v∈p.2,WfV 8 v)/\wfSs ss
def wfL:List St->Prop
 | []=>True
 |s::l=>wfS s/\wfL l
def wfSs:List (List St)->Prop
 | []=>True
 |l::r=>wfL l/\wfSs r
end
def KAF (c:UInt8):List Ly->Ly
 | []=>[]
 | [a]=>a
 |a::b::r=>a++(([],mk4 c)::KAF c (b::r))
def YB (c:UInt8):List (Eb)->Eb
 | []=>[]
 | [a]=>a
 |a::b::r=>a++(c::YB c (b::r))
def wd (k:Int) (s:Eb) (n:Int):Eb×Tkn:=([],⟨k,s,n,0⟩)
def lyoV (v:Vl):Ly:=NY 8 v []
def prWd (op:Int):Eb:=KI3 (splW prW) op
def stWd (op:Int):Eb:=KI3 (splW stW) op
def lyoP (p:Int×List Vl):Ly:=if p.1=1 then KAF 44 (p.2.map lyoV)else wd 1 (prWd p.1) 0::([],mk4 40)::(KAF 44 (p.2.map lyoV)++[([],mk4 41)])
def txP (p:Int×List Vl):Eb:=if p.1=1 then YB 44 (p.2.map txV)else prWd p.1++(40::(YB 44 (p.2.map txV)++[41]))
def lyoA (ns:List (Eb)) (us:List Int) (ps:List (Int×List Vl)) (vs:List Vl):List Ly:=ns.map (λs=>[wd 3 s 0])++us.map (λn=>[wd 2 [] n])++ps.map lyoP++vs.map lyoV
def txA (ns:List (Eb)) (us:List Int) (ps:List (Int×List Vl)) (vs:List Vl):List (Eb):=ns.map J7++us.map Lib.itoa++ps.map txP++vs.map txV
mutual
def lyoS:St->Ly
 | .mk op ns us ps vs ss=>wd 1 (stWd op) 0::([],mk4 40)::(KAF 44 (lyoA ns us ps vs++KET ss)++[([],mk4 41)])
def lyoL:List St->List Ly
 | []=>[]
 |s::l=>lyoS s::lyoL l
def KET:List (List St)->List Ly
 | []=>[]
 |l::r=>KAF 46 (lyoL l)::KET r
end
mutual
def txS:St->Eb
 | .mk op ns us ps vs ss=>stWd op++(40::(YB 44 (txA ns us ps vs++txSs ss)++[41]))
def txL:List St->List (Eb)
 | []=>[]
 |s::l=>txS s::txL l
def txSs:List (List St)->List (Eb)
 | []=>[]
 |l::r=>YB 46 (txL l)::txSs r
end
def lyoG (l:List St):Ly:=wd 1 [103] 0::([],mk4 46)::KAF 46 (lyoL l)
def txG (l:List St):Eb:=103::46::YB 46 (txL l)
theorem KFy (c:UInt8) (hc:GL c=true):∀l:List Ly,layT (KAF c l)=YB c (l.map layT)
 | []=>rfl
 | [a]=>rfl
 |a::b::r=>by
  have ih:=KFy c hc (b::r)
  rw [KAF,KFw,layT,ih,KFx c hc]
  simp [YB]
theorem KBe (c:UInt8) (hc:GL c=true):∀l:List Ly,(∀a∈l,Je a)->Je (KAF c l)
 | [],_=>trivial
 | [a],h=>h a (by simp)
 |a::b::r,h=>by
  have ih:=KBe c hc (b::r) (λx hx=>h x (Ev _ hx))
  rw [KAF]
  refine Je.app (h a (by simp)) (Je.cons (λc hc=>by cases hc) (tkM hc) (nM _) (KKG rfl) ih) (λy q hy=>?_)
  cases hy
  exact .inr rfl
theorem bl0:∀c∈([]:Eb),JD c=true:=λc hc=>by cases hc
theorem KNT {w:Eb} {l:List Ly} (hw:Gf w=true) (h:∀a∈l,Je a):Je (wd 1 w 0::([],mk4 40)::(KAF 44 l++[([],mk4 41)])):=
 Je.cons bl0 (tkW hw) (n1 _) (KLc rfl) (Je.cons bl0 (tkM (by decide)) (nM _) (KKG rfl) (Je.app (KBe 44 (by decide) l h) (Je.cons bl0 (tkM (by decide)) (nM _) trivial trivial) (λy q hy=>by cases hy;exact .inr rfl)))
theorem KPr {w:Eb} {l:List Ly} (hw:Gf w=true):layT (wd 1 w 0::([],mk4 40)::(KAF 44 l++[([],mk4 41)]))=w++(40::(YB 44 (l.map layT)++[41])):=by
 have ht:tkT (⟨1,w,0,0⟩:Tkn)=w:=by rw [Yd (tkW hw)];simp
 simp only [layT,wd,KFw,KFy 44 (by decide),KFx 40 (by decide),KFx 41 (by decide),ht]
 simp
theorem KXO:∀n:Nat,n<9->Gf (prWd ((n:Int)+1))=true/\idxW (splW prW) (prWd ((n:Int)+1))=n+1:=by decide+kernel
theorem KXP:∀n:Nat,n<60->Gf (stWd ((n:Int)+1))=true/\idxW (splW stW) (stWd ((n:Int)+1))=n+1:=by decide+kernel
theorem KOf {op:Int} (h1:1<=op) (h2:op<=9):Gf (prWd op)=true/\((idxW (splW prW) (prWd op):Nat):Int)=op:=by
 obtain⟨n,rfl⟩:∃n:Nat,op=(n:Int)+1:=⟨(op - 1).toNat,by omega⟩
 have:=KXO n (by omega)
 exact⟨this.1,by rw [this.2];push_cast;rfl⟩
theorem KLf {op:Int} (h1:1<=op) (h2:op<=60):Gf (stWd op)=true/\((idxW (splW stW) (stWd op):Nat):Int)=op:=by
 obtain⟨n,rfl⟩:∃n:Nat,op=(n:Int)+1:=⟨(op - 1).toNat,by omega⟩
 have:=KXP n (by omega)
 exact⟨this.1,by rw [this.2];push_cast;rfl⟩
theorem KGn {p:Int×List Vl}:okP p=true↔1<=p.1/\p.1<=9/\((za p.1.toNat).1<=p.2.length/\p.2.length<=(za p.1.toNat).2)/\∀v∈p.2,mayV 8 v=true:=by
 simp only [okP,KJd,Eg,EN,EB,and_assoc]
structure OkA (op:Int) (ns:List (Eb)) (us:List Int) (ps:List (Int×List Vl)) (vs:List Vl) (k:Nat):Prop where
 op1:1<=op
 op2:op<=60
 n:(Kz op).n.1<=ns.length/\ns.length<=(Kz op).n.2
 u:(Kz op).u.1<=us.length/\us.length<=(Kz op).u.2
 p:(Kz op).p.1<=ps.length/\ps.length<=(Kz op).p.2
 v:(Kz op).v.1<=vs.length/\vs.length<=(Kz op).v.2
 s:(Kz op).s.1<=k/\k<=(Kz op).s.2
 nok:∀s∈ns,Gf s=true
 uok:∀n∈us,0<=n/\n<=9007199254740992
 pok:∀p∈ps,okP p=true
 vok:∀v∈vs,mayV 8 v=true
theorem KI4 {op:Int} {ns:List (Eb)} {us:List Int} {ps:List (Int×List Vl)} {vs:List Vl} {k:Nat}:okA op ns us ps vs k=true↔OkA op ns us ps vs k:=by
 simp only [okA,KJd,numB,Eg,EN,EB]
 constructor
 ·rintro⟨⟨⟨h1,h2⟩,⟨⟨⟨h3,h4⟩,h5⟩,h6⟩,h7⟩,⟨⟨h8,h9⟩,h10⟩,h11⟩
  exact⟨h1,h2,h3,h4,h5,h6,h7,h8,h9,h10,h11⟩
 ·rintro⟨h1,h2,h3,h4,h5,h6,h7,h8,h9,h10,h11⟩
  exact⟨⟨⟨h1,h2⟩,⟨⟨⟨h3,h4⟩,h5⟩,h6⟩,h7⟩,⟨⟨h8,h9⟩,h10⟩,h11⟩
theorem KLg {s:Eb} (h:Gf s=true):s.length<=24:=by
 cases s with
 |nil=>exact El _
 |cons c r=>
  rw [Gg]at h
  simp only [Eg,EN]at h
  exact h.1.1
theorem KVt {v:Vl} (hm:mayV 8 v=true) (hw:WfV 8 v):Je (lyoV v):=KNP 8 v [] hm hw bl0
theorem KZO {v:Vl} (hm:mayV 8 v=true):layT (lyoV v)=txV v:=by
 have:=KPk 8 v [] hm
 rw [EW]at this
 exact this
theorem KZP {p:Int×List Vl} (h:okP p=true) (hw:∀v∈p.2,WfV 8 v):Je (lyoP p):=by
 obtain⟨h1,h2,h3,h4⟩:=KGn.1 h
 have hv:∀a∈p.2.map lyoV,Je a:=λa ha=>by
  obtain⟨v,hv,rfl⟩:=Fv.1 ha
  exact KVt (h4 v hv) (hw v hv)
 unfold lyoP
 split
 ·exact KBe 44 (by decide) _ hv
 ·exact KNT (KOf h1 h2).1 hv
theorem KaO {p:Int×List Vl} (h:okP p=true):layT (lyoP p)=txP p:=by
 obtain⟨h1,h2,h3,h4⟩:=KGn.1 h
 have hv:(p.2.map lyoV).map layT=p.2.map txV:=by
  rw [Ic]
  exact Ih (λv hv=>KZO (h4 v hv))
 unfold lyoP txP
 split
 ·rw [KFy 44 (by decide),hv]
 ·rw [KPr (KOf h1 h2).1,hv]
theorem KZQ {op:Int} {ns:List (Eb)} {us:List Int} {ps:List (Int×List Vl)} {vs:List Vl} {k:Nat} (h:OkA op ns us ps vs k) (hv:∀v∈vs,WfV 8 v) (hp:∀p∈ps,∀v∈p.2,WfV 8 v):∀a∈lyoA ns us ps vs,Je a:=λa ha=>by
 simp only [lyoA,F0,Fv]at ha
 rcases ha with((⟨s,hs,rfl⟩|⟨n,hn,rfl⟩)|⟨p,hp',rfl⟩)|⟨v,hv',rfl⟩
 ·exact Je.cons bl0 (tkS_ (by have:=KLg (h.nok s hs);omega)) (n3 _) trivial trivial
 ·exact Je.cons bl0 (tkI n) (NumT.of (by have:=h.uok n hn;exact⟨by show(-9223372036854775808:Int)<=n;omega,by show n<=9223372036854775807;omega⟩)) trivial trivial
 ·exact KZP (h.pok p hp') (hp p hp')
 ·exact KVt (h.vok v hv') (hv v hv')
where
 tkS_ {s:Eb} (h:s.length<=128):tokB ⟨3,s,0,0⟩=true:=by simp [tokB,h]
theorem KaP {op:Int} {ns:List (Eb)} {us:List Int} {ps:List (Int×List Vl)} {vs:List Vl} {k:Nat} (h:OkA op ns us ps vs k):(lyoA ns us ps vs).map layT=txA ns us ps vs:=by
 have h1:(ns.map (λs=>[wd 3 s 0])).map layT=ns.map J7:=by
  rw [Ic]
  refine Ih (λs hs=>?_)
  have ht:tokB (⟨3,s,0,0⟩:Tkn)=true:=by have:=KLg (h.nok s hs);simp [tokB];omega
  simp only [Function.comp,layT,wd,Yd ht]
  simp
 have h2:(us.map (λn=>[wd 2 [] n])).map layT=us.map Lib.itoa:=by
  rw [Ic]
  refine Ih (λn hn=>?_)
  simp only [Function.comp,layT,wd,Yd (tkI n)]
  simp
 have h3:(ps.map lyoP).map layT=ps.map txP:=by
  rw [Ic]
  exact Ih (λp hp=>KaO (h.pok p hp))
 have h4:(vs.map lyoV).map layT=vs.map txV:=by
  rw [Ic]
  exact Ih (λv hv=>KZO (h.vok v hv))
 simp only [lyoA,txA,Fm,h1,h2,h3,h4]
mutual
theorem KZR:∀s:St,gdS s=true->wfS s->Je (lyoS s)
 | .mk op ns us ps vs ss,h,hw=>by
  rw [gdS,Eg]at h
  rw [wfS]at hw
  rw [lyoS]
  have ok:=KI4.1 h.1
  refine KNT (KLf ok.op1 ok.op2).1 (λa ha=>?_)
  rcases F0.1 ha with ha|ha
  ·exact KZQ ok hw.1 hw.2.1 a ha
  ·exact KSw ss h.2 hw.2.2 a ha
theorem KSv:∀l:List St,gdL l=true->wfL l->∀a∈lyoL l,Je a
 | [],_,_,a,ha=>by rw [lyoL]at ha;cases ha
 |s::l,h,hw,a,ha=>by
  rw [gdL,Eg]at h
  rw [wfL]at hw
  rw [lyoL]at ha
  rcases ED.1 ha with rfl|ha
  ·exact KZR s h.1 hw.1
  ·exact KSv l h.2 hw.2 a ha
theorem KSw:∀r:List (List St),gdSs r=true->wfSs r->∀a∈KET r,Je a
 | [],_,_,a,ha=>by rw [KET]at ha;cases ha
 |l::r,h,hw,a,ha=>by
  rw [gdSs,Eg,Eg]at h
  rw [wfSs]at hw
  rw [KET]at ha
  rcases ED.1 ha with rfl|ha
  ·exact KBe 46 (by decide) _ (KSv l h.1.2 hw.1)
  ·exact KSw r h.2 hw.2 a ha
end
mutual
theorem KaQ:∀s:St,gdS s=true->layT (lyoS s)=txS s
 | .mk op ns us ps vs ss,h=>by
  rw [gdS,Eg]at h
  have ok:=KI4.1 h.1
  rw [lyoS,txS,KPr (KLf ok.op1 ok.op2).1,Fm,KaP ok,KVu ss h.2]
theorem KXQ:∀l:List St,gdL l=true->(lyoL l).map layT=txL l
 | [],_=>by rw [lyoL,txL];rfl
 |s::l,h=>by
  rw [gdL,Eg]at h
  rw [lyoL,txL,Er,KaQ s h.1,KXQ l h.2]
theorem KVu:∀r:List (List St),gdSs r=true->(KET r).map layT=txSs r
 | [],_=>by rw [KET,txSs];rfl
 |l::r,h=>by
  rw [gdSs,Eg,Eg]at h
  rw [KET,txSs,Er,KFy 46 (by decide),KXQ l h.1.2,KVu r h.2]
end
theorem KVv {l:List St} (h:gdL l=true) (hw:wfL l):Je (lyoG l):=
 Je.cons bl0 (tkW (by decide)) (n1 _) (KLc rfl) (Je.cons bl0 (tkM (by decide)) (nM _) (KKG rfl) (KBe 46 (by decide) _ (KSv l h hw)))
theorem KZS {l:List St} (h:gdL l=true):layT (lyoG l)=txG l:=by
 have ht:tkT (⟨1,[103],0,0⟩:Tkn)=[103]:=by rw [Yd (tkW (by decide))];simp
 simp only [lyoG,txG,layT,wd,KFy 46 (by decide),KXQ l h,KFx 46 (by decide),ht]
 simp
end Gx
namespace Gx
open Go
def ky (x:Ly):List Key:=x.map (λy=>keyT y.2)
theorem KVw (a b:Ly):ky (a++b)=ky a++ky b:=by simp [ky]
theorem KI5 (x:Eb×Tkn) (b:Ly):ky (x::b)=keyT x.2::ky b:=rfl
def comK (l:List (List Key)):List Key:=l.flatMap (λb=>(4,[44],0)::b)
def KXR:List (List Key)->List Key
 | []=>[]
 |k::ks=>k++comK ks
def dotK (l:List (List Key)):List Key:=l.flatMap (λb=>(4,[46],0)::b)
theorem KLh (c:UInt8):∀(l:List Ly) (a:Ly),ky (KAF c (a::l))=ky a++(l.map ky).flatMap (λb=>(4,[c],0)::b)
 | [],a=>by simp [KAF]
 |b::l,a=>by
  rw [KAF,KVw,KI5,KLh c l b]
  simp [keyT,mk4]
def sepK:List Key->Prop
 | []=>False
 |x::_=>x.1=4/\(x.2.1=[44]\/x.2.1=[41])
def KQ0:List Key->Prop
 | []=>False
 |x::_=>x.1=4->x.2.1≠[41]/\x.2.1≠[44]/\x.2.1≠[46]
theorem KUp {k:List Key} {ts:List Tkn} {rest:List Key} (hk:KQ0 k) (h:ts.map keyT=k++rest):isT 4 [41] ts=false/\isT 4 [44] ts=false:=by
 cases k with
 |nil=>exact hk.elim
 |cons x q=>
  rw [UC (k:=x.1) (s:=x.2.1) (n:=x.2.2) h,UC (k:=x.1) (s:=x.2.1) (n:=x.2.2) h]
  by_cases h4:x.1=4
  ·have:=hk h4
   simp [this.1,this.2.1]
  ·simp [h4]
inductive SeqR {σ:Type} (one:Nat->σ->List Tkn->Nat->PR σ):List (List Key)->Nat->σ->Nat->σ->Nat->Prop where
 |nil (i:Nat) (a:σ) (n:Nat):SeqR one [] i a n a n
 |cons {k:List Key} {ks:List (List Key)} {i:Nat} {a:σ} {n:Nat} {a1:σ} {n1:Nat} {a2:σ} {n2:Nat} (h1:∀ts rest,sepK rest->ts.map keyT=k++rest->∃r,one i a ts n=.ok (a1,r,n1)/\r.map keyT=rest)
   (h2:KQ0 k) (h3:SeqR one ks (i+1) a1 n1 a2 n2):SeqR one (k::ks) i a n a2 n2
theorem SeqR.app {σ:Type} {one:Nat->σ->List Tkn->Nat->PR σ} {ks qs:List (List Key)} {i:Nat} {a a1 a2:σ} {n n1 n2:Nat} (h:SeqR one ks i a n a1 n1):SeqR one qs (i+ks.length) a1 n1 a2 n2->SeqR one (ks++qs) i a n a2 n2:=by
 induction h with
 |nil i a n=>exact λh=>h
 |cons h1 h2 h3 ih=>exact λh=>.cons h1 h2 (ih (by rw [Ef]at h;rw [show ∀i l:Nat,i+1+l=i+(l+1)from λi l=>by omega];exact h))
theorem KSx (ks:List (List Key)) (rest:List Key):sepK (comK ks++((4,[41],0)::rest)):=by
 cases ks with
 |nil=>exact⟨rfl,.inr rfl⟩
 |cons k ks=>exact⟨rfl,.inl rfl⟩
theorem KUq {σ:Type} {en least:Nat} {one:Nat->σ->List Tkn->Nat->PR σ} {ks:List (List Key)} {i:Nat} {a a':σ} {n n':Nat} (H:SeqR one ks i a n a' n'):∀(f:Nat) (ts:List Tkn) (rest:List Key),0<i->ks.length<=f->(ks.length<f->least<=i+ks.length)->ts.map keyT=comK ks++((4,[41],0)::rest)->
  ∃r,KBb en least one f i a ts n=.ok (a',r,n')/\r.map keyT=(4,[41],0)::rest:=by
 induction H with
 |nil i a n=>
  intro f ts rest hi hf hl h
  cases f with
  |zero=>exact⟨ts,rfl,h⟩
  |succ f=>
   refine⟨ts,?_,h⟩
   rw [KBb,UC (k:=4) (s:=[41]) (n:=0) h,if_pos]
   simp only [decide_true,IR,EN]
   have:=hl (by simp)
   simpa using this
 | @cons k ks i a n a1 n1 a2 n2 h1 h2 h3 ih=>
  intro f ts rest hi hf hl h
  rw [Ef]at hf hl
  obtain⟨f,rfl⟩:∃g,f=g+1:=⟨f - 1,by omega⟩
  have h':ts.map keyT=(4,[44],0)::(k++(comK ks++((4,[41],0)::rest))):=by rw [h];simp [comK]
  obtain⟨t1,t2⟩:=VY (en:=en) h'
  obtain⟨r,r1,r2⟩:=h1 ts.tail _ (KSx ks rest) t2
  obtain⟨r',g1,g2⟩:=ih f r rest (by omega) (by omega) (λhh=>by have:=hl (by omega);omega) r2
  refine⟨r',?_,g2⟩
  rw [KBb,UC (k:=4) (s:=[44]) (n:=0) h',if_neg (by simp),if_pos hi,t1]
  dsimp only
  rw [r1]
  exact g1
theorem KNU {σ:Type} {en least most:Nat} {one:Nat->σ->List Tkn->Nat->PR σ} {ks:List (List Key)} {a a':σ} {n n':Nat} (H:SeqR one ks 0 a n a' n') (ts:List Tkn) (rest:List Key) (h1:least<=ks.length) (h2:ks.length<=most)
  (h:ts.map keyT=KXR ks++((4,[41],0)::rest)):∃r,KGk en least most one a ts n=.ok (a',r,n')/\r.map keyT=rest:=by
 have key:∃r,KBb en least one most 0 a ts n=.ok (a',r,n')/\r.map keyT=(4,[41],0)::rest:=by
  cases H with
  |nil=>
   cases most with
   |zero=>exact⟨ts,rfl,h⟩
   |succ f=>
    refine⟨ts,?_,h⟩
    rw [KBb,UC (k:=4) (s:=[41]) (n:=0) h,if_pos]
    simp only [decide_true,IR,EN]
    simpa using h1
  | @cons k ks _ _ _ a1 n1 _ _ g1 g2 g3=>
   rw [Ef]at h1 h2
   obtain⟨f,rfl⟩:∃g,most=g+1:=⟨most - 1,by omega⟩
   have h':ts.map keyT=k++(comK ks++((4,[41],0)::rest)):=by rw [h,KXR,Ek]
   obtain⟨r,r1,r2⟩:=g1 ts _ (KSx ks rest) h'
   obtain⟨r',q1,q2⟩:=KUq (en:=en) (least:=least) g3 f r rest (by omega) (by omega) (λhh=>by omega) r2
   refine⟨r',?_,q2⟩
   rw [KBb,(KUp g2 h').1,FH,if_neg (by simp),if_neg (by simp)]
   dsimp only
   rw [r1]
   exact q1
 obtain⟨r,r1,r2⟩:=key
 obtain⟨t1,t2⟩:=VY (en:=en) r2
 refine⟨r.tail,?_,t2⟩
 unfold KGk
 rw [r1]
 dsimp only
 unfold KUb
 rw [UC (k:=4) (s:=[41]) (n:=0) r2,show(decide (([41]:Eb)=[44]))=false from rfl,FH,FH,if_neg (by simp),t1]
theorem KVx:∀(d:Nat) (v:Vl),mayV d v=true->∃x q,KAb d v=x::q/\(x.1=4->x.2.1=[91]\/x.2.1=[123])/\(x.1=1->x.2.1=KFv\/x.2.1=KG2\/x.2.1=[118]\/x.2.1=[101])
 |0,v,h=>by simp [mayV]at h
 |d+1,.mk k n s l,h=>by
  unfold KAb
  rw [mayV]at h
  rw [NY]
  repeat' split
  all_goals first
   |exact⟨_,_,rfl,by simp [keyT,mk4],by simp [keyT,mk4]⟩
   |(refine⟨_,_,rfl,by simp [keyT,mk4],?_⟩;simp only [keyT];split<;>simp;done)
   |(exfalso;simp_all)
theorem KOg {v:Vl} (h:mayV 8 v=true):KQ0 (KAb 8 v):=by
 obtain⟨x,q,e,h4,h1⟩:=KVx 8 v h
 rw [e]
 intro h
 rcases h4 h with e|e<;>rw [e]<;>decide
theorem op_v {v:Vl} (h:mayV 8 v=true) {ts:List Tkn} {rest:List Key} (ht:ts.map keyT=KAb 8 v++rest):opT ts=0:=by
 obtain⟨x,q,e,h4,h1⟩:=KVx 8 v h
 rw [e]at ht
 obtain⟨t,r,rfl,a1,a2,a3,a4⟩:=XP (k:=x.1) (s:=x.2.1) (n:=x.2.2) ht
 rw [opT]
 split
 ·next hk=>
  rw [a2]
  rcases h1 (a1.symm.trans hk)with e|e|e|e<;>rw [e]<;>decide+kernel
 ·rfl
theorem KPs {en:Nat}:∀(q:List Vl) (i:Nat) (a:List Vl) (n:Nat),(∀v∈q,mayV 8 v=true)->SeqR (KIz en) (q.map (λv=>ky (lyoV v))) i a n (a++q) n
 | [],i,a,n,_=>by rw [E0];exact .nil i a n
 |v::q,i,a,n,h=>by
  have ih:=KPs (en:=en) q (i+1) (a++[v]) n (λx hx=>h x (Ev _ hx))
  rw [Ek]at ih
  refine .cons (λts rest hs ht=>?_) (KOg (h v (by simp))) ih
  obtain⟨r,r1,r2⟩:=KHd (en:=en) 8 v (Ee _) (h v (by simp)) ts rest ht
  refine⟨r,?_,r2⟩
  unfold KIz
  rw [r1]
theorem KLi (w:Eb) (l:List Ly):ky (wd 1 w 0::([],mk4 40)::(KAF 44 l++[([],mk4 41)]))=(1,w,0)::(4,[40],0)::(KXR (l.map ky)++[(4,[41],0)]):=by
 cases l with
 |nil=>rfl
 |cons a l=>
  rw [KI5,KI5,KVw,KLh]
  rfl
theorem KSy {en:Nat} {p:Int×List Vl} {n:Nat} (h:okP p=true) (ts:List Tkn) (rest:List Key) (ht:ts.map keyT=ky (lyoP p)++rest):∃r,KLW en ts n=.ok (p,r,n)/\r.map keyT=rest:=by
 obtain⟨h1,h2,h3,h4⟩:=KGn.1 h
 obtain⟨op,vs⟩:=p
 dsimp only at h1 h2 h3 h4
 unfold lyoP at ht
 dsimp only at ht
 by_cases ho:op=1
 ·subst ho
  rw [if_pos rfl]at ht
  have hl:vs.length=1:=by
   rw [show za ((1:Int).toNat)=(1,1)from rfl]at h3
   omega
  obtain⟨v,rfl⟩:=List.length_eq_one_iff.1 hl
  have ht:ts.map keyT=KAb 8 v++rest:=ht
  obtain⟨r,r1,r2⟩:=KHd (en:=en) 8 v (Ee _) (h4 v (by simp)) ts rest ht
  refine⟨r,?_,r2⟩
  unfold KLW
  rw [if_pos (op_v (h4 v (by simp)) ht),r1]
 ·rw [if_neg ho,KLi,Ey,Ey,Ek]at ht
  obtain⟨t,r0,rfl,a1,a2,a3,a4⟩:=XP ht
  obtain⟨w1,w2⟩:=KOf h1 h2
  have hop:opT (t::r0)=op.toNat:=by
   rw [opT,if_pos a1,a2]
   omega
  obtain⟨t1,t2⟩:=VY (en:=en) a4
  have hsq:=KPs (en:=en) vs 0 [] n h4
  rw [EW]at hsq
  obtain⟨r,r1,r2⟩:=KNU (en:=en) (least:=(za op.toNat).1) (most:=(za op.toNat).2) hsq r0.tail rest (by rw [EL];exact h3.1) (by rw [EL];exact h3.2) (by rw [t2,Ic];rfl)
  refine⟨r,?_,r2⟩
  unfold KLW
  rw [hop,if_neg (by omega),Ip,t1]
  dsimp only
  rw [r1]
  dsimp only
  rw [show((op.toNat:Nat):Int)=op by omega]
theorem KXS {p:Int×List Vl} (h:okP p=true):KQ0 (ky (lyoP p)):=by
 obtain⟨h1,h2,h3,h4⟩:=KGn.1 h
 obtain⟨op,vs⟩:=p
 dsimp only at h1 h2 h3 h4
 unfold lyoP
 dsimp only
 split
 ·next ho=>
  subst ho
  have hl:vs.length=1:=by
   rw [show za ((1:Int).toNat)=(1,1)from rfl]at h3
   omega
  obtain⟨v,rfl⟩:=List.length_eq_one_iff.1 hl
  exact KOg (h4 v (by simp))
 ·rw [KLi]
  intro h
  cases h
end Gx
namespace Gx
open Go
theorem KNV {en:Nat} {x:Shp} {tr:List Tkn->Nat->PR (List St)}:∀(q:List (Eb)) (i:Nat) (a:Ac) (n:Nat),(q≠[]->i+q.length<=x.n.2)->(∀s∈q,Gf s=true)->SeqR (U3 en x tr) (q.map (λs=>ky [wd 3 s 0])) i a n {a with ns:=a.ns++q} n
 | [],i,a,n,_,_=>by rw [E0];exact .nil i a n
 |s::q,i,a,n,hi,h=>by
  have hi':=hi (by simp)
  rw [Ef]at hi'
  have ih:=KNV (en:=en) (x:=x) (tr:=tr) q (i+1) {a with ns:=a.ns++[s]} n (λ_=>by omega) (λx hx=>h x (Ev _ hx))
  dsimp only at ih
  rw [Ek]at ih
  refine .cons (λts rest hs ht=>?_) (by intro h;cases h) ih
  have ht:ts.map keyT=(3,s,0)::rest:=ht
  obtain⟨t,r,r1,r2,r3,r4⟩:=KLd (en:=en) ht
  refine⟨r,?_,r4⟩
  unfold U3 KNF
  rw [if_pos (by omega),r1]
  dsimp only
  rw [r2,if_pos (h s (by simp))]
theorem KPt {en:Nat} {x:Shp} {tr:List Tkn->Nat->PR (List St)}:∀(q:List Int) (i:Nat) (a:Ac) (n:Nat),(q≠[]->x.n.2<=i/\i+q.length<=x.n.2+x.u.2)->(∀m∈q,0<=m/\m<=9007199254740992)->SeqR (U3 en x tr) (q.map (λm=>ky [wd 2 [] m])) i a n {a with us:=a.us++q} n
 | [],i,a,n,_,_=>by rw [E0];exact .nil i a n
 |m::q,i,a,n,hi,h=>by
  have hi':=hi (by simp)
  rw [Ef]at hi'
  have ih:=KPt (en:=en) (x:=x) (tr:=tr) q (i+1) {a with us:=a.us++[m]} n (λ_=>by omega) (λx hx=>h x (Ev _ hx))
  dsimp only at ih
  rw [Ek]at ih
  refine .cons (λts rest hs ht=>?_) (by intro h;cases h) ih
  have ht:ts.map keyT=(2,[],m)::rest:=ht
  obtain⟨t,r,r1,r2,r3,r4⟩:=KLd (en:=en) ht
  refine⟨r,?_,r4⟩
  have hm:=h m (by simp)
  unfold U3 numT
  rw [if_neg (by omega),if_pos (by omega),r1]
  dsimp only
  rw [r3,if_neg (by omega)]
theorem KNW {en:Nat} {x:Shp} {tr:List Tkn->Nat->PR (List St)}:∀(q:List (Int×List Vl)) (i:Nat) (a:Ac) (n:Nat),(q≠[]->x.n.2+x.u.2<=i/\a.ps.length+q.length<=x.p.2)->(∀p∈q,okP p=true)->SeqR (U3 en x tr) (q.map (λp=>ky (lyoP p))) i a n {a with ps:=a.ps++q} n
 | [],i,a,n,_,_=>by rw [E0];exact .nil i a n
 |p::q,i,a,n,hi,h=>by
  have hi':=hi (by simp)
  rw [Ef]at hi'
  have ih:=KNW (en:=en) (x:=x) (tr:=tr) q (i+1) {a with ps:=a.ps++[p]} n (λ_=>⟨by omega,by simp;omega⟩) (λx hx=>h x (Ev _ hx))
  dsimp only at ih
  rw [Ek]at ih
  refine .cons (λts rest hs ht=>?_) (KXS (h p (by simp))) ih
  obtain⟨r,r1,r2⟩:=KSy (en:=en) (n:=n) (h p (by simp)) ts rest ht
  refine⟨r,?_,r2⟩
  unfold U3
  rw [if_neg (by omega),if_neg (by omega),if_pos (by omega),r1]
theorem KKH {en:Nat} {x:Shp} {tr:List Tkn->Nat->PR (List St)}:∀(q:List Vl) (i:Nat) (a:Ac) (n:Nat),(q≠[]->x.n.2+x.u.2<=i/\x.p.2<=a.ps.length/\a.vs.length+q.length<=x.v.2)->(∀v∈q,mayV 8 v=true)->SeqR (U3 en x tr) (q.map (λv=>ky (lyoV v))) i a n {a with vs:=a.vs++q} n
 | [],i,a,n,_,_=>by rw [E0];exact .nil i a n
 |v::q,i,a,n,hi,h=>by
  have hi':=hi (by simp)
  rw [Ef]at hi'
  have ih:=KKH (en:=en) (x:=x) (tr:=tr) q (i+1) {a with vs:=a.vs++[v]} n (λ_=>⟨by omega,by simp;omega,by simp;omega⟩) (λx hx=>h x (Ev _ hx))
  dsimp only at ih
  rw [Ek]at ih
  refine .cons (λts rest hs ht=>?_) (KOg (h v (by simp))) ih
  obtain⟨r,r1,r2⟩:=KHd (en:=en) 8 v (Ee _) (h v (by simp)) ts rest ht
  refine⟨r,?_,r2⟩
  unfold U3
  rw [if_neg (by omega),if_neg (by omega),if_neg (by omega),if_pos (by omega),r1]
def KPu (tr:List Tkn->Nat->PR (List St)) (l:List St):Prop:=KQ0 (ky (KAF 46 (lyoL l)))/\∀(m:Nat) (ts:List Tkn) (rest:List Key),m+cntL l<=256->sepK rest->ts.map keyT=ky (KAF 46 (lyoL l))++rest->∃r,tr ts m=.ok (l,r,m+cntL l)/\r.map keyT=rest
theorem KPv {en:Nat} {x:Shp} {tr:List Tkn->Nat->PR (List St)}:∀(q:List (List St)) (i:Nat) (a:Ac) (n:Nat),(q≠[]->x.n.2+x.u.2<=i/\x.p.2<=a.ps.length/\x.v.2<=a.vs.length)->n+NZ q<=256->(∀l∈q,KPu tr l)->SeqR (U3 en x tr) ((KET q).map ky) i a n {a with ss:=a.ss++q} (n+NZ q)
 | [],i,a,n,_,_,_=>by rw [E0,KET,NZ];exact .nil i a n
 |l::q,i,a,n,hi,hn,h=>by
  have hi':=hi (by simp)
  rw [NZ]at hn
  have ih:=KPv (en:=en) (x:=x) (tr:=tr) q (i+1) {a with ss:=a.ss++[l]} (n+cntL l) (λ_=>⟨by omega,hi'.2⟩) (by omega) (λx hx=>h x (Ev _ hx))
  dsimp only at ih
  rw [Ek,Iy]at ih
  rw [KET,NZ]
  have hl:=h l (by simp)
  refine .cons (λts rest hs ht=>?_) hl.1 ih
  obtain⟨r,r1,r2⟩:=hl.2 n ts rest (by omega) hs ht
  refine⟨r,?_,r2⟩
  unfold U3
  rw [if_neg (by omega),if_neg (by omega),if_neg (by omega),if_neg (by omega),r1]
def ordB (x:Shp):Bool:=decide ((x.n.1=x.n.2\/x.u.2=0/\x.p.2=0/\x.v.2=0/\x.s.2=0)/\(x.u.1=x.u.2\/x.p.2=0/\x.v.2=0/\x.s.2=0)/\x.p.1=x.p.2/\(x.v.1=x.v.2\/x.s.2=0))
theorem KXT {p:Prop} [Decidable p] {a b:Shp} (ha:ordB a=true) (hb:ordB b=true):ordB (if p then a else b)=true:=by
 split
 ·exact ha
 ·exact hb
theorem KNX (op:Int):ordB (Kz op)=true:=by
 unfold Kz
 repeat' first|rfl|refine KXT rfl ?_
theorem KPw (ns:List (Eb)) (us:List Int) (ps:List (Int×List Vl)) (vs:List Vl):(lyoA ns us ps vs).length=ns.length+us.length+ps.length+vs.length:=by simp [lyoA];omega
theorem KI6:∀q:List (List St),(KET q).length=q.length
 | []=>by rw [KET];rfl
 |l::q=>by rw [KET,Ef,Ef,KI6 q]
theorem KUr {en:Nat} {op:Int} {tr:List Tkn->Nat->PR (List St)} {ns:List (Eb)} {us:List Int} {ps:List (Int×List Vl)} {vs:List Vl} {ss:List (List St)} {n:Nat} (ok:OkA op ns us ps vs ss.length) (hn:n+NZ ss<=256) (H:∀l∈ss,KPu tr l):
  SeqR (U3 en (Kz op) tr) ((lyoA ns us ps vs++KET ss).map ky) 0 ⟨[],[],[],[],[]⟩ n ⟨ns,us,ps,vs,ss⟩ (n+NZ ss):=by
 have hord:=Ec (KNX op)
 obtain⟨on,ou,op',ov⟩:=hord
 have kn:=ok.n
 have ku:=ok.u
 have kp:=ok.p
 have kv:=ok.v
 have ks:=ok.s
 have pos:∀{α:Type} {l:List α},l≠[]->0<l.length:=λh=>Fl.2 h
 have s1:=KNV (en:=en) (x:=Kz op) (tr:=tr) ns 0 ⟨[],[],[],[],[]⟩ n (λ_=>by omega) ok.nok
 have s2:=KPt (en:=en) (x:=Kz op) (tr:=tr) us ns.length ⟨ns,[],[],[],[]⟩ n (λh=>by have:=pos h;omega) ok.uok
 have s3:=KNW (en:=en) (x:=Kz op) (tr:=tr) ps (ns.length+us.length) ⟨ns,us,[],[],[]⟩ n (λh=>by have:=pos h;simp;omega) ok.pok
 have s4:=KKH (en:=en) (x:=Kz op) (tr:=tr) vs (ns.length+us.length+ps.length) ⟨ns,us,ps,[],[]⟩ n (λh=>by have:=pos h;simp;omega) ok.vok
 have s5:=KPv (en:=en) (x:=Kz op) (tr:=tr) ss (ns.length+us.length+ps.length+vs.length) ⟨ns,us,ps,vs,[]⟩ n (λh=>by have:=pos h;simp;omega) hn H
 simp only [EW]at s1 s2 s3 s4 s5
 unfold lyoA
 simp only [Fm,Ic,Function.comp_def,Ek]
 refine SeqR.app s1 ?_
 refine SeqR.app (by simpa using s2) ?_
 refine SeqR.app (by simpa using s3) ?_
 refine SeqR.app (by simpa using s4) ?_
 simpa using s5
theorem KSz {en:Nat} {tr:List Tkn->Nat->PR (List St)} {op:Int} {ns:List (Eb)} {us:List Int} {ps:List (Int×List Vl)} {vs:List Vl} {ss:List (List St)} {n:Nat} (ok:OkA op ns us ps vs ss.length) (hn:n+1+NZ ss<=256) (H:∀l∈ss,KPu tr l) (ts:List Tkn) (rest:List Key) (ht:ts.map keyT=ky (lyoS (.mk op ns us ps vs ss))++rest):
  ∃r,KER en tr ts n=.ok (.mk op ns us ps vs ss,r,n+1+NZ ss)/\r.map keyT=rest:=by
 rw [lyoS,KLi,Ey,Ey,Ek]at ht
 obtain⟨t,r0,r1,r2,r3,r4⟩:=KLd (en:=en) ht
 obtain⟨t1,t2⟩:=VY (en:=en) r4
 obtain⟨w1,w2⟩:=KLf ok.op1 ok.op2
 have hop1:=ok.op1
 have kn:=ok.n
 have ku:=ok.u
 have kp:=ok.p
 have kv:=ok.v
 have ks:=ok.s
 obtain⟨r,q1,q2⟩:=KNU (en:=en) (least:=(Kz op).least) (most:=(Kz op).most) (KUr (en:=en) (n:=n+1) ok hn H) r0.tail rest
  (by rw [EL,List.length_append,KPw,KI6];unfold Shp.least;omega) (by rw [EL,List.length_append,KPw,KI6];unfold Shp.most;omega) t2
 refine⟨r,?_,q2⟩
 unfold KER
 rw [r1]
 dsimp only
 rw [r2,w2,if_neg (by omega),if_neg (by omega),t1]
 dsimp only
 rw [q1]
theorem KXU (s:St) (rest:List Key):KQ0 (ky (lyoS s)++rest):=by
 cases s
 rw [lyoS,KLi]
 intro h
 cases h
theorem KPx {en:Nat} {stp:List Tkn->Nat->PR St}:∀(l:List St) (acc:List St) (f n:Nat) (ts:List Tkn) (rest:List Key),l.length<f->n+cntL l<=256->(∀q,rest=q->¬∃m q',q=(4,[46],m)::q')->(∀s∈l,∀(n:Nat) (ts:List Tkn) (rest:List Key),n+cntS s<=256->ts.map keyT=ky (lyoS s)++rest->∃r,stp ts n=.ok (s,r,n+cntS s)/\r.map keyT=rest)->
  ts.map keyT=dotK ((lyoL l).map ky)++rest->∃r,KI1 stp f acc ts n=.ok (acc++l,r,n+cntL l)/\r.map keyT=rest
 | [],acc,f,n,ts,rest,hf,hn,hr,H,ht=>by
  obtain⟨f,rfl⟩:∃g,f=g+1:=⟨f - 1,by omega⟩
  rw [lyoL]at ht
  have ht:ts.map keyT=rest:=ht
  refine⟨ts,?_,ht⟩
  have h46:isT 4 [46] ts=false:=by
   cases ts with
   |nil=>rfl
   |cons t r=>
    rw [isT]
    by_cases h1:t.k=4
    ·by_cases h2:t.s=[46]
     ·exact absurd ⟨t.n,r.map keyT,by rw [<-ht,Er];unfold keyT;rw [h1,h2]⟩ (hr _ rfl)
     ·simp [h2]
    ·simp [h1]
  rw [KI1,h46,if_neg (by simp),cntL,E0,FX]
 |s::l,acc,f,n,ts,rest,hf,hn,hr,H,ht=>by
  rw [Ef]at hf
  obtain⟨f,rfl⟩:∃g,f=g+1:=⟨f - 1,by omega⟩
  rw [cntL]at hn
  have ht':ts.map keyT=(4,[46],0)::(ky (lyoS s)++(dotK ((lyoL l).map ky)++rest)):=by rw [ht,lyoL];simp [dotK]
  obtain⟨t1,t2⟩:=VY (en:=en) ht'
  obtain⟨r,r1,r2⟩:=H s (by simp) n ts.tail _ (by omega) t2
  obtain⟨r',q1,q2⟩:=KPx (en:=en) l (acc++[s]) f (n+cntS s) r rest (by omega) (by omega) hr (λx hx=>H x (Ev _ hx)) r2
  refine⟨r',?_,q2⟩
  rw [KI1,UC (k:=4) (s:=[46]) (n:=0) ht',if_pos (by simp),r1]
  dsimp only
  rw [q1,cntL,Ek,Iy]
  rfl
theorem KS0 {rest:List Key} (h:sepK rest):∀q,rest=q->¬∃m q',q=(4,[46],m)::q':=by
 rintro q rfl ⟨m,q',rfl⟩
 rcases h.2 with h|h<;>cases h
theorem KHe:∀{r:List (List St)},gdSs r=true->∀l∈r,l≠[]/\gdL l=true
 | [],_,l,hl=>by cases hl
 |a::r,h,l,hl=>by
  rw [gdSs,Eg,Eg]at h
  rcases ED.1 hl with rfl|hl
  ·exact⟨by intro e;subst e;simp at h,h.1.2⟩
  ·exact KHe h.2 l hl
theorem KLj:∀{l:List St},gdL l=true->∀s∈l,gdS s=true
 | [],_,s,hs=>by cases hs
 |a::l,h,s,hs=>by
  rw [gdL,Eg]at h
  rcases ED.1 hs with rfl|hs
  ·exact h.1
  ·exact KLj h.2 s hs
theorem KS1:∀{l:List St} {s:St},s∈l->dpS s<=dpL l
 | [],s,hs=>by cases hs
 |a::l,s,hs=>by
  rw [dpL]
  rcases ED.1 hs with rfl|hs
  ·omega
  ·have:=KS1 hs;omega
theorem KPy:∀{r:List (List St)} {l:List St},l∈r->1+dpL l<=dpSs r
 | [],l,hs=>by cases hs
 |a::r,l,hs=>by
  rw [dpSs]
  rcases ED.1 hs with rfl|hs
  ·omega
  ·have:=KPy hs;omega
theorem KNY {en:Nat}:∀(d:Nat) (l:List St),l≠[]->gdL l=true->dpL l<d->∀(n:Nat) (ts:List Tkn) (rest:List Key),n+cntL l<=256->(∀q,rest=q->¬∃m q',q=(4,[46],m)::q')->ts.map keyT=ky (KAF 46 (lyoL l))++rest->
  ∃r,NJ en d ts n=.ok (l,r,n+cntL l)/\r.map keyT=rest
 |0,l,_,_,hd,_,_,_,_,_,_=>by omega
 |d+1,l,hne,hg,hd,n,ts,rest,hn,hr,ht=>by
  have sub:∀l',l'≠[]->gdL l'=true->dpL l'<d->KPu (NJ en d) l':=λl' h1 h2 h3=>by
   refine⟨?_,λm ts rest hm hs ht=>KNY d l' h1 h2 h3 m ts rest hm (KS0 hs) ht⟩
   cases l' with
   |nil=>exact absurd rfl h1
   |cons s l'=>
    rw [lyoL,KLh]
    exact KXU s _
  have one:∀s∈l,∀(n:Nat) (ts:List Tkn) (rest:List Key),n+cntS s<=256->ts.map keyT=ky (lyoS s)++rest->∃r,KER en (NJ en d) ts n=.ok (s,r,n+cntS s)/\r.map keyT=rest:=λs hs n ts rest hn ht=>by
   have h1:=KLj hg s hs
   have h2:=KS1 hs
   cases s with
   |mk op ns us ps vs ss=>
    rw [gdS,Eg]at h1
    rw [dpS]at h2
    rw [cntS]at hn⊢
    rw [<-Iy]
    refine KSz (KI4.1 h1.1) (by omega) (λl' hl'=>?_) ts rest ht
    obtain⟨g1,g2⟩:=KHe h1.2 l' hl'
    have:=KPy hl'
    exact sub l' g1 g2 (by omega)
  cases l with
  |nil=>exact absurd rfl hne
  |cons s l=>
   rw [lyoL,KLh,Ek]at ht
   rw [cntL]at hn
   obtain⟨r,r1,r2⟩:=one s (by simp) n ts _ (by omega) ht
   have hlen:l.length<r.length+1:=by
    have:(r.map keyT).length=r.length:=by simp
    have h2:(dotK ((lyoL l).map ky)++rest).length=r.length:=by rw [<-this,r2];rfl
    have h3:∀l:List St,l.length<=(dotK ((lyoL l).map ky)).length:=λl=>by
     induction l with
     |nil=>exact El _
     |cons a l ih=>rw [lyoL];simp only [Er,dotK,ET,List.length_append,Ef]at ih⊢;omega
    have:=h3 l
    rw [List.length_append]at h2
    omega
   obtain⟨r',q1,q2⟩:=KPx (en:=en) (stp:=KER en (NJ en d)) l [s] (r.length+1) (n+cntS s) r rest hlen (by omega) hr (λx hx=>one x (Ev _ hx)) r2
   refine⟨r',?_,q2⟩
   rw [NJ,r1]
   dsimp only
   rw [q1,cntL,Iy]
   rfl
end Gx
namespace Gx
open Go
theorem KS2 {w:Eb} (hw:∀c∈w,JD c=true):∀c,w.head?=some c->KAA c=false:=by
 intro c hc
 cases w with
 |nil=>cases hc
 |cons d w=>cases hc;exact KKF (hw _ (by simp))
theorem KUs {t:Tkn} {r:Ly} {w:Eb} (hw:∀c∈w,JD c=true) (ha:KKE t r) (hg:Je r) (hk:t.k=1\/t.k=2):∀c,(layT r++w).head?=some c->KAA c=false:=by
 intro c hc
 cases h:layT r with
 |nil=>rw [h]at hc;exact KS2 hw c hc
 |cons d q=>rw [h]at hc;exact KXM ha hg hk c (by rw [h];exact hc)
def posL:Nat->Ly->List Int
 |_,[]=>[]
 |a,x::r=>((a+x.1.length:Nat):Int)::posL (a+x.1.length+(tkT x.2).length) r
theorem KLk {s w:Eb} (hw:∀c∈w,JD c=true):∀(l:Ly) (a:Nat),a<=s.length->s.drop a=layT l++w->Je l->(allT s a).1.map keyT=ky l/\(allT s a).1.map (·.a)=posL a l/\(allT s a).2=s.length
 | [],a,ha,hd,_=>by
  have hd:s.drop a=w++[]:=by rw [hd,E0];rfl
  have hsk:=KM6 hd hw (by intro d hd;cases hd)
  have hlen:s.length=a+w.length:=by have:=Ew List.length hd;simp at this;omega
  have hn:Xp s a=none:=by unfold Xp;rw [hsk,if_neg (by omega)]
  rw [XJ hn,hsk]
  exact⟨rfl,rfl,by dsimp only;omega⟩
 |(sep,t)::l,a,ha,hd,hg=>by
  obtain⟨hs,ht,hn,hap,hg'⟩:=hg
  rw [layT,Ek,Ek]at hd
  dsimp only at hs ht hn hap hd
  have hnx:=KUP hd hs ht hn (KUs hw hap hg')
  have hlt:=N5 ha hnx
  rw [XK ha hnx]
  obtain⟨i1,i2,i3⟩:=KLk hw l (a+sep.length+(tkT t).length) hlt.2 (by rw [<-FV,<-FV,hd,Is,Is]) hg'
  refine⟨?_,?_,i3⟩
  ·rw [Er,i1];rfl
  ·rw [Er,i2];rfl
theorem KS3 {ts:List Tkn} {L:Ly} (h:ts.map keyT=ky L):ts.length=L.length:=by
 have:=Ew List.length h
 simpa [ky] using this
structure Goes (l:List St):Prop where
 ne:l≠[]
 gd:gdL l=true
 dp:1+dpL l<=8
 cnt:cntL l<=256
theorem KUt {l:List St} (G:Goes l) {en:Nat} {ts:List Tkn} (h:ts.map keyT=ky (lyoG l)):parF en ts 0=.ok (l,[],cntL l):=by
 have h:ts.map keyT=(1,[103],0)::(4,[46],0)::ky (KAF 46 (lyoL l)):=h
 obtain⟨t1,t2⟩:=VY (en:=en) h
 obtain⟨t3,t4⟩:=VY (en:=en) t2
 obtain⟨r,r1,r2⟩:=KNY (en:=en) 8 l G.ne G.gd (by have:=G.dp;omega) 0 ts.tail.tail [] (by have:=G.cnt;omega) (by rintro q rfl ⟨m,q',h⟩;cases h) (by rw [E0];exact t4)
 have hr:r=[]:=by simpa using r2
 subst hr
 unfold parF
 rw [t1]
 dsimp only
 rw [t3]
 dsimp only
 rw [r1,EC]
theorem KXV {l:List St} (G:Goes l) {L:Ly} {s w:Eb} (hs:s=layT L++w) (hw:∀c∈w,JD c=true) (hL:Je L) (hk:ky L=ky (lyoG l)) (hlen:s.length<=16384):
  (L.length<=4096->prdP parF s=(((s.length:Int),0),some l))/\(4096<L.length->(prdP parF s).1.2=3/\(prdP parF s).2=none):=by
 obtain⟨h1,_,h2⟩:=KLk (s:=s) hw L 0 (El _) (by rw [Fd];exact hs) hL
 have hl:=KS3 h1
 constructor
 ·intro h4
  have hx:=KSM hlen (by omega) h2
  unfold prdP
  rw [hx]
  dsimp only
  rw [if_neg (by simp),KUt G (h1.trans hk)]
  dsimp only
  rw [if_pos rfl]
 ·intro h4
  have hx:(lexP s).2.2=3:=by
   unfold lexP
   rw [if_neg (by omega)]
   have:(allT s 0).1[4096]?=some ((allT s 0).1[4096]'(by omega)):=Em (by omega)
   rw [this]
  unfold prdP
  rw [hx,if_pos (by decide)]
  exact⟨rfl,rfl⟩
end Gx
namespace Gx
open Go
def ln (x:List Ly):Nat:=(x.map List.length).sum
end Gx
namespace Gx
open Go
theorem KPz:∀(r:List (List St)) (l:List St),gdSs (r++[l])=(gdSs r&&(!l.isEmpty&&gdL l))
 | [],l=>by simp [gdSs]
 |a::r,l=>by rw [Ey,gdSs,gdSs,KPz r l];simp only [Ol]
theorem KP0:∀(r:List (List St)) (l:List St),dpSs (r++[l])=max (dpSs r) (1+dpL l)
 | [],l=>by simp [dpSs]
 |a::r,l=>by rw [Ey,dpSs,dpSs,KP0 r l];omega
theorem KNZ:∀(r:List (List St)) (l:List St),NZ (r++[l])=NZ r+cntL l
 | [],l=>by simp [NZ]
 |a::r,l=>by rw [Ey,NZ,NZ,KNZ r l];omega
theorem KS4:∀(l:List St) (s:St),gdL (l++[s])=(gdL l&&gdS s)
 | [],s=>by simp [gdL]
 |a::l,s=>by rw [Ey,gdL,gdL,KS4 l s];simp only [Ol]
theorem KS5:∀(l:List St) (s:St),dpL (l++[s])=max (dpL l) (dpS s)
 | [],s=>by simp [dpL]
 |a::l,s=>by rw [Ey,dpL,dpL,KS5 l s];omega
theorem KP1:∀(l:List St) (s:St),cntL (l++[s])=cntL l+cntS s
 | [],s=>by simp [cntL]
 |a::l,s=>by rw [Ey,cntL,cntL,KP1 l s];omega
end Gx
namespace Gx
open Go
theorem KXW (v:Vl):(KFn v !=0)=!mayV 8 v:=by
 unfold KFn
 cases mayV 8 v<;>rfl
def KP2:RepT Nat:=λ_ _ z c=>c=#[.int .u8 (z:Int)]/\z<=255
theorem KUu:Stay KP2:=⟨λh _ _=>h⟩
mutual
def swS:St->Nat
 | .mk _ ns us ps vs ss=>(ns.map (λs=>s.length+1)).sum+us.length+(ps.map (λp=>wt.wts p.2+1)).sum+wt.wts vs+swSs ss+1
def swL:List St->Nat
 | []=>0
 |s::l=>swS s+swL l
def swSs:List (List St)->Nat
 | []=>0
 |l::r=>swL l+1+swSs r
end
theorem KS6:∀(d:Nat) (v:Vl),WfV d v->(txt d v).length+2<=26*wt v
 |0,v,_=>by have:=KVb v;simp [txt];omega
 |d+1,.mk k n s l,H=>by
  have hi:=KLL H.1
  have hq:(J7 s).length<=4*s.length+2:=by
   rw [KIi]
   have:(s.flatMap qc).length<=4*s.length:=by
    clear H
    induction s with
    |nil=>simp
    |cons a s ih=>rw [ET,List.length_append,Ef];have:=KY6 a;omega
   omega
  have hs:∀(ev od:Eb),ev.length=2->od.length=2->(shw ev od (l.map (txt d))).length<=26*wt.wts l:=by
   have hel:∀v∈l,(txt d v).length+2<=26*wt v:=λv hv=>KS6 d _ (H.2 v hv)
   clear H
   induction l with
   |nil=>intro ev od _ _;simp [shw]
   |cons a r ih=>
    intro ev od h1 h2
    have ha:=hel a (by simp)
    have ihr:=ih (λv hv=>hel v (Ev _ hv)) od ev h2 h1
    rw [Er,KPM,wt.wts]
    split
    ·omega
    ·rw [List.length_append,List.length_append];omega
  have h4:=hs [44,32] [44,32] rfl rfl
  have h5:=hs [58,32] [44,32] rfl rfl
  rw [wt]
  unfold txt
  repeat' split
  all_goals (try simp only [List.length_append,Ef,En])
  all_goals omega
theorem KVy {v:Vl} (h:WfV 8 v):(txV v).length+2<=26*wt v:=KS6 8 v h
def lnB (x:List (Eb)):Nat:=(x.map List.length).sum
theorem KS7 (a b:List (Eb)):lnB (a++b)=lnB a+lnB b:=by simp [lnB]
theorem Gp (a:Eb) (b:List (Eb)):lnB (a::b)=a.length+lnB b:=by simp [lnB]
theorem NK (c:UInt8):∀l:List (Eb),(YB c l).length=lnB l+(l.length - 1)
 | []=>rfl
 | [a]=>by simp [YB,lnB]
 |a::b::r=>by
  have ih:=NK c (b::r)
  rw [YB,List.length_append,Ef,ih,Gp a]
  simp only [Ef]
  omega
theorem KLl {vs:List Vl} (h:∀v∈vs,WfV 8 v):lnB (vs.map txV)+2*vs.length<=26*wt.wts vs:=by
 induction vs with
 |nil=>simp [lnB]
 |cons v r ih=>
  have:=ih (λx hx=>h x (Ev _ hx))
  have:=KVy (h v (by simp))
  rw [Er,Gp,Ef,wt.wts]
  omega
theorem KXX:∀n:Nat,n<9->(prWd ((n:Int)+1)).length<=24:=by decide+kernel
theorem KXY:∀n:Nat,n<60->(stWd ((n:Int)+1)).length<=24:=by decide+kernel
theorem KVz {op:Int}:(prWd op).length<=24:=by
 by_cases h:1<=op/\op<=9
 ·obtain⟨n,rfl⟩:∃n:Nat,op=(n:Int)+1:=⟨(op - 1).toNat,by omega⟩
  exact KXX n (by omega)
 ·have:prWd op=[]:=by
   unfold prWd KI3
   have hl:(splW prW).length=9:=by decide+kernel
   rw [hl]
   rw [if_pos (by omega)]
  rw [this];exact El _
theorem KZT {op:Int}:(stWd op).length<=24:=by
 by_cases h:1<=op/\op<=60
 ·obtain⟨n,rfl⟩:∃n:Nat,op=(n:Int)+1:=⟨(op - 1).toNat,by omega⟩
  exact KXY n (by omega)
 ·have:stWd op=[]:=by
   unfold stWd KI3
   rw [KNM]
   rw [if_pos (by omega)]
  rw [this];exact El _
theorem KXZ {p:Int×List Vl} (h:∀v∈p.2,WfV 8 v):(txP p).length+2<=40*(wt.wts p.2+1):=by
 have h1:=KLl h
 have h2:=NK 44 (p.2.map txV)
 rw [EL]at h2
 have h3:=KVz (op:=p.1)
 unfold txP
 split
 ·omega
 ·simp only [List.length_append,Ef,En]
  omega
theorem KUv (s:Eb):(J7 s).length<=4*s.length+2:=by
 rw [KIi]
 have:(s.flatMap qc).length<=4*s.length:=by
  induction s with
  |nil=>simp
  |cons a s ih=>rw [ET,List.length_append,Ef];have:=KY6 a;omega
 omega
def i64S (us:List Int):Prop:=∀n∈us,I64 n
theorem KXa {ns:List (Eb)} {us:List Int} {ps:List (Int×List Vl)} {vs:List Vl} (hu:i64S us) (hv:∀v∈vs,WfV 8 v) (hp:∀p∈ps,∀v∈p.2,WfV 8 v):
  lnB (txA ns us ps vs)+(txA ns us ps vs).length<=40*((ns.map (λs=>s.length+1)).sum+us.length+(ps.map (λp=>wt.wts p.2+1)).sum+wt.wts vs):=by
 have h1:lnB (ns.map J7)+ns.length<=40*(ns.map (λs=>s.length+1)).sum:=by
  induction ns with
  |nil=>simp [lnB]
  |cons s r ih=>have:=KUv s;simp only [Er,Gp,Ef,Ft];omega
 have h2:lnB (us.map Lib.itoa)+us.length<=40*us.length:=by
  clear h1
  induction us with
  |nil=>simp [lnB]
  |cons s r ih=>have:=ih (λx hx=>hu x (Ev _ hx));have:=KLL (hu s (by simp));simp only [Er,Gp,Ef];omega
 have h3:lnB (ps.map txP)+ps.length<=40*(ps.map (λp=>wt.wts p.2+1)).sum:=by
  clear h1 h2
  induction ps with
  |nil=>simp [lnB]
  |cons s r ih=>have:=ih (λx hx=>hp x (Ev _ hx));have:=KXZ (hp s (by simp));simp only [Er,Gp,Ef,Ft];omega
 have h4:=KLl hv
 simp only [txA,KS7,List.length_append,EL]
 omega
mutual
def i64T:St->Prop
 | .mk _ _ us _ _ ss=>i64S us/\KOh ss
def i64L:List St->Prop
 | []=>True
 |s::l=>i64T s/\i64L l
def KOh:List (List St)->Prop
 | []=>True
 |l::r=>i64L l/\KOh r
end
theorem KP3:∀r:List (List St),(txSs r).length=r.length
 | []=>by rw [txSs];rfl
 |l::r=>by rw [txSs,Ef,Ef,KP3 r]
theorem KLm:∀r:List St,(txL r).length=r.length
 | []=>by rw [txL];rfl
 |l::r=>by rw [txL,Ef,Ef,KLm r]
mutual
theorem KXb:∀s:St,wfS s->i64T s->(txS s).length+1<=40*swS s
 | .mk op ns us ps vs ss,hw,hi=>by
  rw [wfS]at hw
  rw [i64T]at hi
  have h1:=KXa (ns:=ns) hi.1 hw.1 hw.2.1
  have h2:=KNa ss hw.2.2 hi.2
  have h3:=NK 44 (txA ns us ps vs++txSs ss)
  have h4:=KZT (op:=op)
  rw [KS7,List.length_append]at h3
  rw [txS,swS]
  simp only [List.length_append,Ef,En]
  omega
theorem KHf:∀l:List St,wfL l->i64L l->lnB (txL l)+l.length<=40*swL l
 | [],_,_=>by rw [txL,swL];simp [lnB]
 |s::l,hw,hi=>by
  rw [wfL]at hw
  rw [i64L]at hi
  have h1:=KXb s hw.1 hi.1
  have h2:=KHf l hw.2 hi.2
  rw [txL,swL,Gp,Ef]
  omega
theorem KNa:∀r:List (List St),wfSs r->KOh r->lnB (txSs r)+(txSs r).length<=40*swSs r
 | [],_,_=>by rw [txSs,swSs];simp [lnB]
 |l::r,hw,hi=>by
  rw [wfSs]at hw
  rw [KOh]at hi
  have h1:=KHf l hw.1 hi.1
  have h2:=KNa r hw.2 hi.2
  have h3:=NK 46 (txL l)
  rw [KLm]at h3
  rw [txSs,swSs,Gp,Ef]
  omega
end
theorem KXc {l:List St} (hw:wfL l) (hi:i64L l):(txG l).length<=40*swL l+2:=by
 have h1:=KHf l hw hi
 have h3:=NK 46 (txL l)
 rw [KLm]at h3
 unfold txG
 simp only [Ef]
 omega
theorem KXd {S:Nat->Prop} {h:Heap} {x:Sl} {l:List Vl} (R:VsRepS S h x l):∀v∈l,WfV 8 v:=λv hv=>by
 obtain⟨j,hj,rfl⟩:=Ii hv
 obtain⟨a,cs,h1,h2,h3,h4,h5⟩:=R.at_.get hj
 exact KSG 8 _ _ h5.to
mutual
theorem KaR {S:Nat->Prop} {h:Heap}:∀(s:St) (c:Ea),WR S h s c->wfS s/\i64T s
 | .mk op ns us ps vs ss,c,H=>by
  obtain⟨x1,x2,x3,x4,x5,e,ho,r1,r2,r3,r4,r5⟩:=WR.eq.1 H
  rw [WR]at H
  obtain⟨_,_,_,_,y5,e',_,_,_,_,_,_,_,s5⟩:=H
  obtain⟨s1,s2⟩:=KV0 ss _ _ s5
  rw [wfS,i64T]
  refine⟨⟨KXd r4,λp hp=>?_,s1⟩,λn hn=>?_,s2⟩
  ·obtain⟨j,hj,rfl⟩:=Ii hp
   obtain⟨a,cs,_,_,_,_,y,_,_,hv⟩:=r3.at_ j hj
   exact KXd hv
  ·obtain⟨j,hj,rfl⟩:=Ii hn
   obtain⟨a,cs,_,_,_,_,_,hI⟩:=r2.at_ j hj
   exact hI
theorem KS8 {S:Nat->Prop} {h:Heap}:∀(l:List St) (b:Option Addr) (i:Nat),N6 S h l b i->wfL l/\i64L l
 | [],_,_,_=>by rw [wfL,i64L];exact⟨trivial,trivial⟩
 |s::l,b,i,H=>by
  rw [N6]at H
  obtain⟨⟨a,cs,_,_,_,_,hs⟩,hl⟩:=H
  have h1:=KaR s cs hs
  have h2:=KS8 l b (i+1) hl
  rw [wfL,i64L]
  exact⟨⟨h1.1,h2.1⟩,h1.2,h2.2⟩
theorem KV0 {S:Nat->Prop} {h:Heap}:∀(r:List (List St)) (b:Option Addr) (i:Nat),Yf S h r b i->wfSs r/\KOh r
 | [],_,_,_=>by rw [wfSs,KOh];exact⟨trivial,trivial⟩
 |l::r,b,i,H=>by
  rw [Yf]at H
  obtain⟨⟨a,x,_,_,_,_,_,hs⟩,hl⟩:=H
  have h1:=KS8 l _ _ hs
  have h2:=KV0 r b (i+1) hl
  rw [wfSs,KOh]
  exact⟨⟨h1.1,h2.1⟩,h1.2,h2.2⟩
end
theorem YE.wf {S:Nat->Prop} {h:Heap} {x:Sl} {l:List St} (H:YE S h x l):wfL l/\i64L l:=KS8 l _ _ (YE.at H)
end Gx
namespace Gx
open Go
theorem neI (a b:Int):(a !=b)=decide (a≠b):=by
 unfold bne
 rw [eqI]
 exact FB.symm
theorem KP4:∀a:Eb,(∀c∈a,c≠32)->splW a=[a]
 | [],_=>rfl
 |c::a,h=>by rw [splW,if_neg (h c (by simp)),KP4 a (λd hd=>h d (Ev _ hd))]
theorem KP5:∀a r:Eb,(∀c∈a,c≠32)->splW (a++32::r)=a::splW r
 | [],r,_=>by rw [EW,splW,if_pos rfl]
 |c::a,r,h=>by rw [Ey,splW,if_neg (h c (by simp)),KP5 a r (λd hd=>h d (Ev _ hd))]
theorem KXe (s:Eb):∀u∈(#[sv s]:Ea).toList,one u=true:=by
 intro u hu
 simp only [ED,EP,Fr]at hu
 subst hu;rfl
abbrev TGw (h0:Nat) (h:Heap) (r:Sl) (css:List (Ea)) (l:List (Eb)):Prop:=RGw zQ 1 h0 (λ_=>False) h r css l
theorem KZU {β:Type} {h0:Nat} {h:Heap} {Q:β->Heap->Prop} {r:Sl} {css:List (Ea)} {l:List (Eb)} {s:Eb} {f:Sl->M β} (G:TGw h0 h r css l) (hlo:h0<=h.size) (hm:l.length<=4398046511103)
  (H:∀h' r' css',TGw h0 h' r' css' (l++[s])->h.size<=h'.size->(∀i,i<h0->h'[i]?=h[i]?)->(f r').wp h' Q):
  (bdL ZW 1 #[.string (bs s)]>>=λx=>apL ZW 1 16 (#[.string ByteArray.empty]:Ea) r x>>=f).wp h Q:=
 KXF (c:=#[sv s]) Z0 rfl (by decide) G (λk hk=>hk.elim) rfl (KXe s) rfl hlo (by omega) (by omega) (λh' r' G' hs same on_=>H h' r' _ G' hs (λi hi=>same i (by omega) (λho=>by have:=(G.gw.lt ho).2;omega)))
theorem KI7 {s:Eb} {h:Heap} {Q:Sl->Heap->Prop} (hs:s.length<=1073741824) (H:∀h' x,Ext h h'->RowS 1 zQ (HS h h') h' x (splW s)->Q x h'):(Ue (bs s)).wp h Q:=by
 unfold Ue
 refine M.loop_inv (λ(x:Sl×Int×Int) hh=>∃(r:Sl) (fr i:Nat) (css:List (Ea)) (l:List (Eb)),x=(r,(fr:Int),(i:Int))/\Ext h hh/\TGw h.size hh r css l/\fr<=i/\i<=s.length+1/\l.length<=i/\(i=s.length+1->l=splW s)/\(i<=s.length->splW s=l++splW (s.drop fr)/\∀j,fr<=j->j<i->∀c,s[j]?=some c->c≠32))
  (λx _=>s.length+1 - x.2.2.toNat) ?_ ⟨Sl.nil,0,0,[],[],rfl,Ext.refl _,RGw.nil _ _ _ _ _,Ee _,by omega,Ee _,by omega,λ_=>⟨rfl,λj h1 h2=>by omega⟩⟩
 rintro x hh ⟨r,fr,i,css,l,rfl,E,G,hfi,hi,hli,hend,hgo⟩ self hself
 unfold Yr
 refine KH (λhlt=>?_) (λhge=>?_)
 ·have hlt:i<=s.length:=by have:=Ec hlt;rw [Ke]at this;omega
  obtain⟨hsp,hno⟩:=hgo hlt
  have hmid:∀c∈(s.drop fr).take (i - fr),c≠32:=λc hc=>by
   obtain⟨j,hj,e⟩:=Ii hc
   rw [EI,Ex]at hj
   refine hno (fr+j) (by omega) (by omega) c ?_
   rw [<-e,List.getElem_take,List.getElem_drop,Em (by omega)]
  have put:∀{h2:Heap},h2=hh->(i=s.length\/s[i]?=some 32)->(do
    let Xx21<-slS (bs s) (fr:Int) (i:Int)
    let Xx22<-bdL ZW 1 #[.string Xx21]
    let Xx23<-apL ZW 1 16 (#[.string ByteArray.empty]:Ea) r Xx22
    JR self (i:Int) Xx23 (IntKind.wrap .i64 ((i:Int)+1)):M Sl).wp h2 Q:=λ{h2} e hw=>by
   subst e
   refine KAu (s:=s) (a:=fr) (b:=i) rfl rfl (by omega) (by omega) ?_
   refine KZU G E.size (by omega) (λh3 r3 css3 G3 hs3 same3=>?_)
   unfold JR
   rw [w64 (by omega) (by omega)]
   refine hself (_,_,_) _ ⟨r3,i+1,i+1,css3,_,by push_cast;rfl,⟨by have:=E.size;omega,λj hj=>(same3 j hj).trans (E.same j hj)⟩,G3,Ee _,by omega,by rw [List.length_append,List.length_singleton];omega,λhe=>?_,λhe=>⟨?_,λj h1 h2=>by omega⟩⟩ (by dsimp only;omega)
   ·have hie:i=s.length:=by omega
    subst hie
    rw [hsp]
    have:(s.drop fr).take (s.length - fr)=s.drop fr:=EU (by rw [Ex];exact Ee _)
    rw [this]at hmid⊢
    rw [KP4 _ hmid]
   ·have h32:s[i]?=some 32:=hw.resolve_left (by omega)
    have hdr:s.drop fr=(s.drop fr).take (i - fr)++32::s.drop (i+1):=by
     have e1:s.drop fr=(s.drop fr).take (i - fr)++(s.drop fr).drop (i - fr):=(FR _ _).symm
     rw [FV,show fr+(i - fr)=i by omega]at e1
     rw [e1]
     congr 1
     ·rw [<-e1]
     ·rw [Eh (by omega)]
      rw [Em (by omega)]at h32
      rw [Option.some.inj h32]
    rw [hsp,Ek]
    congr 1
    conv=>lhs;rw [hdr]
    rw [KP5 _ _ hmid]
    rfl
  rw [eqI,Ke]
  by_cases hie:i=s.length
  ·refine Ve (Ej (by omega)) (KZ (iteT rfl (put rfl (.inl hie))))
  ·refine Y9 (Eo (by omega)) (KR (VX (l:=s) (i:=i) rfl (by omega) (KZ ?_)))
   refine KH (λhc=>put rfl (.inr ?_)) (λhc=>?_)
   ·rw [Em (by omega)]
    exact Ew some (Fg.1 (by have:=Ec hc;show s[i].toNat=32;omega))
   ·unfold JR
    rw [w64 (by omega) (by omega)]
    refine hself (_,_,_) _ ⟨r,fr,i+1,css,l,by push_cast;rfl,E,G,by omega,by omega,by omega,λhe=>by omega,λ_=>⟨hsp,λj h1 h2 c hj=>?_⟩⟩ (by dsimp only;omega)
    by_cases hji:j<i
    ·exact hno j h1 hji c hj
    ·have:j=i:=by omega
     subst this
     rw [Em (by omega)]at hj
     cases hj
     intro e
     rw [e]at hc
     cases hc
 ·have:i=s.length+1:=by have:=Ed hge;rw [Ke]at this;omega
  have hl:=hend this
  subst hl
  refine KA (H hh r E ((G.row Z0 (by decide)).same Z0 (λ_ _=>rfl) (λk hk=>?_)))
  rcases hk with hk|hk
  ·exact hk.elim
  ·have:=G.gw.lt hk;exact⟨this.2,this.1⟩
end Gx
namespace Gx
open Go
def shp9 (x:Shp):Ea:=#[.int .i64 (x.n.1:Int),.int .i64 (x.n.2:Int),.int .i64 (x.u.1:Int),.int .i64 (x.u.2:Int),.int .i64 (x.p.1:Int),.int .i64 (x.v.1:Int),.int .i64 (x.v.2:Int),.int .i64 (x.s.1:Int),.int .i64 (x.s.2:Int)]
theorem KNb (x:Shp):∀u∈(shp9 x).toList,one u=true:=by
 intro u hu
 simp only [shp9,ED,EP,Fr]at hu
 rcases hu with rfl|rfl|rfl|rfl|rfl|rfl|rfl|rfl|rfl<;>rfl
theorem KOi {op:Int} {h:Heap} {Q:Ea->Heap->Prop} (H:∀h',Ext h h'->Q (shp9 (Kz op)) h'):(WD op).wp h Q:=by
 unfold WD
 refine Kw (λh1 e1 s1 g1=>?_)
 have leaf:∀{x:Shp},(∀h',Ext h h'->Q (shp9 x) h')->(M.need ((shp9 x).size=9)>>=λ_=>stG ⟨h.size,0,none⟩ (shp9 x)>>=λ_=>ldG 9 ⟨h.size,0,none⟩>>=λr=>(M.pure r:M (Ea))).wp h1 Q:=λ{x} HH=>by
  refine ZH rfl (stR g1 (by simp [shp9]) (KNb x) (λh' u g'=>?_))
  have e:lay (Array.replicate 9 (.int .i64 0):Ea) 0 (shp9 x).toList=shp9 x:=KW (by simp [shp9])
  rw [e]at g'
  exact ldR g' rfl (KA (HH _ (e1.upd u (Ee _))))
 by_cases hop:op∈([1,2,3,4,15,16,42,46,47,5,6,7,8,9,10,32,33,17,43,48,14,18,19,20,21,52,22,23,50,51,53,26,27,29,28,34,54,56,55,57,58]:List Int)
 ·simp only [ED,EP,Fr]at hop
  rcases hop with rfl|rfl|rfl|rfl|rfl|rfl|rfl|rfl|rfl|rfl|rfl|rfl|rfl|rfl|rfl|rfl|rfl|rfl|rfl|rfl|rfl|rfl|rfl|rfl|rfl|rfl|rfl|rfl|rfl|rfl|rfl|rfl|rfl|rfl|rfl|rfl|rfl|rfl|rfl|rfl|rfl
  all_goals (repeat first|refine iteF rfl ?_|refine iteT rfl ?_)
  iterate 2 exact leaf (x:=⟨(0,0),(0,32),(0,0),(0,0),(0,0)⟩) H
  iterate 1 exact leaf (x:=⟨(0,0),(0,0),(0,0),(0,32),(0,0)⟩) H
  iterate 6 exact leaf (x:=⟨(1,1),(0,0),(0,0),(0,0),(0,0)⟩) H
  iterate 8 exact leaf (x:=⟨(0,32),(0,0),(0,0),(0,0),(0,0)⟩) H
  iterate 2 exact leaf (x:=⟨(1,32),(0,0),(0,0),(0,0),(0,0)⟩) H
  iterate 1 exact leaf (x:=⟨(0,1),(0,0),(0,0),(0,0),(0,0)⟩) H
  iterate 1 exact leaf (x:=⟨(1,1),(0,0),(1,1),(0,0),(0,0)⟩) H
  iterate 1 exact leaf (x:=⟨(0,0),(1,32),(0,0),(0,0),(0,0)⟩) H
  iterate 1 exact leaf (x:=⟨(0,0),(0,0),(1,1),(0,0),(0,0)⟩) H
  iterate 3 exact leaf (x:=⟨(0,0),(0,0),(0,0),(0,0),(1,1)⟩) H
  iterate 4 exact leaf (x:=⟨(0,0),(0,0),(0,0),(0,0),(1,32)⟩) H
  iterate 1 exact leaf (x:=⟨(0,0),(0,0),(0,0),(0,0),(3,3)⟩) H
  iterate 3 exact leaf (x:=⟨(0,0),(1,1),(0,0),(0,0),(0,0)⟩) H
  iterate 1 exact leaf (x:=⟨(0,0),(2,2),(0,0),(0,0),(0,0)⟩) H
  iterate 1 exact leaf (x:=⟨(0,0),(0,0),(0,0),(1,1),(0,0)⟩) H
  iterate 2 exact leaf (x:=⟨(0,0),(1,1),(0,0),(0,0),(1,1)⟩) H
  iterate 1 exact leaf (x:=⟨(0,0),(0,0),(0,0),(0,0),(2,2)⟩) H
  iterate 1 exact leaf (x:=⟨(3,3),(0,0),(0,0),(0,0),(0,0)⟩) H
  iterate 1 exact leaf (x:=⟨(1,1),(0,0),(0,0),(1,1),(0,0)⟩) H
 simp only [ED,EP,Fr,not_or]at hop
 have hz:Kz op=shp0:=by
  unfold Kz
  simp only [hop,Fr,IF]
 rw [hz]at H
 iterate 41 refine iteF (by simp only [eqI,EQ,hop,I9]) ?_
 exact leaf (x:=shp0) H
end Gx
namespace Gx
open Go
theorem UZ {α β:Type} {sz:Nat} {Rep:RepT α} {S:Nat->Prop} {h:Heap} {Q:β->Heap->Prop} {x:Sl} {l:List α} {i:Nat} {t:Int} {f:Addr->M β} (R:RowS sz Rep S h x l) (hi:i<l.length) (ht:t=(i:Int))
  (hq:∀a c,S a.block->c.size=sz->(∀m,m<sz->KJ h (a.add m)=c[m]?)->Rep S h l[i] c->(f a).wp h Q):(ixL x t sz>>=f).wp h Q:=by
 obtain⟨a,c,ha,hS,hs,hcs,hv⟩:=R.at_ i hi
 have:=R.len
 subst ht
 refine NM (by omega) (by omega) ha (hq _ c (by rw [Z8];exact hS) hs (λm hm=>?_) hv)
 rw [Addr.add_add,show(i:Int).toNat*sz=i*sz by rw [FI]]
 exact hcs m hm
theorem Ky {α:Type} {sz:Nat} {Rep:RepT α} (ok:Stay Rep) {S:Nat->Prop} {h h':Heap} {x:Sl} {l:List α} (hS:∀k,S k->k<h.size) (R:RowS sz Rep S h x l) (e:Ext h h'):RowS sz Rep S h' x l:=R.same ok (λk hk=>e.same k (hS k hk)) (λ_ hk=>hk)
theorem KKI {n:Int} {h:Heap} {Q:ByteArray->Heap->Prop} (H:∀h',Ext h h'->Q (bs (stWd n)) h'):(VA n).wp h Q:=by
 unfold VA
 refine KD (KI7 (s:=stW) (by decide) (λh1 x e1 R=>?_))
 have hl:x.len=(splW stW).length:=R.len
 rw [hl]
 have H1:=H h1 e1
 unfold stWd KI3 at H1
 refine or_b (c:=decide (n>((splW stW).length:Int))) (λ_ Q' hq=>KA hq) ?_
 rw [<-Fe]
 refine KH (λhc=>?_) (λhc=>?_)
 ·rw [if_pos (Ec hc)]at H1
  exact KA H1
 ·have hc:=Ed hc
  rw [if_neg hc]at H1
  have hj:(n - 1).toNat<(splW stW).length:=by omega
  rw [w64 (by rw [KNM]at hc;omega) (by rw [KNM]at hc;omega)]
  refine UZ R hj (by omega) (λa c _ hs hcs hv=>?_)
  have hv:c=#[sv (splW stW)[(n - 1).toNat]]:=hv
  subst hv
  refine WO (n:=bs (splW stW)[(n - 1).toNat]) (by have:=hcs 0 (by decide);rw [add_zero]at this;exact this) (KA ?_)
  rw [Em hj]at H1
  exact H1
theorem KAd {a b c:Int} {h:Heap} {Q:Bool->Heap->Prop} (H:Q (decide (b<=a)&&decide (a<=c)) h):(Zy a b c).wp h Q:=by
 unfold Zy
 exact Jp (c:=decide (a<=c)) (λ_ Q' hq=>KA hq) (KA H)
theorem KG4 {x:Sl} {l:List Vl} {h:Heap} {Q:Bool->Heap->Prop} (R:VsRep h x l) (H:∀h',Ext h h'->Q (l.all (mayV 8)) h'):(J1 x).wp h Q:=by
 unfold J1
 have hb:=R.big
 have hl:=R.len
 refine M.loop_inv (λ(i:Int) hh=>∃k:Nat,i=(k:Int)/\k<=l.length/\Ext h hh/\(l.take k).all (mayV 8)=true) (λi _=>l.length - i.toNat) ?_ ⟨0,rfl,El _,Ext.refl _,rfl⟩
 rintro i hh ⟨k,rfl,hk,E,ha⟩ self hself
 unfold YT
 refine KH (λhlt=>?_) (λhge=>?_)
 ·have hlt:k<l.length:=by have:=Ec hlt;omega
  refine KFl (R.ext E) hlt rfl (λa c hs hc hv=>YF hs hc (KD (KIU hv (λh1 e1=>?_))))
  rw [KXW]
  refine KH (λhm=>KA ?_) (λhm=>?_)
  ·have hf:l.all (mayV 8)=false:=by
    rw [List.all_eq_false]
    exact⟨l[k],EJ _,by rw [FJ]at hm;rw [hm];decide⟩
   have:=H _ (E.trans e1)
   rw [hf]at this
   exact this
  ·rw [w64 (by omega) (by omega)]
   refine hself _ _ ⟨k+1,by push_cast;rfl,hlt,E.trans e1,?_⟩ (by omega)
   rw [Et hlt,F1,ha]
   simpa using hm
 ·have:k=l.length:=by have:=Ed hge;omega
  subst this
  rw [ER]at ha
  have:=H _ E
  rw [ha]at this
  exact KA this
theorem KQ1 {S:Nat->Prop} {p:Int×List Vl} {c:Ea} {h:Heap} {Q:Bool->Heap->Prop} (R:GI S h p c) (H:∀h',Ext h h'->Q (okP p) h'):(Wo c).wp h Q:=by
 obtain⟨y,rfl,hI,V⟩:=R
 obtain⟨op,vs⟩:=p
 dsimp only at hI V H⊢
 unfold Wo
 refine Kw (λh1 e1 s1 g1=>?_)
 have hl:=V.len
 have l1:∀{hh:Heap},Ext h1 hh->KJ hh (Addr.add ⟨h.size,0,none⟩ 1)=some y.v:=λe=>by rw [KM,KF (e.blk g1)];rfl
 have l0:∀{hh:Heap},Ext h1 hh->KJ hh (Addr.add ⟨h.size,0,none⟩ 0)=some (.int .i64 op):=λe=>by rw [KM,KF (e.blk g1)];rfl
 have r1:=Ext.refl h1
 have fin:(za op.toNat).1<=vs.length->vs.length<=(za op.toNat).2->1<=op->op<=9->(Jf ⟨h.size,0,none⟩).wp h1 Q:=λa1 a2 a3 a4=>by
  unfold Jf
  refine Kn (l1 r1) (KD (KG4 (V.to.ext e1) (λh2 e2=>KA ?_)))
  have:=H _ (e1.trans e2)
  have he:okP (op,vs)=vs.all (mayV 8):=by
   unfold okP KJd
   dsimp only
   rw [Ej a1,Ej a2,Ej a3,Ej a4]
   rfl
  rw [he]at this
  exact this
 have no:¬(1<=op/\op<=9/\(za op.toNat).1<=vs.length/\vs.length<=(za op.toNat).2)->Q false h1:=λhn=>by
  have:=H _ e1
  have he:okP (op,vs)=false:=by
   rw [<-IU,KGn]
   exact λhh=>hn ⟨hh.1,hh.2.1,hh.2.2.1⟩
  rw [he]at this
  exact this
 have o1:1<=op->op<=6->za op.toNat=(1,1):=λh1 h2=>by unfold za;rw [if_neg (by omega),if_neg (by omega)]
 refine Kn (l1 r1) (KV (l0 r1) ?_)
 refine Jp (c:=decide (op<=6)) (λ_ Q' hq=>KV (l0 r1) (KA hq)) ?_
 refine KH (λhc=>?_) (λhc=>?_)
 ·rw [Eg]at hc
  have a1:=Ec hc.1
  have a2:=Ec hc.2
  have ho:=o1 a1 a2
  rw [ho]at fin no
  rw [neI]
  refine KH (λhne=>KA (no (λhh=>?_))) (λhne=>?_)
  ·have:=Ec hne;omega
  ·have:=Ed hne;exact fin (by omega) (by omega) a1 (by omega)
 ·have hc':¬(1<=op/\op<=6):=λhh=>by
   rw [Ej (show op>=1 from hh.1),Ej hh.2]at hc;cases hc
  refine KV (l0 r1) ?_
  rw [eqI]
  refine KH (λh9=>?_) (λh9=>?_)
  ·have h9:=Ec h9
   subst h9
   rw [neI]
   refine KH (λhne=>KA (no (λhh=>?_))) (λhne=>?_)
   ·have:=Ec hne
    have h2:2<=vs.length/\vs.length<=2:=hh.2.2
    omega
   ·have:=Ed hne
    exact fin (by show 2<=vs.length;omega) (by show vs.length<=2;omega) (by decide) (by decide)
  ·have h9:=Ed h9
   refine KV (l0 r1) ?_
   rw [neI]
   refine Jp (c:=decide (op≠8)) (λ_ Q' hq=>KV (l0 r1) (by rw [neI];exact KA hq)) ?_
   refine or_b (c:=decide ((y.len:Int)>32)) (λ_ Q' hq=>KA hq) ?_
   refine KH (λhb=>KA (no (λhh=>?_))) (λhb=>?_)
   ·rw [EO,Eg]at hb
    rcases hb with hb|hb
    ·have b1:=Ec hb.1
     have b2:=Ec hb.2
     omega
    ·have b1:=Ec hb
     have h78:op=7\/op=8:=by omega
     have h2:vs.length<=32:=by rcases h78 with rfl|rfl<;>exact hh.2.2.2
     omega
   ·rw [Ff]at hb
    have b1:=Ed hb.2
    have h78:op=7\/op=8:=by
     by_cases h7:op=7
     ·exact .inl h7
     ·have:=hb.1
      rw [Ej h7,E9]at this
      have:=Ed this
      exact .inr (EM this)
    have ho:za op.toNat=(0,32):=by rcases h78 with rfl|rfl<;>rfl
    rw [ho]at fin
    exact fin (El _) (by show vs.length<=32;omega) (by omega) (by omega)
end Gx
