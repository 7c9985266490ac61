/- Own library: a small logic of Lean programs over the model's heap, with the laws that tie Go code to it. No condition. -/
import Derived.Test.YtpibdohdkfkcnaaGreatDoorP0
import Derived.Test.YtpibdohdkfkcnaaGreatDoorP1
import Derived.Lib.Builder
import Derived.Laws.Externs
import Derived.Recover
set_option linter.unusedVariables false
set_option linter.unusedSimpArgs false
namespace Gx
open Go Gx.Last
abbrev Sf (fs:List (Heap->Prop)):World->Prop:=λw=>cj fs w.heap
theorem KBi {fs:List (Heap->Prop)} {h:Heap}:okS (sopt fs) h↔cj fs h:=by
 cases fs with
 |nil=>exact Iff.rfl
 |cons f r=>exact Iff.rfl
def KaA (nn:Nat) (o:OldS) (ds':List Nat) (fs':List (Heap->Prop)):Prop:=match o with
 |none=>True
 |some (m0,ds,fs,_)=>(ds'=ds/\fs'=fs)\/KF4 m0 ds nn=true
section
variable {c:Cx} {nn:Nat} {g:Rg} {E C W:List (List Nat)} {n:Frm} {w0:World} {N:Act->World->Prop} {X:Nat->Act->World->Prop} {R:Act->World->Prop}
def HG (c:Cx) (nn:Nat) (g:Rg) (n:Frm) (w0:World) (N:Act->World->Prop) (X:Nat->Act->World->Prop) (R:Act->World->Prop) (old:OldS) (f m:Nat) (l:KEnv) (rd:List (Nat×Nat)) (fs:List (Heap->Prop)) (w:World) (G:Prop):Prop:=
 ∀ds' fs',KaA nn old ds' fs'->(∀h,cj fs' h->cj fs h)->(old=none\/rd≠[]->cj fs' w.heap)->rdok nn g ds' rd=true->
  (∀a w',w'.heap=w.heap->Rest w0 w'->EnvK n a l->NL c.P g.ops N X R (Sf fs') ds' f (unb nn m) a w')->G
def Lf (c:Cx) (nn:Nat) (g:Rg) (n:Frm) (w0:World) (N:Act->World->Prop) (X:Nat->Act->World->Prop) (R:Act->World->Prop) (tg:Tg) (ds:List Nat) (fs:List (Heap->Prop)) {ρ:Type} (Q:ρ->Heap->Prop) (K:KEnv->M ρ) (l0:KEnv):Prop:=match tg with
 |none=>∀l' a w,EnvK n a l'->Kq (anyD g.ops.toList) l0 l'->Rest w0 w->(K l').wp w.heap Q->N a w
 |some (f',m',sl)=>∀l' a w,EnvK n a l'->Kq (λs=>sl.contains s) l0 l'->Rest w0 w->(K l').wp w.heap Q->NL c.P g.ops N X R (Sf fs) ds f' (unb nn m') a w
def KN0 (c:Cx) (nn:Nat) (g:Rg) (n:Frm) (w0:World) (N:Act->World->Prop) (X:Nat->Act->World->Prop) (R:Act->World->Prop) (s:Sch):Prop:=
 ∀{ρ:Type} (x:XC c.P ρ) (tg:Tg) (Q:ρ->Heap->Prop) (K:KEnv->M ρ) (l0:KEnv) f old rd fs m l w (G:Prop),(∀v w,Rest w0 w->x.Th.inl v Q w.heap->X pid {tmps:=#[v],defers:=[]} w)->(∀ds fs,(tg=none\/∃m0 v,old=some (m0,ds,fs,v))->Lf c nn g n w0 N X R tg ds fs Q K l0)->
  Kq (wrT tg g.ops.toList) l0 l->cj fs w.heap->(∀m0 ds fs0,old=some (m0,ds,fs0,true)->cj fs0 w.heap)->HG c nn g n w0 N X R old f m l rd fs w G->(c.trD nn g s f (.S old rd fs) m l x tg K).wp w.heap Q->G
def KWj (c:Cx) (nn:Nat) (g:Rg) (n:Frm) (w0:World) (N:Act->World->Prop) (X:Nat->Act->World->Prop) (R:Act->World->Prop) (s:Sch):Prop:=
 ∀{ρ:Type} (x:XC c.P ρ) (tg:Tg) (Q:ρ->Heap->Prop) (K:KEnv->M ρ) (l0:KEnv) f ds fs v m l a w,(∀v w,Rest w0 w->x.Th.inl v Q w.heap->X pid {tmps:=#[v],defers:=[]} w)->Lf c nn g n w0 N X R tg ds fs Q K l0->
  Kq (wrT tg g.ops.toList) l0 l->EnvK n a l->Rest w0 w->(v=true->cj fs w.heap)->(c.trD nn g s f (.P ds fs v) m l x tg K).wp w.heap Q->NL c.P g.ops N X R (Sf fs) ds f (unb nn m) a w
def KYj (c:Cx) (nn:Nat) (g:Rg) (n:Frm) (w0:World) (N:Act->World->Prop) (X:Nat->Act->World->Prop) (R:Act->World->Prop) (s:Sch):Prop:=
 ∀{ρ:Type} (x:XC c.P ρ) (tg:Tg) (Q:ρ->Heap->Prop) (K:KEnv->M ρ) (l0:KEnv) f rs ds fs v m l a w,(∀v w,Rest w0 w->x.Th.inl v Q w.heap->X pid {tmps:=#[v],defers:=[]} w)->Lf c nn g n w0 N X R tg ds fs Q K l0->
  Kq (wrT tg g.ops.toList) l0 l->EnvK n a l->Rest w0 w->(v=true->cj fs w.heap)->(c.trD nn g s f (.A rs ds fs v) m l x tg K).wp w.heap Q->∀i∈rs,wpOp c.P g.ops (Ps N X R) i (λa' w'=>(i∉ds->Sf fs w->Sf fs w')/\NL c.P g.ops N X R (Sf fs) ds f ((unb nn m).setIfInBounds i true) a' w') a w
def NoA (c:Cx) (nn:Nat) (g:Rg) (s:Sch):Prop:=∀{ρ:Type} (x:XC c.P ρ) (tg:Tg) (Q:ρ->Heap->Prop) (K:KEnv->M ρ) f rs ds fs v m l (w:Heap),¬(c.trD nn g s f (.A rs ds fs v) m l x tg K).wp w Q
theorem NoA.part {s:Sch} (h:NoA c nn g s):KYj c nn g n w0 N X R s:=λx tg Q K l0 f rs ds fs v m l a w _ _ _ _ _ _ H=>(h x tg Q K f rs ds fs v m l w.heap H).elim
theorem pToS {f:Nat} {ds:List Nat} {fs:List (Heap->Prop)} {v:Bool} {m:Nat} {l:KEnv} {a:Act} {w:World} (hT:Tab g.ops E C W) (hM:TabM nn E C W g.em g.cm g.wm) (hE:EnvK n a l) (hR:Rest w0 w):
  HG c nn g n w0 N X R (some (m,ds,fs,v)) f m l [] [] w (NL c.P g.ops N X R (Sf fs) ds f (unb nn m) a w):=by
 intro ds' fs' hc _ _ _ h
 rcases hc with⟨rfl,rfl⟩|hc
 ·exact h a w rfl hR hE
 ·exact KTX (Sf fs') ds' (KX8 hT hM hc) (h a w rfl hR hE)
theorem KMD {s:Sch} (hT:Tab g.ops E C W) (hM:TabM nn E C W g.em g.cm g.wm) (h:KN0 c nn g n w0 N X R s)
  (he:∀{ρ:Type} (x:XC c.P ρ) tg (K:KEnv->M ρ) f ds fs v m l,c.trD nn g s f (.P ds fs v) m l x tg K=c.trD nn g s f (.S (some (m,ds,fs,v)) [] []) m l x tg K):KWj c nn g n w0 N X R s:=by
 intro ρ x tg Q K l0 f ds fs v m l a w hp hL hk hE hR hv H
 rw [he]at H
 refine h x tg Q K l0 f _ [] [] m l w _ hp (λds' fs' hh=>?_) hk trivial (λm0 ds0 fs0 e=>by cases e;exact hv rfl) (pToS hT hM hE hR) H
 rcases hh with rfl|⟨m0,v0,e⟩
 ·exact hL
 ·cases e;exact hL
theorem KWk {ops:Array Oper} {i:Nat} {o:Oper} {s:Nat} (ho:ops[i]?=some o) (h:anyD ops.toList s=false):(o.dst==some s)=false:=by
 unfold anyD at h
 rw [List.any_eq_false]at h
 have h1:=h o (by rw [OD];exact IW ho)
 cases hd:o.dst with
 |none=>rfl
 |some d=>
  rw [hd]at h1
  simp only [IZ,ne_eq,Option.some.injEq]
  intro e
  subst e
  exact h1 (ID _)
theorem KYk {ops:Array Oper} {i:Nat} {o:Oper} {s:Nat} {tg:Tg} (ho:ops[i]?=some o) (hd:KEh tg o=true) (h:wrT tg ops.toList s=false):(o.dst==some s)=false:=by
 cases tg with
 |none=>exact KWk ho h
 |some q=>
  obtain⟨f,m,sl⟩:=q
  simp only [wrT]at h
  simp only [KEh]at hd
  cases hd':o.dst with
  |none=>rfl
  |some d=>
   rw [hd']at hd
   simp only at hd
   simp only [IZ,ne_eq,Option.some.injEq]
   intro e
   subst e
   rw [h]at hd
   cases hd
theorem Kq.step {ops:Array Oper} {i:Nat} {o:Oper} {l0 l l':KEnv} {tg:Tg} (ho:ops[i]?=some o) (hd:KEh tg o=true) (h:Kq (wrT tg ops.toList) l0 l) (h':Kq (λs=>o.dst==some s) l l'):Kq (wrT tg ops.toList) l0 l':=
 λs hs=>by rw [h' s (KYk ho hd hs)];exact h s hs
theorem KRZ:∀{l:KEnv} {s:Nat},Xt l s=none->look (encL l) s=none
 | [],s,h=>rfl
 |(d,k)::l,s,h=>by
  simp only [Xt]at h
  simp only [encL,Er,look]
  cases hb:Nat.beq d s with
  |true=>rw [hb]at h;cases h
  |false=>rw [hb]at h;exact KRZ h
theorem KN1 {dst:Option Nat} {kd:Kd} {l l':KEnv} (hp:putd c.n c.ps dst kd l=some l'):Kq (λs=>dst==some s) l l':=by
 intro s hs
 cases hd:dst with
 |none=>rw [hd]at hp;simp only [putd,Option.some.injEq]at hp;rw [hp]
 |some d=>
  rw [hd]at hp hs
  simp only [putd]at hp
  cases hb:Nat.blt d c.n with
  |false=>rw [hb]at hp;cases hp
  |true=>
   rw [hb]at hp
   simp only [Fy,Option.some.injEq]at hp
   subst hp
   simp only [encL,Er,look]
   have:Nat.beq d s=false:=by
    cases hx:Nat.beq d s with
    |false=>rfl
    |true=>rw [Eu hx]at hs;simp at hs
   rw [this];rfl
theorem KRa {ρ:Type} {x:XC c.P ρ} {tg:Tg} {Q:ρ->Heap->Prop} {K:KEnv->M ρ} {l0:KEnv} {s:Sch} {i f m:Nat} {o:Oper} {ds:List Nat} {fs:List (Heap->Prop)} {v:Bool} {l:KEnv} {a:Act} {w:World} (hn:n=⟨c.n,[]⟩) (ih:KWj c nn g n w0 N X R s) (hi:g.ops[i]?=some o) (hw:Region.wanted o (yielded g.ops a.tmps)=true) (hlt:Nat.blt i nn=true) (hdo:KEh tg o=true)
  (hX:∀v w,Rest w0 w->x.Th.inl v Q w.heap->X pid {tmps:=#[v],defers:=[]} w) (hL:Lf c nn g n w0 N X R tg ds fs Q K l0) (hk:Kq (wrT tg g.ops.toList) l0 l) (hE:EnvK n a l) (hR:Rest w0 w) (hv:v=true->cj fs w.heap)
  (H:(match ds.contains i with
    |true=>c.stepE x o l none true λl'=>c.trD nn g s f (.P ds fs (nilB fs)) (m|||1<<<i) l' x tg K
    |false=>c.stepE x o l (sopt fs) v λl'=>c.trD nn g s f (.P ds fs true) (m|||1<<<i) l' x tg K:M ρ).wp w.heap Q):
  wpOp c.P g.ops (Ps N X R) i (λa' w'=>(i∉ds->Sf fs w->Sf fs w')/\NL c.P g.ops N X R (Sf fs) ds f ((unb nn m).setIfInBounds i true) a' w') a w:=by
 rw [KNo _ _ _ (Fc hlt)]
 refine wpOp_step hi λKK hK=>?_
 cases hd:ds.contains i with
 |true=>
  rw [hd]at H
  refine KHT (p:=none) hn hw hE hR (λ_=>trivial) H hX λl' a' w' hE' hk' hR' _ H'=>?_
  refine hK _ _ ⟨λhni=>absurd (by simpa using hd) hni,ih x tg Q K l0 f ds fs (nilB fs) _ l' a' w' hX hL (hk.step hi hdo hk') hE' hR' (λhv=>?_) H'⟩
  cases fs with
  |nil=>trivial
  |cons x y=>cases hv
 |false=>
  rw [hd]at H
  refine KHT hn hw hE hR (λh=>KBi.2 (hv h)) H hX λl' a' w' hE' hk' hR' hs H'=>?_
  exact hK _ _ ⟨λ_ _=>KBi.1 hs,ih x tg Q K l0 f ds fs true _ l' a' w' hX hL (hk.step hi hdo hk') hE' hR' (λ_=>KBi.1 hs) H'⟩
theorem KYl (hn0:n=⟨c.n,[]⟩) (hT:Tab g.ops E C W) (hM:TabM nn E C W g.em g.cm g.wm):
  ∀s:Sch,KN0 c nn g n w0 N X R s/\KWj c nn g n w0 N X R s/\KYj c nn g n w0 N X R s:=by
 have hn:n.size=c.n:=by rw [hn0]
 intro s
 induction s with
 |pu i k ih=>
  have hS:KN0 c nn g n w0 N X R (.pu i k):=by
   intro ρ x tg Q K l0 f old rd fs m l w G hX hL hk hf ho hG H
   cases f with
   |zero=>exact H.elim
   |succ f=>
    simp only [Cx.trD]at H
    cases hi:g.ops[i]? with
    |none=>rw [hi]at H;exact H.elim
    |some o=>
     rw [hi]at H
     simp only at H
     cases hg:gst g.ops l o with
     |on=>
      rw [hg]at H
      simp only at H
      cases hdo:KEh tg o with
      |false=>rw [hdo]at H;exact H.elim
      |true=>
      cases hb:KNq nn g.em g.cm m (m|||1<<<i) i with
      |false=>rw [hdo,hb]at H;exact H.elim
      |true=>
       rw [hdo,hb]at H
       simp only [Md.nA,Md.old,Md.rd,Md.fs,F6,Fy]at H
       have hpure:∀(kd:Kd),KJq c.P l o kd.e->(c.putK o.dst l (λl'=>c.trD nn g k f (.S old rd fs) (m|||1<<<i) l' x tg K) kd).wp w.heap Q->G:=by
        intro kd ok H
        unfold Cx.putK at H
        cases hp:putd c.n c.ps o.dst kd l with
        |none=>rw [hp]at H;exact H.elim
        |some l'=>
         rw [hp]at H
         refine ih.1 x tg Q K l0 f old rd fs _ l' w G hX hL (hk.step hi hdo (KN1 hp)) hf ho ?_ H
         intro ds' fs' hc h1 h2 h3 h4
         refine hG ds' fs' hc h1 h2 h3 λa w' hw hR hE=>?_
         refine KV9 (v:=kd.e) (unb nn (m|||1<<<i)) hi rfl (hT.any hi (anyM hM hb)) KLy (Oh ⟨KMC hE hg,λw=>ok n a w hE⟩) rfl ?_
         exact h4 _ w' hw hR (KKV (hn▸hp) hE).1
       cases hs:KQV c.P c.C l o with
       |none=>rw [hs]at H;exact H.elim
       |some s=>
        rw [hs]at H
        cases s with
        |v kd ok=>exact hpure kd ok H
        |p run ok=>
         obtain⟨kd,H,ok⟩:=ok ρ _ _ _ H
         exact hpure kd ok H
        |r run ok=>
         obtain⟨kd,fact,H,hfact,ok⟩:=ok ρ _ _ _ H
         unfold Cx.putK at H
         cases hp:putd c.n c.ps o.dst kd l with
         |none=>rw [hp]at H;exact H.elim
         |some l'=>
          rw [hp]at H
          refine ih.1 x tg Q K l0 f old (rd++[(m,i)]) (fs++[fact]) _ l' w G hX hL (hk.step hi hdo (KN1 hp)) (KVX hf hfact) ho ?_ H
          intro ds' fs' hc h1 h2 h3 h4
          have hrd:rdok nn g ds' rd=true/\KOx nn g.em g.cm g.wm ds' m (m|||1<<<i) i=true:=by
           unfold rdok at h3⊢
           rw [F1,Eg]at h3
           simpa using h3
          have hfw:cj fs' w.heap:=h2 (.inr (by simp))
          refine hG ds' fs' hc (λh hh=>(KKW (h1 h hh)).1) (λ_=>hfw) hrd.1 λa w' hw hR hE=>?_
          refine KX4 (v:=kd.e) (unb nn (m|||1<<<i)) hi rfl (hT.take hi (KZr hM hrd.2)) KLy (Oh ⟨KMC hE hg,λw hw=>ok n a w hE (KKW (h1 _ hw)).2⟩) (by show cj fs' w'.heap;rw [hw];exact hfw) rfl ?_
          exact h4 _ w' hw hR (KKV (hn▸hp) hE).1
        |_=>exact H.elim
     |_=>rw [hg]at H;exact H.elim
  refine⟨hS,KMD hT hM hS λx tg K f ds fs v m l=>by cases f<;>rfl,NoA.part λx tg Q K f rs ds fs v m l w H=>?_⟩
  cases f with
  |zero=>exact H
  |succ f=>
   simp only [Cx.trD,Md.nA,Fo,cond_false]at H
   split at H
   ·exact H
   ·split at H<;>exact H
 |of i k ih=>
  have hS:KN0 c nn g n w0 N X R (.of i k):=by
   intro ρ x tg Q K l0 f old rd fs m l w G hX hL hk hf ho hG H
   cases f with
   |zero=>exact H.elim
   |succ f=>
    simp only [Cx.trD]at H
    cases hi:g.ops[i]? with
    |none=>rw [hi]at H;exact H.elim
    |some o=>
     rw [hi]at H
     simp only at H
     cases hg:gst g.ops l o with
     |off=>
      rw [hg]at H
      simp only at H
      cases hdo:KEh tg o with
      |false=>rw [hdo]at H;exact H.elim
      |true=>
      cases hb:KNq nn g.em g.cm m (m|||1<<<i) i with
      |false=>rw [hdo,hb]at H;exact H.elim
      |true=>
       rw [hdo,hb]at H
       simp only [Md.nA,Md.old,Md.rd,Md.fs,F6,Fy]at H
       unfold Cx.putK at H
       cases hp:putd c.n c.ps o.dst .U l with
       |none=>rw [hp]at H;exact H.elim
       |some l'=>
        rw [hp]at H
        refine ih.1 x tg Q K l0 f old rd fs _ l' w G hX hL (hk.step hi hdo (KN1 hp)) hf ho ?_ H
        intro ds' fs' hc h1 h2 h3 h4
        refine hG ds' fs' hc h1 h2 h3 λa w' hw hR hE=>?_
        refine KV9 (v:=undef) (unb nn (m|||1<<<i)) hi rfl (hT.any hi (anyM hM hb)) KLy (Or.inr ⟨KWh hE hg,rfl⟩) rfl ?_
        exact h4 _ w' hw hR (KKV (hn▸hp) hE).1
     |_=>rw [hg]at H;exact H.elim
  refine⟨hS,KMD hT hM hS λx tg K f ds fs v m l=>by cases f<;>rfl,NoA.part λx tg Q K f rs ds fs v m l w H=>?_⟩
  cases f with
  |zero=>exact H
  |succ f=>
   simp only [Cx.trD,Md.nA,Fo,cond_false]at H
   split at H
   ·exact H
   ·split at H<;>exact H
 |g j kt kf iht ihf=>
  have hS:KN0 c nn g n w0 N X R (.g j kt kf):=by
   intro ρ x tg Q K l0 f old rd fs m l w G hX hL hk hf ho hG H
   simp only [Cx.trD]at H
   cases hj:(g.ops[j]?).bind (·.dst)with
   |none=>rw [hj]at H;exact H.elim
   |some t=>
    rw [hj]at H
    simp only at H
    cases hl:Xt l t with
    |none=>rw [hl]at H;exact H.elim
    |some kk=>
     rw [hl]at H
     cases kk with
     |B b=>
      simp only [Md.nA,Md.old,Md.rd,Md.fs,Fy]at H
      have hlt:look (encL l) t=some (.bool b):=Vw hl
      have hcut:∀v,b=v->Kq (wrT tg g.ops.toList) l0 ((t,.C v)::l):=by
       intro v hv s hs
       rw [<-hk s hs]
       simp only [encL,Er,look]
       cases hts:Nat.beq t s with
       |false=>rfl
       |true=>
        have e:=Eu hts
        subst e
        have hlt':look (List.map (λp=>(p.fst,p.snd.e)) l) t=some (.bool b):=hlt
        rw [hlt',hv];rfl
      have hgo:∀v,b=v->HG c nn g n w0 N X R old f m ((t,.C v)::l) rd fs w G:=by
       intro v hv ds' fs' hc h1 h2 h3 h4
       exact hG ds' fs' hc h1 h2 h3 λa w' hw hR hE=>h4 a w' hw hR (hE.reb t b v hv hlt)
      rcases KQ6 b with hb|hb
      ·exact iht.1 x tg Q K l0 f old rd fs m _ w G hX hL (hcut true hb) hf ho (hgo true hb) (M.ite_t hb H)
      ·exact ihf.1 x tg Q K l0 f old rd fs m _ w G hX hL (hcut false hb) hf ho (hgo false hb) (M.ite_f hb H)
     |_=>exact H.elim
  refine⟨hS,KMD hT hM hS λx tg K f ds fs v m l=>rfl,NoA.part λx tg Q K f rs ds fs v m l w H=>?_⟩
  simp only [Cx.trD,Md.nA,cond_false]at H
  split at H
  ·exact H
  ·split at H<;>exact H
 |st ds k ih=>
  have hS:KN0 c nn g n w0 N X R (.st ds k):=by
   intro ρ x tg Q K l0 f old rd fs m l w G hX hL hk hf ho hG H
   cases tg with
   |some q=>exact H.elim
   |none=>
   simp only [Cx.trD,Md.nA,Md.rd,Md.old,Md.fs,E9]at H
   cases h1:rdok nn g ds rd with
   |false=>rw [h1]at H;exact H.elim
   |true=>
    cases h2:swOk nn old with
    |false=>rw [h1,h2]at H;exact H.elim
    |true=>
     rw [h1,h2]at H
     simp only [F6,Fy]at H
     refine hG ds fs ?_ (λh hh=>hh) (λ_=>hf) h1 λa w' hw hR hE=>?_
     ·cases old with
      |none=>trivial
      |some q=>obtain⟨m0,ds0,fs0,v⟩:=q;exact .inr h2
     ·exact ih.2.1 x none Q K l0 f ds fs true m l a w' hX (hL _ _ (.inl rfl)) hk hE hR (λ_=>by rw [hw];exact hf) (M.at hw H)
  refine⟨hS,KMD hT hM hS λx tg K f ds fs v m l=>by cases tg<;>rfl,NoA.part λx tg Q K f rs ds fs v m l w H=>?_⟩
  cases tg with
  |some q=>exact H
  |none=>
   simp only [Cx.trD,Md.nA,Fo,cond_false]at H
   exact H
 |nx k ih=>
  have hS:KN0 c nn g n w0 N X R (.nx k):=by
   intro ρ x tg Q K l0 f old rd fs m l w G hX hL hk hf ho hG H
   simp only [Cx.trD,Md.nA,Md.rd,Md.old,Md.fs,E9]at H
   cases rd with
   |cons r rs=>simp only [nilB,Fo,cond_false]at H;exact H.elim
   |nil=>
    cases fs with
    |cons r rs=>simp only [nilB,FH,cond_false]at H;exact H.elim
    |nil=>
     simp only [nilB,F6,Fy]at H
     cases old with
     |none=>exact H.elim
     |some q=>
      obtain⟨m0,ds0,fs0,v⟩:=q
      simp only at H
      refine hG ds0 fs0 (.inl ⟨rfl,rfl⟩) (λ_ _=>trivial) (λh=>by rcases h with h|h;cases h;exact absurd rfl h) rfl λa w' hw hR hE=>?_
      refine ih.2.1 x tg Q K l0 f ds0 fs0 v m l a w' hX (hL _ _ (.inr ⟨m0,v,rfl⟩)) hk hE hR (λhv=>?_) (M.at hw H)
      subst hv
      rw [hw]
      exact ho _ _ _ rfl
  refine⟨hS,KMD hT hM hS λx tg K f ds fs v m l=>rfl,NoA.part λx tg Q K f rs ds fs v m l w H=>?_⟩
  simp only [Cx.trD,Md.nA,Fo,cond_false]at H
  exact H
 |on i k ih=>
  refine⟨λx tg Q K l0 f old rd fs m l w G hX hL hk hf ho hG H=>?_,λx tg Q K l0 f ds fs v m l a w hX hL hk hE hR hv H=>?_,NoA.part λx tg Q K f rs ds fs v m l w H=>?_⟩
  ·cases f<;>exact H.elim
  ·cases f with
   |zero=>exact H.elim
   |succ f=>
    simp only [Cx.trD]at H
    cases hi:g.ops[i]? with
    |none=>rw [hi]at H;exact H.elim
    |some o=>
     rw [hi]at H
     simp only at H
     cases hg:gst g.ops l o with
     |on=>
      rw [hg]at H
      simp only at H
      cases hdo:KEh tg o with
      |false=>rw [hdo]at H;exact H.elim
      |true=>
      cases hb:KTZ nn g.em m (m|||1<<<i) i with
      |false=>rw [hdo,hb]at H;exact H.elim
      |true=>
       rw [hdo,hb]at H
       simp only [F6,Fy]at H
       have hw:=KMC hE hg
       cases hd:ds.contains i with
       |true=>
        rw [hd]at H
        refine KX5 (unb nn (m|||1<<<i)) hi rfl (hT.one (oneM hM hb)) (by simpa using hd) λKK hK=>?_
        refine KHT (p:=none) hn0 hw hE hR (λ_=>trivial) H hX λl' a' w' hE' hk' hR' _ H'=>?_
        refine hK _ _ (ih.2.1 x tg Q K l0 f ds fs (nilB fs) _ l' a' w' hX hL (hk.step hi hdo hk') hE' hR' (λhv=>?_) H')
        cases fs with
        |nil=>trivial
        |cons x y=>cases hv
       |false=>
        rw [hd]at H
        refine one_ (unb nn (m|||1<<<i)) hi rfl (hT.one (oneM hM hb)) (by simpa using hd) λKK hK=>?_
        refine KHT hn0 hw hE hR (λh=>KBi.2 (hv h)) H hX λl' a' w' hE' hk' hR' hs H'=>?_
        exact hK _ _ (KBi.1 hs) λ_=>ih.2.1 x tg Q K l0 f ds fs true _ l' a' w' hX hL (hk.step hi hdo hk') hE' hR' (λ_=>KBi.1 hs) H'
     |_=>rw [hg]at H;exact H.elim
  ·cases f<;>exact H
 |dn=>
  refine⟨λx tg Q K l0 f old rd fs m l w G hX hL hk hf ho hG H=>?_,λx tg Q K l0 f ds fs v m l a w hX hL hk hE hR hv H=>?_,NoA.part λx tg Q K f rs ds fs v m l w H=>?_⟩
  ·cases tg<;>exact H.elim
  ·cases tg with
   |some q=>exact H.elim
   |none=>
    simp only [Cx.trD]at H
    cases hb:KCz m [] g.em 0 with
    |false=>rw [hb]at H;exact H.elim
    |true=>
     rw [hb]at H
     exact KJk hT (KZs hM hb) (hL l a w hE hk hR H)
  ·cases tg<;>exact H
 |fk rs k ih=>
  refine⟨λx tg Q K l0 f old rd fs m l w G hX hL hk hf ho hG H=>?_,λx tg Q K l0 f ds fs v m l a w hX hL hk hE hR hv H=>?_,NoA.part λx tg Q K f rs' ds fs v m l w H=>?_⟩
  ·cases f<;>exact H.elim
  ·cases f with
   |zero=>exact H.elim
   |succ f=>
    simp only [Cx.trD]at H
    cases h1:KCz m rs g.em 0 with
    |false=>rw [h1]at H;exact H.elim
    |true=>
     cases h2:rs.any (λi=>Nat.blt i nn)with
     |false=>rw [h1,h2]at H;exact H.elim
     |true=>
      rw [h1,h2]at H
      simp only [E9]at H
      cases h3:Nat.beq g.em.length nn with
      |false=>rw [h3]at H;exact H.elim
      |true=>
      rw [h3]at H
      have hr:=hM.readyT rs h1
      refine KX7 ((List.range nn).filter λi=>rs.contains i) hT (by rw [hr];simp) ?_ λi hi=>?_
      ·rw [Ig]at h2
       obtain⟨i,hi,hlt⟩:=h2
       have:i∈(List.range nn).filter λi=>rs.contains i:=IA.2 ⟨FQ.2 (Fc hlt),by simpa using hi⟩
       cases hl:(List.range nn).filter λi=>rs.contains i with
       |nil=>rw [hl]at this;cases this
       |cons y ys=>rfl
      ·exact ih.2.2 x tg Q K l0 f rs ds fs v m l a w hX hL hk hE hR hv H i (by simpa using (IA.1 hi).2)
  ·cases f<;>exact H
 |bo i sa sb iha ihb=>
  refine⟨λx tg Q K l0 f old rd fs m l w G hX hL hk hf ho hG H=>H.elim,λx tg Q K l0 f ds fs v m l a w hX hL hk hE hR hv H=>H.elim,λx tg Q K l0 f rs ds fs v m l a w hX hL hk hE hR hv H=>?_⟩
  cases rs with
  |nil=>exact H.elim
  |cons r rs=>
   simp only [Cx.trD]at H
   cases hi:g.ops[i]? with
   |none=>rw [hi]at H;exact H.elim
   |some o=>
    rw [hi]at H
    simp only at H
    cases hg:gst g.ops l o with
    |on=>
     rw [hg]at H
     simp only at H
     cases hri:Nat.beq r i with
     |false=>rw [hri]at H;exact H.elim
     |true=>
     cases hdo:KEh tg o with
     |false=>rw [hri,hdo]at H;exact H.elim
     |true=>
     cases hlt:Nat.blt i nn with
     |false=>rw [hri,hdo,hlt]at H;exact H.elim
     |true=>
      rw [hri,hdo,hlt]at H
      simp only [F6,Fy]at H
      have e:=Eu hri
      subst e
      intro i' hi'
      rcases ED.1 hi' with rfl|hi'
      ·exact KRa hn0 iha.2.1 hi (KMC hE hg) hlt hdo hX hL hk hE hR hv H.1
      ·exact ihb.2.2 x tg Q K l0 f rs ds fs v m l a w hX hL hk hE hR hv H.2 i' hi'
    |_=>rw [hg]at H;exact H.elim
 |la i sa iha=>
  refine⟨λx tg Q K l0 f old rd fs m l w G hX hL hk hf ho hG H=>H.elim,λx tg Q K l0 f ds fs v m l a w hX hL hk hE hR hv H=>H.elim,λx tg Q K l0 f rs ds fs v m l a w hX hL hk hE hR hv H=>?_⟩
  cases rs with
  |nil=>exact H.elim
  |cons r rs=>
   cases rs with
   |cons r' rs=>exact H.elim
   |nil=>
   simp only [Cx.trD]at H
   cases hi:g.ops[i]? with
   |none=>rw [hi]at H;exact H.elim
   |some o=>
    rw [hi]at H
    simp only at H
    cases hg:gst g.ops l o with
    |on=>
     rw [hg]at H
     simp only at H
     cases hri:Nat.beq r i with
     |false=>rw [hri]at H;exact H.elim
     |true=>
     cases hdo:KEh tg o with
     |false=>rw [hri,hdo]at H;exact H.elim
     |true=>
     cases hlt:Nat.blt i nn with
     |false=>rw [hri,hdo,hlt]at H;exact H.elim
     |true=>
      rw [hri,hdo,hlt]at H
      simp only [F6,Fy]at H
      have e:=Eu hri
      subst e
      intro i' hi'
      cases List.mem_singleton.1 hi'
      exact KRa hn0 iha.2.1 hi (KMC hE hg) hlt hdo hX hL hk hE hR hv H
    |_=>rw [hg]at H;exact H.elim
 |jn fx rs ws f' m' sa sb iha ihb=>
  refine⟨λx tg Q K l0 f old rd fs m l w G hX hL hk hf ho hG H=>?_,λx tg Q K l0 f ds fs v m l a w hX hL hk hE hR hv H=>?_,NoA.part λx tg Q K f rs' ds fs v m l w H=>?_⟩
  ·cases tg<;>exact H.elim
  ·cases tg with
   |some q=>exact H.elim
   |none=>
    simp only [Cx.trD]at H
    cases hws:KWi l ws with
    |false=>rw [hws]at H;exact H.elim
    |true=>
    cases hrs:rs.all λp=>anyD g.ops.toList p.1 with
    |false=>rw [hws,hrs]at H;exact H.elim
    |true=>
     rw [hws,hrs]at H
     simp only [F6,Fy]at H
     have hsl:∀s,(rs.any λq=>Nat.beq q.1 s)=(rs.map Prod.fst).contains s:=λs=>by
      rw [EZ,Ig]
      simp only [List.contains_eq_mem,EN,Fv]
      exact⟨λ⟨q,hq,e⟩=>⟨q,hq,Eu e⟩,λ⟨q,hq,e⟩=>⟨q,hq,by rw [e];exact ID _⟩⟩
     have fin:∀(t:TupS rs) (l':KEnv) (a:Act) (w:World),tupE rs l'=some t->EnvK n a l'->Kq (λs=>(rs.map Prod.fst++ws).contains s) l l'->Rest w0 w->(c.trD nn g sb f' (.P ds fs (nilB fs)) m' (envT rs t++l) x none K).wp w.heap Q->NL c.P g.ops N X R (Sf fs) ds f' (unb nn m') a w:=by
      intro t l' a w ht hE hkl hR H
      refine ihb.2.1 x none Q K l0 f' ds fs (nilB fs) m' _ a w hX hL (λs hs=>?_) (hE.sub _ λs v hv=>?_) hR (λhv=>?_) H
      ·rw [KEg,zR,hk s hs]
       cases hc:(rs.any λq=>Nat.beq q.1 s)with
       |false=>rfl
       |true=>
        rw [Ig]at hc
        obtain⟨q,hq,e⟩:=hc
        have e:=Eu e
        subst e
        rw [EB]at hrs
        have h1:=hrs q hq
        have h2:anyD g.ops.toList q.1=false:=hs
        rw [h2]at h1
        cases h1
      ·rw [KEg]at hv
       cases h1:look (encL (envT rs t)) s with
       |some v'=>rw [h1]at hv;cases hv;exact KC1 ht s _ h1
       |none=>
        rw [h1]at hv
        simp only at hv
        cases hc:(rs.map Prod.fst++ws).contains s with
        |false=>rw [hkl s hc];exact hv
        |true=>
         have hc2:(rs.map Prod.fst).contains s=true\/ws.contains s=true:=by simpa using hc
         rcases hc2 with hc|hc
         ·rw [<-hsl]at hc
          obtain⟨v',hv'⟩:=KRX ht hc
          rw [h1]at hv'
          cases hv'
         ·unfold KWi at hws
          rw [EB]at hws
          have h2:=hws s (by simpa using hc)
          cases h3:Xt l s with
          |some k=>rw [h3]at h2;cases h2
          |none=>rw [KRZ h3]at hv;cases hv
      ·cases fs with
       |nil=>trivial
       |cons x y=>cases hv
     cases fx with
     |false=>
      simp only at H
      refine iha.2.1 (XC.no c.P (TupS rs)) (some (f',m',rs.map Prod.fst++ws)) (λt h=>(c.trD nn g sb f' (.P ds fs (nilB fs)) m' (envT rs t++l) x none K).wp h Q) (λl'=>match tupE rs l' with
       |some t=>M.pure t
       |none=>M.fail) l f ds fs v m l a w (λv w _ hh=>hh.elim) (λl' a' w' hE' hk' hR' H'=>?_) (λs _=>rfl) hE hR hv (M.unbind H)
      dsimp only at H'
      cases ht:tupE rs l' with
      |none=>rw [ht]at H';exact H'.elim
      |some t=>rw [ht]at H';exact fin t l' a' w' ht hE' hk' hR' H'
     |true=>
      simp only at H
      have H:=x.Th.ok _ _ _ _ H
      refine iha.2.1 (⟨Thr.sum (TupS rs),x.CX⟩:XC c.P (Value⊕TupS rs)) (some (f',m',rs.map Prod.fst++ws)) (λr h=>match r with| .inl v=>x.Th.inl v Q h| .inr t=>(c.trD nn g sb f' (.P ds fs (nilB fs)) m' (envT rs t++l) x none K).wp h Q) (λl'=>match tupE rs l' with
       |some t=>M.pure (.inr t)
       |none=>M.fail) l f ds fs v m l a w (λv w hR hh=>hX v w hR hh) (λl' a' w' hE' hk' hR' H'=>?_) (λs _=>rfl) hE hR hv (M.mono _ (λr h hh=>by cases r<;>exact hh) H)
      dsimp only at H'
      cases ht:tupE rs l' with
      |none=>rw [ht]at H';exact H'.elim
      |some t=>rw [ht]at H';exact fin t l' a' w' ht hE' hk' hR' H'
  ·cases tg<;>exact H
 |je=>
  refine⟨λx tg Q K l0 f old rd fs m l w G hX hL hk hf ho hG H=>?_,λx tg Q K l0 f ds fs v m l a w hX hL hk hE hR hv H=>?_,NoA.part λx tg Q K f rs ds fs v m l w H=>?_⟩
  ·cases tg<;>exact H.elim
  ·cases tg with
   |none=>exact H.elim
   |some q=>
    obtain⟨f',m',sl⟩:=q
    simp only [Cx.trD]at H
    cases h1:Nat.beq f f' with
    |false=>rw [h1]at H;exact H.elim
    |true=>
     cases h2:Nat.beq m m' with
     |false=>rw [h1,h2]at H;exact H.elim
     |true=>
      rw [h1,h2]at H
      have e1:=Eu h1
      have e2:=Eu h2
      subst e1
      subst e2
      exact hL l a w hE hk hR H
  ·cases tg<;>exact H
end
def KWl (n m:Nat):List Nat:=(List.range n).filter m.testBit
def rgOk (P:Program) (g:Rg) (n:Nat):Bool:=
 P.follows .mixedOrders&&ndB g.ops&&Region.noSelect g.ops&&Nat.beq g.ops.size n&&KQ8 (KL2 g.ops) (g.wm.map (KWl n))&&KWF n (KL2 g.ops) (KQ7 g.ops) (g.wm.map (KWl n)) g.em g.cm g.wm
theorem KTv (n:Nat):Array.replicate n false=unb n 0:=by
 apply Array.ext
 ·simp [unb]
 ·intro i h1 h2
  simp [unb]
def Cx.trR (c:Cx) (ops:Array Oper) (em cm wm:List Nat) (s:Sch) (l:KEnv) {ρ:Type} (x:XC c.P ρ) (K:KEnv->M ρ):M ρ:=bif rgOk c.P ⟨ops,em,cm,wm⟩ em.length then c.trD em.length ⟨ops,em,cm,wm⟩ s em.length (.S none [] []) 0 l x none K else M.fail
theorem KYm {c:Cx} {ro:Option Nat} {n:Frm} {w0:World} {ρ:Type} {x:XC c.P ρ} {Q:ρ->Heap->Prop} {K:KEnv->M ρ} {N:Act->World->Prop} {X:Nat->Act->World->Prop} {R:Act->World->Prop} {l:KEnv} {ops:Array Oper} {em cm wm:List Nat} {s:Sch} {id:Nat} {a:Act} {w:World}
  (hn:n=⟨c.n,[]⟩) (hX:∀v w,Rest w0 w->x.Th.inl v Q w.heap->X pid {tmps:=#[v],defers:=[]} w) (hE:EnvK n a l) (hR:Rest w0 w) (H:(c.trR ops em cm wm s l x K).wp w.heap Q) (hN:∀l' a w,EnvK n a l'->Kq (anyD ops.toList) l l'->Rest w0 w->(K l').wp w.heap Q->N a w):
  (Code.region id ops true).wpIn (Fw ro) 1 c.P (Ps N X R) a w:=by
 unfold Cx.trR at H
 cases hb:rgOk c.P ⟨ops,em,cm,wm⟩ em.length with
 |false=>rw [hb]at H;exact H.elim
 |true=>
  rw [hb]at H
  unfold rgOk at hb
  simp only [Eg]at hb
  obtain⟨⟨⟨⟨⟨h1,h2⟩,h3⟩,h4⟩,h5⟩,h6⟩:=hb
  have hT:Tab ops (KL2 ops) (KQ7 ops) (wm.map (KWl em.length)):=⟨h3,rfl,rfl,h5⟩
  have hM:=TabM.of h6
  refine(KYl (c:=c) (nn:=em.length) (g:=⟨ops,em,cm,wm⟩) (n:=n) (w0:=w0) (N:=N) (X:=X) (R:=R) hn hT hM s).1 x none Q K l em.length none [] [] 0 l w _ hX (λ_ _ _=>hN) (λs _=>rfl) trivial (λ_ _ _ e=>by cases e) ?_ H
  intro ds' fs' _ _ h7 _ h8
  have h7:=h7 (.inl rfl)
  exact KF3 (Sf fs') ds' (unb em.length 0) h1 hR (Eu h4) (KTv _) (λw' e=>by show cj fs' w'.heap;rw [e];exact h7) (λw' e hR' _=>h8 a w' e hR' hE) h2
end Gx
namespace Gx
open Go
def Cx.stepX (c:Cx) {ρ:Type} (x:XC c.P ρ):Oper->KEnv->(KEnv->M ρ)->M ρ
 |⟨dst,.call ⟨.value (.func f),args,_⟩,_,_,_,none⟩,l,K=>match KRW f x.CX with
  |some e=>match e.sem l args with
   |some s=>x.Th.thr s.F λr=>c.putK dst l K (kdR s.rk r)
   |none=>M.fail
  |none=>M.fail
 |⟨dst,.call ⟨.value (.tmp t),args,_⟩,ty,_,_,none⟩,l,K=>match Xt l t with
  |some (.V v)=>match opks l args.toList with
   |some kds=>x.Th.thr (KHy c.P (encR (match kT c.P ty with| .T τ=>τ|τ=>[τ])) v (kds.map Kd.e)) λr=>c.putK dst l K (kdR (match kT c.P ty with| .T τ=>τ|τ=>[τ]) r)
   |none=>M.fail
  |_=>M.fail
 |_,_,_=>M.fail
def Cx.trX (c:Cx) {ρ:Type} (x:XC c.P ρ) (ops:Array Oper):List Nat->Nat->List Oper->KEnv->(KEnv->M ρ)->M ρ
 | [],i,L,l,K=>c.trN ops (2*ops.size+1) i L l K
 |k::ks,i,L,l,K=>c.trN ops (2*ops.size+1) i (L.take k) l λl'=>match L.drop k with
  |o::rest=>c.stepX x o l' λl''=>c.trX x ops ks (i+k+1) rest l'' K
  | []=>M.fail
section
variable {c:Cx} {ro:Option Nat} {ops:Array Oper} {X:Nat->Act->World->Prop} {R:Act->World->Prop} {w0:World}
theorem KYn {P:Program} {o:Oper} {a:Act} {w:World} {N1 N K K':Act->World->Prop} (h:∀a w,K a w->K' a w) (hh:o.wpIn (Fw ro) 1 P a w K (Ps N1 X R)):o.wpIn (Fw ro) 1 P a w K' (Ps N X R):=by
 unfold Oper.wpIn at*
 refine⟨hh.1,?_⟩
 have hh:=hh.2
 generalize(o.semAt (Fw ro).round a.eval).run P w=r at*
 cases r with
 |ok x w'=>
  cases x<;>simp only [Oper.uponIn]at hh⊢ <;>
   first
    |exact h _ _ hh
    |exact⟨hh.1,CallsIn.mono hh.2 (λe w'' he=>by cases e<;>first|exact h _ _ he|exact he)⟩
    |exact⟨hh.1,RowsIn.mono hh.2 (λ_ _ he=>h _ _ he)⟩
    |exact⟨hh.1,RoundIn.mono hh.2 (λe w'' he=>by cases e<;>first|exact h _ _ he|exact he)⟩
 |halt x w'=>cases x<;>simp only [Oper.uponIn]at hh⊢ <;>exact hh
theorem KA0 {P:Program} {N1 N:Act->World->Prop} {L2:List Oper} (h:∀a w,N1 a w->wpListIn (Fw ro) 1 P ops (Ps N X R) L2 a w):∀(L1:List Oper) (a:Act) (w:World),wpListIn (Fw ro) 1 P ops (Ps N1 X R) L1 a w->wpListIn (Fw ro) 1 P ops (Ps N X R) (L1++L2) a w
 | [],a,w,H=>h a w H
 |o::L1,a,w,H=>by
  rw [Ey]
  simp only [wpListIn]at H⊢
  split
  ·next hw=>rw [if_pos hw]at H;exact KYn (λa w=>KA0 h L1 a w) H
  ·next hw=>rw [if_neg hw]at H;exact⟨H.1,KA0 h L1 _ _ H.2⟩
theorem KTw {ρ:Type} {Q:ρ->Heap->Prop} {x:XC c.P ρ} {K:KEnv->M ρ} {N:Act->World->Prop} {o:Oper} {rest:List Oper} {l:KEnv} {a:Act} {w:World} (hE:EnvK ⟨c.n,[]⟩ a l) (hR:Rest w0 w) (H:(c.stepX x o l K).wp w.heap Q)
  (hp:∀v w,Rest w0 w->x.Th.inl v Q w.heap->X pid {tmps:=#[v],defers:=[]} w)
  (h:∀l' a' w',EnvK ⟨c.n,[]⟩ a' l'->Kq (λs=>o.dst==some s) l l'->Rest w0 w'->(K l').wp w'.heap Q->wpListIn (Fw ro) 1 c.P ops (Ps N X R) rest a' w'):
  wpListIn (Fw ro) 1 c.P ops (Ps N X R) (o::rest) a w:=by
 unfold Cx.stepX at H
 split at H
 ·next dst f args ts ty pos aft=>
  split at H
  ·next e he=>
   have hf:=KNy he
   split at H
   ·next s hs=>
    have H:=x.Th.ok _ _ _ _ H
    refine wpListIn_plain rfl λK' hK=>⟨λ_ _=>trivial,?_⟩
    rw [KEY (KJi hE (hf▸s.cl) s.ha) (λd h=>by cases h),Oper.uponIn_enter]
    refine⟨λ_=>Ee 1,Gk (((hf▸s.S:Jx c.P f s.vs.toArray (encR s.rk) s.F) w _ H).mono ?_)⟩
    rintro e' w' ⟨r,he',hq,hr⟩
    cases r with
    |inl v=>
     subst he'
     exact⟨v,rfl,by rw [hE.defers];exact hp v w' (hR.trans hr) hq⟩
    |inr r=>
     subst he'
     obtain⟨l',h1,h2,h3⟩:=Yh (n:=⟨c.n,[]⟩) rfl hq hE
     exact hK _ _ (h l' _ w' h1 h2 (hR.trans hr) h3)
   ·exact H.elim
  ·exact H.elim
 ·next dst t args ts ty pos aft=>
  split at H
  ·next v hv=>
   split at H
   ·next kds hk=>
    have H:=x.Th.ok _ _ _ _ H
    obtain⟨f,cap,rfl,hc,hC⟩:=H w rfl
    refine wpListIn_plain rfl λK' hK=>⟨λ_ _=>trivial,?_⟩
    rw [KEY (KKT hE (show opv (encL l) (.tmp t)=some (.func (.func f) #[] cap)from Vw hv) hc (KO2 hk)) (λd h=>by cases h),Oper.uponIn_enter]
    refine⟨λ_=>Ee 1,Gk (hC.mono ?_)⟩
    rintro e' w' ⟨r,he',hq,hr⟩
    cases r with
    |inl v=>
     subst he'
     exact⟨v,rfl,by rw [hE.defers];exact hp v w' (hR.trans hr) hq⟩
    |inr r=>
     subst he'
     obtain⟨l',h1,h2,h3⟩:=Yh (n:=⟨c.n,[]⟩) rfl hq hE
     exact hK _ _ (h l' _ w' h1 h2 (hR.trans hr) h3)
   ·exact H.elim
  ·exact H.elim
 ·exact H.elim
theorem KVY {ρ:Type} {Q:ρ->Heap->Prop} {x:XC c.P ρ} {K:KEnv->M ρ} {N:Act->World->Prop} (hp:∀v w,Rest w0 w->x.Th.inl v Q w.heap->X pid {tmps:=#[v],defers:=[]} w):
  ∀(ks:List Nat) (i:Nat) (L:List Oper) (l:KEnv) (a:Act) (w:World),EnvK ⟨c.n,[]⟩ a l->Rest w0 w->(c.trX x ops ks i L l K).wp w.heap Q->
  (∀l' a' w',EnvK ⟨c.n,[]⟩ a' l'->Kq (anyD L) l l'->Rest w0 w'->(K l').wp w'.heap Q->N a' w')->wpListIn (Fw ro) 1 c.P ops (Ps N X R) L a w
 | [],i,L,l,a,w,hE,hR,H,h=>KRV (n:=⟨c.n,[]⟩) rfl _ i L l a w hE hR H h
 |k::ks,i,L,l,a,w,hE,hR,H,h=>by
  unfold Cx.trX at H
  have e:L=L.take k++L.drop k:=(FR k L).symm
  have hd:∀s,anyD L s=false->anyD (L.take k) s=false/\anyD (L.drop k) s=false:=λs hs=>KJr hs
  generalize hL1:L.take k=L1 at H e hd
  generalize hL2:L.drop k=L2 at H e hd
  rw [e]
  refine KA0 (N1:=λa w=>wpListIn (Fw ro) 1 c.P ops (Ps N X R) L2 a w) (λa w h=>h) L1 a w ?_
  refine KRV (n:=⟨c.n,[]⟩) rfl _ i L1 l a w hE hR H λl' a' w' hE' hk hR' H'=>?_
  cases L2 with
  |nil=>exact H'.elim
  |cons o rest=>
   refine KTw hE' hR' H' hp λl'' a'' w'' hE'' hk'' hR'' H''=>?_
   refine KVY hp ks (i+k+1) rest l'' a'' w'' hE'' hR'' H'' λl3 a3 w3 hE3 hk3 hR3 H3=>h l3 a3 w3 hE3 (λs hs=>?_) hR3 H3
   obtain⟨d1,d2⟩:=hd s hs
   obtain⟨d3,d4⟩:=KH0 d2
   rw [hk3 s d4,hk'' s d3,hk s d1]
end
end Gx
namespace Gx
open Go Gx.Last
inductive Hint (ρ:Type):Type where
 |o
 |q (a b:Hint ρ)
 |b (a:Hint ρ)
 |j (ks:Ks) (f:TupS ks->M ρ) (h:Hint ρ)
 |l (ks ms:Ks) (f:TupS ks->(TupS ms->M ρ)->TupS ms->M ρ) (h:(TupS ms->M ρ)->Hint ρ)
 |r (em cm wm:List Nat) (s:Sch)
 |x (ks:List Nat)
def wrC:Code->Nat->Bool
 | .region _ ops _,s=>anyD ops.toList s
 | .seq a b,s=>wrC a s||wrC b s
 | .cond _ a b,s=>wrC a s||wrC b s
 | .block _ c,s=>wrC c s
 | .loop c,s=>wrC c s
 | .rangeFunc _ _ _ _,_=>true
 | .scope c,s=>wrC c s
 |_,_=>false
def KRb {ρ:Type} (ks ms:Ks) (self:TupS ms->M ρ) (l:KEnv):M ρ:=match tupE ms l with
 |some t=>match tupE ks l with
  |some _=>self t
  |none=>M.fail
 |none=>M.fail
def ksOk (c:Code) (ks ms:Ks):Bool:=ks.all λp=>!(wrC c p.1)&& !(ms.any λq=>Nat.beq q.1 p.1)
def unpB (ops:Array Oper):Bool:=ops.toList.any λo=>match o.op with
 | .panic _=>true
 | .typeAssert _ _ _ _=>true
 | .defer _=>true
 | .go _=>true
 | .send _ _=>true
 | .recv _ _ _=>true
 |_=>false
def Cx.trC (c:Cx) {ρ:Type} (xc:XC c.P ρ):Code->Hint ρ->KEnv->(KEnv->M ρ)->(Nat->KEnv->M ρ)->(KEnv->M ρ)->M ρ
 | .skip,h,l,N,X,R=>match h with
  | .o=>N l
  | .j ks f _=>match tupE ks l with|some t=>f t|none=>M.fail
  |_=>M.fail
 | .label _,h,l,N,X,R=>match h with
  | .o=>N l
  |_=>M.fail
 | .seq x y,h,l,N,X,R=>match h with
  | .o=>c.trC xc x .o l (λl'=>c.trC xc y .o l' N X R) X R
  | .q a b=>c.trC xc x a l (λl'=>c.trC xc y b l' N X R) X R
  | .j ks f _=>match tupE ks l with|some t=>f t|none=>M.fail
  |_=>M.fail
 | .cond o x y,h,l,N,X,R=>match h with
  | .j ks f _=>match tupE ks l with|some t=>f t|none=>M.fail
  |h=>match o with
   | .tmp t=>match(match Xt l t with|some (.B b)=>some b|some (.C b)=>some b|_=>none)with
    |some b=>match h with
     | .o=>M.ite b (c.trC xc x .o l N X R) (c.trC xc y .o l N X R)
     | .q ha hb=>M.ite b (c.trC xc x ha l N X R) (c.trC xc y hb l N X R)
     |_=>M.fail
    |none=>M.fail
   | .const (.bool true)=>match h with
    | .o=>c.trC xc x .o l N X R
    | .q ha _=>c.trC xc x ha l N X R
    |_=>M.fail
   | .const (.bool false)=>match h with
    | .o=>c.trC xc y .o l N X R
    | .q _ hb=>c.trC xc y hb l N X R
    |_=>M.fail
   |_=>M.fail
 | .block id x,h,l,N,X,R=>match h with
  | .j ks f _=>match tupE ks l with|some t=>f t|none=>M.fail
  | .o=>bif Nat.beq pid id then M.fail else c.trC xc x .o l N (λi l'=>bif Nat.beq i id then N l' else X i l') R
  | .b a=>bif Nat.beq pid id then M.fail else c.trC xc x a l N (λi l'=>bif Nat.beq i id then N l' else X i l') R
  |_=>M.fail
 | .scope x,h,l,N,X,R=>match h with
  | .o=>c.trC xc x .o l N X R
  | .b a=>c.trC xc x a l N X R
  |_=>M.fail
 | .exit id,h,l,N,X,R=>match h with
  | .o=>bif Nat.beq pid id then M.fail else X id l
  |_=>M.fail
 | .ret,h,l,N,X,R=>match h with
  | .o=>R l
  |_=>M.fail
 | .loop x,h,l,N,X,R=>match h with
  | .j ks f _=>match tupE ks l with|some t=>f t|none=>M.fail
  | .l ks ms f _=>bif ksOk x ks ms then match tupE ks l with
   |some k=>match tupE ms l with
    |some s=>M.loop (f k) s
    |none=>M.fail
   |none=>M.fail
   else M.fail
  |_=>M.fail
 | .region id ops false,h,l,N,X,R=>match h with
  | .o=>bif unpB ops then M.fail else c.trN ops (2*ops.size+1) 0 ops.toList l N
  | .x ks=>bif unpB ops then M.fail else c.trX xc ops ks 0 ops.toList l N
  | .j ks f _=>match tupE ks l with|some t=>f t|none=>M.fail
  |_=>M.fail
 | .region id ops true,h,l,N,X,R=>match h with
  | .r em cm wm s=>c.trR ops em cm wm s l xc N
  | .j ks f _=>match tupE ks l with|some t=>f t|none=>M.fail
  |_=>M.fail
 |_,_,_,_,_,_=>M.fail
def Cx.HOk (c:Cx) {ρ:Type} (xc:XC c.P ρ):Hint ρ->Code->(KEnv->M ρ)->(Nat->KEnv->M ρ)->(KEnv->M ρ)->Prop
 | .j ks f h,x,N,X,R=>(∀t,f t=c.trC xc x h (envT ks t) N X R)/\c.HOk xc h x N X R
 | .l ks ms f h,.loop x,N,X,R=>∀self,(∀k s,f k self s=c.trC xc x (h self) (envT ms s++envT ks k) (KRb ks ms self) X R)/\c.HOk xc (h self) x (KRb ks ms self) X R
 | .q a b,.seq x y,N,X,R=>c.HOk xc a x (λl'=>c.trC xc y b l' N X R) X R/\c.HOk xc b y N X R
 | .q a b,.cond _ x y,N,X,R=>c.HOk xc a x N X R/\c.HOk xc b y N X R
 | .b a,.block id x,N,X,R=>c.HOk xc a x N (λi l'=>bif Nat.beq i id then N l' else X i l') R
 | .b a,.scope x,N,X,R=>c.HOk xc a x N X R
 |_,_,_,_,_=>True
section
variable {c:Cx} {ro:Option Nat} {n:Frm} {w0:World} {ρ:Type} {Q:ρ->Heap->Prop} {xc:XC c.P ρ}
def PHyp (c:Cx) (n:Frm) (w0:World) {ρ:Type} (Q:ρ->Heap->Prop) (xc:XC c.P ρ) (X':Nat->Act->World->Prop):Prop:=n=⟨c.n,[]⟩/\∀v w,Rest w0 w->xc.Th.inl v Q w.heap->X' pid {tmps:=#[v],defers:=[]} w
def TrOk (c:Cx) (ro:Option Nat) (n:Frm) (w0:World) {ρ:Type} (Q:ρ->Heap->Prop) (xc:XC c.P ρ) (x:Code) (h:Hint ρ):Prop:=
 ∀(l:KEnv) (N:KEnv->M ρ) (X:Nat->KEnv->M ρ) (R:KEnv->M ρ) (N':Act->World->Prop) (X':Nat->Act->World->Prop) (R':Act->World->Prop) (a:Act) (w:World),
  c.HOk xc h x N X R->
  (∀l' a w,EnvK n a l'->zKp (wrC x) l l'->Rest w0 w->(N l').wp w.heap Q->N' a w)->
  (∀i l' a w,EnvK n a l'->zKp (wrC x) l l'->Rest w0 w->(X i l').wp w.heap Q->X' i a w)->
  (∀l' a w,EnvK n a l'->Rest w0 w->(R l').wp w.heap Q->R' a w)->
  PHyp c n w0 Q xc X'->EnvK n a l->Rest w0 w->(c.trC xc x h l N X R).wp w.heap Q->x.wpIn (Fw ro) 1 c.P (Ps N' X' R') a w
theorem KVZ {x y:Code} {a b:Hint ρ} (h1:TrOk c ro n w0 Q xc x a) (h2:TrOk c ro n w0 Q xc y b):∀(l:KEnv) (N:KEnv->M ρ) (X:Nat->KEnv->M ρ) (R:KEnv->M ρ) (N':Act->World->Prop) (X':Nat->Act->World->Prop) (R':Act->World->Prop) (aa:Act) (w:World),
  c.HOk xc a x (λl'=>c.trC xc y b l' N X R) X R->c.HOk xc b y N X R->
  (∀l' a w,EnvK n a l'->zKp (wrC (.seq x y)) l l'->Rest w0 w->(N l').wp w.heap Q->N' a w)->
  (∀i l' a w,EnvK n a l'->zKp (wrC (.seq x y)) l l'->Rest w0 w->(X i l').wp w.heap Q->X' i a w)->
  (∀l' a w,EnvK n a l'->Rest w0 w->(R l').wp w.heap Q->R' a w)->
  PHyp c n w0 Q xc X'->EnvK n aa l->Rest w0 w->(c.trC xc x a l (λl'=>c.trC xc y b l' N X R) X R).wp w.heap Q->(Code.seq x y).wpIn (Fw ro) 1 c.P (Ps N' X' R') aa w:=by
 intro l N X R N' X' R' aa w ha hb hN hX hR hP hE hW H
 have e1:∀s,wrC (.seq x y) s=false->wrC x s=false/\wrC y s=false:=λs hs=>by simpa [wrC] using hs
 refine GQ λK hK=>?_
 refine h1 l _ X R K X' R' aa w ha (λl' a' w' hE' hk hW' H'=>hK _ _ ?_) (λi l' a' w' hE' hk hW' H'=>hX i l' a' w' hE' (hk.wide λs hs=>(e1 s hs).1) hW' H') hR hP hE hW H
 exact h2 l' N X R N' X' R' a' w' hb (λl'' a'' w'' hE'' hk'' hW'' H''=>hN l'' a'' w'' hE'' (hk.trans hk'' e1) hW'' H'') (λi l'' a'' w'' hE'' hk'' hW'' H''=>hX i l'' a'' w'' hE'' (hk.trans hk'' e1) hW'' H'') hR hP hE' hW' H'
theorem KKX {x y:Code} {ha hb:Hint ρ} {t:Nat} {b:Bool} (h1:TrOk c ro n w0 Q xc x ha) (h2:TrOk c ro n w0 Q xc y hb):∀(l:KEnv) (N:KEnv->M ρ) (X:Nat->KEnv->M ρ) (R:KEnv->M ρ) (N':Act->World->Prop) (X':Nat->Act->World->Prop) (R':Act->World->Prop) (aa:Act) (w:World),
  look (encL l) t=some (.bool b)->c.HOk xc ha x N X R->c.HOk xc hb y N X R->
  (∀l' a w,EnvK n a l'->zKp (wrC (.cond (.tmp t) x y)) l l'->Rest w0 w->(N l').wp w.heap Q->N' a w)->
  (∀i l' a w,EnvK n a l'->zKp (wrC (.cond (.tmp t) x y)) l l'->Rest w0 w->(X i l').wp w.heap Q->X' i a w)->
  (∀l' a w,EnvK n a l'->Rest w0 w->(R l').wp w.heap Q->R' a w)->
  PHyp c n w0 Q xc X'->EnvK n aa l->Rest w0 w->(M.ite b (c.trC xc x ha l N X R) (c.trC xc y hb l N X R)).wp w.heap Q->(Code.cond (.tmp t) x y).wpIn (Fw ro) 1 c.P (Ps N' X' R') aa w:=by
 intro l N X R N' X' R' aa w hl hha hhb hN hX hR hP hE hW H
 have e1:∀s,wrC (.cond (.tmp t) x y) s=false->wrC x s=false/\wrC y s=false:=λs hs=>by simpa [wrC] using hs
 refine KCw b hE hl (λhb=>?_) (λhb=>?_)
 ·exact h1 l N X R N' X' R' aa w hha (λl' a' w' hE' hk=>hN l' a' w' hE' (hk.wide λs hs=>(e1 s hs).1)) (λi l' a' w' hE' hk=>hX i l' a' w' hE' (hk.wide λs hs=>(e1 s hs).1)) hR hP hE hW (M.ite_t hb H)
 ·exact h2 l N X R N' X' R' aa w hhb (λl' a' w' hE' hk=>hN l' a' w' hE' (hk.wide λs hs=>(e1 s hs).2)) (λi l' a' w' hE' hk=>hX i l' a' w' hE' (hk.wide λs hs=>(e1 s hs).2)) hR hP hE hW (M.ite_f hb H)
theorem KHU {x y:Code} {h:Hint ρ} (b:Bool) (h1:TrOk c ro n w0 Q xc (match b with|true=>x|false=>y) h):∀(l:KEnv) (N:KEnv->M ρ) (X:Nat->KEnv->M ρ) (R:KEnv->M ρ) (N':Act->World->Prop) (X':Nat->Act->World->Prop) (R':Act->World->Prop) (aa:Act) (w:World),
  c.HOk xc h (match b with|true=>x|false=>y) N X R->
  (∀l' a w,EnvK n a l'->zKp (wrC (.cond (.const (.bool b)) x y)) l l'->Rest w0 w->(N l').wp w.heap Q->N' a w)->
  (∀i l' a w,EnvK n a l'->zKp (wrC (.cond (.const (.bool b)) x y)) l l'->Rest w0 w->(X i l').wp w.heap Q->X' i a w)->
  (∀l' a w,EnvK n a l'->Rest w0 w->(R l').wp w.heap Q->R' a w)->
  PHyp c n w0 Q xc X'->EnvK n aa l->Rest w0 w->(c.trC xc (match b with|true=>x|false=>y) h l N X R).wp w.heap Q->(Code.cond (.const (.bool b)) x y).wpIn (Fw ro) 1 c.P (Ps N' X' R') aa w:=by
 intro l N X R N' X' R' aa w hh hN hX hR hP hE hW H
 have e1:∀s,wrC (.cond (.const (.bool b)) x y) s=false->wrC x s=false/\wrC y s=false:=λs hs=>by simpa [wrC] using hs
 cases b with
 |true=>exact KGr true (λ_=>h1 l N X R N' X' R' aa w hh (λl' a' w' hE' hk=>hN l' a' w' hE' (hk.wide λs hs=>(e1 s hs).1)) (λi l' a' w' hE' hk=>hX i l' a' w' hE' (hk.wide λs hs=>(e1 s hs).1)) hR hP hE hW H) (λhb=>by cases hb)
 |false=>exact KGr false (λhb=>by cases hb) (λ_=>h1 l N X R N' X' R' aa w hh (λl' a' w' hE' hk=>hN l' a' w' hE' (hk.wide λs hs=>(e1 s hs).2)) (λi l' a' w' hE' hk=>hX i l' a' w' hE' (hk.wide λs hs=>(e1 s hs).2)) hR hP hE hW H)
theorem KO5 {x:Code} {h:Hint ρ} {id:Nat} (h1:TrOk c ro n w0 Q xc x h):∀(l:KEnv) (N:KEnv->M ρ) (X:Nat->KEnv->M ρ) (R:KEnv->M ρ) (N':Act->World->Prop) (X':Nat->Act->World->Prop) (R':Act->World->Prop) (aa:Act) (w:World),
  c.HOk xc h x N (λi l'=>bif Nat.beq i id then N l' else X i l') R->
  (∀l' a w,EnvK n a l'->zKp (wrC (.block id x)) l l'->Rest w0 w->(N l').wp w.heap Q->N' a w)->
  (∀i l' a w,EnvK n a l'->zKp (wrC (.block id x)) l l'->Rest w0 w->(X i l').wp w.heap Q->X' i a w)->
  (∀l' a w,EnvK n a l'->Rest w0 w->(R l').wp w.heap Q->R' a w)->
  PHyp c n w0 Q xc X'->EnvK n aa l->Rest w0 w->(bif Nat.beq pid id then M.fail else c.trC xc x h l N (λi l'=>bif Nat.beq i id then N l' else X i l') R).wp w.heap Q->(Code.block id x).wpIn (Fw ro) 1 c.P (Ps N' X' R') aa w:=by
 intro l N X R N' X' R' aa w hh hN hX hR hP hE hW H
 cases hp:Nat.beq pid id with
 |true=>rw [hp]at H;exact H.elim
 |false=>
  rw [hp]at H
  refine KHk ?_ hp
  refine h1 l N _ R N' (Xu X' id N') R' aa w hh hN (λi l' a' w' hE' hk hW' H'=>?_) hR ⟨hP.1,λv w hW H=>Xu.ne hp (hP.2 v w hW H)⟩ hE hW H
  cases hi:Nat.beq i id with
  |true=>
   rw [hi]at H'
   have e:=Eu hi
   subst e
   exact Xu.same (hN l' a' w' hE' hk hW' H')
  |false=>
   rw [hi]at H'
   exact Xu.ne hi (hX i l' a' w' hE' hk hW' H')
theorem zE {P:Program} {b:Frame} {a:Act} {k:List Item} {cs:List Frame} {w:World} {c:Code}:step P (lone (b.atR a (.code (.scope c)::k)) cs w)=.next (lone (b.atR a (.code c::.inScope c::k)) cs w):=
 step_lone_go (by simp [stepG,stepG.exec,Frame.atR])
theorem KJG {P:Program} {b:Frame} {a:Act} {k:List Item} {cs:List Frame} {w:World} {c:Code}:step P (lone (b.atR a (.inScope c::k)) cs w)=.next (lone (b.atR a k) cs w):=
 step_lone_go (by simp [stepG,stepG.exec,Frame.atR])
theorem KWm {P:Program} {N:Act->World->Prop} {X:Nat->Act->World->Prop} {R:Act->World->Prop} {a:Act} {w:World} {x:Code} (h:x.wpIn (Fw ro) 1 P (Ps N X R) a w):(Code.scope x).wpIn (Fw ro) 1 P (Ps N X R) a w:=by
 intro b k cs hro _ _
 obtain⟨e,a₁,w₁,hq,harr⟩:=h b (.inScope x::k) cs hro trivial (KOr _)
 cases e with
 |normal=>exact⟨.normal,a₁,w₁,hq,StepsIn.trans (.one (calm rfl) zE) (StepsIn.trans harr (.one (calm rfl) KJG))⟩
 |exit id=>
  have h2:ArrivesIn (Machine.fenced P (Fw ro)) P (lone (b.atR a (.code x::.inScope x::k)) cs w) b k cs (.exit id) a₁ w₁:=
   ⟨λk' hk=>harr.1 k' (by simpa [exitTo] using hk),λhr hk=>harr.2 hr (by simpa [exitTo] using hk)⟩
  exact⟨.exit id,a₁,w₁,hq,.of_steps (.one (calm rfl) zE) h2⟩
 |goto l=>exact hq.elim
 |ret=>
  have h2:ArrivesIn (Machine.fenced P (Fw ro)) P (lone (b.atR a (.code x::.inScope x::k)) cs w) b k cs .ret a₁ w₁:=harr
  exact⟨.ret,a₁,w₁,hq,.of_steps (.one (calm rfl) zE) h2⟩
 |panic ch=>
  have h2:ArrivesIn (Machine.fenced P (Fw ro)) P (lone (b.atR a (.code x::.inScope x::k)) cs w) b k cs (.panic ch) a₁ w₁:=harr
  exact⟨.panic ch,a₁,w₁,hq,.of_steps (.one (calm rfl) zE) h2⟩
 |outgrown=>exact hq.elim
theorem KO6 {x:Code} {h:Hint ρ} (h1:TrOk c ro n w0 Q xc x h):∀(l:KEnv) (N:KEnv->M ρ) (X:Nat->KEnv->M ρ) (R:KEnv->M ρ) (N':Act->World->Prop) (X':Nat->Act->World->Prop) (R':Act->World->Prop) (aa:Act) (w:World),
  c.HOk xc h x N X R->
  (∀l' a w,EnvK n a l'->zKp (wrC (.scope x)) l l'->Rest w0 w->(N l').wp w.heap Q->N' a w)->
  (∀i l' a w,EnvK n a l'->zKp (wrC (.scope x)) l l'->Rest w0 w->(X i l').wp w.heap Q->X' i a w)->
  (∀l' a w,EnvK n a l'->Rest w0 w->(R l').wp w.heap Q->R' a w)->
  PHyp c n w0 Q xc X'->EnvK n aa l->Rest w0 w->(c.trC xc x h l N X R).wp w.heap Q->(Code.scope x).wpIn (Fw ro) 1 c.P (Ps N' X' R') aa w:=
 λl N X R N' X' R' aa w hh hN hX hR hP hE hW H=>KWm (h1 l N X R N' X' R' aa w hh hN hX hR hP hE hW H)
theorem tr_j {x:Code} {ks:Ks} {f:TupS ks->M ρ} {h:Hint ρ} (h1:TrOk c ro n w0 Q xc x h)
  (he:∀l N X R,c.trC xc x (.j ks f h) l N X R=match tupE ks l with|some t=>f t|none=>M.fail):TrOk c ro n w0 Q xc x (.j ks f h):=by
 intro l N X R N' X' R' a w hh hN hX hR hP hE hW H
 rw [he]at H
 cases ht:tupE ks l with
 |none=>rw [ht]at H;exact H.elim
 |some t=>
  rw [ht]at H
  have hk:zKp (wrC x) l (envT ks t):=λs v _ hv=>KC1 ht s v hv
  have hd:c.HOk xc h x N X R:=by cases x<;>exact hh.2
  have hf:f t=c.trC xc x h (envT ks t) N X R:=by cases x<;>exact hh.1 t
  simp only [hf]at H
  exact h1 (envT ks t) N X R N' X' R' a w hd (λl' a' w' hE' hk'=>hN l' a' w' hE' (hk.trans hk' λs hs=>⟨hs,hs⟩)) (λi l' a' w' hE' hk'=>hX i l' a' w' hE' (hk.trans hk' λs hs=>⟨hs,hs⟩)) hR hP (hE.sub _ (KC1 ht)) hW H
theorem KYo {id:Nat} {ops:Array Oper}:TrOk c ro n w0 Q xc (.region id ops false) (.o:Hint ρ)\/n.size≠c.n:=by
 by_cases hn:n.size=c.n
 ·refine .inl λl N X R N' X' R' a w hh hN hX hR hP hE hW H=>?_
  refine JE ?_
  have H:(bif unpB ops then M.fail else c.trN ops (2*ops.size+1) 0 ops.toList l N).wp w.heap Q:=H
  cases hu:unpB ops with
  |true=>rw [hu]at H;exact H.elim
  |false=>
  rw [hu]at H
  exact KRV hn _ 0 ops.toList l a w hE hW H λl' a' w' hE' hk hW' H'=>hN l' a' w' hE' hk.kp hW' H'
 ·exact .inr hn
theorem tr_o (hn:n.size=c.n):∀x:Code,TrOk c ro n w0 Q xc x (.o:Hint ρ):=by
 intro x
 induction x with
 |skip=>exact λl N X R N' X' R' a w hh hN hX hR hP hE hW H=>KJf (hN l a w hE .refl hW H)
 |label i=>exact λl N X R N' X' R' a w hh hN hX hR hP hE hW H=>wpIn_label (hN l a w hE .refl hW H)
 |region id ops d=>
  cases d with
  |false=>exact KYo.resolve_right (λh=>h hn)
  |true=>exact λl N X R N' X' R' a w hh hN hX hR hP hE hW H=>H.elim
 |seq x y ih1 ih2=>exact λl N X R N' X' R' a w hh hN hX hR hP hE hW H=>KVZ ih1 ih2 l N X R N' X' R' a w (by cases x<;>trivial) (by cases y<;>trivial) hN hX hR hP hE hW H
 |cond o x y ih1 ih2=>
  intro l N X R N' X' R' a w hh hN hX hR hP hE hW H
  have t1:∀N X R,c.HOk xc (.o:Hint ρ) x N X R:=by intro N X R;cases x<;>trivial
  have t2:∀N X R,c.HOk xc (.o:Hint ρ) y N X R:=by intro N X R;cases y<;>trivial
  cases o with
  |tmp t=>
   simp only [Cx.trC]at H
   cases hl:Xt l t with
   |none=>rw [hl]at H;exact H.elim
   |some k=>
    rw [hl]at H
    cases k with
    |B b=>exact KKX ih1 ih2 l N X R N' X' R' a w (Vw hl) (t1 _ _ _) (t2 _ _ _) hN hX hR hP hE hW H
    |C b=>exact KKX ih1 ih2 l N X R N' X' R' a w (Vw hl) (t1 _ _ _) (t2 _ _ _) hN hX hR hP hE hW H
    |_=>exact H.elim
  |const v=>
   cases v with
   |bool b=>
    cases b with
    |true=>exact KHU true ih1 l N X R N' X' R' a w (t1 _ _ _) hN hX hR hP hE hW H
    |false=>exact KHU false ih2 l N X R N' X' R' a w (t2 _ _ _) hN hX hR hP hE hW H
   |_=>exact H.elim
  |_=>exact H.elim
 |block id x ih=>exact λl N X R N' X' R' a w hh hN hX hR hP hE hW H=>KO5 ih l N X R N' X' R' a w (by cases x<;>trivial) hN hX hR hP hE hW H
 |scope x ih=>exact λl N X R N' X' R' a w hh hN hX hR hP hE hW H=>KO6 ih l N X R N' X' R' a w (by cases x<;>trivial) hN hX hR hP hE hW H
 |exit id=>
  intro l N X R N' X' R' a w hh hN hX hR hP hE hW H
  simp only [Cx.trC]at H
  cases hp:Nat.beq pid id with
  |true=>rw [hp]at H;exact H.elim
  |false=>rw [hp]at H;exact KXr (hX id l a w hE .refl hW H) hp
 |ret=>exact λl N X R N' X' R' a w hh hN hX hR hP hE hW H=>KNh (hR l a w hE hW H)
 |_=>exact λl N X R N' X' R' a w hh hN hX hR hP hE hW H=>H.elim
theorem KYp (hn:n.size=c.n):∀(h:Hint ρ) (x:Code),TrOk c ro n w0 Q xc x h:=by
 intro h
 induction h with
 |o=>exact tr_o hn
 |q ha hb ih1 ih2=>
  intro x l N X R N' X' R' a w hh hN hX hR hP hE hW H
  cases x with
  |seq x y=>exact KVZ (ih1 x) (ih2 y) l N X R N' X' R' a w hh.1 hh.2 hN hX hR hP hE hW H
  |cond o x y=>
   cases o with
   |tmp t=>
    simp only [Cx.trC]at H
    cases hl:Xt l t with
    |none=>rw [hl]at H;exact H.elim
    |some k=>
     rw [hl]at H
     cases k with
     |B b=>exact KKX (ih1 x) (ih2 y) l N X R N' X' R' a w (Vw hl) hh.1 hh.2 hN hX hR hP hE hW H
     |C b=>exact KKX (ih1 x) (ih2 y) l N X R N' X' R' a w (Vw hl) hh.1 hh.2 hN hX hR hP hE hW H
     |_=>exact H.elim
   |const v=>
    cases v with
    |bool b=>
     cases b with
     |true=>exact KHU true (ih1 x) l N X R N' X' R' a w hh.1 hN hX hR hP hE hW H
     |false=>exact KHU false (ih2 y) l N X R N' X' R' a w hh.2 hN hX hR hP hE hW H
    |_=>exact H.elim
   |_=>exact H.elim
  |region id ops d=>cases d<;>exact H.elim
  |_=>exact H.elim
 |b ha ih=>
  intro x l N X R N' X' R' a w hh hN hX hR hP hE hW H
  cases x with
  |block id x=>exact KO5 (ih x) l N X R N' X' R' a w hh hN hX hR hP hE hW H
  |scope x=>exact KO6 (ih x) l N X R N' X' R' a w hh hN hX hR hP hE hW H
  |region id ops d=>cases d<;>exact H.elim
  |cond o x y=>
   cases o with
   |tmp t=>
    simp only [Cx.trC]at H
    split at H<;>exact H.elim
   |const v=>
    cases v with
    |bool b=>cases b<;>exact H.elim
    |_=>exact H.elim
   |_=>exact H.elim
  |_=>exact H.elim
 |j ks f h ih=>
  intro x
  cases x with
  |label i=>exact λl N X R N' X' R' a w hh hN hX hR hP hE hW H=>H.elim
  |exit i=>exact λl N X R N' X' R' a w hh hN hX hR hP hE hW H=>H.elim
  |ret=>exact λl N X R N' X' R' a w hh hN hX hR hP hE hW H=>H.elim
  |rangeFunc _ _ _ _=>exact λl N X R N' X' R' a w hh hN hX hR hP hE hW H=>H.elim
  |scope _=>exact λl N X R N' X' R' a w hh hN hX hR hP hE hW H=>H.elim
  |goto _=>exact λl N X R N' X' R' a w hh hN hX hR hP hE hW H=>H.elim
  |refuse _=>exact λl N X R N' X' R' a w hh hN hX hR hP hE hW H=>H.elim
  |region id ops d=>cases d<;>exact tr_j (ih _) (λ_ _ _ _=>rfl)
  |_=>exact tr_j (ih _) (λ_ _ _ _=>rfl)
 |r em cm wm s=>
  intro x l N X R N' X' R' a w hh hN hX hR hP hE hW H
  cases x with
  |region id ops d=>
   cases d with
   |false=>exact H.elim
   |true=>exact KYm hP.1 hP.2 hE hW H λl' a' w' hE' hk hW' H'=>hN l' a' w' hE' hk.kp hW' H'
  |cond o x y=>
   cases o with
   |tmp t=>
    simp only [Cx.trC]at H
    split at H<;>exact H.elim
   |const v=>
    cases v with
    |bool b=>cases b<;>exact H.elim
    |_=>exact H.elim
   |_=>exact H.elim
  |_=>exact H.elim
 |x ks=>
  intro x l N X R N' X' R' a w hh hN hX hR hP hE hW H
  cases x with
  |region id ops d=>
   cases d with
   |true=>exact H.elim
   |false=>
    refine JE ?_
    have H:(bif unpB ops then M.fail else c.trX xc ops ks 0 ops.toList l N).wp w.heap Q:=H
    cases hu:unpB ops with
    |true=>rw [hu]at H;exact H.elim
    |false=>
    rw [hu]at H
    obtain⟨rfl,hP⟩:=hP
    exact KVY hP ks 0 ops.toList l a w hE hW H λl' a' w' hE' hk hW' H'=>hN l' a' w' hE' hk.kp hW' H'
  |cond o x y=>
   cases o with
   |tmp t=>
    simp only [Cx.trC]at H
    split at H<;>exact H.elim
   |const v=>
    cases v with
    |bool b=>cases b<;>exact H.elim
    |_=>exact H.elim
   |_=>exact H.elim
  |_=>exact H.elim
 |l ks ms f h ih=>
  intro x l N X R N' X' R' a w hh hN hX hR hP hE hW H
  cases x with
  |region id ops d=>cases d<;>exact H.elim
  |cond o x y=>
   cases o with
   |tmp t=>
    simp only [Cx.trC]at H
    split at H<;>exact H.elim
   |const v=>
    cases v with
    |bool b=>cases b<;>exact H.elim
    |_=>exact H.elim
   |_=>exact H.elim
  |loop x=>
   simp only [Cx.trC]at H
   cases hok:ksOk x ks ms with
   |false=>rw [hok]at H;exact H.elim
   |true=>
    rw [hok]at H
    simp only [Fy]at H
    cases hk:tupE ks l with
    |none=>rw [hk]at H;exact H.elim
    |some k=>
     rw [hk]at H
     simp only at H
     cases hs:tupE ms l with
     |none=>rw [hs]at H;exact H.elim
     |some s=>
      rw [hs]at H
      have hall:∀q,(ks.any λp=>Nat.beq p.1 q)=true->wrC x q=false/\(ms.any λp=>Nat.beq p.1 q)=false:=by
       intro q hq
       rw [Ig]at hq
       obtain⟨p,hp,hq⟩:=hq
       have e:=Eu hq
       subst e
       unfold ksOk at hok
       rw [EB]at hok
       have:=hok p hp
       simpa using this
      have hsub:∀t:TupS ms,∀q v,look (encL (envT ms t++envT ks k)) q=some v->look (encL (envT ms t)) q=some v\/(look (encL (envT ks k)) q=some v/\look (encL (envT ms t)) q=none):=by
       intro t q v hv
       rw [KEg]at hv
       cases h1:look (encL (envT ms t)) q with
       |some v'=>rw [h1]at hv;exact .inl hv
       |none=>rw [h1]at hv;exact .inr ⟨hv,rfl⟩
      have hE0:EnvK n a (envT ms s++envT ks k):=hE.sub _ λq v hv=>by
       rcases hsub s q v hv with h1|h1
       ·exact KC1 hs q v h1
       ·exact KC1 hk q v h1.1
      have hkp:∀t:TupS ms,(∀q v,wrC x q=false->look (encL (envT ms t)) q=some v->look (encL l) q=some v)->zKp (wrC (.loop x)) l (envT ms t++envT ks k):=by
       intro t ht q v hq hv
       rcases hsub t q v hv with h1|h1
       ·exact ht q v hq h1
       ·exact KC1 hk q v h1.1
      refine KX3 (w0:=w0) (λ_=>n) (λt:{t:TupS ms // ∀q v,wrC x q=false->look (encL (envT ms t)) q=some v->look (encL l) q=some v}=>encL (envT ms t.1++envT ks k)) (Q:=Q) (F:=λself t=>f k (λt'=>⟨λh' Q'=>∀(hp:∀q v,wrC x q=false->look (encL (envT ms t')) q=some v->look (encL l) q=some v),(self ⟨t',hp⟩).wp h' Q',λhq hw hp=>(self ⟨t',hp⟩).mono hq (hw hp)⟩) t.1) (s:=⟨s,λq v _ hv=>KC1 hs q v hv⟩) ?_ hE0 hW ?_
      ·
       intro Y hY
       refine H (λt h=>∀hp,Y ⟨t,hp⟩ h) ?_ _
       intro t h hf hp
       exact hY ⟨t,hp⟩ h hf
      ·intro Y self hself t a' w' hE' hW' H'
       have hh:=hh (λt'=>⟨λh' Q'=>∀(hp:∀q v,wrC x q=false->look (encL (envT ms t')) q=some v->look (encL l) q=some v),(self ⟨t',hp⟩).wp h' Q',λhq hw hp=>(self ⟨t',hp⟩).mono hq (hw hp)⟩)
       rw [hh.1 k t.1]at H'
       refine ih _ x (envT ms t.1++envT ks k) _ X R Y X' R' a' w' hh.2 (λl' a'' w'' hE'' hk'' hW'' H''=>?_) (λi l' a'' w'' hE'' hk'' hW'' H''=>hX i l' a'' w'' hE'' ((hkp t.1 t.2).trans hk'' λq hq=>⟨hq,hq⟩) hW'' H'') hR hP hE' hW' H'
       unfold KRb at H''
       cases h1:tupE ms l' with
       |none=>rw [h1]at H'';exact H''.elim
       |some t'=>
        rw [h1]at H''
        simp only at H''
        cases h2:tupE ks l' with
        |none=>rw [h2]at H'';exact H''.elim
        |some k'=>
         rw [h2]at H''
         have hp:∀q v,wrC x q=false->look (encL (envT ms t')) q=some v->look (encL l) q=some v:=λq v hq hv=>(hkp t.1 t.2) q v hq (hk'' q v hq (KC1 h1 q v hv))
         refine hself ⟨t',hp⟩ a'' w'' (hE''.sub _ λq v hv=>?_) hW'' (H'' hp)
         rcases hsub t' q v hv with h3|h3
         ·exact KC1 h1 q v h3
         ·have hin:=KMA h3.1
          obtain⟨v',hv'⟩:=KRX h2 hin
          have h4:=KC1 h2 q v' hv'
          have h5:=hk'' q v' (hall q hin).1 h4
          rw [KEg,zR (hall q hin).2]at h5
          simp only at h5
          rw [h3.1]at h5
          cases h5
          exact h4
  |_=>exact H.elim
end
end Gx
namespace Gx
open Go Gx.Last
def Hint.Ob {ρ:Type}:Hint ρ->Type
 | .o=>Unit
 | .q u v=>u.Ob×v.Ob
 | .b u=>u.Ob
 | .j ks f h=>(TupS ks->M ρ)×h.Ob
 | .l ks ms f h=>(self:TupS ms->M ρ)->(TupS ks->TupS ms->M ρ)×(h self).Ob
 | .r _ _ _ _=>Unit
 | .x _=>Unit
def Hint.lhs {ρ:Type}:(h:Hint ρ)->h.Ob
 | .o=>()
 | .q u v=>(u.lhs,v.lhs)
 | .b u=>u.lhs
 | .j ks f h=>(f,h.lhs)
 | .l ks ms f h=>λself=>(λk s=>f k self s,(h self).lhs)
 | .r _ _ _ _=>()
 | .x _=>()
def Cx.rhs (c:Cx) {ρ:Type} (xc:XC c.P ρ):(h:Hint ρ)->Code->(KEnv->M ρ)->(Nat->KEnv->M ρ)->(KEnv->M ρ)->h.Ob
 | .o,_,_,_,_=>()
 | .q a b,.seq x y,N,X,R=>(c.rhs xc a x (λl'=>c.trC xc y b l' N X R) X R,c.rhs xc b y N X R)
 | .q a b,.cond _ x y,N,X,R=>(c.rhs xc a x N X R,c.rhs xc b y N X R)
 | .q a b,_,_,_,_=>(a.lhs,b.lhs)
 | .b a,.block id x,N,X,R=>c.rhs xc a x N (λi l'=>bif Nat.beq i id then N l' else X i l') R
 | .b a,.scope x,N,X,R=>c.rhs xc a x N X R
 | .b a,_,_,_,_=>a.lhs
 | .j ks f h,x,N,X,R=>(λt=>c.trC xc x h (envT ks t) N X R,c.rhs xc h x N X R)
 | .l ks ms f h,.loop x,N,X,R=>λself=>(λk s=>c.trC xc x (h self) (envT ms s++envT ks k) (KRb ks ms self) X R,c.rhs xc (h self) x (KRb ks ms self) X R)
 | .l ks ms f h,_,_,_,_=>λself=>(λk s=>f k self s,(h self).lhs)
 | .r _ _ _ _,_,_,_,_=>()
 | .x _,_,_,_,_=>()
theorem KVa {c:Cx} {ρ:Type} {xc:XC c.P ρ}:∀{h:Hint ρ} {x:Code} {N:KEnv->M ρ} {X:Nat->KEnv->M ρ} {R:KEnv->M ρ},h.lhs=c.rhs xc h x N X R->c.HOk xc h x N X R:=by
 intro h
 induction h with
 |o=>intro x N X R _;cases x<;>trivial
 |r em cm wm s=>intro x N X R _;cases x<;>trivial
 |x ks=>intro x N X R _;cases x<;>trivial
 |q a b iha ihb=>
  intro x N X R e
  cases x with
  |seq x y=>have e:=Prod.mk.inj e;exact⟨iha e.1,ihb e.2⟩
  |cond o x y=>have e:=Prod.mk.inj e;exact⟨iha e.1,ihb e.2⟩
  |_=>trivial
 |b a ih=>
  intro x N X R e
  cases x with
  |block id x=>exact ih e
  |scope x=>exact ih e
  |_=>trivial
 |j ks f h ih=>
  intro x N X R e
  have e:(f,h.lhs)=(λt=>c.trC xc x h (envT ks t) N X R,c.rhs xc h x N X R):=by cases x<;>exact e
  have e:=Prod.mk.inj e
  have:(∀t,f t=c.trC xc x h (envT ks t) N X R)/\c.HOk xc h x N X R:=⟨λt=>OC e.1 t,ih e.2⟩
  cases x<;>exact this
 |l ks ms f h ih=>
  intro x N X R e
  cases x with
  |loop x=>
   intro self
   have e:=Prod.mk.inj (OC e self)
   exact⟨λk s=>OC (OC e.1 k) s,ih self e.2⟩
  |_=>trivial
def ret1 (P:Program) (r:ResultVar) (l:KEnv) {ρ:Type}:(k:Tk)->(k.t0->M ρ)->M ρ:=match r with
 | .tmp t=>λk K=>match Xt l t with
  |some kd=>match k.of kd with
   |some v=>K v
   |none=>M.fail
  |none=>M.fail
 | .cell t ty=>match Xt l t with
  |some (.A a)=>λk=>match k with
   | .G=>λK=>match P.info? ty with
    |some i=>bif agB P ty i.size then ldG i.size a>>=K else M.fail
    |none=>M.fail
   |k=>λK=>bif scB P ty then ldT k a>>=K else M.fail
  |_=>λ_ _=>M.fail
theorem KRc {P:Program} {r:ResultVar} {l:KEnv} {ρ:Type} {k:Tk} {K:k.t0->M ρ} {w:World} {Q:ρ->Heap->Prop} (H:(ret1 P r l k K).wp w.heap Q):
  ∃v:k.t0,(∀{rs vs},RV P (encL l) w rs vs->RV P (encL l) w (r::rs) ((k.kd v).e::vs))/\(K v).wp w.heap Q:=by
 cases r with
 |tmp t=>
  simp only [ret1]at H
  cases hl:Xt l t with
  |none=>rw [hl]at H;exact H.elim
  |some kd=>
   rw [hl]at H
   simp only at H
   cases hk:k.of kd with
   |none=>rw [hk]at H;exact H.elim
   |some v=>
    rw [hk]at H
    refine⟨v,λhr=>⟨?_,hr⟩,H⟩
    rw [Tk.of_e hk]
    exact Vw hl
 |cell t ty=>
  simp only [ret1]at H
  cases hl:Xt l t with
  |none=>rw [hl]at H;exact H.elim
  |some kd=>
   rw [hl]at H
   cases kd with
   |A a=>
    have hlt:look (encL l) t=some (.pointer (some a)):=Vw hl
    have hsc:∀τ:Tk,(∀K:τ.t0->M ρ,(bif scB P ty then ldT τ a>>=K else M.fail).wp w.heap Q->∃v:τ.t0,(∀{rs vs},RV P (encL l) w rs vs->RV P (encL l) w (.cell t ty::rs) ((τ.kd v).e::vs))/\(K v).wp w.heap Q):=by
     intro τ K H
     cases hb:scB P ty with
     |false=>rw [hb]at H;exact H.elim
     |true=>
      rw [hb]at H
      obtain⟨v,hv,H⟩:=KYc H
      exact⟨v,λhr=>RV.cell hlt hb hv hr,H⟩
    cases k with
    |G=>
     simp only at H
     cases hi:P.info? ty with
     |none=>rw [hi]at H;exact H.elim
     |some i=>
      rw [hi]at H
      simp only at H
      cases hb:agB P ty i.size with
      |false=>rw [hb]at H;exact H.elim
      |true=>
       rw [hb]at H
       obtain⟨v,hv,H⟩:=H
       exact⟨v,λhr=>RV.cellG hlt hb hv hr,H⟩
    |_=>exact hsc _ K H
   |_=>exact H.elim
def retM (P:Program) (l:KEnv) {ρ:Type}:List ResultVar->(ks:List Tk)->(Tup ks->M ρ)->M ρ
 | [],[],K=>K ()
 | [r],[k],K=>ret1 P r l k K
 |r::rs,k::k'::ks,K=>ret1 P r l k λv=>retM P l rs (k'::ks) λt=>K (v,t)
 |_,_,_=>M.fail
theorem KRd {P:Program} {l:KEnv} {ρ:Type} {w:World} {Q:ρ->Heap->Prop}:∀{ks:List Tk} {rs:List ResultVar} {K:Tup ks->M ρ},(retM P l rs ks K).wp w.heap Q->
  ∃t:Tup ks,RV P (encL l) w rs ((kdL ks t).map Kd.e)/\(K t).wp w.heap Q:=by
 intro ks
 induction ks with
 |nil=>
  intro rs K H
  cases rs with
  |nil=>exact⟨(),trivial,H⟩
  |cons r rs=>cases rs<;>exact H.elim
 |cons k ks ih=>
  intro rs K H
  cases ks with
  |nil=>
   cases rs with
   |nil=>exact H.elim
   |cons r rs=>
    cases rs with
    |nil=>
     obtain⟨v,h1,h2⟩:=KRc (K:=K) H
     exact⟨v,h1 RV.nil,h2⟩
    |cons r' rs=>exact H.elim
  |cons k' ks=>
   cases rs with
   |nil=>exact H.elim
   |cons r rs=>
    have H:(ret1 P r l k λv=>retM P l rs (k'::ks) λt=>K (v,t)).wp w.heap Q:=by cases rs<;>exact H
    obtain⟨v,h1,H⟩:=KRc H
    obtain⟨t,h2,H⟩:=ih H
    exact⟨(v,t),h1 h2,H⟩
theorem KTx:∀{ks:List Tk} (t:Tup ks),ks.all Tk.flat=true->(kdL ks t).map Kd.e=(kdL ks t).map Kd.e0:=by
 intro ks
 induction ks with
 |nil=>intro t h;rfl
 |cons k ks ih=>
  intro t h
  rw [EX,Eg]at h
  cases ks with
  |nil=>
   show [(k.kd t).e]=[(k.kd t).e0]
   exact Ew (λv=>[v]) (Kd.e_flat (Tk.flat_e h.1 t))
  |cons k' r=>
   show(k.kd (Prod.fst t)).e::(kdL (k'::r) (Prod.snd t)).map Kd.e=(k.kd (Prod.fst t)).e0::(kdL (k'::r) (Prod.snd t)).map Kd.e0
   rw [Kd.e_flat (Tk.flat_e h.1 _),ih _ h.2]
def mvs:List Value->Value
 | [v]=>v
 |vs=>.tuple vs.toArray
theorem KO7 {P:Program} {n:Frm} {a:Act} {w:World} {l:List (Nat×Value)} {fn:Func} {rs:List ResultVar} {vs:List Value} (hE:Env n a l) (hf:fn.results=rs.toArray) (h:RV P l w rs vs):(results fn a.tmps).run P w=.ok (mvs vs) w:=by
 have:=qB hE hf h
 cases vs with
 |nil=>exact this
 |cons v r=>cases r<;>exact this
theorem KRe {ks:List Tk} (t:Tup ks) (h:ks.all Tk.flat=true):mvs ((kdL ks t).map Kd.e)=encR ks t:=by
 cases ks with
 |nil=>rfl
 |cons k ks=>
  cases ks with
  |nil=>rfl
  |cons k' r=>
   rw [KTx t h]
   show _=Value.tuple ((kdL (k::k'::r) t).map Kd.e0).toArray
   cases r<;>rfl
def KGu (f:Func):Code:=match f.body with
 |some c=>c
 |none=>.skip
theorem KG {P:Program} {f:FuncId} {fn:Func} (C:List (CalleeS P)) (ps:List Nat) (rk:List Tk) {args:Ea} {F:M (Tup rk)} (l0:KEnv) (h:Hint (Tup rk))
  (hf:P.funcs[f]?=some fn) (hb:fn.body.isSome=true) (hs:Nat.ble args.size fn.ntmps=true) (hl:KOu args (encL l0)) (hk:rk.all Tk.flat=true)
  (hF:F=Cx.trC ⟨P,C,fn.ntmps,ps⟩ (XC.no P (Tup rk)) (KGu fn) h l0 (λl=>retM P l fn.results.toList rk M.pure) (λ_ _=>M.fail) (λl=>retM P l fn.results.toList rk M.pure))
  (hO:h.lhs=Cx.rhs ⟨P,C,fn.ntmps,ps⟩ (XC.no P (Tup rk)) h (KGu fn) (λl=>retM P l fn.results.toList rk M.pure) (λ_ _=>M.fail) (λl=>retM P l fn.results.toList rk M.pure)):
  KY P f args (encR rk) F:=by
 obtain⟨c,hc⟩:=IQ.1 hb
 have hbo:KGu fn=c:=by unfold KGu;rw [hc]
 rw [hbo]at hF hO
 refine KTN (encL l0) hf hc rfl (Fc hs) (KAH hl) λw0 w Q R a hret hE hR H=>?_
 have hfin:∀l' a w,EnvK ⟨fn.ntmps,[]⟩ a l'->Rest w0 w->(retM P l' fn.results.toList rk M.pure).wp w.heap Q->R a w:=by
  intro l' a w hE hR H
  obtain⟨t,h1,h2⟩:=KRd H
  exact hret a w _ t _ hE hR (KO7 hE (by simp) h1) (KRe t hk) h2
 rw [hF]at H
 exact KYp (c:=⟨P,C,fn.ntmps,ps⟩) (n:=⟨fn.ntmps,[]⟩) rfl h c l0 _ _ _ R X0 R a w (KVa hO) (λl' a w hE _ hR H=>hfin l' a w hE hR H) (λi l' a w _ _ _ H=>H.elim) hfin ⟨rfl,λv w _ H=>H.elim⟩ hE hR H
theorem Zp {P:Program} {f:FuncId} {fn:Func} (C:List (CalleeS P)) (CX:List (CalleeX P)) (ps:List Nat) (rk:List Tk) {args:Ea} {F:M (Value⊕Tup rk)} (l0:KEnv) (h:Hint (Value⊕Tup rk))
  (hf:P.funcs[f]?=some fn) (hb:fn.body.isSome=true) (hs:Nat.ble args.size fn.ntmps=true) (hl:KOu args (encL l0)) (hk:rk.all Tk.flat=true)
  (hF:F=Cx.trC ⟨P,C,fn.ntmps,ps⟩ ⟨Thr.sum (Tup rk),CX⟩ (KGu fn) h l0 (λl=>retM P l fn.results.toList rk λt=>M.pure (.inr t)) (λ_ _=>M.fail) (λl=>retM P l fn.results.toList rk λt=>M.pure (.inr t)))
  (hO:h.lhs=Cx.rhs ⟨P,C,fn.ntmps,ps⟩ ⟨Thr.sum (Tup rk),CX⟩ h (KGu fn) (λl=>retM P l fn.results.toList rk λt=>M.pure (.inr t)) (λ_ _=>M.fail) (λl=>retM P l fn.results.toList rk λt=>M.pure (.inr t))):
  Jx P f args (encR rk) F:=by
 obtain⟨c,hc⟩:=IQ.1 hb
 have hbo:KGu fn=c:=by unfold KGu;rw [hc]
 rw [hbo]at hF hO
 refine KHl (encL l0) hf hc rfl (Fc hs) (KAH hl) λw0 w Q R X a hret hthr hE hR H=>?_
 have hfin:∀l' a w,EnvK ⟨fn.ntmps,[]⟩ a l'->Rest w0 w->(retM P l' fn.results.toList rk λt=>M.pure (.inr t):M (Value⊕Tup rk)).wp w.heap Q->R a w:=by
  intro l' a w hE hR H
  obtain⟨t,h1,h2⟩:=KRd H
  exact hret a w _ t _ hE hR (KO7 hE (by simp) h1) (KRe t hk) h2
 rw [hF]at H
 exact KYp (c:=⟨P,C,fn.ntmps,ps⟩) (xc:=⟨Thr.sum (Tup rk),CX⟩) (n:=⟨fn.ntmps,[]⟩) rfl h c l0 _ _ _ R X R a w (KVa hO) (λl' a w hE _ hR H=>hfin l' a w hE hR H) (λi l' a w _ _ _ H=>H.elim) hfin ⟨rfl,hthr⟩ hE hR H
end Gx
namespace Gx
open Go
end Gx
namespace Gx
open Go Gx.Last
structure EnvD (ds:List Deferred) (m:Nat) (a:Act) (l:List (Nat×Value)):Prop where
 env:Env ⟨m,[]⟩ {tmps:=a.tmps,defers:=[]} l
 def_:a.defers=ds
section
variable {P:Program} {ops:Array Oper} {Q:Exit->Act->World->Prop} {a:Act} {w w0:World} {l:List (Nat×Value)} {rest:List Oper} {o:Oper} {ds:List Deferred} {m:Nat}
theorem EnvD.put (hE:EnvD ds m a l) (d:Nat) (v:Value) (hd:Nat.blt d m=true):EnvD ds m (a.put (some d) v) ((d,v)::l):=⟨hE.env.put d v hd,hE.def_⟩
theorem KEi (h:Q .normal a w):wpListIn (Fw none) 1 P ops Q [] a w:=h
theorem KYq {v:Value} {w1:World} (hg:o.guard=none) (hrun:(execOp a.eval o).run P w=.ok (.value v) w1) (h:wpListIn (Fw none) 1 P ops Q rest (a.put o.dst v) w1):wpListIn (Fw none) 1 P ops Q (o::rest) a w:=by
 refine wpListIn_plain hg λK' hK=>⟨λ_ _=>trivial,?_⟩
 rw [KEY hrun (λd h=>by cases h)]
 exact hK _ _ h
theorem WV {d:Nat} {v:Value} (hd:o.dst=some d) (hg:o.guard=none) (hE:EnvD ds m a l) (hn:Nat.blt d m=true) (hrun:∀b:Act,Env ⟨m,[]⟩ b l->(execOp b.eval o).run P w=.ok (.value v) w)
  (h:∀a',EnvD ds m a' ((d,v)::l)->wpListIn (Fw none) 1 P ops Q rest a' w):wpListIn (Fw none) 1 P ops Q (o::rest) a w:=by
 refine KYq hg (show(execOp a.eval o).run P w=.ok (.value v) w from hrun {tmps:=a.tmps,defers:=[]} hE.env) ?_
 rw [hd]
 exact h _ (hE.put d v hn)
theorem KH1 {d:Nat} {v:Value} {h1:Heap} (hd:o.dst=some d) (hg:o.guard=none) (hE:EnvD ds m a l) (hn:Nat.blt d m=true) (hR:Rest w0 w) (hrun:∀b:Act,Env ⟨m,[]⟩ b l->(execOp b.eval o).run P w=.ok (.value v) {w with heap:=h1})
  (h:∀a' w',EnvD ds m a' ((d,v)::l)->Rest w0 w'->w'.heap=h1->wpListIn (Fw none) 1 P ops Q rest a' w'):wpListIn (Fw none) 1 P ops Q (o::rest) a w:=by
 refine KYq hg (show(execOp a.eval o).run P w=.ok (.value v) {w with heap:=h1}from hrun {tmps:=a.tmps,defers:=[]} hE.env) ?_
 rw [hd]
 exact h _ _ (hE.put d v hn) (hR.trans ⟨rfl,rfl,rfl,Ee _⟩) rfl
theorem KME {h1:Heap} (hd:o.dst=none) (hg:o.guard=none) (hE:EnvD ds m a l) (hR:Rest w0 w) (hrun:∀b:Act,Env ⟨m,[]⟩ b l->(execOp b.eval o).run P w=.ok .skip {w with heap:=h1})
  (h:∀a' w',EnvD ds m a' l->Rest w0 w'->w'.heap=h1->wpListIn (Fw none) 1 P ops Q rest a' w'):wpListIn (Fw none) 1 P ops Q (o::rest) a w:=by
 refine wpListIn_plain hg λK' hK=>⟨λ_ _=>trivial,?_⟩
 rw [KEY (show(execOp a.eval o).run P w=.ok .skip {w with heap:=h1}from hrun {tmps:=a.tmps,defers:=[]} hE.env) (λd h=>by cases h)]
 refine hK _ _ ?_
 rw [hd]
 exact h _ _ hE (hR.trans ⟨rfl,rfl,rfl,Ee _⟩) rfl
theorem KN2 {d:Option Nat} {f:FuncId} {as:Array Operand} {ts:Array TypeId} {ty:TypeId} {pos:String} {aft:Array Edge} {vs:List Value} {ρ:Type} {enc:ρ->Value} {F:M (Value⊕ρ)} {Qx:Value⊕ρ->Heap->Prop}
  (hE:EnvD ds m a l) (hR:Rest w0 w) (hc:Callee? P f) (ha:opvs l as.toList=some vs) (hS:Jx P f vs.toArray enc F) (H:F.wp w.heap Qx)
  (hp:∀v w',Rest w0 w'->Qx (.inl v) w'.heap->Q (.panic [{v:=v,recovered:=false}]) a w')
  (h:∀r a' w',a'=a.put d (enc r)->Rest w0 w'->Qx (.inr r) w'.heap->wpListIn (Fw none) 1 P ops Q rest a' w'):
  wpListIn (Fw none) 1 P ops Q (⟨d,.call {callee:=.value (.func f),args:=as,argTypes:=ts},ty,pos,aft,none⟩::rest) a w:=by
 refine wpListIn_plain rfl λK' hK=>⟨λ_ _=>trivial,?_⟩
 have hrun:(execOp a.eval ⟨d,.call {callee:=.value (.func f),args:=as,argTypes:=ts},ty,pos,aft,none⟩).run P w=.ok (.enter f vs.toArray) w:=KJi (a:={tmps:=a.tmps,defers:=[]}) hE.env hc ha
 rw [KEY hrun (λd h=>by cases h),Oper.uponIn_enter]
 refine⟨λ_=>Ee 1,Gk ((hS w _ H).mono ?_)⟩
 rintro e w' ⟨r,he,hq,hr⟩
 cases r with
 |inl v=>subst he;exact hp v w' (hR.trans hr) hq
 |inr r=>subst he;exact hK _ _ (h r _ w' rfl (hR.trans hr) hq)
theorem KRf {x:Operand} {fv:Fn} {cap:Ea} {ty:TypeId} {pos:String} {aft:Array Edge} (hE:EnvD ds m a l) (hx:opv l x=some (.func fv #[] cap))
  (h:∀a',EnvD ({target:=.fn fv cap,args:=#[]}::ds) m a' l->wpListIn (Fw none) 1 P ops Q rest a' w):
  wpListIn (Fw none) 1 P ops Q (⟨none,.defer {callee:=.value x,args:=#[],argTypes:=#[]},ty,pos,aft,none⟩::rest) a w:=by
 refine wpListIn_plain rfl λK' hK=>⟨λ_ _=>trivial,?_⟩
 have hrun:(execOp a.eval ⟨none,.defer {callee:=.value x,args:=#[],argTypes:=#[]},ty,pos,aft,none⟩).run P w=.ok (.defer {target:=.fn fv cap,args:=#[]}) w:=by
  have hx':a.eval x=.func fv #[] cap:=Env.opv (a:={tmps:=a.tmps,defers:=[]}) hE.env hx
  simp [execOp,resolve,Deferred.ofValue,hx']
 rw [show(Fw none).round=none from rfl,Oper.semAt_none,hrun,Oper.uponIn_defer]
 exact hK _ _ (h _ ⟨hE.env,by show _::a.defers=_;rw [hE.def_]⟩)
theorem Vf {id:Nat} {ops:Array Oper} (h:wpListIn (Fw none) 1 P ops Q ops.toList a w):(Code.region id ops false).wpIn (Fw none) 1 P Q a w:=wpIn_region_list h
theorem KRg {t:Nat} {x y:Code} (b:Bool) (hE:EnvD ds m a l) (hb:look l t=some (.bool b)) (ht:b=true->x.wpIn (Fw none) 1 P Q a w) (hf:b=false->y.wpIn (Fw none) 1 P Q a w):(Code.cond (.tmp t) x y).wpIn (Fw none) 1 P Q a w:=
 wpIn_cond_split (show a.eval (.tmp t)=.bool b from Env.eval (a:={tmps:=a.tmps,defers:=[]}) hE.env hb) ht hf
end
end Gx
namespace Gx
open Go
theorem Upd.set_ (h:Heap) (l:Nat) (o:Obj):Upd l h (h.setIfInBounds l o):=⟨by simp,λi hi=>by rw [FN,if_neg (λe=>hi e.symm)]⟩
theorem KKY {h:Heap} {l:Nat} {o o':Obj} (hb:h[l]?=some o):(h.setIfInBounds l o')[l]?=some o':=by
 rw [FN,if_pos rfl,if_pos (JV hb)]
end Gx
