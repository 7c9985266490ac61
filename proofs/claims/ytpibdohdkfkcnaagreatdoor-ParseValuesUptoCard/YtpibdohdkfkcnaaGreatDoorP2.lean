/- Own library: a small logic of Lean programs over the model's heap, with the laws that tie Go code to it. No condition. -/
import Derived.Test.YtpibdohdkfkcnaaGreatDoorP0
import Derived.Test.YtpibdohdkfkcnaaGreatDoorP1
import Derived.Recover
set_option linter.unusedVariables false
set_option linter.unusedSimpArgs false
namespace Gx
open Go
abbrev EnvK (n:Frm) (a:Act) (l:KEnv):Prop:=Env n a (encL l)
def zKp (W:Nat→Bool) (l l':KEnv):Prop:=∀s v,W s=false→look (encL l') s=some v→look (encL l) s=some v
def Kq (W:Nat→Bool) (l l':KEnv):Prop:=∀s,W s=false→look (encL l') s=look (encL l) s
theorem Kq.kp {W:Nat→Bool} {l l':KEnv} (h:Kq W l l'):zKp W l l':=fun s v hs hv=>by rw [←h s hs];exact hv
theorem zKp.refl {W:Nat→Bool} {l:KEnv}:zKp W l l:=fun _ _ _ h=>h
theorem zKp.trans {W W1 W2:Nat→Bool} {l l' l'':KEnv} (h1:zKp W1 l l') (h2:zKp W2 l' l'') (e:∀s,W s=false→W1 s=false∧W2 s=false):zKp W l l'':=fun s v hs hv=>h1 s v (e s hs).1 (h2 s v (e s hs).2 hv)
theorem zKp.wide {W W1:Nat→Bool} {l l':KEnv} (h1:zKp W1 l l') (e:∀s,W s=false→W1 s=false):zKp W l l':=fun s v hs hv=>h1 s v (e s hs) hv
def KMa (ps:List Nat) (d:Nat):Kd→Kd
 | .A a=>bif ps.contains d then .P (some a)else .A a
 |k=>k
theorem KOs {ps:List Nat} {d:Nat} {k:Kd}:(KMa ps d k).e=k.e:=by
 cases k<;>first|rfl|(simp only [KMa];cases ps.contains d<;>rfl)
def putd (n:Nat) (ps:List Nat) (d:Option Nat) (kd:Kd) (l:KEnv):Option KEnv:=match d with
 |none=>some l
 |some d=>bif Nat.blt d n then some ((d,KMa ps d kd)::l)else none
theorem KEc {n:Frm} {ps:List Nat} {d:Option Nat} {kd:Kd} {l l':KEnv} {a:Act} (h:putd n.size ps d kd l=some l') (hE:EnvK n a l):EnvK n (a.put d kd.e) l'∧Kq (fun s=>d==some s) l l':=by
 cases d with
 |none=>
  simp only [putd,Option.some.injEq]at h
  subst h
  exact⟨hE,fun s _=>rfl⟩
 |some d=>
  simp only [putd]at h
  cases hb:Nat.blt d n.size with
  |false=>rw [hb]at h;cases h
  |true=>
   rw [hb]at h
   simp only [cond_true,Option.some.injEq]at h
   subst h
   refine⟨?_,fun s hs=>?_⟩
   ·show Env n _ ((d,(KMa ps d kd).e)::encL l)
    rw [KOs]
    exact hE.put d kd.e hb
   ·simp only [encL,List.map_cons,look]
    have:Nat.beq d s=false:=by
     cases hx:Nat.beq d s with
     |false=>rfl
     |true=>rw [Nat.eq_of_beq_eq_true hx]at hs;simp at hs
    rw [this]
    rfl
structure Cx where
 P:Program
 C:List (CalleeS P)
 n:Nat
 ps:List Nat
def Cx.putK (c:Cx) {ρ:Type} (d:Option Nat) (l:KEnv) (K:KEnv→M ρ) (kd:Kd):M ρ:=match putd c.n c.ps d kd l with
 |some l'=>K l'
 |none=>M.fail
theorem YJ {c:Cx} {ρ:Type} {d:Option Nat} {l:KEnv} {K:KEnv→M ρ} {kd:Kd} {n:Frm} {a:Act} {h:Heap} {Q:ρ→Heap→Prop} (hn:n.size=c.n) (H:(c.putK d l K kd).wp h Q) (hE:EnvK n a l):
  ∃l',EnvK n (a.put d kd.e) l'∧Kq (fun s=>d==some s) l l'∧(K l').wp h Q:=by
 unfold Cx.putK at H
 cases hp:putd c.n c.ps d kd l with
 |none=>rw [hp]at H;exact H.elim
 |some l'=>
  rw [hp]at H
  have:=KEc (hn▸hp) hE
  exact⟨l',this.1,this.2,H⟩
def Cx.stepS (c:Cx) {ρ:Type} (o:Oper) (l:KEnv) (K:KEnv→M ρ):M ρ:=match KJO c.P c.C l o with
 |none=>M.fail
 |some (.v kd _)=>c.putK o.dst l K kd
 |some (.p run _)=>run (c.putK o.dst l K)
 |some (.r run _)=>run fun kd _=>c.putK o.dst l K kd
 |some (.e run _)=>run (c.putK o.dst l K)
 |some (.s run _)=>match o.dst with
  |none=>run (K l)
  |some _=>M.fail
 |some (.c run _)=>run (c.putK o.dst l K)
 |some (.cv τ v vs _)=>X4 c.P (encR τ) v vs>>=fun r=>c.putK o.dst l K (kdR τ r)
section steps
variable {c:Cx} {ro:Option Nat} {ops:Array Oper} {N:Act→World→Prop} {X:Nat→Act→World→Prop} {R:Act→World→Prop} {n:Frm} {w0:World}
theorem KMb {ρ:Type} {Q:ρ→Heap→Prop} {K:KEnv→M ρ} {o:Oper} {rest:List Oper} {l:KEnv} {a:Act} {w:World} (hn:n.size=c.n) (hg:o.guard=none) (hE:EnvK n a l) (hR:Rest w0 w) (H:(c.stepS o l K).wp w.heap Q)
  (h:∀l' a' w',EnvK n a' l'→Kq (fun s=>o.dst==some s) l l'→Rest w0 w'→(K l').wp w'.heap Q→wpListIn (Fw ro) 1 c.P ops (Ps N X R) rest a' w'):
  wpListIn (Fw ro) 1 c.P ops (Ps N X R) (o::rest) a w:=by
 unfold Cx.stepS at H
 cases hs:KJO c.P c.C l o with
 |none=>rw [hs]at H;exact H.elim
 |some s=>
  rw [hs]at H
  cases s with
  |v kd ok=>
   obtain⟨l',h1,h2,h3⟩:=YJ hn H hE
   exact KG5 hg (ok n a w hE) (h l' _ w h1 h2 hR h3)
  |p run ok=>
   obtain⟨kd,H,ok⟩:=ok ρ _ _ _ H
   obtain⟨l',h1,h2,h3⟩:=YJ hn H hE
   exact KG5 hg (ok n a w hE) (h l' _ w h1 h2 hR h3)
  |r run ok=>
   obtain⟨kd,fact,H,hf,ok⟩:=ok ρ _ _ _ H
   obtain⟨l',h1,h2,h3⟩:=YJ hn H hE
   exact KG5 hg (ok n a w hE hf) (h l' _ w h1 h2 hR h3)
  |e run ok=>
   obtain⟨kd,w1,hr,hw,H⟩:=ok ρ _ n a w _ hE H
   obtain⟨l',h1,h2,h3⟩:=YJ hn H hE
   exact KG5 hg hr (h l' _ w1 h1 h2 (hR.trans hw) h3)
  |s run ok=>
   cases hd:o.dst with
   |some d=>simp only [hd]at H;exact H.elim
   |none=>
    simp only [hd]at H
    obtain⟨w1,hr,hw,H⟩:=ok ρ _ n a w _ hE H
    refine wpListIn_plain hg fun K' hK=>⟨fun _ _=>trivial,?_⟩
    rw [zo hr (fun d h=>by cases h)]
    refine hK _ _ ?_
    rw [hd]
    exact h l a w1 hE (fun s _=>rfl) (hR.trans hw) H
  |c run ok=>
   obtain⟨f,args,hr,hc⟩:=ok ρ _ n a w _ hE H
   refine wpListIn_plain hg fun K' hK=>⟨fun _ _=>trivial,?_⟩
   rw [zo hr (fun d h=>by cases h),Oper.uponIn_enter]
   refine⟨fun _=>Nat.le_refl 1,YY (hc.mono ?_)⟩
   rintro e w' ⟨kd,rfl,H,hw⟩
   obtain⟨l',h1,h2,h3⟩:=YJ hn H hE
   exact hK _ _ (h l' _ w' h1 h2 (hR.trans hw) h3)
  |cv τ v vs ok=>
   obtain⟨x,args,ts,ho,hx,ha⟩:=ok
   obtain⟨dst,op,ty,pos,aft,g⟩:=o
   simp only at ho hg
   subst ho;subst hg
   refine KOd hE hR hx ha (M.unbind H) (fun r a' w' ea hR' H=>?_)
   obtain⟨l',h1,h2,h3⟩:=YJ hn H hE
   subst ea
   exact h l' _ w' h1 h2 hR' h3
end steps
inductive Gs where
 |on|off|bad|split (t:Nat) (b:Bool)
def gst (ops:Array Oper) (l:KEnv) (o:Oper):Gs:=match o.guard with
 |none=>.on
 |some (j,c)=>match(ops[j]?).bind (·.dst)with
  |none=>.bad
  |some t=>match XJ l t with
   |some (.C x)=>bif x==c then .on else .off
   |some .U=>.off
   |some (.B b)=>.split t b
   |_=>.bad
def glen (gi:Nat) (gc:Bool):Nat→List Nat→List Oper→Nat
 |_,_,[]=>0
 |i,ins,o::r=>match o.guard with
  |some (j,c)=>bif (Nat.beq j gi&&c==gc)||ins.contains j then glen gi gc (i+1) (i::ins) r+1 else 0
  |none=>0
def gnum (i:Nat) (L:List Oper):Nat:=match L with
 | []=>0
 |o::_=>match o.guard with
  |some (gi,gc)=>glen gi gc i [] L+1
  |none=>0
def anyD (L:List Oper) (s:Nat):Bool:=L.any fun o=>match o.dst with
 |some d=>Nat.beq d s
 |none=>false
def KMc (L:List Oper):Option Nat:=match L.getLast? with
 |some o=>o.dst
 |none=>none
def kend (d:Nat) (l:KEnv):M Bool:=match XJ l d with
 |some (.B b)=>M.pure b
 |some (.C b)=>M.pure b
 |_=>M.fail
def Cx.trN (c:Cx) (ops:Array Oper):Nat→{ρ:Type}→Nat→List Oper→KEnv→(KEnv→M ρ)→M ρ
 |0,_,_,_,_,_=>M.fail
 |f+1,_,i,L,l,K=>match L with
  | []=>K l
  |o::rest=>match gst ops l o with
   | .on=>c.stepS {o with guard:=none} l fun l'=>c.trN ops f (i+1) rest l' K
   | .off=>c.putK o.dst l (fun l'=>c.trN ops f (i+1) rest l' K) .U
   | .bad=>M.fail
   | .split t b=>match KMc (L.take (gnum i L))with
    |none=>M.fail
    |some d=>M.ite b (c.trN ops f i (L.take (gnum i L)) ((t,.C true)::l) (kend d)) (c.trN ops f i (L.take (gnum i L)) ((t,.C false)::l) (kend d))>>=fun x=>
     c.trN ops f (i+gnum i L) (L.drop (gnum i L)) ((d,.B x)::l.filter fun p=>!(anyD (L.take (gnum i L)) p.1)) K
theorem KNu {b:Bool} (h:¬b=true):b=false:=by cases b<;>first|rfl|exact absurd rfl h
theorem q7 {p:Nat→Bool}:∀{l:KEnv} {s:Nat},p s=true→look (encL (l.filter fun q=>p q.1)) s=look (encL l) s
 | [],s,h=>rfl
 |(d,v)::l,s,h=>by
  rw [List.filter_cons]
  by_cases hd:Nat.beq d s=true
  ·have e:=Nat.eq_of_beq_eq_true hd
   subst e
   simp only [h,if_true,encL,List.map_cons,look,hd,cond_true]
  ·have hd':Nat.beq d s=false:=KNu hd
   simp only
   cases hp:p d with
   |true=>simp only [if_true,encL,List.map_cons,look,hd',cond_false];exact q7 h
   |false=>
    simp only [Bool.false_eq_true,if_false]
    rw [q7 h]
    simp only [encL,List.map_cons,look,hd',cond_false]
theorem KFu {o:Oper} {L:List Oper} {s:Nat} (h:anyD (o::L) s=false):(o.dst==some s)=false∧anyD L s=false:=by
 unfold anyD at h⊢
 rw [List.any_cons,Bool.or_eq_false_iff]at h
 refine⟨?_,h.2⟩
 cases hd:o.dst with
 |none=>rfl
 |some d=>
  rw [hd]at h
  have h1:Nat.beq d s=false:=h.1
  simp only [beq_eq_false_iff_ne,ne_eq,Option.some.injEq]
  intro e
  subst e
  rw [Nat.beq_refl]at h1
  cases h1
theorem KJP {L:List Oper} {k s:Nat} (h:anyD L s=false):anyD (L.take k) s=false∧anyD (L.drop k) s=false:=by
 have e:anyD L s=(anyD (L.take k) s||anyD (L.drop k) s):=by
  unfold anyD
  rw [←List.any_append,List.take_append_drop]
 rw [e]at h
 simpa using h
theorem KKU {L:List Oper} {d:Nat} (h:KMc L=some d):anyD L d=true:=by
 unfold KMc at h
 cases hl:L.getLast? with
 |none=>rw [hl]at h;cases h
 |some o=>
  rw [hl]at h
  simp only at h
  unfold anyD
  rw [List.any_eq_true]
  exact⟨o,List.mem_of_getLast? hl,by rw [h];exact Nat.beq_refl _⟩
section lists
variable {c:Cx} {ro:Option Nat} {ops:Array Oper} {X:Nat→Act→World→Prop} {R:Act→World→Prop} {n:Frm} {w0:World}
theorem KQc (hn:n.size=c.n):∀(f:Nat) {ρ:Type} {Q:ρ→Heap→Prop} {K:KEnv→M ρ} {N:Act→World→Prop} (i:Nat) (L:List Oper) (l:KEnv) (a:Act) (w:World),EnvK n a l→Rest w0 w→(c.trN ops f i L l K).wp w.heap Q→
  (∀l' a' w',EnvK n a' l'→Kq (anyD L) l l'→Rest w0 w'→(K l').wp w'.heap Q→N a' w')→wpListIn (Fw ro) 1 c.P ops (Ps N X R) L a w:=by
 intro f
 induction f with
 |zero=>intro ρ Q K N i L l a w hE hR H;exact H.elim
 |succ f ih=>
  intro ρ Q K N i L l a w hE hR H h
  unfold Cx.trN at H
  cases L with
  |nil=>exact h l a w hE (fun s _=>rfl) hR H
  |cons o rest=>
   simp only at H
   cases hg:gst ops l o with
   |bad=>rw [hg]at H;exact H.elim
   |on=>
    rw [hg]at H
    have hwant:wpListIn (Fw ro) 1 c.P ops (Ps N X R) ({o with guard:=none}::rest) a w:=by
     refine KMb hn rfl hE hR H fun l' a' w' hE' hk hR' H'=>?_
     refine ih (i+1) rest l' a' w' hE' hR' H' fun l'' a'' w'' hE'' hk'' hR'' H''=>h l'' a'' w'' hE'' (fun s hs=>?_) hR'' H''
     have:=KFu hs
     rw [hk'' s this.2]
     exact hk s this.1
    cases hgd:o.guard with
    |none=>
     have e:o={o with guard:=none}:=by cases o;simp only at hgd;subst hgd;rfl
     rw [e]
     exact hwant
    |some p=>
     obtain⟨j,cc⟩:=p
     unfold gst at hg
     rw [hgd]at hg
     simp only at hg
     cases hd:(ops[j]?).bind (·.dst)with
     |none=>rw [hd]at hg;cases hg
     |some t=>
      rw [hd]at hg
      simp only at hg
      cases hl:XJ l t with
      |none=>rw [hl]at hg;cases hg
      |some k=>
       rw [hl]at hg
       cases k with
       |C x=>
        simp only at hg
        cases hx:(x==cc)with
        |true=>exact t_on hgd hE hd (VH hl) hx hwant
        |false=>rw [hx]at hg;cases hg
       |_=>cases hg
   |off=>
    rw [hg]at H
    obtain⟨l',hE',hk,H⟩:=YJ hn H hE
    have hnext:wpListIn (Fw ro) 1 c.P ops (Ps N X R) rest (a.put o.dst undef) w:=by
     refine ih (i+1) rest l' _ w hE' hR H fun l'' a'' w'' hE'' hk'' hR'' H''=>h l'' a'' w'' hE'' (fun s hs=>?_) hR'' H''
     have:=KFu hs
     rw [hk'' s this.2]
     exact hk s this.1
    cases hgd:o.guard with
    |none=>unfold gst at hg;rw [hgd]at hg;cases hg
    |some p=>
     obtain⟨j,cc⟩:=p
     unfold gst at hg
     rw [hgd]at hg
     simp only at hg
     cases hd:(ops[j]?).bind (·.dst)with
     |none=>rw [hd]at hg;cases hg
     |some t=>
      rw [hd]at hg
      simp only at hg
      cases hl:XJ l t with
      |none=>rw [hl]at hg;cases hg
      |some k=>
       rw [hl]at hg
       cases k with
       |C x=>
        simp only at hg
        cases hx:(x==cc)with
        |false=>exact Uw hgd hE hd (VH hl) hx (fun a' ea=>ea▸hnext)
        |true=>rw [hx]at hg;cases hg
       |U=>exact KH1 hgd hE hd (VH hl) (fun b hb=>by cases hb) (fun a' ea=>ea▸hnext)
       |_=>cases hg
   |split t b=>
    rw [hg]at H
    simp only at H
    generalize hkk:gnum i (o::rest)=k at H
    cases hd:KMc ((o::rest).take k)with
    |none=>rw [hd]at H;exact H.elim
    |some d=>
     rw [hd]at H
     simp only at H
     have hlt:look (encL l) t=some (.bool b):=by
      unfold gst at hg
      cases hgd:o.guard with
      |none=>rw [hgd]at hg;cases hg
      |some p=>
       obtain⟨j,cc⟩:=p
       rw [hgd]at hg
       simp only at hg
       cases hdd:(ops[j]?).bind (·.dst)with
       |none=>rw [hdd]at hg;cases hg
       |some t'=>
        rw [hdd]at hg
        simp only at hg
        cases hl:XJ l t' with
        |none=>rw [hl]at hg;cases hg
        |some kk=>
         rw [hl]at hg
         cases kk with
         |B b'=>
          injection hg with h1 h2
          subst h1;subst h2
          exact VH hl
         |C x=>simp only at hg;cases hx:(x==cc)<;>rw [hx]at hg<;>cases hg
         |_=>cases hg
     have hcut:∀(x:Bool),Kq (anyD ((o::rest).take k)) l ((d,.B x)::l.filter fun p=>!(anyD ((o::rest).take k) p.1)):=by
      intro x s hs
      have hne:Nat.beq d s=false:=by
       cases hb:Nat.beq d s with
       |false=>rfl
       |true=>rw [←Nat.eq_of_beq_eq_true hb,KKU hd]at hs;cases hs
      simp only [encL,List.map_cons,look,hne,cond_false]
      exact q7 (p:=fun z=>!(anyD ((o::rest).take k) z)) (by simp [hs])
     refine KAz (n:=n) (w0:=w0) k (fun x:Bool=>encL ((d,.B x)::l.filter fun p=>!(anyD ((o::rest).take k) p.1))) (M.unbind H) ?_ ?_
     ·intro Kr hKr Hm
      have hfin:∀(bb:Bool),b=bb→∀(l':KEnv) (a':Act) (w':World),EnvK n a' l'→Kq (anyD ((o::rest).take k)) ((t,.C bb)::l) l'→Rest w0 w'→
        (kend d l').wp w'.heap (fun r h'=>(c.trN ops f (i+k) ((o::rest).drop k) ((d,.B r)::l.filter fun p=>!(anyD ((o::rest).take k) p.1)) K).wp h' Q)→Kr a' w':=by
       intro bb hbb l' a' w' hE' hk' hR' H'
       have hlook:∃r,look (encL l') d=some (.bool r)∧(M.pure r:M Bool).wp w'.heap (fun r h'=>(c.trN ops f (i+k) ((o::rest).drop k) ((d,.B r)::l.filter fun p=>!(anyD ((o::rest).take k) p.1)) K).wp h' Q):=by
        unfold kend at H'
        cases hl:XJ l' d with
        |none=>rw [hl]at H';exact H'.elim
        |some kk=>
         rw [hl]at H'
         cases kk with
         |B r=>exact⟨r,VH hl,H'⟩
         |C r=>exact⟨r,VH hl,H'⟩
         |_=>exact H'.elim
       obtain⟨r,hr,H'⟩:=hlook
       refine hKr r a' w' (hE'.sub _ fun s v hv=>?_) hR' H'
       by_cases hsd:Nat.beq d s=true
       ·have e:=Nat.eq_of_beq_eq_true hsd
        subst e
        simp only [encL,List.map_cons,look,hsd,cond_true,Option.some.injEq]at hv
        rw [hr,←hv]
        rfl
       ·have hsd':Nat.beq d s=false:=KNu hsd
        have hv0:=hv
        simp only [encL,List.map_cons,look,hsd',cond_false]at hv
        cases hany:anyD ((o::rest).take k) s with
        |true=>
         exfalso
         have hno:∀(L:KEnv),look (encL (L.filter fun p=>!(anyD ((o::rest).take k) p.1))) s=none:=by
          intro L
          induction L with
          |nil=>rfl
          |cons q L ihL=>
           rw [List.filter_cons]
           split
           ·rename_i hq
            have hne:Nat.beq q.1 s=false:=by
             cases hb:Nat.beq q.1 s with
             |false=>rfl
             |true=>rw [Nat.eq_of_beq_eq_true hb,hany]at hq;simp at hq
            simp only [encL,List.map_cons,look,hne,cond_false]
            exact ihL
           ·exact ihL
         have:=hno l
         simp only [encL]at this
         rw [this]at hv
         cases hv
        |false=>
         have e1:=hcut r s hany
         simp only [encL,List.map_cons,look,hsd',cond_false]at e1
         rw [e1]at hv
         rw [hk' s hany]
         simp only [encL,List.map_cons,look]
         cases hts:Nat.beq t s with
         |false=>exact hv
         |true=>
          have e:=Nat.eq_of_beq_eq_true hts
          subst e
          have hlt':look (List.map (fun p=>(p.fst,p.snd.e)) l) t=some (.bool b):=hlt
          rw [hlt']at hv
          rw [←hv,hbb]
          rfl
      rcases Uj b with hb|hb
      ·have H1:=M.ite_t hb Hm
       exact ih i _ ((t,.C true)::l) a w (hE.reb t b true hb hlt) hR H1 (fun l' a' w' h1 h2 h3 h4=>hfin true hb l' a' w' h1 h2 h3 h4)
      ·have H1:=M.ite_f hb Hm
       exact ih i _ ((t,.C false)::l) a w (hE.reb t b false hb hlt) hR H1 (fun l' a' w' h1 h2 h3 h4=>hfin false hb l' a' w' h1 h2 h3 h4)
     ·intro x a' w' hE' hR' H'
      refine ih (i+k) _ _ a' w' hE' hR' H' fun l'' a'' w'' hE'' hk'' hR'' H''=>h l'' a'' w'' hE'' (fun s hs=>?_) hR'' H''
      have hsp:=KJP (k:=k) hs
      rw [hk'' s hsp.2]
      exact hcut x s hsp.1
end lists
end Gx
namespace Gx
open Go Gx.Last
def cj:List (Heap→Prop)→Heap→Prop
 | [],_=>True
 | [f],h=>f h
 |f::g::r,h=>f h∧cj (g::r) h
theorem KEd {f:Heap→Prop} {h:Heap}:∀{fs:List (Heap→Prop)},cj (fs++[f]) h→cj fs h∧f h
 | [],H=>⟨trivial,H⟩
 | [g],H=>H
 |g::g'::r,H=>⟨⟨H.1,(KEd (fs:=g'::r) H.2).1⟩,(KEd (fs:=g'::r) H.2).2⟩
theorem KNv {f:Heap→Prop} {h:Heap}:∀{fs:List (Heap→Prop)},cj fs h→f h→cj (fs++[f]) h
 | [],_,H=>H
 | [g],H1,H=>⟨H1,H⟩
 |g::g'::r,H1,H=>⟨H1.1,KNv (fs:=g'::r) H1.2 H⟩
def chkK {ρ:Type} (p:Option (Heap→Prop)) (m:M ρ):M ρ:=match p with
 |none=>m
 |some p=>chk p>>=fun _=>m
def okS (p:Option (Heap→Prop)) (h:Heap):Prop:=match p with
 |none=>True
 |some p=>p h
theorem KH9 {ρ:Type} {p:Option (Heap→Prop)} {m:M ρ} {h:Heap} {Q:ρ→Heap→Prop} (H:(chkK p m).wp h Q):okS p h∧m.wp h Q:=by
 cases p with
 |none=>exact⟨trivial,H⟩
 |some p=>obtain⟨_,h1,h2⟩:=H;exact⟨h1,h2⟩
def Cx.stepE (c:Cx) {ρ:Type} (o:Oper) (l:KEnv) (p:Option (Heap→Prop)) (v:Bool) (K:KEnv→M ρ):M ρ:=match KJO c.P c.C l o with
 |none=>M.fail
 |some (.v kd _)=>bif v then c.putK o.dst l K kd else M.fail
 |some (.p run _)=>bif v then run (c.putK o.dst l K)else M.fail
 |some (.r run _)=>bif v then run fun kd _=>c.putK o.dst l K kd else M.fail
 |some (.e run _)=>run fun kd=>chkK p (c.putK o.dst l K kd)
 |some (.s run _)=>match o.dst with
  |none=>run (chkK p (K l))
  |some _=>M.fail
 |some (.c run _)=>run fun kd=>chkK p (c.putK o.dst l K kd)
 |some (.cv τ f vs _)=>KRi c.P (encR τ) f vs>>=fun r=>chkK p (c.putK o.dst l K (kdR τ r))
theorem KIA {c:Cx} {ops:Array Oper} {n:Frm} {w0:World} {ρ:Type} {Q:ρ→Heap→Prop} {K:KEnv→M ρ} {o:Oper} {l:KEnv} {a:Act} {w:World} {p:Option (Heap→Prop)} {v:Bool} {Qe:Exit→Act→World→Prop} {KK:Act→World→Prop}
  (hn:n.size=c.n) (hw:Region.wanted o (yielded ops a.tmps)=true) (hE:EnvK n a l) (hR:Rest w0 w) (hv:v=true→okS p w.heap) (H:(c.stepE o l p v K).wp w.heap Q)
  (h:∀l' a' w',EnvK n a' l'→Kq (fun s=>o.dst==some s) l l'→Rest w0 w'→okS p w'.heap→(K l').wp w'.heap Q→KK a' w'):
  if Region.wanted o (yielded ops a.tmps)=true then Oper.wp c.P o a w KK Qe else KK (a.put o.dst undef) w:=by
 unfold Cx.stepE at H
 cases hs:KJO c.P c.C l o with
 |none=>rw [hs]at H;exact H.elim
 |some s=>
  rw [hs]at H
  cases s with
  |v kd ok=>
   simp only at H
   cases v with
   |false=>exact H.elim
   |true=>
    obtain⟨l',h1,h2,h3⟩:=YJ hn H hE
    exact KCO hw rfl (ok n a w hE) (h l' _ w h1 h2 hR (hv rfl) h3)
  |p run ok=>
   simp only at H
   cases v with
   |false=>exact H.elim
   |true=>
    obtain⟨kd,H,ok⟩:=ok ρ _ _ _ H
    obtain⟨l',h1,h2,h3⟩:=YJ hn H hE
    exact KCO hw rfl (ok n a w hE) (h l' _ w h1 h2 hR (hv rfl) h3)
  |r run ok=>
   simp only at H
   cases v with
   |false=>exact H.elim
   |true=>
    obtain⟨kd,fact,H,hf,ok⟩:=ok ρ _ _ _ H
    obtain⟨l',h1,h2,h3⟩:=YJ hn H hE
    exact KCO hw rfl (ok n a w hE hf) (h l' _ w h1 h2 hR (hv rfl) h3)
  |e run ok=>
   obtain⟨kd,w1,hr,hw1,H⟩:=ok ρ _ n a w _ hE H
   obtain⟨hp,H⟩:=KH9 H
   obtain⟨l',h1,h2,h3⟩:=YJ hn H hE
   exact KCO hw rfl hr (h l' _ w1 h1 h2 (hR.trans hw1) hp h3)
  |s run ok=>
   cases hd:o.dst with
   |some d=>simp only [hd]at H;exact H.elim
   |none=>
    simp only [hd]at H
    obtain⟨w1,hr,hw1,H⟩:=ok ρ _ n a w _ hE H
    obtain⟨hp,H⟩:=KH9 H
    exact KMD hw hd hr (h l a w1 hE (fun s _=>rfl) (hR.trans hw1) hp H)
  |c run ok=>
   obtain⟨f,args,hr,hc⟩:=ok ρ _ n a w _ hE H
   refine KJw f args hw rfl hr (hc.mono ?_)
   rintro e w' ⟨kd,rfl,H,hw'⟩
   obtain⟨hp,H⟩:=KH9 H
   obtain⟨l',h1,h2,h3⟩:=YJ hn H hE
   exact⟨_,rfl,h l' _ w' h1 h2 (hR.trans hw') hp h3⟩
  |cv τ f vs ok=>
   obtain⟨x,args,ts,ho,hx,ha⟩:=ok
   obtain⟨g,cap,rfl,hcl,hC⟩:=(M.unbind H) w rfl
   have hrun:(execOp a.eval o).run c.P w=.ok (.enter g (vs.toArray++cap)) w:=by
    have:=KEb (P:=c.P) (w:=w) (dst:=o.dst) (ty:=o.type) (pos:=o.pos) (aft:=o.after) (g:=o.guard) (ts:=ts) hE hx hcl ha
    rw [←ho]at this
    exact this
   refine KJw g (vs.toArray++cap) hw rfl hrun (hC.mono ?_)
   rintro e w' ⟨r,rfl,H,hw'⟩
   obtain⟨hp,H⟩:=KH9 H
   obtain⟨l',h1,h2,h3⟩:=YJ hn H hE
   exact⟨_,rfl,h l' _ w' h1 h2 (hR.trans hw') hp h3⟩
theorem KKV {ops:Array Oper} {l:KEnv} {o:Oper} {n:Frm} {a:Act} (hE:EnvK n a l) (h:gst ops l o=.on):Region.wanted o (yielded ops a.tmps)=true:=by
 unfold gst at h
 cases hgd:o.guard with
 |none=>exact KA hgd
 |some p=>
  obtain⟨j,cc⟩:=p
  rw [hgd]at h
  simp only at h
  cases hd:(ops[j]?).bind (·.dst)with
  |none=>rw [hd]at h;cases h
  |some t=>
   rw [hd]at h
   simp only at h
   cases hl:XJ l t with
   |none=>rw [hl]at h;cases h
   |some k=>
    rw [hl]at h
    cases k with
    |C x=>
     simp only at h
     cases hx:(x==cc)with
     |true=>exact Ka hgd hE hd (VH hl) hx
     |false=>rw [hx]at h;cases h
    |_=>cases h
theorem KOt {ops:Array Oper} {l:KEnv} {o:Oper} {n:Frm} {a:Act} (hE:EnvK n a l) (h:gst ops l o=.off):Region.wanted o (yielded ops a.tmps)=false:=by
 unfold gst at h
 cases hgd:o.guard with
 |none=>rw [hgd]at h;cases h
 |some p=>
  obtain⟨j,cc⟩:=p
  rw [hgd]at h
  simp only at h
  cases hd:(ops[j]?).bind (·.dst)with
  |none=>rw [hd]at h;cases h
  |some t=>
   rw [hd]at h
   simp only at h
   cases hl:XJ l t with
   |none=>rw [hl]at h;cases h
   |some k=>
    rw [hl]at h
    cases k with
    |C x=>
     simp only at h
     cases hx:(x==cc)with
     |false=>exact Uk hgd hE hd (VH hl) hx
     |true=>rw [hx]at h;cases h
    |U=>exact KBa hgd hE hd (VH hl) (fun b hb=>by cases hb)
    |_=>cases h
inductive Sch where
 |pu (i:Nat) (k:Sch)
 |of (i:Nat) (k:Sch)
 |g (j:Nat) (kt kf:Sch)
 |st (ds:List Nat) (k:Sch)
 |nx (k:Sch)
 |on (i:Nat) (k:Sch)
 |dn
abbrev OldS:=Option (Nat×List Nat×List (Heap→Prop)×Bool)
inductive Md where
 |S (old:OldS) (rd:List (Nat×Nat)) (fs:List (Heap→Prop))
 |P (ds:List Nat) (fs:List (Heap→Prop)) (v:Bool)
def Md.old:Md→Nat→OldS
 | .S o _ _,_=>o
 | .P ds fs v,m=>some (m,ds,fs,v)
def Md.rd:Md→List (Nat×Nat)
 | .S _ r _=>r
 | .P _ _ _=>[]
def Md.fs:Md→List (Heap→Prop)
 | .S _ _ f=>f
 | .P _ _ _=>[]
structure Rg where
 ops:Array Oper
 em:List Nat
 cm:List Nat
 wm:List Nat
def rdok (n:Nat) (g:Rg) (ds:List Nat) (rd:List (Nat×Nat)):Bool:=rd.all fun p=>KH4 n g.em g.cm g.wm ds p.1 (p.1|||1<<<p.2) p.2
def swOk (n:Nat) (o:OldS):Bool:=match o with
 |none=>true
 |some (m0,ds,_,_)=>KA1 m0 ds n
def sopt (fs:List (Heap→Prop)):Option (Heap→Prop):=match fs with
 | []=>none
 |fs=>some (cj fs)
def nilB {α:Type}:List α→Bool
 | []=>true
 |_=>false
def Cx.trD (c:Cx) (n:Nat) (g:Rg):Sch→Nat→Md→Nat→KEnv→{ρ:Type}→(KEnv→M ρ)→M ρ
 | .pu i k,f+1,md,m,l,_,K=>match g.ops[i]? with
  |none=>M.fail
  |some o=>match gst g.ops l o with
   | .on=>bif KFn n g.em g.cm m (m|||1<<<i) i then match KJO c.P c.C l o with
    |some (.v kd _)=>c.putK o.dst l (fun l'=>c.trD n g k f (.S (md.old m) md.rd md.fs) (m|||1<<<i) l' K) kd
    |some (.p run _)=>run (c.putK o.dst l fun l'=>c.trD n g k f (.S (md.old m) md.rd md.fs) (m|||1<<<i) l' K)
    |some (.r run _)=>run fun kd fact=>c.putK o.dst l (fun l'=>c.trD n g k f (.S (md.old m) (md.rd++[(m,i)]) (md.fs++[fact])) (m|||1<<<i) l' K) kd
    |_=>M.fail
    else M.fail
   |_=>M.fail
 | .of i k,f+1,md,m,l,_,K=>match g.ops[i]? with
  |none=>M.fail
  |some o=>match gst g.ops l o with
   | .off=>bif KFn n g.em g.cm m (m|||1<<<i) i then c.putK o.dst l (fun l'=>c.trD n g k f (.S (md.old m) md.rd md.fs) (m|||1<<<i) l' K) .U else M.fail
   |_=>M.fail
 | .g j kt kf,f,md,m,l,_,K=>match(g.ops[j]?).bind (·.dst)with
  |none=>M.fail
  |some t=>match XJ l t with
   |some (.B b)=>M.ite b (c.trD n g kt f (.S (md.old m) md.rd md.fs) m ((t,.C true)::l) K) (c.trD n g kf f (.S (md.old m) md.rd md.fs) m ((t,.C false)::l) K)
   |_=>M.fail
 | .st ds k,f,md,m,l,_,K=>bif rdok n g ds md.rd&&swOk n (md.old m)then c.trD n g k f (.P ds md.fs true) m l K else M.fail
 | .nx k,f,md,m,l,_,K=>bif nilB md.rd&&nilB md.fs then match md.old m with
   |some (_,ds,fs,v)=>c.trD n g k f (.P ds fs v) m l K
   |none=>M.fail
  else M.fail
 | .on i k,f+1,.P ds fs v,m,l,_,K=>match g.ops[i]? with
  |none=>M.fail
  |some o=>match gst g.ops l o with
   | .on=>bif KMG n g.em m (m|||1<<<i) i then match ds.contains i with
    |true=>c.stepE o l none true fun l'=>c.trD n g k f (.P ds fs (nilB fs)) (m|||1<<<i) l' K
    |false=>c.stepE o l (sopt fs) v fun l'=>c.trD n g k f (.P ds fs true) (m|||1<<<i) l' K
    else M.fail
   |_=>M.fail
 | .dn,_,.P ds fs v,m,l,_,K=>bif KBb m [] g.em 0 then K l else M.fail
 |_,_,_,_,_,_,_=>M.fail
end Gx
namespace Gx
open Go Gx.Last
abbrev Sf (fs:List (Heap→Prop)):World→Prop:=fun w=>cj fs w.heap
theorem KEe {fs:List (Heap→Prop)} {h:Heap}:okS (sopt fs) h↔cj fs h:=by
 cases fs with
 |nil=>exact Iff.rfl
 |cons f r=>exact Iff.rfl
def KRr (nn:Nat) (o:OldS) (ds':List Nat) (fs':List (Heap→Prop)):Prop:=match o with
 |none=>True
 |some (m0,ds,fs,_)=>(ds'=ds∧fs'=fs)∨KA1 m0 ds nn=true
section
variable {c:Cx} {nn:Nat} {g:Rg} {E C W:List (List Nat)} {n:Frm} {w0:World} {ρ:Type} {Q:ρ→Heap→Prop} {K:KEnv→M ρ} {N:Act→World→Prop} {X:Nat→Act→World→Prop} {R:Act→World→Prop} {l0:KEnv}
def HG (c:Cx) (nn:Nat) (g:Rg) (n:Frm) (w0:World) (N:Act→World→Prop) (X:Nat→Act→World→Prop) (R:Act→World→Prop) (old:OldS) (f m:Nat) (l:KEnv) (rd:List (Nat×Nat)) (fs:List (Heap→Prop)) (w:World) (G:Prop):Prop:=
 ∀ds' fs',KRr nn old ds' fs'→(∀h,cj fs' h→cj fs h)→(old=none∨rd≠[]→cj fs' w.heap)→rdok nn g ds' rd=true→
  (∀a w',w'.heap=w.heap→Rest w0 w'→EnvK n a l→JR c.P g.ops N X R (Sf fs') ds' f (unb nn m) a w')→G
def KHE (c:Cx) (nn:Nat) (g:Rg) (n:Frm) (w0:World) (N:Act→World→Prop) (X:Nat→Act→World→Prop) (R:Act→World→Prop) {ρ:Type} (Q:ρ→Heap→Prop) (K:KEnv→M ρ) (l0:KEnv) (s:Sch):Prop:=
 ∀f old rd fs m l w (G:Prop),Kq (anyD g.ops.toList) l0 l→cj fs w.heap→(∀m0 ds fs0,old=some (m0,ds,fs0,true)→cj fs0 w.heap)→HG c nn g n w0 N X R old f m l rd fs w G→(c.trD nn g s f (.S old rd fs) m l K).wp w.heap Q→G
def KQd (c:Cx) (nn:Nat) (g:Rg) (n:Frm) (w0:World) (N:Act→World→Prop) (X:Nat→Act→World→Prop) (R:Act→World→Prop) {ρ:Type} (Q:ρ→Heap→Prop) (K:KEnv→M ρ) (l0:KEnv) (s:Sch):Prop:=
 ∀f ds fs v m l a w,Kq (anyD g.ops.toList) l0 l→EnvK n a l→Rest w0 w→(v=true→cj fs w.heap)→(c.trD nn g s f (.P ds fs v) m l K).wp w.heap Q→JR c.P g.ops N X R (Sf fs) ds f (unb nn m) a w
theorem pToS {f:Nat} {ds:List Nat} {fs:List (Heap→Prop)} {v:Bool} {m:Nat} {l:KEnv} {a:Act} {w:World} (hT:Tab g.ops E C W) (hM:TabM nn E C W g.em g.cm g.wm) (hE:EnvK n a l) (hR:Rest w0 w):
  HG c nn g n w0 N X R (some (m,ds,fs,v)) f m l [] [] w (JR c.P g.ops N X R (Sf fs) ds f (unb nn m) a w):=by
 intro ds' fs' hc _ _ _ h
 rcases hc with⟨rfl,rfl⟩|hc
 ·exact h a w rfl hR hE
 ·exact KEV (Sf fs') ds' (KP2 hT hM hc) (h a w rfl hR hE)
theorem KFv {s:Sch} (hT:Tab g.ops E C W) (hM:TabM nn E C W g.em g.cm g.wm) (h:KHE c nn g n w0 N X R Q K l0 s)
  (he:∀f ds fs v m l,c.trD nn g s f (.P ds fs v) m l K=c.trD nn g s f (.S (some (m,ds,fs,v)) [] []) m l K):KQd c nn g n w0 N X R Q K l0 s:=by
 intro f ds fs v m l a w hk hE hR hv H
 rw [he]at H
 exact h f _ [] [] m l w _ hk trivial (fun m0 ds0 fs0 e=>by cases e;exact hv rfl) (pToS hT hM hE hR) H
theorem KOu {ops:Array Oper} {i:Nat} {o:Oper} {s:Nat} (ho:ops[i]?=some o) (h:anyD ops.toList s=false):(o.dst==some s)=false:=by
 unfold anyD at h
 rw [List.any_eq_false]at h
 have h1:=h o (by rw [Array.mem_toList_iff];exact Array.mem_of_getElem? ho)
 cases hd:o.dst with
 |none=>rfl
 |some d=>
  rw [hd]at h1
  simp only [beq_eq_false_iff_ne,ne_eq,Option.some.injEq]
  intro e
  subst e
  exact h1 (Nat.beq_refl _)
theorem Kq.step {ops:Array Oper} {i:Nat} {o:Oper} {l l':KEnv} (ho:ops[i]?=some o) (h:Kq (anyD ops.toList) l0 l) (h':Kq (fun s=>o.dst==some s) l l'):Kq (anyD ops.toList) l0 l':=
 fun s hs=>by rw [h' s (KOu ho hs)];exact h s hs
theorem KQe (hn:n.size=c.n) (hT:Tab g.ops E C W) (hM:TabM nn E C W g.em g.cm g.wm) (hN:∀l' a w,EnvK n a l'→Kq (anyD g.ops.toList) l0 l'→Rest w0 w→(K l').wp w.heap Q→N a w):
  ∀s:Sch,KHE c nn g n w0 N X R Q K l0 s∧KQd c nn g n w0 N X R Q K l0 s:=by
 intro s
 induction s with
 |pu i k ih=>
  have hS:KHE c nn g n w0 N X R Q K l0 (.pu i k):=by
   intro f old rd fs m l w G hk hf ho hG H
   cases f with
   |zero=>exact H.elim
   |succ f=>
    simp only [Cx.trD]at H
    cases hi:g.ops[i]? with
    |none=>rw [hi]at H;exact H.elim
    |some o=>
     rw [hi]at H
     simp only at H
     cases hg:gst g.ops l o with
     |on=>
      rw [hg]at H
      simp only at H
      cases hb:KFn nn g.em g.cm m (m|||1<<<i) i with
      |false=>rw [hb]at H;exact H.elim
      |true=>
       rw [hb]at H
       simp only [cond_true]at H
       have hpure:∀(kd:Kd),KD6 c.P l o kd.e→(c.putK o.dst l (fun l'=>c.trD nn g k f (.S old rd fs) (m|||1<<<i) l' K) kd).wp w.heap Q→G:=by
        intro kd ok H
        unfold Cx.putK at H
        cases hp:putd c.n c.ps o.dst kd l with
        |none=>rw [hp]at H;exact H.elim
        |some l'=>
         rw [hp]at H
         have hkq:Kq (fun s=>o.dst==some s) l l':=by
          intro s hs
          have h0:=hp
          cases hd:o.dst with
          |none=>rw [hd]at h0;simp only [putd,Option.some.injEq]at h0;rw [h0]
          |some d=>
           rw [hd]at h0 hs
           simp only [putd]at h0
           cases hb:Nat.blt d c.n with
           |false=>rw [hb]at h0;cases h0
           |true=>
            rw [hb]at h0
            simp only [cond_true,Option.some.injEq]at h0
            subst h0
            simp only [encL,List.map_cons,look]
            have:Nat.beq d s=false:=by
             cases hx:Nat.beq d s with
             |false=>rfl
             |true=>rw [Nat.eq_of_beq_eq_true hx]at hs;simp at hs
            rw [this];rfl
         refine ih.1 f old rd fs _ l' w G (hk.step hi hkq) hf ho ?_ H
         intro ds' fs' hc h1 h2 h3 h4
         refine hG ds' fs' hc h1 h2 h3 fun a w' hw hR hE=>?_
         refine KMC (v:=kd.e) (unb nn (m|||1<<<i)) hi rfl (hT.any hi (anyM hM hb)) KDx (Or.inl ⟨KKV hE hg,fun w=>ok n a w hE⟩) rfl ?_
         exact h4 _ w' hw hR (KEc (hn▸hp) hE).1
       cases hs:KJO c.P c.C l o with
       |none=>rw [hs]at H;exact H.elim
       |some s=>
        rw [hs]at H
        cases s with
        |v kd ok=>exact hpure kd ok H
        |p run ok=>
         obtain⟨kd,H,ok⟩:=ok ρ _ _ _ H
         exact hpure kd ok H
        |r run ok=>
         obtain⟨kd,fact,H,hfact,ok⟩:=ok ρ _ _ _ H
         unfold Cx.putK at H
         cases hp:putd c.n c.ps o.dst kd l with
         |none=>rw [hp]at H;exact H.elim
         |some l'=>
          rw [hp]at H
          have hkq:Kq (fun s=>o.dst==some s) l l':=by
           intro s hs
           have h0:=hp
           cases hd:o.dst with
           |none=>rw [hd]at h0;simp only [putd,Option.some.injEq]at h0;rw [h0]
           |some d=>
            rw [hd]at h0 hs
            simp only [putd]at h0
            cases hb:Nat.blt d c.n with
            |false=>rw [hb]at h0;cases h0
            |true=>
             rw [hb]at h0
             simp only [cond_true,Option.some.injEq]at h0
             subst h0
             simp only [encL,List.map_cons,look]
             have:Nat.beq d s=false:=by
              cases hx:Nat.beq d s with
              |false=>rfl
              |true=>rw [Nat.eq_of_beq_eq_true hx]at hs;simp at hs
             rw [this];rfl
          refine ih.1 f old (rd++[(m,i)]) (fs++[fact]) _ l' w G (hk.step hi hkq) (KNv hf hfact) ho ?_ H
          intro ds' fs' hc h1 h2 h3 h4
          have hrd:rdok nn g ds' rd=true∧KH4 nn g.em g.cm g.wm ds' m (m|||1<<<i) i=true:=by
           unfold rdok at h3⊢
           rw [List.all_append,Bool.and_eq_true]at h3
           simpa using h3
          have hfw:cj fs' w.heap:=h2 (.inr (by simp))
          refine hG ds' fs' hc (fun h hh=>(KEd (h1 h hh)).1) (fun _=>hfw) hrd.1 fun a w' hw hR hE=>?_
          refine KPz (v:=kd.e) (unb nn (m|||1<<<i)) hi rfl (hT.take hi (YH hM hrd.2)) KDx (Or.inl ⟨KKV hE hg,fun w hw=>ok n a w hE (KEd (h1 _ hw)).2⟩) (by show cj fs' w'.heap;rw [hw];exact hfw) rfl ?_
          exact h4 _ w' hw hR (KEc (hn▸hp) hE).1
        |_=>exact H.elim
     |_=>rw [hg]at H;exact H.elim
  refine⟨hS,KFv hT hM hS fun f ds fs v m l=>?_⟩
  cases f<;>rfl
 |of i k ih=>
  have hS:KHE c nn g n w0 N X R Q K l0 (.of i k):=by
   intro f old rd fs m l w G hk hf ho hG H
   cases f with
   |zero=>exact H.elim
   |succ f=>
    simp only [Cx.trD]at H
    cases hi:g.ops[i]? with
    |none=>rw [hi]at H;exact H.elim
    |some o=>
     rw [hi]at H
     simp only at H
     cases hg:gst g.ops l o with
     |off=>
      rw [hg]at H
      simp only at H
      cases hb:KFn nn g.em g.cm m (m|||1<<<i) i with
      |false=>rw [hb]at H;exact H.elim
      |true=>
       rw [hb]at H
       simp only [cond_true]at H
       unfold Cx.putK at H
       cases hp:putd c.n c.ps o.dst .U l with
       |none=>rw [hp]at H;exact H.elim
       |some l'=>
        rw [hp]at H
        have hkq:Kq (fun s=>o.dst==some s) l l':=by
         intro s hs
         have h0:=hp
         cases hd:o.dst with
         |none=>rw [hd]at h0;simp only [putd,Option.some.injEq]at h0;rw [h0]
         |some d=>
          rw [hd]at h0 hs
          simp only [putd]at h0
          cases hb:Nat.blt d c.n with
          |false=>rw [hb]at h0;cases h0
          |true=>
           rw [hb]at h0
           simp only [cond_true,Option.some.injEq]at h0
           subst h0
           simp only [encL,List.map_cons,look]
           have:Nat.beq d s=false:=by
            cases hx:Nat.beq d s with
            |false=>rfl
            |true=>rw [Nat.eq_of_beq_eq_true hx]at hs;simp at hs
           rw [this];rfl
        refine ih.1 f old rd fs _ l' w G (hk.step hi hkq) hf ho ?_ H
        intro ds' fs' hc h1 h2 h3 h4
        refine hG ds' fs' hc h1 h2 h3 fun a w' hw hR hE=>?_
        refine KMC (v:=undef) (unb nn (m|||1<<<i)) hi rfl (hT.any hi (anyM hM hb)) KDx (Or.inr ⟨KOt hE hg,rfl⟩) rfl ?_
        exact h4 _ w' hw hR (KEc (hn▸hp) hE).1
     |_=>rw [hg]at H;exact H.elim
  refine⟨hS,KFv hT hM hS fun f ds fs v m l=>?_⟩
  cases f<;>rfl
 |g j kt kf iht ihf=>
  have hS:KHE c nn g n w0 N X R Q K l0 (.g j kt kf):=by
   intro f old rd fs m l w G hk hf ho hG H
   simp only [Cx.trD]at H
   cases hj:(g.ops[j]?).bind (·.dst)with
   |none=>rw [hj]at H;exact H.elim
   |some t=>
    rw [hj]at H
    simp only at H
    cases hl:XJ l t with
    |none=>rw [hl]at H;exact H.elim
    |some kk=>
     rw [hl]at H
     cases kk with
     |B b=>
      simp only at H
      have hlt:look (encL l) t=some (.bool b):=VH hl
      have hcut:∀v,b=v→Kq (anyD g.ops.toList) l0 ((t,.C v)::l):=by
       intro v hv s hs
       rw [←hk s hs]
       simp only [encL,List.map_cons,look]
       cases hts:Nat.beq t s with
       |false=>rfl
       |true=>
        have e:=Nat.eq_of_beq_eq_true hts
        subst e
        have hlt':look (List.map (fun p=>(p.fst,p.snd.e)) l) t=some (.bool b):=hlt
        rw [hlt',hv];rfl
      have hgo:∀v,b=v→HG c nn g n w0 N X R old f m ((t,.C v)::l) rd fs w G:=by
       intro v hv ds' fs' hc h1 h2 h3 h4
       exact hG ds' fs' hc h1 h2 h3 fun a w' hw hR hE=>h4 a w' hw hR (hE.reb t b v hv hlt)
      rcases Uj b with hb|hb
      ·exact iht.1 f old rd fs m _ w G (hcut true hb) hf ho (hgo true hb) (M.ite_t hb H)
      ·exact ihf.1 f old rd fs m _ w G (hcut false hb) hf ho (hgo false hb) (M.ite_f hb H)
     |_=>exact H.elim
  exact⟨hS,KFv hT hM hS fun f ds fs v m l=>rfl⟩
 |st ds k ih=>
  have hS:KHE c nn g n w0 N X R Q K l0 (.st ds k):=by
   intro f old rd fs m l w G hk hf ho hG H
   simp only [Cx.trD,Md.rd,Md.old,Md.fs]at H
   cases h1:rdok nn g ds rd with
   |false=>rw [h1]at H;exact H.elim
   |true=>
    cases h2:swOk nn old with
    |false=>rw [h1,h2]at H;exact H.elim
    |true=>
     rw [h1,h2]at H
     simp only [Bool.and_self,cond_true]at H
     refine hG ds fs ?_ (fun h hh=>hh) (fun _=>hf) h1 fun a w' hw hR hE=>?_
     ·cases old with
      |none=>trivial
      |some q=>obtain⟨m0,ds0,fs0,v⟩:=q;exact .inr h2
     ·exact ih.2 f ds fs true m l a w' hk hE hR (fun _=>by rw [hw];exact hf) (M.at hw H)
  exact⟨hS,KFv hT hM hS fun f ds fs v m l=>rfl⟩
 |nx k ih=>
  have hS:KHE c nn g n w0 N X R Q K l0 (.nx k):=by
   intro f old rd fs m l w G hk hf ho hG H
   simp only [Cx.trD,Md.rd,Md.old,Md.fs]at H
   cases rd with
   |cons r rs=>simp only [nilB,Bool.false_and,cond_false]at H;exact H.elim
   |nil=>
    cases fs with
    |cons r rs=>simp only [nilB,Bool.and_false,cond_false]at H;exact H.elim
    |nil=>
     simp only [nilB,Bool.and_self,cond_true]at H
     cases old with
     |none=>exact H.elim
     |some q=>
      obtain⟨m0,ds0,fs0,v⟩:=q
      simp only at H
      refine hG ds0 fs0 (.inl ⟨rfl,rfl⟩) (fun _ _=>trivial) (fun h=>by rcases h with h|h;cases h;exact absurd rfl h) rfl fun a w' hw hR hE=>?_
      refine ih.2 f ds0 fs0 v m l a w' hk hE hR (fun hv=>?_) (M.at hw H)
      subst hv
      rw [hw]
      exact ho _ _ _ rfl
  exact⟨hS,KFv hT hM hS fun f ds fs v m l=>rfl⟩
 |on i k ih=>
  refine⟨fun f old rd fs m l w G hk hf ho hG H=>?_,fun f ds fs v m l a w hk hE hR hv H=>?_⟩
  ·cases f<;>exact H.elim
  ·cases f with
   |zero=>exact H.elim
   |succ f=>
    simp only [Cx.trD]at H
    cases hi:g.ops[i]? with
    |none=>rw [hi]at H;exact H.elim
    |some o=>
     rw [hi]at H
     simp only at H
     cases hg:gst g.ops l o with
     |on=>
      rw [hg]at H
      simp only at H
      cases hb:KMG nn g.em m (m|||1<<<i) i with
      |false=>rw [hb]at H;exact H.elim
      |true=>
       rw [hb]at H
       simp only [cond_true]at H
       have hw:=KKV hE hg
       cases hd:ds.contains i with
       |true=>
        rw [hd]at H
        refine KJv (unb nn (m|||1<<<i)) hi rfl (hT.one (oneM hM hb)) (by simpa using hd) fun KK hK=>?_
        refine KIA (p:=none) hn hw hE hR (fun _=>trivial) H fun l' a' w' hE' hk' hR' _ H'=>?_
        refine hK _ _ (ih.2 f ds fs (nilB fs) _ l' a' w' (hk.step hi hk') hE' hR' (fun hv=>?_) H')
        cases fs with
        |nil=>trivial
        |cons x y=>cases hv
       |false=>
        rw [hd]at H
        refine one_ (unb nn (m|||1<<<i)) hi rfl (hT.one (oneM hM hb)) (by simpa using hd) fun KK hK=>?_
        refine KIA hn hw hE hR (fun h=>KEe.2 (hv h)) H fun l' a' w' hE' hk' hR' hs H'=>?_
        exact hK _ _ (KEe.1 hs) fun _=>ih.2 f ds fs true _ l' a' w' (hk.step hi hk') hE' hR' (fun _=>KEe.1 hs) H'
     |_=>rw [hg]at H;exact H.elim
 |dn=>
  refine⟨fun f old rd fs m l w G hk hf ho hG H=>H.elim,fun f ds fs v m l a w hk hE hR hv H=>?_⟩
  simp only [Cx.trD]at H
  cases hb:KBb m [] g.em 0 with
  |false=>rw [hb]at H;exact H.elim
  |true=>
   rw [hb]at H
   exact VD hT (KA0 hM hb) (hN l a w hE hk hR H)
end
def KOv (n m:Nat):List Nat:=(List.range n).filter m.testBit
def rgOk (P:Program) (g:Rg) (n:Nat):Bool:=
 P.follows .mixedOrders&&ndB g.ops&&Region.noSelect g.ops&&Nat.beq g.ops.size n&&KJy (KFl g.ops) (g.wm.map (KOv n))&&KFm n (KFl g.ops) (KJx g.ops) (g.wm.map (KOv n)) g.em g.cm g.wm
theorem KMd (n:Nat):Array.replicate n false=unb n 0:=by
 apply Array.ext
 ·simp [unb]
 ·intro i h1 h2
  simp [unb]
def Cx.trR (c:Cx) (ops:Array Oper) (em cm wm:List Nat) (s:Sch) (l:KEnv) {ρ:Type} (K:KEnv→M ρ):M ρ:=bif rgOk c.P ⟨ops,em,cm,wm⟩ em.length then c.trD em.length ⟨ops,em,cm,wm⟩ s em.length (.S none [] []) 0 l K else M.fail
theorem KQf {c:Cx} {ro:Option Nat} {n:Frm} {w0:World} {ρ:Type} {Q:ρ→Heap→Prop} {K:KEnv→M ρ} {N:Act→World→Prop} {X:Nat→Act→World→Prop} {R:Act→World→Prop} {l:KEnv} {ops:Array Oper} {em cm wm:List Nat} {s:Sch} {id:Nat} {a:Act} {w:World}
  (hn:n.size=c.n) (hE:EnvK n a l) (hR:Rest w0 w) (H:(c.trR ops em cm wm s l K).wp w.heap Q) (hN:∀l' a w,EnvK n a l'→Kq (anyD ops.toList) l l'→Rest w0 w→(K l').wp w.heap Q→N a w):
  (Code.region id ops true).wpIn (Fw ro) 1 c.P (Ps N X R) a w:=by
 unfold Cx.trR at H
 cases hb:rgOk c.P ⟨ops,em,cm,wm⟩ em.length with
 |false=>rw [hb]at H;exact H.elim
 |true=>
  rw [hb]at H
  unfold rgOk at hb
  simp only [Bool.and_eq_true]at hb
  obtain⟨⟨⟨⟨⟨h1,h2⟩,h3⟩,h4⟩,h5⟩,h6⟩:=hb
  have hT:Tab ops (KFl ops) (KJx ops) (wm.map (KOv em.length)):=⟨h3,rfl,rfl,h5⟩
  have hM:=TabM.of h6
  refine(KQe (c:=c) (nn:=em.length) (g:=⟨ops,em,cm,wm⟩) (n:=n) (w0:=w0) (Q:=Q) (K:=K) (N:=N) (X:=X) (R:=R) (l0:=l) hn hT hM hN s).1 em.length none [] [] 0 l w _ (fun s _=>rfl) trivial (fun _ _ _ e=>by cases e) ?_ H
  intro ds' fs' _ _ h7 _ h8
  have h7:=h7 (.inl rfl)
  exact Jv (Sf fs') ds' (unb em.length 0) h1 hR (Nat.eq_of_beq_eq_true h4) (KMd _) (fun w' e=>by show cj fs' w'.heap;rw [e];exact h7) (fun w' e hR' _=>h8 a w' e hR' hE) h2
end Gx
namespace Gx
open Go Gx.Last
abbrev Ks:=List (Nat×Tk)
abbrev TupS (ks:Ks):Type:=Tup (ks.map Prod.snd)
def tupE (ks:Ks) (l:KEnv):Option (TupS ks):=match ql l (ks.map Prod.fst)with
 |some kds=>tupL (ks.map Prod.snd) kds
 |none=>none
def envT (ks:Ks) (t:TupS ks):KEnv:=(ks.map Prod.fst).zip (kdL (ks.map Prod.snd) t)
inductive Hint (ρ:Type):Type where
 |o
 |q (a b:Hint ρ)
 |b (a:Hint ρ)
 |j (ks:Ks) (f:TupS ks→M ρ) (h:Hint ρ)
 |l (ks ms:Ks) (f:TupS ks→(TupS ms→M ρ)→TupS ms→M ρ) (h:(TupS ms→M ρ)→Hint ρ)
 |r (em cm wm:List Nat) (s:Sch)
def wrC:Code→Nat→Bool
 | .region _ ops _,s=>anyD ops.toList s
 | .seq a b,s=>wrC a s||wrC b s
 | .cond _ a b,s=>wrC a s||wrC b s
 | .block _ c,s=>wrC c s
 | .loop c,s=>wrC c s
 | .rangeFunc _ _ _ _,_=>true
 | .scope c,s=>wrC c s
 |_,_=>false
def KKW {ρ:Type} (ks ms:Ks) (self:TupS ms→M ρ) (l:KEnv):M ρ:=match tupE ms l with
 |some t=>match tupE ks l with
  |some _=>self t
  |none=>M.fail
 |none=>M.fail
def ksOk (c:Code) (ks ms:Ks):Bool:=ks.all fun p=>!(wrC c p.1)&& !(ms.any fun q=>Nat.beq q.1 p.1)
def unpB (ops:Array Oper):Bool:=ops.toList.any fun o=>match o.op with
 | .panic _=>true
 | .typeAssert _ _ _ _=>true
 | .defer _=>true
 | .go _=>true
 | .send _ _=>true
 | .recv _ _ _=>true
 |_=>false
def Cx.trC (c:Cx) {ρ:Type}:Code→Hint ρ→KEnv→(KEnv→M ρ)→(Nat→KEnv→M ρ)→(KEnv→M ρ)→M ρ
 | .skip,h,l,N,X,R=>match h with
  | .o=>N l
  | .j ks f _=>match tupE ks l with|some t=>f t|none=>M.fail
  |_=>M.fail
 | .label _,h,l,N,X,R=>match h with
  | .o=>N l
  |_=>M.fail
 | .seq x y,h,l,N,X,R=>match h with
  | .o=>c.trC x .o l (fun l'=>c.trC y .o l' N X R) X R
  | .q a b=>c.trC x a l (fun l'=>c.trC y b l' N X R) X R
  | .j ks f _=>match tupE ks l with|some t=>f t|none=>M.fail
  |_=>M.fail
 | .cond o x y,h,l,N,X,R=>match h with
  | .j ks f _=>match tupE ks l with|some t=>f t|none=>M.fail
  |h=>match o with
   | .tmp t=>match(match XJ l t with|some (.B b)=>some b|some (.C b)=>some b|_=>none)with
    |some b=>match h with
     | .o=>M.ite b (c.trC x .o l N X R) (c.trC y .o l N X R)
     | .q ha hb=>M.ite b (c.trC x ha l N X R) (c.trC y hb l N X R)
     |_=>M.fail
    |none=>M.fail
   | .const (.bool true)=>match h with
    | .o=>c.trC x .o l N X R
    | .q ha _=>c.trC x ha l N X R
    |_=>M.fail
   | .const (.bool false)=>match h with
    | .o=>c.trC y .o l N X R
    | .q _ hb=>c.trC y hb l N X R
    |_=>M.fail
   |_=>M.fail
 | .block id x,h,l,N,X,R=>match h with
  | .j ks f _=>match tupE ks l with|some t=>f t|none=>M.fail
  | .o=>bif Nat.beq pid id then M.fail else c.trC x .o l N (fun i l'=>bif Nat.beq i id then N l' else X i l') R
  | .b a=>bif Nat.beq pid id then M.fail else c.trC x a l N (fun i l'=>bif Nat.beq i id then N l' else X i l') R
  |_=>M.fail
 | .scope x,h,l,N,X,R=>match h with
  | .o=>c.trC x .o l N X R
  | .b a=>c.trC x a l N X R
  |_=>M.fail
 | .exit id,h,l,N,X,R=>match h with
  | .o=>bif Nat.beq pid id then M.fail else X id l
  |_=>M.fail
 | .ret,h,l,N,X,R=>match h with
  | .o=>R l
  |_=>M.fail
 | .loop x,h,l,N,X,R=>match h with
  | .j ks f _=>match tupE ks l with|some t=>f t|none=>M.fail
  | .l ks ms f _=>bif ksOk x ks ms then match tupE ks l with
   |some k=>match tupE ms l with
    |some s=>M.loop (f k) s
    |none=>M.fail
   |none=>M.fail
   else M.fail
  |_=>M.fail
 | .region id ops false,h,l,N,X,R=>match h with
  | .o=>bif unpB ops then M.fail else c.trN ops (2*ops.size+1) 0 ops.toList l N
  | .j ks f _=>match tupE ks l with|some t=>f t|none=>M.fail
  |_=>M.fail
 | .region id ops true,h,l,N,X,R=>match h with
  | .r em cm wm s=>c.trR ops em cm wm s l N
  | .j ks f _=>match tupE ks l with|some t=>f t|none=>M.fail
  |_=>M.fail
 |_,_,_,_,_,_=>M.fail
def Cx.HOk (c:Cx) {ρ:Type}:Hint ρ→Code→(KEnv→M ρ)→(Nat→KEnv→M ρ)→(KEnv→M ρ)→Prop
 | .j ks f h,x,N,X,R=>(∀t,f t=c.trC x h (envT ks t) N X R)∧c.HOk h x N X R
 | .l ks ms f h,.loop x,N,X,R=>∀self,(∀k s,f k self s=c.trC x (h self) (envT ms s++envT ks k) (KKW ks ms self) X R)∧c.HOk (h self) x (KKW ks ms self) X R
 | .q a b,.seq x y,N,X,R=>c.HOk a x (fun l'=>c.trC y b l' N X R) X R∧c.HOk b y N X R
 | .q a b,.cond _ x y,N,X,R=>c.HOk a x N X R∧c.HOk b y N X R
 | .b a,.block id x,N,X,R=>c.HOk a x N (fun i l'=>bif Nat.beq i id then N l' else X i l') R
 | .b a,.scope x,N,X,R=>c.HOk a x N X R
 |_,_,_,_,_=>True
theorem KIB:∀{l:KEnv} {ts:List Nat} {ks:List Kd},ql l ts=some ks→∀s v,look (encL (ts.zip ks)) s=some v→look (encL l) s=some v
 |l,[],ks,h,s,v,hv=>by simp only [ql,Option.some.injEq]at h;subst h;cases hv
 |l,t::ts,ks,h,s,v,hv=>by
  simp only [ql]at h
  cases h1:XJ l t with
  |none=>rw [h1]at h;cases h
  |some k=>
   rw [h1]at h
   simp only at h
   cases h2:ql l ts with
   |none=>rw [h2]at h;cases h
   |some ks'=>
    rw [h2]at h
    simp only [Option.some.injEq]at h
    subst h
    simp only [List.zip_cons_cons,encL,List.map_cons,look]at hv
    cases hb:Nat.beq t s with
    |true=>
     rw [hb]at hv
     have e:=Nat.eq_of_beq_eq_true hb
     subst e
     simp only [cond_true,Option.some.injEq]at hv
     rw [VH h1,hv]
    |false=>
     rw [hb]at hv
     exact KIB h2 s v hv
theorem KHF:∀{ts:List Nat} {ks ks':List Kd},ks.map Kd.e=ks'.map Kd.e→encL (ts.zip ks)=encL (ts.zip ks')
 | [],ks,ks',h=>rfl
 |t::ts,[],[],h=>rfl
 |t::ts,[],_::_,h=>by cases h
 |t::ts,_::_,[],h=>by cases h
 |t::ts,k::ks,k'::ks',h=>by
  simp only [List.map_cons,List.cons.injEq]at h
  have:=KHF (ts:=ts) h.2
  simp only [encL]at this
  simp only [List.zip_cons_cons,encL,List.map_cons,h.1,this]
theorem z6 {ks:Ks} {l:KEnv} {t:TupS ks} (h:tupE ks l=some t):∀s v,look (encL (envT ks t)) s=some v→look (encL l) s=some v:=by
 unfold tupE at h
 cases h1:ql l (ks.map Prod.fst)with
 |none=>rw [h1]at h;cases h
 |some kds=>
  rw [h1]at h
  simp only at h
  intro s v hv
  have h2:=KKS h
  unfold envT at hv
  rw [←KHF h2]at hv
  exact KIB h1 s v hv
theorem KEf:∀{a b:KEnv} {s:Nat},look (encL (a++b)) s=match look (encL a) s with|some v=>some v|none=>look (encL b) s
 | [],b,s=>rfl
 |(d,k)::a,b,s=>by
  simp only [List.cons_append,encL,List.map_cons,look]
  cases hb:Nat.beq d s with
  |true=>rfl
  |false=>exact KEf (a:=a) (b:=b) (s:=s)
theorem qm {ks:Ks} {t:TupS ks} {s:Nat} (h:(ks.any fun q=>Nat.beq q.1 s)=false):look (encL (envT ks t)) s=none:=by
 unfold envT
 generalize kdL (ks.map Prod.snd) t=kds
 clear t
 induction ks generalizing kds with
 |nil=>rfl
 |cons p ks ih=>
  rw [List.any_cons,Bool.or_eq_false_iff]at h
  cases kds with
  |nil=>rfl
  |cons k kds=>
   simp only [List.map_cons,List.zip_cons_cons,encL,look,h.1,cond_false]
   exact ih h.2 kds
theorem KFw {ks:Ks} {t:TupS ks} {s:Nat} {v:Value} (h:look (encL (envT ks t)) s=some v):(ks.any fun q=>Nat.beq q.1 s)=true:=by
 cases hb:(ks.any fun q=>Nat.beq q.1 s)with
 |true=>rfl
 |false=>rw [qm hb]at h;cases h
theorem KOw {ks:Ks} {l:KEnv} {t:TupS ks} (h:tupE ks l=some t) {s:Nat} (hs:(ks.any fun q=>Nat.beq q.1 s)=true):∃v,look (encL (envT ks t)) s=some v:=by
 unfold tupE at h
 cases h1:ql l (ks.map Prod.fst)with
 |none=>rw [h1]at h;cases h
 |some kds=>
  rw [h1]at h
  simp only at h
  have h2:=KKS h
  unfold envT
  rw [←KHF h2]
  clear h h2 t
  induction ks generalizing kds with
  |nil=>cases hs
  |cons p ks ih=>
   simp only [List.map_cons,ql]at h1
   cases h3:XJ l p.1 with
   |none=>rw [h3]at h1;cases h1
   |some k=>
    rw [h3]at h1
    simp only at h1
    cases h4:ql l (ks.map Prod.fst)with
    |none=>rw [h4]at h1;cases h1
    |some ks'=>
     rw [h4]at h1
     simp only [Option.some.injEq]at h1
     subst h1
     simp only [List.map_cons,List.zip_cons_cons,encL,look]
     cases hb:Nat.beq p.1 s with
     |true=>exact⟨_,rfl⟩
     |false=>
      rw [List.any_cons,hb,Bool.false_or]at hs
      simp only [cond_false]
      exact ih hs ks' h4
section
variable {c:Cx} {ro:Option Nat} {n:Frm} {w0:World} {ρ:Type} {Q:ρ→Heap→Prop}
def TrOk (c:Cx) (ro:Option Nat) (n:Frm) (w0:World) {ρ:Type} (Q:ρ→Heap→Prop) (x:Code) (h:Hint ρ):Prop:=
 ∀(l:KEnv) (N:KEnv→M ρ) (X:Nat→KEnv→M ρ) (R:KEnv→M ρ) (N':Act→World→Prop) (X':Nat→Act→World→Prop) (R':Act→World→Prop) (a:Act) (w:World),
  c.HOk h x N X R→
  (∀l' a w,EnvK n a l'→zKp (wrC x) l l'→Rest w0 w→(N l').wp w.heap Q→N' a w)→
  (∀i l' a w,EnvK n a l'→zKp (wrC x) l l'→Rest w0 w→(X i l').wp w.heap Q→X' i a w)→
  (∀l' a w,EnvK n a l'→Rest w0 w→(R l').wp w.heap Q→R' a w)→
  EnvK n a l→Rest w0 w→(c.trC x h l N X R).wp w.heap Q→x.wpIn (Fw ro) 1 c.P (Ps N' X' R') a w
theorem KNw {x y:Code} {a b:Hint ρ} (h1:TrOk c ro n w0 Q x a) (h2:TrOk c ro n w0 Q y b):∀(l:KEnv) (N:KEnv→M ρ) (X:Nat→KEnv→M ρ) (R:KEnv→M ρ) (N':Act→World→Prop) (X':Nat→Act→World→Prop) (R':Act→World→Prop) (aa:Act) (w:World),
  c.HOk a x (fun l'=>c.trC y b l' N X R) X R→c.HOk b y N X R→
  (∀l' a w,EnvK n a l'→zKp (wrC (.seq x y)) l l'→Rest w0 w→(N l').wp w.heap Q→N' a w)→
  (∀i l' a w,EnvK n a l'→zKp (wrC (.seq x y)) l l'→Rest w0 w→(X i l').wp w.heap Q→X' i a w)→
  (∀l' a w,EnvK n a l'→Rest w0 w→(R l').wp w.heap Q→R' a w)→
  EnvK n aa l→Rest w0 w→(c.trC x a l (fun l'=>c.trC y b l' N X R) X R).wp w.heap Q→(Code.seq x y).wpIn (Fw ro) 1 c.P (Ps N' X' R') aa w:=by
 intro l N X R N' X' R' aa w ha hb hN hX hR hE hW H
 have e1:∀s,wrC (.seq x y) s=false→wrC x s=false∧wrC y s=false:=fun s hs=>by simpa [wrC] using hs
 refine KR fun K hK=>?_
 refine h1 l _ X R K X' R' aa w ha (fun l' a' w' hE' hk hW' H'=>hK _ _ ?_) (fun i l' a' w' hE' hk hW' H'=>hX i l' a' w' hE' (hk.wide fun s hs=>(e1 s hs).1) hW' H') hR hE hW H
 exact h2 l' N X R N' X' R' a' w' hb (fun l'' a'' w'' hE'' hk'' hW'' H''=>hN l'' a'' w'' hE'' (hk.trans hk'' e1) hW'' H'') (fun i l'' a'' w'' hE'' hk'' hW'' H''=>hX i l'' a'' w'' hE'' (hk.trans hk'' e1) hW'' H'') hR hE' hW' H'
theorem KEg {x y:Code} {ha hb:Hint ρ} {t:Nat} {b:Bool} (h1:TrOk c ro n w0 Q x ha) (h2:TrOk c ro n w0 Q y hb):∀(l:KEnv) (N:KEnv→M ρ) (X:Nat→KEnv→M ρ) (R:KEnv→M ρ) (N':Act→World→Prop) (X':Nat→Act→World→Prop) (R':Act→World→Prop) (aa:Act) (w:World),
  look (encL l) t=some (.bool b)→c.HOk ha x N X R→c.HOk hb y N X R→
  (∀l' a w,EnvK n a l'→zKp (wrC (.cond (.tmp t) x y)) l l'→Rest w0 w→(N l').wp w.heap Q→N' a w)→
  (∀i l' a w,EnvK n a l'→zKp (wrC (.cond (.tmp t) x y)) l l'→Rest w0 w→(X i l').wp w.heap Q→X' i a w)→
  (∀l' a w,EnvK n a l'→Rest w0 w→(R l').wp w.heap Q→R' a w)→
  EnvK n aa l→Rest w0 w→(M.ite b (c.trC x ha l N X R) (c.trC y hb l N X R)).wp w.heap Q→(Code.cond (.tmp t) x y).wpIn (Fw ro) 1 c.P (Ps N' X' R') aa w:=by
 intro l N X R N' X' R' aa w hl hha hhb hN hX hR hE hW H
 have e1:∀s,wrC (.cond (.tmp t) x y) s=false→wrC x s=false∧wrC y s=false:=fun s hs=>by simpa [wrC] using hs
 refine ZA b hE hl (fun hb=>?_) (fun hb=>?_)
 ·exact h1 l N X R N' X' R' aa w hha (fun l' a' w' hE' hk=>hN l' a' w' hE' (hk.wide fun s hs=>(e1 s hs).1)) (fun i l' a' w' hE' hk=>hX i l' a' w' hE' (hk.wide fun s hs=>(e1 s hs).1)) hR hE hW (M.ite_t hb H)
 ·exact h2 l N X R N' X' R' aa w hhb (fun l' a' w' hE' hk=>hN l' a' w' hE' (hk.wide fun s hs=>(e1 s hs).2)) (fun i l' a' w' hE' hk=>hX i l' a' w' hE' (hk.wide fun s hs=>(e1 s hs).2)) hR hE hW (M.ite_f hb H)
theorem KCB {x y:Code} {h:Hint ρ} (b:Bool) (h1:TrOk c ro n w0 Q (match b with|true=>x|false=>y) h):∀(l:KEnv) (N:KEnv→M ρ) (X:Nat→KEnv→M ρ) (R:KEnv→M ρ) (N':Act→World→Prop) (X':Nat→Act→World→Prop) (R':Act→World→Prop) (aa:Act) (w:World),
  c.HOk h (match b with|true=>x|false=>y) N X R→
  (∀l' a w,EnvK n a l'→zKp (wrC (.cond (.const (.bool b)) x y)) l l'→Rest w0 w→(N l').wp w.heap Q→N' a w)→
  (∀i l' a w,EnvK n a l'→zKp (wrC (.cond (.const (.bool b)) x y)) l l'→Rest w0 w→(X i l').wp w.heap Q→X' i a w)→
  (∀l' a w,EnvK n a l'→Rest w0 w→(R l').wp w.heap Q→R' a w)→
  EnvK n aa l→Rest w0 w→(c.trC (match b with|true=>x|false=>y) h l N X R).wp w.heap Q→(Code.cond (.const (.bool b)) x y).wpIn (Fw ro) 1 c.P (Ps N' X' R') aa w:=by
 intro l N X R N' X' R' aa w hh hN hX hR hE hW H
 have e1:∀s,wrC (.cond (.const (.bool b)) x y) s=false→wrC x s=false∧wrC y s=false:=fun s hs=>by simpa [wrC] using hs
 cases b with
 |true=>exact KBZ true (fun _=>h1 l N X R N' X' R' aa w hh (fun l' a' w' hE' hk=>hN l' a' w' hE' (hk.wide fun s hs=>(e1 s hs).1)) (fun i l' a' w' hE' hk=>hX i l' a' w' hE' (hk.wide fun s hs=>(e1 s hs).1)) hR hE hW H) (fun hb=>by cases hb)
 |false=>exact KBZ false (fun hb=>by cases hb) (fun _=>h1 l N X R N' X' R' aa w hh (fun l' a' w' hE' hk=>hN l' a' w' hE' (hk.wide fun s hs=>(e1 s hs).2)) (fun i l' a' w' hE' hk=>hX i l' a' w' hE' (hk.wide fun s hs=>(e1 s hs).2)) hR hE hW H)
theorem KIC {x:Code} {h:Hint ρ} {id:Nat} (h1:TrOk c ro n w0 Q x h):∀(l:KEnv) (N:KEnv→M ρ) (X:Nat→KEnv→M ρ) (R:KEnv→M ρ) (N':Act→World→Prop) (X':Nat→Act→World→Prop) (R':Act→World→Prop) (aa:Act) (w:World),
  c.HOk h x N (fun i l'=>bif Nat.beq i id then N l' else X i l') R→
  (∀l' a w,EnvK n a l'→zKp (wrC (.block id x)) l l'→Rest w0 w→(N l').wp w.heap Q→N' a w)→
  (∀i l' a w,EnvK n a l'→zKp (wrC (.block id x)) l l'→Rest w0 w→(X i l').wp w.heap Q→X' i a w)→
  (∀l' a w,EnvK n a l'→Rest w0 w→(R l').wp w.heap Q→R' a w)→
  EnvK n aa l→Rest w0 w→(bif Nat.beq pid id then M.fail else c.trC x h l N (fun i l'=>bif Nat.beq i id then N l' else X i l') R).wp w.heap Q→(Code.block id x).wpIn (Fw ro) 1 c.P (Ps N' X' R') aa w:=by
 intro l N X R N' X' R' aa w hh hN hX hR hE hW H
 cases hp:Nat.beq pid id with
 |true=>rw [hp]at H;exact H.elim
 |false=>
  rw [hp]at H
  refine J6 ?_ hp
  refine h1 l N _ R N' (Xu X' id N') R' aa w hh hN (fun i l' a' w' hE' hk hW' H'=>?_) hR hE hW H
  cases hi:Nat.beq i id with
  |true=>
   rw [hi]at H'
   have e:=Nat.eq_of_beq_eq_true hi
   subst e
   exact Xu.same (hN l' a' w' hE' hk hW' H')
  |false=>
   rw [hi]at H'
   exact Xu.ne hi (hX i l' a' w' hE' hk hW' H')
theorem GC {P:Program} {b:Frame} {a:Act} {k:List Item} {cs:List Frame} {w:World} {c:Code}:step P (lone (b.atR a (.code (.scope c)::k)) cs w)=.next (lone (b.atR a (.code c::.inScope c::k)) cs w):=
 step_lone_go (by simp [stepG,stepG.exec,Frame.atR])
theorem KDd {P:Program} {b:Frame} {a:Act} {k:List Item} {cs:List Frame} {w:World} {c:Code}:step P (lone (b.atR a (.inScope c::k)) cs w)=.next (lone (b.atR a k) cs w):=
 step_lone_go (by simp [stepG,stepG.exec,Frame.atR])
theorem KOx {P:Program} {N:Act→World→Prop} {X:Nat→Act→World→Prop} {R:Act→World→Prop} {a:Act} {w:World} {x:Code} (h:x.wpIn (Fw ro) 1 P (Ps N X R) a w):(Code.scope x).wpIn (Fw ro) 1 P (Ps N X R) a w:=by
 intro b k cs hro _ _
 obtain⟨e,a₁,w₁,hq,harr⟩:=h b (.inScope x::k) cs hro trivial (KHx _)
 cases e with
 |normal=>exact⟨.normal,a₁,w₁,hq,StepsIn.trans (.one (calm rfl) GC) (StepsIn.trans harr (.one (calm rfl) KDd))⟩
 |exit id=>
  have h2:ArrivesIn (Machine.fenced P (Fw ro)) P (lone (b.atR a (.code x::.inScope x::k)) cs w) b k cs (.exit id) a₁ w₁:=
   ⟨fun k' hk=>harr.1 k' (by simpa [exitTo] using hk),fun hr hk=>harr.2 hr (by simpa [exitTo] using hk)⟩
  exact⟨.exit id,a₁,w₁,hq,.of_steps (.one (calm rfl) GC) h2⟩
 |goto l=>exact hq.elim
 |ret=>
  have h2:ArrivesIn (Machine.fenced P (Fw ro)) P (lone (b.atR a (.code x::.inScope x::k)) cs w) b k cs .ret a₁ w₁:=harr
  exact⟨.ret,a₁,w₁,hq,.of_steps (.one (calm rfl) GC) h2⟩
 |panic ch=>
  have h2:ArrivesIn (Machine.fenced P (Fw ro)) P (lone (b.atR a (.code x::.inScope x::k)) cs w) b k cs (.panic ch) a₁ w₁:=harr
  exact⟨.panic ch,a₁,w₁,hq,.of_steps (.one (calm rfl) GC) h2⟩
 |outgrown=>exact hq.elim
theorem KID {x:Code} {h:Hint ρ} (h1:TrOk c ro n w0 Q x h):∀(l:KEnv) (N:KEnv→M ρ) (X:Nat→KEnv→M ρ) (R:KEnv→M ρ) (N':Act→World→Prop) (X':Nat→Act→World→Prop) (R':Act→World→Prop) (aa:Act) (w:World),
  c.HOk h x N X R→
  (∀l' a w,EnvK n a l'→zKp (wrC (.scope x)) l l'→Rest w0 w→(N l').wp w.heap Q→N' a w)→
  (∀i l' a w,EnvK n a l'→zKp (wrC (.scope x)) l l'→Rest w0 w→(X i l').wp w.heap Q→X' i a w)→
  (∀l' a w,EnvK n a l'→Rest w0 w→(R l').wp w.heap Q→R' a w)→
  EnvK n aa l→Rest w0 w→(c.trC x h l N X R).wp w.heap Q→(Code.scope x).wpIn (Fw ro) 1 c.P (Ps N' X' R') aa w:=
 fun l N X R N' X' R' aa w hh hN hX hR hE hW H=>KOx (h1 l N X R N' X' R' aa w hh hN hX hR hE hW H)
theorem tr_j {x:Code} {ks:Ks} {f:TupS ks→M ρ} {h:Hint ρ} (h1:TrOk c ro n w0 Q x h)
  (he:∀l N X R,c.trC x (.j ks f h) l N X R=match tupE ks l with|some t=>f t|none=>M.fail):TrOk c ro n w0 Q x (.j ks f h):=by
 intro l N X R N' X' R' a w hh hN hX hR hE hW H
 rw [he]at H
 cases ht:tupE ks l with
 |none=>rw [ht]at H;exact H.elim
 |some t=>
  rw [ht]at H
  have hk:zKp (wrC x) l (envT ks t):=fun s v _ hv=>z6 ht s v hv
  have hd:c.HOk h x N X R:=by cases x<;>exact hh.2
  have hf:f t=c.trC x h (envT ks t) N X R:=by cases x<;>exact hh.1 t
  simp only [hf]at H
  exact h1 (envT ks t) N X R N' X' R' a w hd (fun l' a' w' hE' hk'=>hN l' a' w' hE' (hk.trans hk' fun s hs=>⟨hs,hs⟩)) (fun i l' a' w' hE' hk'=>hX i l' a' w' hE' (hk.trans hk' fun s hs=>⟨hs,hs⟩)) hR (hE.sub _ (z6 ht)) hW H
theorem KQg {id:Nat} {ops:Array Oper}:TrOk c ro n w0 Q (.region id ops false) (.o:Hint ρ)∨n.size≠c.n:=by
 by_cases hn:n.size=c.n
 ·refine .inl fun l N X R N' X' R' a w hh hN hX hR hE hW H=>?_
  refine KC ?_
  have H:(bif unpB ops then M.fail else c.trN ops (2*ops.size+1) 0 ops.toList l N).wp w.heap Q:=H
  cases hu:unpB ops with
  |true=>rw [hu]at H;exact H.elim
  |false=>
  rw [hu]at H
  exact KQc hn _ 0 ops.toList l a w hE hW H fun l' a' w' hE' hk hW' H'=>hN l' a' w' hE' hk.kp hW' H'
 ·exact .inr hn
theorem tr_o (hn:n.size=c.n):∀x:Code,TrOk c ro n w0 Q x (.o:Hint ρ):=by
 intro x
 induction x with
 |skip=>exact fun l N X R N' X' R' a w hh hN hX hR hE hW H=>Zq (hN l a w hE .refl hW H)
 |label i=>exact fun l N X R N' X' R' a w hh hN hX hR hE hW H=>wpIn_label (hN l a w hE .refl hW H)
 |region id ops d=>
  cases d with
  |false=>exact KQg.resolve_right (fun h=>h hn)
  |true=>exact fun l N X R N' X' R' a w hh hN hX hR hE hW H=>H.elim
 |seq x y ih1 ih2=>exact fun l N X R N' X' R' a w hh hN hX hR hE hW H=>KNw ih1 ih2 l N X R N' X' R' a w (by cases x<;>trivial) (by cases y<;>trivial) hN hX hR hE hW H
 |cond o x y ih1 ih2=>
  intro l N X R N' X' R' a w hh hN hX hR hE hW H
  have t1:∀N X R,c.HOk (.o:Hint ρ) x N X R:=by intro N X R;cases x<;>trivial
  have t2:∀N X R,c.HOk (.o:Hint ρ) y N X R:=by intro N X R;cases y<;>trivial
  cases o with
  |tmp t=>
   simp only [Cx.trC]at H
   cases hl:XJ l t with
   |none=>rw [hl]at H;exact H.elim
   |some k=>
    rw [hl]at H
    cases k with
    |B b=>exact KEg ih1 ih2 l N X R N' X' R' a w (VH hl) (t1 _ _ _) (t2 _ _ _) hN hX hR hE hW H
    |C b=>exact KEg ih1 ih2 l N X R N' X' R' a w (VH hl) (t1 _ _ _) (t2 _ _ _) hN hX hR hE hW H
    |_=>exact H.elim
  |const v=>
   cases v with
   |bool b=>
    cases b with
    |true=>exact KCB true ih1 l N X R N' X' R' a w (t1 _ _ _) hN hX hR hE hW H
    |false=>exact KCB false ih2 l N X R N' X' R' a w (t2 _ _ _) hN hX hR hE hW H
   |_=>exact H.elim
  |_=>exact H.elim
 |block id x ih=>exact fun l N X R N' X' R' a w hh hN hX hR hE hW H=>KIC ih l N X R N' X' R' a w (by cases x<;>trivial) hN hX hR hE hW H
 |scope x ih=>exact fun l N X R N' X' R' a w hh hN hX hR hE hW H=>KID ih l N X R N' X' R' a w (by cases x<;>trivial) hN hX hR hE hW H
 |exit id=>
  intro l N X R N' X' R' a w hh hN hX hR hE hW H
  simp only [Cx.trC]at H
  cases hp:Nat.beq pid id with
  |true=>rw [hp]at H;exact H.elim
  |false=>rw [hp]at H;exact qh (hX id l a w hE .refl hW H) hp
 |ret=>exact fun l N X R N' X' R' a w hh hN hX hR hE hW H=>Uv (hR l a w hE hW H)
 |_=>exact fun l N X R N' X' R' a w hh hN hX hR hE hW H=>H.elim
theorem KRs (hn:n.size=c.n):∀(h:Hint ρ) (x:Code),TrOk c ro n w0 Q x h:=by
 intro h
 induction h with
 |o=>exact tr_o hn
 |q ha hb ih1 ih2=>
  intro x l N X R N' X' R' a w hh hN hX hR hE hW H
  cases x with
  |seq x y=>exact KNw (ih1 x) (ih2 y) l N X R N' X' R' a w hh.1 hh.2 hN hX hR hE hW H
  |cond o x y=>
   cases o with
   |tmp t=>
    simp only [Cx.trC]at H
    cases hl:XJ l t with
    |none=>rw [hl]at H;exact H.elim
    |some k=>
     rw [hl]at H
     cases k with
     |B b=>exact KEg (ih1 x) (ih2 y) l N X R N' X' R' a w (VH hl) hh.1 hh.2 hN hX hR hE hW H
     |C b=>exact KEg (ih1 x) (ih2 y) l N X R N' X' R' a w (VH hl) hh.1 hh.2 hN hX hR hE hW H
     |_=>exact H.elim
   |const v=>
    cases v with
    |bool b=>
     cases b with
     |true=>exact KCB true (ih1 x) l N X R N' X' R' a w hh.1 hN hX hR hE hW H
     |false=>exact KCB false (ih2 y) l N X R N' X' R' a w hh.2 hN hX hR hE hW H
    |_=>exact H.elim
   |_=>exact H.elim
  |region id ops d=>cases d<;>exact H.elim
  |_=>exact H.elim
 |b ha ih=>
  intro x l N X R N' X' R' a w hh hN hX hR hE hW H
  cases x with
  |block id x=>exact KIC (ih x) l N X R N' X' R' a w hh hN hX hR hE hW H
  |scope x=>exact KID (ih x) l N X R N' X' R' a w hh hN hX hR hE hW H
  |region id ops d=>cases d<;>exact H.elim
  |cond o x y=>
   cases o with
   |tmp t=>
    simp only [Cx.trC]at H
    split at H<;>exact H.elim
   |const v=>
    cases v with
    |bool b=>cases b<;>exact H.elim
    |_=>exact H.elim
   |_=>exact H.elim
  |_=>exact H.elim
 |j ks f h ih=>
  intro x
  cases x with
  |label i=>exact fun l N X R N' X' R' a w hh hN hX hR hE hW H=>H.elim
  |exit i=>exact fun l N X R N' X' R' a w hh hN hX hR hE hW H=>H.elim
  |ret=>exact fun l N X R N' X' R' a w hh hN hX hR hE hW H=>H.elim
  |rangeFunc _ _ _ _=>exact fun l N X R N' X' R' a w hh hN hX hR hE hW H=>H.elim
  |scope _=>exact fun l N X R N' X' R' a w hh hN hX hR hE hW H=>H.elim
  |goto _=>exact fun l N X R N' X' R' a w hh hN hX hR hE hW H=>H.elim
  |refuse _=>exact fun l N X R N' X' R' a w hh hN hX hR hE hW H=>H.elim
  |region id ops d=>cases d<;>exact tr_j (ih _) (fun _ _ _ _=>rfl)
  |_=>exact tr_j (ih _) (fun _ _ _ _=>rfl)
 |r em cm wm s=>
  intro x l N X R N' X' R' a w hh hN hX hR hE hW H
  cases x with
  |region id ops d=>
   cases d with
   |false=>exact H.elim
   |true=>exact KQf hn hE hW H fun l' a' w' hE' hk hW' H'=>hN l' a' w' hE' hk.kp hW' H'
  |cond o x y=>
   cases o with
   |tmp t=>
    simp only [Cx.trC]at H
    split at H<;>exact H.elim
   |const v=>
    cases v with
    |bool b=>cases b<;>exact H.elim
    |_=>exact H.elim
   |_=>exact H.elim
  |_=>exact H.elim
 |l ks ms f h ih=>
  intro x l N X R N' X' R' a w hh hN hX hR hE hW H
  cases x with
  |region id ops d=>cases d<;>exact H.elim
  |cond o x y=>
   cases o with
   |tmp t=>
    simp only [Cx.trC]at H
    split at H<;>exact H.elim
   |const v=>
    cases v with
    |bool b=>cases b<;>exact H.elim
    |_=>exact H.elim
   |_=>exact H.elim
  |loop x=>
   simp only [Cx.trC]at H
   cases hok:ksOk x ks ms with
   |false=>rw [hok]at H;exact H.elim
   |true=>
    rw [hok]at H
    simp only [cond_true]at H
    cases hk:tupE ks l with
    |none=>rw [hk]at H;exact H.elim
    |some k=>
     rw [hk]at H
     simp only at H
     cases hs:tupE ms l with
     |none=>rw [hs]at H;exact H.elim
     |some s=>
      rw [hs]at H
      have hall:∀q,(ks.any fun p=>Nat.beq p.1 q)=true→wrC x q=false∧(ms.any fun p=>Nat.beq p.1 q)=false:=by
       intro q hq
       rw [List.any_eq_true]at hq
       obtain⟨p,hp,hq⟩:=hq
       have e:=Nat.eq_of_beq_eq_true hq
       subst e
       unfold ksOk at hok
       rw [List.all_eq_true]at hok
       have:=hok p hp
       simpa using this
      have hsub:∀t:TupS ms,∀q v,look (encL (envT ms t++envT ks k)) q=some v→look (encL (envT ms t)) q=some v∨(look (encL (envT ks k)) q=some v∧look (encL (envT ms t)) q=none):=by
       intro t q v hv
       rw [KEf]at hv
       cases h1:look (encL (envT ms t)) q with
       |some v'=>rw [h1]at hv;exact .inl hv
       |none=>rw [h1]at hv;exact .inr ⟨hv,rfl⟩
      have hE0:EnvK n a (envT ms s++envT ks k):=hE.sub _ fun q v hv=>by
       rcases hsub s q v hv with h1|h1
       ·exact z6 hs q v h1
       ·exact z6 hk q v h1.1
      have hkp:∀t:TupS ms,(∀q v,wrC x q=false→look (encL (envT ms t)) q=some v→look (encL l) q=some v)→zKp (wrC (.loop x)) l (envT ms t++envT ks k):=by
       intro t ht q v hq hv
       rcases hsub t q v hv with h1|h1
       ·exact ht q v hq h1
       ·exact z6 hk q v h1.1
      refine zq (w0:=w0) (fun _=>n) (fun t:{t:TupS ms // ∀q v,wrC x q=false→look (encL (envT ms t)) q=some v→look (encL l) q=some v}=>encL (envT ms t.1++envT ks k)) (Q:=Q) (F:=fun self t=>f k (fun t'=>⟨fun h' Q'=>∀(hp:∀q v,wrC x q=false→look (encL (envT ms t')) q=some v→look (encL l) q=some v),(self ⟨t',hp⟩).wp h' Q',fun hq hw hp=>(self ⟨t',hp⟩).mono hq (hw hp)⟩) t.1) (s:=⟨s,fun q v _ hv=>z6 hs q v hv⟩) ?_ hE0 hW ?_
      ·
       intro Y hY
       refine H (fun t h=>∀hp,Y ⟨t,hp⟩ h) ?_ _
       intro t h hf hp
       exact hY ⟨t,hp⟩ h hf
      ·intro Y self hself t a' w' hE' hW' H'
       have hh:=hh (fun t'=>⟨fun h' Q'=>∀(hp:∀q v,wrC x q=false→look (encL (envT ms t')) q=some v→look (encL l) q=some v),(self ⟨t',hp⟩).wp h' Q',fun hq hw hp=>(self ⟨t',hp⟩).mono hq (hw hp)⟩)
       rw [hh.1 k t.1]at H'
       refine ih _ x (envT ms t.1++envT ks k) _ X R Y X' R' a' w' hh.2 (fun l' a'' w'' hE'' hk'' hW'' H''=>?_) (fun i l' a'' w'' hE'' hk'' hW'' H''=>hX i l' a'' w'' hE'' ((hkp t.1 t.2).trans hk'' fun q hq=>⟨hq,hq⟩) hW'' H'') hR hE' hW' H'
       unfold KKW at H''
       cases h1:tupE ms l' with
       |none=>rw [h1]at H'';exact H''.elim
       |some t'=>
        rw [h1]at H''
        simp only at H''
        cases h2:tupE ks l' with
        |none=>rw [h2]at H'';exact H''.elim
        |some k'=>
         rw [h2]at H''
         have hp:∀q v,wrC x q=false→look (encL (envT ms t')) q=some v→look (encL l) q=some v:=fun q v hq hv=>(hkp t.1 t.2) q v hq (hk'' q v hq (z6 h1 q v hv))
         refine hself ⟨t',hp⟩ a'' w'' (hE''.sub _ fun q v hv=>?_) hW'' (H'' hp)
         rcases hsub t' q v hv with h3|h3
         ·exact z6 h1 q v h3
         ·have hin:=KFw h3.1
          obtain⟨v',hv'⟩:=KOw h2 hin
          have h4:=z6 h2 q v' hv'
          have h5:=hk'' q v' (hall q hin).1 h4
          rw [KEf,qm (hall q hin).2]at h5
          simp only at h5
          rw [h3.1]at h5
          cases h5
          exact h4
  |_=>exact H.elim
end
end Gx
namespace Gx
open Go Gx.Last
def Hint.Ob {ρ:Type}:Hint ρ→Type
 | .o=>Unit
 | .q u v=>u.Ob×v.Ob
 | .b u=>u.Ob
 | .j ks f h=>(TupS ks→M ρ)×h.Ob
 | .l ks ms f h=>(self:TupS ms→M ρ)→(TupS ks→TupS ms→M ρ)×(h self).Ob
 | .r _ _ _ _=>Unit
def Hint.lhs {ρ:Type}:(h:Hint ρ)→h.Ob
 | .o=>()
 | .q u v=>(u.lhs,v.lhs)
 | .b u=>u.lhs
 | .j ks f h=>(f,h.lhs)
 | .l ks ms f h=>fun self=>(fun k s=>f k self s,(h self).lhs)
 | .r _ _ _ _=>()
def Cx.rhs (c:Cx) {ρ:Type}:(h:Hint ρ)→Code→(KEnv→M ρ)→(Nat→KEnv→M ρ)→(KEnv→M ρ)→h.Ob
 | .o,_,_,_,_=>()
 | .q a b,.seq x y,N,X,R=>(c.rhs a x (fun l'=>c.trC y b l' N X R) X R,c.rhs b y N X R)
 | .q a b,.cond _ x y,N,X,R=>(c.rhs a x N X R,c.rhs b y N X R)
 | .q a b,_,_,_,_=>(a.lhs,b.lhs)
 | .b a,.block id x,N,X,R=>c.rhs a x N (fun i l'=>bif Nat.beq i id then N l' else X i l') R
 | .b a,.scope x,N,X,R=>c.rhs a x N X R
 | .b a,_,_,_,_=>a.lhs
 | .j ks f h,x,N,X,R=>(fun t=>c.trC x h (envT ks t) N X R,c.rhs h x N X R)
 | .l ks ms f h,.loop x,N,X,R=>fun self=>(fun k s=>c.trC x (h self) (envT ms s++envT ks k) (KKW ks ms self) X R,c.rhs (h self) x (KKW ks ms self) X R)
 | .l ks ms f h,_,_,_,_=>fun self=>(fun k s=>f k self s,(h self).lhs)
 | .r _ _ _ _,_,_,_,_=>()
theorem KQh {c:Cx} {ρ:Type}:∀{h:Hint ρ} {x:Code} {N:KEnv→M ρ} {X:Nat→KEnv→M ρ} {R:KEnv→M ρ},h.lhs=c.rhs h x N X R→c.HOk h x N X R:=by
 intro h
 induction h with
 |o=>intro x N X R _;cases x<;>trivial
 |r em cm wm s=>intro x N X R _;cases x<;>trivial
 |q a b iha ihb=>
  intro x N X R e
  cases x with
  |seq x y=>have e:=Prod.mk.inj e;exact⟨iha e.1,ihb e.2⟩
  |cond o x y=>have e:=Prod.mk.inj e;exact⟨iha e.1,ihb e.2⟩
  |_=>trivial
 |b a ih=>
  intro x N X R e
  cases x with
  |block id x=>exact ih e
  |scope x=>exact ih e
  |_=>trivial
 |j ks f h ih=>
  intro x N X R e
  have e:(f,h.lhs)=(fun t=>c.trC x h (envT ks t) N X R,c.rhs h x N X R):=by cases x<;>exact e
  have e:=Prod.mk.inj e
  have:(∀t,f t=c.trC x h (envT ks t) N X R)∧c.HOk h x N X R:=⟨fun t=>congrFun e.1 t,ih e.2⟩
  cases x<;>exact this
 |l ks ms f h ih=>
  intro x N X R e
  cases x with
  |loop x=>
   intro self
   have e:=Prod.mk.inj (congrFun e self)
   exact⟨fun k s=>congrFun (congrFun e.1 k) s,ih self e.2⟩
  |_=>trivial
def ret1 (P:Program) (r:ResultVar) (l:KEnv) {ρ:Type}:(k:Tk)→(k.t0→M ρ)→M ρ:=match r with
 | .tmp t=>fun k K=>match XJ l t with
  |some kd=>match k.of kd with
   |some v=>K v
   |none=>M.fail
  |none=>M.fail
 | .cell t ty=>match XJ l t with
  |some (.A a)=>fun k=>match k with
   | .G=>fun K=>match P.info? ty with
    |some i=>bif agB P ty i.size then ldG i.size a>>=K else M.fail
    |none=>M.fail
   |k=>fun K=>bif scB P ty then ldT k a>>=K else M.fail
  |_=>fun _ _=>M.fail
theorem KKX {P:Program} {r:ResultVar} {l:KEnv} {ρ:Type} {k:Tk} {K:k.t0→M ρ} {w:World} {Q:ρ→Heap→Prop} (H:(ret1 P r l k K).wp w.heap Q):
  ∃v:k.t0,(∀{rs vs},RV P (encL l) w rs vs→RV P (encL l) w (r::rs) ((k.kd v).e::vs))∧(K v).wp w.heap Q:=by
 cases r with
 |tmp t=>
  simp only [ret1]at H
  cases hl:XJ l t with
  |none=>rw [hl]at H;exact H.elim
  |some kd=>
   rw [hl]at H
   simp only at H
   cases hk:k.of kd with
   |none=>rw [hk]at H;exact H.elim
   |some v=>
    rw [hk]at H
    refine⟨v,fun hr=>⟨?_,hr⟩,H⟩
    rw [Tk.of_e hk]
    exact VH hl
 |cell t ty=>
  simp only [ret1]at H
  cases hl:XJ l t with
  |none=>rw [hl]at H;exact H.elim
  |some kd=>
   rw [hl]at H
   cases kd with
   |A a=>
    have hlt:look (encL l) t=some (.pointer (some a)):=VH hl
    have hsc:∀τ:Tk,(∀K:τ.t0→M ρ,(bif scB P ty then ldT τ a>>=K else M.fail).wp w.heap Q→∃v:τ.t0,(∀{rs vs},RV P (encL l) w rs vs→RV P (encL l) w (.cell t ty::rs) ((τ.kd v).e::vs))∧(K v).wp w.heap Q):=by
     intro τ K H
     cases hb:scB P ty with
     |false=>rw [hb]at H;exact H.elim
     |true=>
      rw [hb]at H
      obtain⟨v,hv,H⟩:=KQV H
      exact⟨v,fun hr=>RV.cell hlt hb hv hr,H⟩
    cases k with
    |G=>
     simp only at H
     cases hi:P.info? ty with
     |none=>rw [hi]at H;exact H.elim
     |some i=>
      rw [hi]at H
      simp only at H
      cases hb:agB P ty i.size with
      |false=>rw [hb]at H;exact H.elim
      |true=>
       rw [hb]at H
       obtain⟨v,hv,H⟩:=H
       exact⟨v,fun hr=>RV.cellG hlt hb hv hr,H⟩
    |_=>exact hsc _ K H
   |_=>exact H.elim
def retM (P:Program) (l:KEnv) {ρ:Type}:List ResultVar→(ks:List Tk)→(Tup ks→M ρ)→M ρ
 | [],[],K=>K ()
 | [r],[k],K=>ret1 P r l k K
 |r::rs,k::k'::ks,K=>ret1 P r l k fun v=>retM P l rs (k'::ks) fun t=>K (v,t)
 |_,_,_=>M.fail
theorem KOy {P:Program} {l:KEnv} {ρ:Type} {w:World} {Q:ρ→Heap→Prop}:∀{ks:List Tk} {rs:List ResultVar} {K:Tup ks→M ρ},(retM P l rs ks K).wp w.heap Q→
  ∃t:Tup ks,RV P (encL l) w rs ((kdL ks t).map Kd.e)∧(K t).wp w.heap Q:=by
 intro ks
 induction ks with
 |nil=>
  intro rs K H
  cases rs with
  |nil=>exact⟨(),trivial,H⟩
  |cons r rs=>cases rs<;>exact H.elim
 |cons k ks ih=>
  intro rs K H
  cases ks with
  |nil=>
   cases rs with
   |nil=>exact H.elim
   |cons r rs=>
    cases rs with
    |nil=>
     obtain⟨v,h1,h2⟩:=KKX (K:=K) H
     exact⟨v,h1 RV.nil,h2⟩
    |cons r' rs=>exact H.elim
  |cons k' ks=>
   cases rs with
   |nil=>exact H.elim
   |cons r rs=>
    have H:(ret1 P r l k fun v=>retM P l rs (k'::ks) fun t=>K (v,t)).wp w.heap Q:=by cases rs<;>exact H
    obtain⟨v,h1,H⟩:=KKX H
    obtain⟨t,h2,H⟩:=ih H
    exact⟨(v,t),h1 h2,H⟩
theorem KMe:∀{ks:List Tk} (t:Tup ks),ks.all Tk.flat=true→(kdL ks t).map Kd.e=(kdL ks t).map Kd.e0:=by
 intro ks
 induction ks with
 |nil=>intro t h;rfl
 |cons k ks ih=>
  intro t h
  rw [List.all_cons,Bool.and_eq_true]at h
  cases ks with
  |nil=>
   show [(k.kd t).e]=[(k.kd t).e0]
   exact congrArg (fun v=>[v]) (Kd.e_flat (Tk.flat_e h.1 t))
  |cons k' r=>
   show(k.kd (Prod.fst t)).e::(kdL (k'::r) (Prod.snd t)).map Kd.e=(k.kd (Prod.fst t)).e0::(kdL (k'::r) (Prod.snd t)).map Kd.e0
   rw [Kd.e_flat (Tk.flat_e h.1 _),ih _ h.2]
def mvs:List Value→Value
 | [v]=>v
 |vs=>.tuple vs.toArray
theorem KMf {P:Program} {n:Frm} {a:Act} {w:World} {l:List (Nat×Value)} {fn:Func} {rs:List ResultVar} {vs:List Value} (hE:Env n a l) (hf:fn.results=rs.toArray) (h:RV P l w rs vs):(results fn a.tmps).run P w=.ok (mvs vs) w:=by
 have:=Kn hE hf h
 cases vs with
 |nil=>exact this
 |cons v r=>cases r<;>exact this
theorem KOz {ks:List Tk} (t:Tup ks) (h:ks.all Tk.flat=true):mvs ((kdL ks t).map Kd.e)=encR ks t:=by
 cases ks with
 |nil=>rfl
 |cons k ks=>
  cases ks with
  |nil=>rfl
  |cons k' r=>
   rw [KMe t h]
   show _=Value.tuple ((kdL (k::k'::r) t).map Kd.e0).toArray
   cases r<;>rfl
def KIE (f:Func):Code:=match f.body with
 |some c=>c
 |none=>.skip
theorem KU {P:Program} {f:FuncId} {fn:Func} (C:List (CalleeS P)) (ps:List Nat) (rk:List Tk) {args:Array Value} {F:M (Tup rk)} (l0:KEnv) (h:Hint (Tup rk))
  (hf:P.funcs[f]?=some fn) (hb:fn.body.isSome=true) (hs:Nat.ble args.size fn.ntmps=true) (hl:KJu args (encL l0)) (hk:rk.all Tk.flat=true)
  (hF:F=Cx.trC ⟨P,C,fn.ntmps,ps⟩ (KIE fn) h l0 (fun l=>retM P l fn.results.toList rk M.pure) (fun _ _=>M.fail) (fun l=>retM P l fn.results.toList rk M.pure))
  (hO:h.lhs=Cx.rhs ⟨P,C,fn.ntmps,ps⟩ h (KIE fn) (fun l=>retM P l fn.results.toList rk M.pure) (fun _ _=>M.fail) (fun l=>retM P l fn.results.toList rk M.pure)):
  ZG P f args (encR rk) F:=by
 obtain⟨c,hc⟩:=Option.isSome_iff_exists.1 hb
 have hbo:KIE fn=c:=by unfold KIE;rw [hc]
 rw [hbo]at hF hO
 refine KHy (encL l0) hf hc rfl (Nat.le_of_ble_eq_true hs) (Z8 hl) fun w0 w Q R a hret hE hR H=>?_
 have hfin:∀l' a w,EnvK ⟨fn.ntmps,[]⟩ a l'→Rest w0 w→(retM P l' fn.results.toList rk M.pure).wp w.heap Q→R a w:=by
  intro l' a w hE hR H
  obtain⟨t,h1,h2⟩:=KOy H
  exact hret a w _ t _ hE hR (KMf hE (by simp) h1) (KOz t hk) h2
 rw [hF]at H
 exact KRs (c:=⟨P,C,fn.ntmps,ps⟩) (n:=⟨fn.ntmps,[]⟩) rfl h c l0 _ _ _ R X0 R a w (KQh hO) (fun l' a w hE _ hR H=>hfin l' a w hE hR H) (fun i l' a w _ _ _ H=>H.elim) hfin hE hR H
end Gx
namespace Gx
open Go Gx.Last
structure EnvD (ds:List Deferred) (m:Nat) (a:Act) (l:List (Nat×Value)):Prop where
 env:Env ⟨m,[]⟩ {tmps:=a.tmps,defers:=[]} l
 def_:a.defers=ds
section
variable {P:Program} {ops:Array Oper} {Q:Exit→Act→World→Prop} {a:Act} {w w0:World} {l:List (Nat×Value)} {rest:List Oper} {o:Oper} {ds:List Deferred} {m:Nat}
theorem EnvD.put (hE:EnvD ds m a l) (d:Nat) (v:Value) (hd:Nat.blt d m=true):EnvD ds m (a.put (some d) v) ((d,v)::l):=⟨hE.env.put d v hd,hE.def_⟩
theorem z8 (h:Q .normal a w):wpListIn (Fw none) 1 P ops Q [] a w:=h
theorem KQi {v:Value} {w1:World} (hg:o.guard=none) (hrun:(execOp a.eval o).run P w=.ok (.value v) w1) (h:wpListIn (Fw none) 1 P ops Q rest (a.put o.dst v) w1):wpListIn (Fw none) 1 P ops Q (o::rest) a w:=by
 refine wpListIn_plain hg fun K' hK=>⟨fun _ _=>trivial,?_⟩
 rw [zo hrun (fun d h=>by cases h)]
 exact hK _ _ h
theorem VI {d:Nat} {v:Value} (hd:o.dst=some d) (hg:o.guard=none) (hE:EnvD ds m a l) (hn:Nat.blt d m=true) (hrun:∀b:Act,Env ⟨m,[]⟩ b l→(execOp b.eval o).run P w=.ok (.value v) w)
  (h:∀a',EnvD ds m a' ((d,v)::l)→wpListIn (Fw none) 1 P ops Q rest a' w):wpListIn (Fw none) 1 P ops Q (o::rest) a w:=by
 refine KQi hg (show(execOp a.eval o).run P w=.ok (.value v) w from hrun {tmps:=a.tmps,defers:=[]} hE.env) ?_
 rw [hd]
 exact h _ (hE.put d v hn)
theorem KCa {d:Nat} {v:Value} {h1:Heap} (hd:o.dst=some d) (hg:o.guard=none) (hE:EnvD ds m a l) (hn:Nat.blt d m=true) (hR:Rest w0 w) (hrun:∀b:Act,Env ⟨m,[]⟩ b l→(execOp b.eval o).run P w=.ok (.value v) {w with heap:=h1})
  (h:∀a' w',EnvD ds m a' ((d,v)::l)→Rest w0 w'→w'.heap=h1→wpListIn (Fw none) 1 P ops Q rest a' w'):wpListIn (Fw none) 1 P ops Q (o::rest) a w:=by
 refine KQi hg (show(execOp a.eval o).run P w=.ok (.value v) {w with heap:=h1}from hrun {tmps:=a.tmps,defers:=[]} hE.env) ?_
 rw [hd]
 exact h _ _ (hE.put d v hn) (hR.trans ⟨rfl,rfl,rfl,Nat.le_refl _⟩) rfl
theorem KFx {h1:Heap} (hd:o.dst=none) (hg:o.guard=none) (hE:EnvD ds m a l) (hR:Rest w0 w) (hrun:∀b:Act,Env ⟨m,[]⟩ b l→(execOp b.eval o).run P w=.ok .skip {w with heap:=h1})
  (h:∀a' w',EnvD ds m a' l→Rest w0 w'→w'.heap=h1→wpListIn (Fw none) 1 P ops Q rest a' w'):wpListIn (Fw none) 1 P ops Q (o::rest) a w:=by
 refine wpListIn_plain hg fun K' hK=>⟨fun _ _=>trivial,?_⟩
 rw [zo (show(execOp a.eval o).run P w=.ok .skip {w with heap:=h1}from hrun {tmps:=a.tmps,defers:=[]} hE.env) (fun d h=>by cases h)]
 refine hK _ _ ?_
 rw [hd]
 exact h _ _ hE (hR.trans ⟨rfl,rfl,rfl,Nat.le_refl _⟩) rfl
theorem KHG {d:Option Nat} {f:FuncId} {as:Array Operand} {ts:Array TypeId} {ty:TypeId} {pos:String} {aft:Array Edge} {vs:List Value} {ρ:Type} {enc:ρ→Value} {F:M (Value⊕ρ)} {Qx:Value⊕ρ→Heap→Prop}
  (hE:EnvD ds m a l) (hR:Rest w0 w) (hc:Callee? P f) (ha:opvs l as.toList=some vs) (hS:J3 P f vs.toArray enc F) (H:F.wp w.heap Qx)
  (hp:∀v w',Rest w0 w'→Qx (.inl v) w'.heap→Q (.panic [{v:=v,recovered:=false}]) a w')
  (h:∀r a' w',a'=a.put d (enc r)→Rest w0 w'→Qx (.inr r) w'.heap→wpListIn (Fw none) 1 P ops Q rest a' w'):
  wpListIn (Fw none) 1 P ops Q (⟨d,.call {callee:=.value (.func f),args:=as,argTypes:=ts},ty,pos,aft,none⟩::rest) a w:=by
 refine wpListIn_plain rfl fun K' hK=>⟨fun _ _=>trivial,?_⟩
 have hrun:(execOp a.eval ⟨d,.call {callee:=.value (.func f),args:=as,argTypes:=ts},ty,pos,aft,none⟩).run P w=.ok (.enter f vs.toArray) w:=Nb (a:={tmps:=a.tmps,defers:=[]}) hE.env hc ha
 rw [zo hrun (fun d h=>by cases h),Oper.uponIn_enter]
 refine⟨fun _=>Nat.le_refl 1,YY ((hS w _ H).mono ?_)⟩
 rintro e w' ⟨r,he,hq,hr⟩
 cases r with
 |inl v=>subst he;exact hp v w' (hR.trans hr) hq
 |inr r=>subst he;exact hK _ _ (h r _ w' rfl (hR.trans hr) hq)
theorem KKY {x:Operand} {fv:Fn} {cap:Array Value} {ty:TypeId} {pos:String} {aft:Array Edge} (hE:EnvD ds m a l) (hx:opv l x=some (.func fv #[] cap))
  (h:∀a',EnvD ({target:=.fn fv cap,args:=#[]}::ds) m a' l→wpListIn (Fw none) 1 P ops Q rest a' w):
  wpListIn (Fw none) 1 P ops Q (⟨none,.defer {callee:=.value x,args:=#[],argTypes:=#[]},ty,pos,aft,none⟩::rest) a w:=by
 refine wpListIn_plain rfl fun K' hK=>⟨fun _ _=>trivial,?_⟩
 have hrun:(execOp a.eval ⟨none,.defer {callee:=.value x,args:=#[],argTypes:=#[]},ty,pos,aft,none⟩).run P w=.ok (.defer {target:=.fn fv cap,args:=#[]}) w:=by
  have hx':a.eval x=.func fv #[] cap:=Env.opv (a:={tmps:=a.tmps,defers:=[]}) hE.env hx
  simp [execOp,resolve,Deferred.ofValue,hx']
 rw [show(Fw none).round=none from rfl,Oper.semAt_none,hrun,Oper.uponIn_defer]
 exact hK _ _ (h _ ⟨hE.env,by show _::a.defers=_;rw [hE.def_]⟩)
theorem Uo {id:Nat} {ops:Array Oper} (h:wpListIn (Fw none) 1 P ops Q ops.toList a w):(Code.region id ops false).wpIn (Fw none) 1 P Q a w:=wpIn_region_list h
theorem KKZ {t:Nat} {x y:Code} (b:Bool) (hE:EnvD ds m a l) (hb:look l t=some (.bool b)) (ht:b=true→x.wpIn (Fw none) 1 P Q a w) (hf:b=false→y.wpIn (Fw none) 1 P Q a w):(Code.cond (.tmp t) x y).wpIn (Fw none) 1 P Q a w:=
 wpIn_cond_split (show a.eval (.tmp t)=.bool b from Env.eval (a:={tmps:=a.tmps,defers:=[]}) hE.env hb) ht hf
end
end Gx
namespace Gx
open Go
theorem Upd.set_ (h:Heap) (l:Nat) (o:Obj):Upd l h (h.setIfInBounds l o):=⟨by simp,fun i hi=>by rw [Array.getElem?_setIfInBounds,if_neg (fun e=>hi e.symm)]⟩
theorem KEh {h:Heap} {l:Nat} {o o':Obj} (hb:h[l]?=some o):(h.setIfInBounds l o')[l]?=some o':=by
 rw [Array.getElem?_setIfInBounds,if_pos rfl,if_pos (JT hb)]
end Gx
