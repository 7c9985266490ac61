/- Own library: a small logic of Lean programs over the model's heap, with the laws that tie Go code to it. No condition. -/
import Derived.WalkKit
import Derived.OrdersHeld
import Derived.TacticsIn
import Derived.RangeFuncCalls
import Derived.Deep.RegionHeld3
import Derived.Laws.BitsLemmas
import Derived.RowKit
import Derived.OrdersIn
import Derived.KernelRfl
set_option linter.unusedVariables false
set_option linter.unusedSimpArgs false
namespace Gx
open Go
abbrev Ea:=Array Value
abbrev Eb:=List UInt8
abbrev Ec:=@of_decide_eq_true
abbrev Ed:=@of_decide_eq_false
abbrev Ee:=@Nat.le_refl
abbrev Ef:=@List.length_cons
abbrev Eg:=@Bool.and_eq_true
abbrev Eh:=@List.drop_eq_getElem_cons
abbrev Ei:=@decide_eq_true_iff
abbrev Ej:=@decide_eq_true
abbrev Ek:=@List.append_assoc
abbrev El:=@Nat.zero_le
abbrev Em:=@List.getElem?_eq_getElem
abbrev En:=@List.length_nil
abbrev Eo:=@decide_eq_false
abbrev Ep:=@Array.length_toList
abbrev Er:=@List.map_cons
abbrev Es:=@decide_eq_decide
abbrev Et:=@List.take_succ_eq_append_getElem
abbrev Eu:=@Nat.eq_of_beq_eq_true
abbrev Ev:=@List.mem_cons_of_mem
abbrev Ew:=@congrArg
abbrev Ex:=@List.length_drop
abbrev Ey:=@List.cons_append
abbrev Ez:=@Nat.lt_of_lt_of_le
abbrev EB:=@List.all_eq_true
abbrev EC:=@Nat.zero_add
abbrev ED:=@List.mem_cons
abbrev EF:=@Array.getElem?_eq_getElem
abbrev EG:=@Array.toArray_toList
abbrev EH:=@Nat.lt_succ_self
abbrev EI:=@List.length_take
abbrev EJ:=@List.getElem_mem
abbrev EK:=@List.getElem?_eq_none
abbrev EL:=@List.length_map
abbrev EM:=@Decidable.byContradiction
abbrev EN:=@decide_eq_true_eq
abbrev EO:=@Bool.or_eq_true
abbrev EP:=@List.not_mem_nil
abbrev EQ:=@decide_eq_false_iff_not
abbrev ER:=@List.take_length
abbrev ES:=@Nat.lt_or_ge
abbrev ET:=@List.flatMap_cons
abbrev EU:=@List.take_of_length_le
abbrev EV:=@Array.getElem?_eq_none
abbrev EW:=@List.nil_append
abbrev EX:=@List.all_cons
abbrev EY:=@List.drop_length
abbrev EZ:=@Bool.eq_iff_iff
abbrev E0:=@List.append_nil
abbrev E8:=@List.length_eq_zero_iff
abbrev E9:=@Bool.true_and
abbrev Fa:=@List.getD_eq_getElem?_getD
abbrev Fb:=@Nat.le_trans
abbrev Fc:=@Nat.le_of_ble_eq_true
abbrev Fd:=@List.drop_zero
abbrev Fe:=@Bool.decide_or
abbrev Ff:=@Bool.or_eq_false_iff
abbrev Fg:=@UInt8.toNat_inj
abbrev Fi:=@List.getElem?_append_right
abbrev Fj:=@List.getElem?_eq_some_iff
abbrev Fk:=@List.getElem?_append_left
abbrev Fl:=@List.length_pos_iff
abbrev Fm:=@List.map_append
abbrev Fo:=@Bool.false_and
abbrev Fp:=@List.getElem_append_left
abbrev Fq:=@List.take_succ_cons
abbrev Fr:=@or_false
abbrev Fs:=@List.getElem?_map
abbrev Ft:=@List.sum_cons
abbrev Fu:=@Array.getElem?_toList
abbrev Fv:=@List.mem_map
abbrev Fx:=@beq_iff_eq
abbrev Fy:=@cond_true
abbrev FA:=@List.drop_eq_nil_iff
abbrev FB:=@decide_not
abbrev FC:=@List.takeWhile_cons_of_neg
abbrev FD:=@Int.tmod_eq_emod_of_nonneg
abbrev FE:=@List.getElem_append_right
abbrev FF:=@List.sizeOf_lt_of_mem
abbrev FG:=@Option.bind_some
abbrev FH:=@Bool.and_false
abbrev FI:=@Int.toNat_natCast
abbrev FJ:=@Bool.not_eq_true'
abbrev FL:=@List.head?_cons
abbrev FM:=@Bool.decide_and
abbrev FN:=@Array.getElem?_setIfInBounds
abbrev FO:=@List.getElem_cons_zero
abbrev FP:=@Array.toList_map
abbrev FQ:=@List.mem_range
abbrev FR:=@List.take_append_drop
abbrev FS:=@UInt8.ofNat_toNat
abbrev FT:=@Nat.mul_one
abbrev FU:=@List.take_zero
abbrev FV:=@List.drop_drop
abbrev FW:=@Nat.sub_zero
abbrev FX:=@Nat.add_zero
abbrev FY:=@List.getElem_cons_succ
abbrev FZ:=@Nat.min_eq_left
abbrev F0:=@List.mem_append
abbrev F1:=@List.all_append
abbrev F4:=@Array.size_push
abbrev F5:=@Bool.false_or
abbrev F6:=@Bool.and_self
abbrev F7:=@List.take_left
abbrev F8:=@List.exists_cons_of_ne_nil
abbrev Ia:=@List.dropWhile_cons_of_pos
abbrev Ib:=@List.dropWhile_cons_of_neg
abbrev Ic:=@List.map_map
abbrev Ie:=@List.getElem_map
abbrev Ig:=@List.any_eq_true
abbrev Ih:=@List.map_congr_left
abbrev Ii:=@List.getElem_of_mem
abbrev Ij:=@List.flatMap_append
abbrev Ik:=@Prod.ext
abbrev Il:=@UInt8.toNat_ofNat'
abbrev Im:=@Bool.false_eq_true
abbrev Io:=@Nat.add_mul
abbrev Ip:=@List.tail_cons
abbrev Iq:=@List.map_nil
abbrev Ir:=@List.head?_eq_getElem?
abbrev Is:=@List.drop_left
abbrev It:=@Bool.and_eq_false_iff
abbrev Iu:=@Array.getElem?_modify
abbrev Iv:=@List.filter_cons
abbrev Iw:=@Array.ext'
abbrev Ix:=@Array.eq_empty_of_size_eq_zero
abbrev Iy:=@Nat.add_assoc
abbrev Iz:=@List.any_cons
abbrev IA:=@List.mem_filter
abbrev IB:=@List.foldl_cons
abbrev IC:=@Int.toNat_of_nonneg
abbrev ID:=@Nat.beq_refl
abbrev IE:=@Array.getD_eq_getD_getElem?
abbrev IF:=@if_false
abbrev IG:=@bne_iff_ne
abbrev II:=@List.zip_cons_cons
abbrev IJ:=@List.takeWhile_cons_of_pos
abbrev IK:=@Array.getElem?_eq_some_iff
abbrev IL:=@Array.getElem?_append_left
abbrev IM:=@Nat.le_succ
abbrev IN:=@List.size_toArray
abbrev IP:=@Classical.not_not
abbrev IQ:=@Option.isSome_iff_exists
abbrev IR:=@Bool.and_true
abbrev IS:=@List.mem_reverse
abbrev IT:=@List.isEmpty_iff
abbrev IU:=@Bool.not_eq_true
abbrev IV:=@Nat.blt_eq
abbrev IW:=@Array.mem_of_getElem?
abbrev IX:=@List.count_le_length
abbrev IY:=@dif_pos
abbrev IZ:=@beq_eq_false_iff_ne
abbrev I0:=@Array.getElem?_push
abbrev I1:=@Nat.eq_zero_or_pos
abbrev I6:=@List.getElem?_take
abbrev I8:=@Array.any_eq_true'
abbrev I9:=@not_false_eq_true
abbrev Oa:=@if_true
abbrev Oc:=@Array.size_append
abbrev Od:=@Nat.mod_eq_of_lt
abbrev Oe:=@List.length_tail
abbrev Of:=@Array.mem_filter
abbrev Og:=@Option.map_some
abbrev Oh:=@Or.inl
abbrev Oi:=@Nat.mod_lt
abbrev Oj:=@List.mapM_cons
abbrev Ok:=@Int.tdiv_eq_ediv_of_nonneg
abbrev Ol:=@Bool.and_assoc
abbrev Om:=@ByteArray.ext
abbrev On:=@Bool.not_true
abbrev Oo:=@Array.setIfInBounds_comm
abbrev Oq:=@Nat.add_sub_cancel_left
abbrev Ot:=@dif_neg
abbrev Ou:=@Nat.sub_self
abbrev Ov:=@List.takeWhile_sublist
abbrev Ow:=@List.filter_eq_nil_iff
abbrev Ox:=@List.append_eq_nil_iff
abbrev Oy:=@List.Sublist.length_le
abbrev Oz:=@UInt8.lt_iff_toNat_lt
abbrev OA:=@List.getElem?_toArray
abbrev OB:=@Array.getElem_push_lt
abbrev OC:=@congrFun
abbrev OD:=@Array.mem_toList_iff
abbrev OE:=@List.drop_succ_cons
end Gx
namespace Gx
open Go
abbrev Heap:=Array Obj
structure M (α:Type) where
 wp:Heap->(α->Heap->Prop)->Prop
 mono:∀{h:Heap} {Q Q':α->Heap->Prop},(∀r h',Q r h'->Q' r h')->wp h Q->wp h Q'
namespace M
def pure {α:Type} (a:α):M α:=⟨λh Q=>Q a h,λhq h=>hq _ _ h⟩
def bind {α β:Type} (m:M α) (f:α->M β):M β:=
 ⟨λh Q=>m.wp h (λr h'=>(f r).wp h' Q),λhq h=>m.mono (λr _ h'=>(f r).mono hq h') h⟩
instance:Monad M where
 pure:=M.pure
 bind:=M.bind
def need (p:Prop):M Unit:=⟨λh Q=>p/\Q () h,λhq h=>⟨h.1,hq _ _ h.2⟩⟩
def fail {α:Type}:M α:=⟨λ_ _=>False,λ_ h=>h⟩
def get {α:Type} (p:Heap->α->Prop):M α:=⟨λh Q=>∃r,p h r/\Q r h,λhq ⟨r,hp,h⟩=>⟨r,hp,hq _ _ h⟩⟩
def put {α:Type} (c:Heap->α->Prop) (f:Heap->α->Heap):M α:=⟨λh Q=>∃r,c h r/\Q r (f h r),λhq ⟨r,hp,h⟩=>⟨r,hp,hq _ _ h⟩⟩
def any {α:Type} (p:Heap->α->Heap->Prop) (c:Heap->Prop):M α:=⟨λh Q=>c h/\∀r h',p h r h'->Q r h',λhq h=>⟨h.1,λr h' hp=>hq _ _ (h.2 r h' hp)⟩⟩
def both {α:Type} (m n:M α):M α:=⟨λh Q=>m.wp h Q/\n.wp h Q,λhq h=>⟨m.mono hq h.1,n.mono hq h.2⟩⟩
def ite {α:Type} (b:Bool) (m n:M α):M α:=match b with|true=>m|false=>n
def loop {σ ρ:Type} (F:(σ->M ρ)->σ->M ρ) (s:σ):M ρ:=
 ⟨λh Q=>∀X:σ->Heap->Prop,(∀s h,(F (λs'=>⟨λh' _=>X s' h',λ_ x=>x⟩) s).wp h Q->X s h)->X s h,
  λhq hw X hX=>hw X (λs h hf=>hX s h ((F _ s).mono hq hf))⟩
theorem loop_inv {σ ρ:Type} {F:(σ->M ρ)->σ->M ρ} {Q:ρ->Heap->Prop} (I:σ->Heap->Prop) (μ:σ->Heap->Nat)
  (step:∀s h,I s h->∀self:σ->M ρ,(∀s' h',I s' h'->μ s' h'<μ s h->(self s').wp h' Q)->(F self s).wp h Q)
  {s:σ} {h:Heap} (hI:I s h):(loop F s).wp h Q:=by
 intro X hX
 have key:∀n s h,μ s h=n->I s h->X s h:=by
  intro n
  induction n using Nat.strongRecOn with
  |_ n ih=>
   intro s h hn hI
   exact hX s h (step s h hI _ λs' h' hI' hlt=>ih (μ s' h') (hn▸hlt) s' h' rfl hI')
 exact key _ s h rfl hI
end M
theorem M.unbind {α β:Type} {m:M α} {f:α->M β} {h:Heap} {Q:β->Heap->Prop} (H:(m>>=f).wp h Q):m.wp h (λr h'=>(f r).wp h' Q):=H
section unfolds
variable {α β:Type} {h:Heap}
end unfolds
def look:List (Nat×Value)->Nat->Option Value
 | [],_=>none
 |(k,v)::l,d=>bif Nat.beq k d then some v else look l d
structure Frm where
 size:Nat
 marks:List Nat
instance (n:Nat):OfNat Frm n:=⟨⟨n,[]⟩⟩
def KTL (b:Nat):Deferred:={target:=.collected b,args:=#[]}
structure Env (n:Frm) (a:Act) (l:List (Nat×Value)):Prop where
 size:a.tmps.size=n.size
 defers:a.defers=n.marks.map KTL
 at_:∀d v,look l d=some v->a.tmps[d]?=some v
theorem Env.put {n:Frm} {a:Act} {l:List (Nat×Value)} (hE:Env n a l) (d:Nat) (v:Value) (hd:Nat.blt d n.size=true):Env n (a.put (some d) v) ((d,v)::l):=by
 have hd':d<n.size:=by simpa [IV] using hd
 refine⟨by simp [Act.put,hE.size],hE.defers,λd' v' hl=>?_⟩
 simp only [look]at hl
 by_cases h:d=d'
 ·subst h
  simp at hl
  subst hl
  simp [Act.put,hE.size,hd']
 ·have hb:Nat.beq d d'=false:=by
   cases hx:Nat.beq d d' with
   |false=>rfl
   |true=>exact absurd (Eu hx) h
  rw [hb]at hl
  simp only [cond_false]at hl
  have:=hE.at_ d' v' hl
  simp only [Act.put]
  rw [Array.getElem?_setIfInBounds_ne h]
  exact this
theorem Env.eval {n:Frm} {a:Act} {l:List (Nat×Value)} (hE:Env n a l) {t:Nat} {v:Value} (h:look l t=some v):a.eval (.tmp t)=v:=by
 have:=hE.at_ t v h
 simp [Act.eval,IE,this]
theorem Env.sub {n:Frm} {a:Act} {l:List (Nat×Value)} (hE:Env n a l) (l':List (Nat×Value)) (h:∀d v,look l' d=some v->look l d=some v):Env n a l':=
 ⟨hE.size,hE.defers,λd v hl=>hE.at_ d v (h d v hl)⟩
def Subs (l:List (Nat×Value)):List (Nat×Value)->Prop
 | []=>True
 |(d,v)::r=>look l d=some v/\Subs l r
theorem Subs.spec {l l':List (Nat×Value)} (h:Subs l l'):∀d v,look l' d=some v->look l d=some v:=by
 induction l' with
 |nil=>intro d v hl;simp [look]at hl
 |cons p r ih=>
  obtain⟨k,x⟩:=p
  intro d v hl
  simp only [look]at hl
  cases hb:Nat.beq k d with
  |true=>
   rw [hb]at hl
   simp only [Fy,Option.some.injEq]at hl
   subst hl
   have:=Eu hb
   subst this
   exact h.1
  |false=>
   rw [hb]at hl
   exact ih h.2 d v hl
theorem Subs.nil {l:List (Nat×Value)}:Subs l []:=trivial
theorem Subs.cons {l r:List (Nat×Value)} {d:Nat} {v:Value} (h:look l d=some v) (hr:Subs l r):Subs l ((d,v)::r):=⟨h,hr⟩
theorem Env.cut {n:Frm} {a:Act} {l l':List (Nat×Value)} (hE:Env n a l) (h:Subs l l'):Env n a l':=hE.sub l' h.spec
theorem Env.enter {n:Nat} (args:Ea) (l:List (Nat×Value)) (hs:args.size<=n) (h:∀d v,look l d=some v->args[d]?=some v):
  Env ⟨n,[]⟩ {tmps:=args++Array.replicate (n - args.size) undef,defers:=[]} l:=by
 refine⟨by simp;omega,rfl,λd v hl=>?_⟩
 have:=h d v hl
 have hlt:d<args.size:=by
  rcases ES d args.size with h'|h'
  ·exact h'
  ·rw [EV h']at this;cases this
 simp only
 rw [IL hlt]
 exact this
structure Rest (w w':World):Prop where
 os:w'.os=w.os
 output:w'.output=w.output
 tape:w'.tape=w.tape
 drawn:w.drawn<=w'.drawn
theorem Rest.refl (w:World):Rest w w:=⟨rfl,rfl,rfl,Ee _⟩
theorem Rest.trans {w w' w'':World} (h:Rest w w') (h':Rest w' w''):Rest w w'':=⟨h'.os.trans h.os,h'.output.trans h.output,h'.tape.trans h.tape,Fb h.drawn h'.drawn⟩
def pid:Nat:=1000000007
def Ps (N:Act->World->Prop) (X:Nat->Act->World->Prop) (R:Act->World->Prop):Exit->Act->World->Prop
 | .normal,a,w=>N a w
 | .exit id,a,w=>Nat.beq pid id=false/\X id a w
 | .ret,a,w=>R a w
 | .panic ch,a,w=>∃v,ch=[{v:=v,recovered:=false}]/\X pid {tmps:=#[v],defers:=a.defers} w
 |_,_,_=>False
theorem KLy {N:Act->World->Prop} {X:Nat->Act->World->Prop} {R:Act->World->Prop} {d:Option Tmp} {v:Value}:∀c a w,Ps N X R (.panic c) (a.put d v) w->Ps N X R (.panic c) a w:=by
 intro c a w h
 cases d<;>exact h
def Xu (X:Nat->Act->World->Prop) (id:Nat) (N:Act->World->Prop):Nat->Act->World->Prop:=λi=>bif Nat.beq i id then N else X i
def X0:Nat->Act->World->Prop:=λ_ _ _=>False
abbrev Fw (ro:Option Nat):Fence:={Fence.wide with round:=ro}
section rules
variable {ro:Option Nat} {P:Program} {N:Act->World->Prop} {X:Nat->Act->World->Prop} {R:Act->World->Prop} {a:Act} {w:World}
theorem GQ {x y:Code} (h:∀K:Act->World->Prop,(∀a w,y.wpIn (Fw ro) 1 P (Ps N X R) a w->K a w)->x.wpIn (Fw ro) 1 P (Ps K X R) a w):(Code.seq x y).wpIn (Fw ro) 1 P (Ps N X R) a w:=by
 refine wpIn_seq ?_
 refine wpIn_mono (h (λa w=>y.wpIn (Fw ro) 1 P (Ps N X R) a w) λ_ _ h=>h) ?_
 intro e a w hh
 cases e<;>exact hh
theorem KXq {x:Code} (J:Act->World->Prop) (hj:∀a w,J a w->N a w) (hx:x.wpIn (Fw ro) 1 P (Ps J X R) a w):x.wpIn (Fw ro) 1 P (Ps N X R) a w:=
 wpIn_mono hx λe a w hh=>by cases e<;>first|exact hh|exact hj _ _ hh
theorem KHk {id:Nat} {c:Code} (h:c.wpIn (Fw ro) 1 P (Ps N (Xu X id N) R) a w) (hid:Nat.beq pid id=false:=by rfl):(Code.block id c).wpIn (Fw ro) 1 P (Ps N X R) a w:=by
 refine wpIn_block (wpIn_mono h ?_)
 intro e a w hh
 cases e with
 |exit i=>
  obtain⟨hi0,hh⟩:=hh
  simp only [Exit.inBlock,Xu]at hh⊢
  by_cases hi:i=id
  ·subst hi;simpa [Ps] using hh
  ·rw [if_neg hi]
   have:Nat.beq i id=false:=by
    cases hx:Nat.beq i id with
    |false=>rfl
    |true=>exact absurd (Eu hx) hi
   rw [this]at hh
   exact⟨hi0,hh⟩
 |panic ch=>
  obtain⟨v,h1,h2⟩:=hh
  unfold Xu at h2
  rw [hid]at h2
  exact⟨v,h1,h2⟩
 |_=>exact hh
theorem Xu.same {id:Nat} (h:N a w):Xu X id N id a w:=by
 unfold Xu
 rw [show Nat.beq id id=true from ID id]
 exact h
theorem Xu.ne {i id:Nat} (hne:Nat.beq i id=false) (h:X i a w):Xu X id N i a w:=by
 unfold Xu
 rw [hne]
 exact h
theorem KJf (h:N a w):Code.skip.wpIn (Fw ro) 1 P (Ps N X R) a w:=wpIn_skip h
theorem KXr {id:Nat} (h:X id a w) (hid:Nat.beq pid id=false:=by rfl):(Code.exit id).wpIn (Fw ro) 1 P (Ps N X R) a w:=wpIn_exit ⟨hid,h⟩
theorem KNh (h:R a w):Code.ret.wpIn (Fw ro) 1 P (Ps N X R) a w:=wpIn_ret h
theorem KCw {n:Frm} {l:List (Nat×Value)} {t:Nat} {x y:Code} (b:Bool) (hE:Env n a l) (hb:look l t=some (.bool b))
  (ht:b=true->x.wpIn (Fw ro) 1 P (Ps N X R) a w) (hf:b=false->y.wpIn (Fw ro) 1 P (Ps N X R) a w):(Code.cond (.tmp t) x y).wpIn (Fw ro) 1 P (Ps N X R) a w:=
 wpIn_cond_split (hE.eval hb) ht hf
theorem KGr {x y:Code} (b:Bool)
  (ht:b=true->x.wpIn (Fw ro) 1 P (Ps N X R) a w) (hf:b=false->y.wpIn (Fw ro) 1 P (Ps N X R) a w):(Code.cond (.const (.bool b)) x y).wpIn (Fw ro) 1 P (Ps N X R) a w:=
 wpIn_cond_split rfl ht hf
def KEU (ro:Option Nat) (P:Program) (c:Code) (Q:Exit->Act->World->Prop) (a:Act) (w:World):Prop:=
 ∀(b:Frame) (k:List Item) (cs:List Frame),b.roundOf=ro->
  ∃e a' w',Q e a' w'/\ArrivesIn (Machine.fenced P (Fw ro)) P (lone (b.atR a (.code c::.inLoop c::k)) cs w) b k cs e a' w'
theorem KOr (n:Nat):(Fw ro).room n:=λd h=>by simp [Fw,Fence.wide]at h
theorem calm {fr:Frame} {cs:List Frame} (ha:fr.about P w=none):(lone fr cs w).fenced P (Fw ro):=fenced_calm (n:=0) (F:=Fw ro) trivial (KOr _) ha
theorem KXs {c:Code} {Q:Exit->Act->World->Prop} (h:KEU ro P c Q a w):(Code.loop c).wpIn (Fw ro) 1 P Q a w:=
 λb k cs hro _ _=>let⟨e,a',w',q,r⟩:=h b k cs hro;⟨e,a',w',q,.of_steps (.one (calm rfl) stepR_loop) r⟩
theorem KV5 {c:Code} (h:c.wpIn (Fw ro) 1 P (Ps (λa w=>KEU ro P c (Ps N X R) a w) X R) a w):KEU ro P c (Ps N X R) a w:=by
 intro b k cs hro
 obtain⟨e,a₁,w₁,hq,harr⟩:=h b (.inLoop c::k) cs hro trivial (KOr _)
 cases e with
 |normal=>
  obtain⟨e₂,a₂,w₂,hq₂,harr₂⟩:=hq b k cs hro
  exact⟨e₂,a₂,w₂,hq₂,.of_steps (StepsIn.trans harr (.one (calm rfl) stepR_inLoop)) harr₂⟩
 |exit id=>exact⟨.exit id,a₁,w₁,hq,.pass (x:=.inLoop c) rfl (λ_ _=>.inl (by simp)) harr⟩
 |goto l=>exact hq.elim
 |ret=>exact⟨.ret,a₁,w₁,hq,.pass (x:=.inLoop c) rfl (λ_ _=>.inl (by simp)) harr⟩
 |panic ch=>exact⟨.panic ch,a₁,w₁,hq,.pass (x:=.inLoop c) rfl (λ_ _=>.inl (by simp)) harr⟩
 |outgrown=>exact hq.elim
theorem KTM {c:Code} (Y:Act->World->Prop) (hY:∀a w,Y a w->KEU ro P c (Ps N X R) a w) (h:c.wpIn (Fw ro) 1 P (Ps Y X R) a w):KEU ro P c (Ps N X R) a w:=
 KV5 (KXq Y hY h)
end rules
def KY (P:Program) (f:FuncId) (args:Ea) {ρ:Type} (enc:ρ->Value) (F:M ρ):Prop:=
 ∀(w:World) (Q:ρ->Heap->Prop),F.wp w.heap Q->Calls P f args w λe w'=>∃r,e=.returned (enc r)/\Q r w'.heap/\Rest w w'
theorem KTN {P:Program} {f:FuncId} {fn:Func} {c:Code} {args:Ea} {ρ:Type} {enc:ρ->Value} {F:M ρ} {n:Nat} (l:List (Nat×Value))
  (hf:P.funcs[f]?=some fn) (hb:fn.body=some c) (hn:fn.ntmps=n) (hs:args.size<=n) (hl:∀d v,look l d=some v->args[d]?=some v)
  (h:∀(w0 w:World) (Q:ρ->Heap->Prop) (R:Act->World->Prop) (a:Act),
   (∀a w l r v,Env ⟨n,[]⟩ a l->Rest w0 w->(results fn a.tmps).run P w=.ok v w->v=enc r->Q r w.heap->R a w)->
   Env ⟨n,[]⟩ a l->Rest w0 w->F.wp w.heap Q->c.wpIn (Fw none) 1 P (Ps R X0 R) a w):KY P f args enc F:=by
 intro w Q hF
 refine calls_of_wp hf hb ?_
 refine wp_mono (wpIn_wide.1<|h w w Q (λa w'=>a.defers=[]/\∃v,(results fn a.tmps).run P w'=.ok v w'/\∃r,Ending.returned v=.returned (enc r)/\Q r w'.heap/\Rest w w') _ ?_ (hn▸Env.enter args l (hn▸hs) hl) (Rest.refl w) hF) ?_
 ·rintro a w' l r v hE hR hrun rfl hQ
  exact⟨hE.defers,_,hrun,r,rfl,hQ,hR⟩
 ·intro e a w' hh
  cases e with
  |normal=>exact hh
  |ret=>exact hh
  |exit i=>exact hh.2.elim
  |goto l=>exact hh.elim
  |panic c=>obtain⟨_,_,hh⟩:=hh;exact hh.elim
  |outgrown=>exact hh.elim
def W5 (P:Program) (f:FuncId) (args:Ea) {ρ:Type} (enc:ρ->Value):M ρ:=
 ⟨λh Q=>∀w:World,w.heap=h->Calls P f args w (λe w'=>∃r,e=.returned (enc r)/\Q r w'.heap/\Rest w w'),
  λhq h w hw=>(h w hw).mono λ_ _ ⟨r,h1,h2,h3⟩=>⟨r,h1,hq _ _ h2,h3⟩⟩
theorem Z3 {P:Program} {f:FuncId} {args:Ea} {ρ:Type} {enc:ρ->Value}:KY P f args enc (W5 P f args enc):=λw Q H=>H w rfl
theorem YI {P:Program} {f:FuncId} {args:Ea} {ρ:Type} {enc:ρ->Value} {F:M ρ} {h:Heap} {Q:ρ->Heap->Prop} (hS:KY P f args enc F) (H:F.wp h Q):(W5 P f args enc).wp h Q:=λw hw=>hS w Q (hw▸H)
def Jx (P:Program) (f:FuncId) (args:Ea) {ρ:Type} (enc:ρ->Value) (F:M (Value⊕ρ)):Prop:=
 ∀(w:World) (Q:Value⊕ρ->Heap->Prop),F.wp w.heap Q->Calls P f args w λe w'=>∃r,(match r with| .inl v=>e=.panicked [{v:=v,recovered:=false}]| .inr r=>e=.returned (enc r))/\Q r w'.heap/\Rest w w'
def Gr (P:Program) (f:FuncId) (args:Ea) {ρ:Type} (enc:ρ->Value):M (Value⊕ρ):=
 ⟨λh Q=>∀w:World,w.heap=h->Calls P f args w (λe w'=>∃r,(match r with| .inl v=>e=.panicked [{v:=v,recovered:=false}]| .inr r=>e=.returned (enc r))/\Q r w'.heap/\Rest w w'),
  λhq h w hw=>(h w hw).mono λ_ _ ⟨r,h1,h2,h3⟩=>⟨r,h1,hq _ _ h2,h3⟩⟩
theorem zA {P:Program} {f:FuncId} {args:Ea} {ρ:Type} {enc:ρ->Value}:Jx P f args enc (Gr P f args enc):=λw Q H=>H w rfl
theorem KEV {P:Program} {f:FuncId} {args:Ea} {ρ:Type} {enc:ρ->Value} {F:M (Value⊕ρ)} {h:Heap} {Q:Value⊕ρ->Heap->Prop} (hS:Jx P f args enc F) (H:F.wp h Q):(Gr P f args enc).wp h Q:=λw hw=>hS w Q (hw▸H)
def thr {α β:Type} (m:M (Value⊕α)) (f:α->M (Value⊕β)):M (Value⊕β):=
 ⟨λh Q=>m.wp h (λr h'=>match r with| .inl v=>Q (.inl v) h'| .inr x=>(f x).wp h' Q),
  λ{h Q Q'} hq H=>m.mono (λr h' hh=>by
   cases r with
   |inl v=>exact hq _ _ hh
   |inr x=>exact(f x).mono hq hh) H⟩
theorem Zn {α β:Type} {m:M (Value⊕α)} {f:α->M (Value⊕β)} {h:Heap} {Q:Value⊕β->Heap->Prop} (H:m.wp h (λr h'=>match r with| .inl v=>Q (.inl v) h'| .inr x=>(f x).wp h' Q)):(thr m f).wp h Q:=H
theorem KHl {P:Program} {f:FuncId} {fn:Func} {c:Code} {args:Ea} {ρ:Type} {enc:ρ->Value} {F:M (Value⊕ρ)} {n:Nat} (l:List (Nat×Value))
  (hf:P.funcs[f]?=some fn) (hb:fn.body=some c) (hn:fn.ntmps=n) (hs:args.size<=n) (hl:∀d v,look l d=some v->args[d]?=some v)
  (h:∀(w0 w:World) (Q:Value⊕ρ->Heap->Prop) (R:Act->World->Prop) (X:Nat->Act->World->Prop) (a:Act),
   (∀a w l r v,Env ⟨n,[]⟩ a l->Rest w0 w->(results fn a.tmps).run P w=.ok v w->v=enc r->Q (.inr r) w.heap->R a w)->
   (∀v w,Rest w0 w->Q (.inl v) w.heap->X pid {tmps:=#[v],defers:=[]} w)->
   Env ⟨n,[]⟩ a l->Rest w0 w->F.wp w.heap Q->c.wpIn (Fw none) 1 P (Ps R X R) a w):Jx P f args enc F:=by
 intro w Q hF
 refine calls_of_wp hf hb ?_
 refine wp_mono (wpIn_wide.1<|h w w Q (λa w'=>a.defers=[]/\∃v,(results fn a.tmps).run P w'=.ok v w'/\∃r,v=enc r/\Q (.inr r) w'.heap/\Rest w w')
  (λi a w'=>i=pid/\∃v,a.tmps=#[v]/\a.defers=[]/\Q (.inl v) w'.heap/\Rest w w') _ ?_ ?_ (hn▸Env.enter args l (hn▸hs) hl) (Rest.refl w) hF) ?_
 ·rintro a w' l r v hE hR hrun rfl hQ
  exact⟨hE.defers,_,hrun,r,rfl,hQ,hR⟩
 ·intro v w' hR hQ
  exact⟨rfl,v,rfl,rfl,hQ,hR⟩
 ·intro e a w' hh
  cases e with
  |normal=>obtain⟨h1,v,h2,r,rfl,h3,h4⟩:=hh;exact⟨h1,_,h2,.inr r,rfl,h3,h4⟩
  |ret=>obtain⟨h1,v,h2,r,rfl,h3,h4⟩:=hh;exact⟨h1,_,h2,.inr r,rfl,h3,h4⟩
  |exit i=>
   obtain⟨h1,h2,_⟩:=hh
   subst h2
   exact absurd h1 (by decide)
  |goto l=>exact hh.elim
  |panic c=>
   obtain⟨v,rfl,_,v',h1,h2,h3,h4⟩:=hh
   have:v=v':=by simpa using h1
   subst this
   exact⟨h2,.inl v,rfl,h3,h4⟩
  |outgrown=>exact hh.elim
end Gx
namespace Gx
open Go
def KJ (h:Heap) (a:Addr):Option Value:=
 match h[a.block]? with
 |some (.cells c _ _)=>if a.spot.isSome then none else c[a.off]?
 |_=>none
theorem KJg (w:World) (a:Addr):w.cell? a=KJ w.heap a:=rfl
def Yg (h:Heap) (a:Addr):Bool:=
 match h[a.block]? with
 |some (.cells _ _ (lo,hi))=>lo<=a.off&&a.off<hi
 |_=>false
theorem KTO (w:World) (a:Addr):w.frozen? a=Yg w.heap a:=rfl
def hset (h:Heap) (a:Addr) (v:Value):Heap:=
 h.modify a.block fun
  | .cells c elem frozen=>.cells (if a.spot.isSome then c else c.setIfInBounds a.off v) elem frozen
  |o=>o
def hsetL (h:Heap) (a:Addr):List Value->Nat->Heap
 | [],_=>h
 |v::r,i=>hsetL (hset h (a.add i) v) a r (i+1)
def one (v:Value):Bool:=v.oneCell'
structure Sl where
 base:Option Addr
 len:Nat
 cap:Nat
 deriving Inhabited
def Sl.v (s:Sl):Value:=.slice s.base s.len s.cap
def Sl.nil:Sl:=⟨none,0,0⟩
def ldI (k:IntKind) (a:Addr):M Int:=.get λh n=>KJ h a=some (.int k n)
def ldB (a:Addr):M Bool:=.get λh b=>KJ h a=some (.bool b)
def ldS (a:Addr):M ByteArray:=.get λh b=>KJ h a=some (.string b)
def ldP (a:Addr):M (Option Addr):=.get λh p=>KJ h a=some (.pointer p)
def ldL (a:Addr):M Sl:=.get λh s=>KJ h a=some s.v
def ldMp (a:Addr):M (Option Nat):=.get λh m=>KJ h a=some (.map m)
def ldV (a:Addr):M Value:=.get λh v=>KJ h a=some v
def ldG (n:Nat) (a:Addr):M (Ea):=.get λh cs=>cs.size=n/\∀i,i<n->KJ h (a.add i)=cs[i]?
def stV (a:Addr) (v:Value):M Unit:=⟨λh Q=>∃r:Unit,((∃x,KJ h a=some x)/\Yg h a=false/\one v=true)/\Q r (hset h a v),λhq ⟨r,hp,h⟩=>⟨r,hp,hq _ _ h⟩⟩
def stG (a:Addr) (cs:Ea):M Unit:=
 ⟨λh Q=>∃r:Unit,((∀i,i<cs.size->(∃x,KJ h (a.add i)=some x)/\Yg h (a.add i)=false)/\∀v∈cs.toList,one v=true)/\Q r (hsetL h a cs.toList 0),λhq ⟨r,hp,h⟩=>⟨r,hp,hq _ _ h⟩⟩
def mkB (t:TypeId) (cs:Ea):M Addr:=⟨λh Q=>∃r:Addr,r=⟨h.size,0,none⟩/\Q r (h.push (.cells cs t)),λhq ⟨r,hp,h⟩=>⟨r,hp,hq _ _ h⟩⟩
def KZc:M (Option Nat):=⟨λh Q=>∃r:Option Nat,r=some h.size/\Q r (h.push (.map #[] 0)),λhq ⟨r,hp,h⟩=>⟨r,hp,hq _ _ h⟩⟩
def nilP (p:Option Addr):M Addr:=.get λ_ a=>p=some a
def nilV (v:Value):M Value:=.get λ_ r=>r=v/\v≠.nilFunc/\v≠.nilIface/\v≠.pointer none/\∀n x y,v≠.func (.method n) x y
def ixL (s:Sl) (i:Int) (sz:Nat):M Addr:=.get λ_ a=>0<=i/\i<s.len/\∃b,s.base=some b/\a=b.add (i.toNat*sz)
def ixA (b:Addr) (n:Nat) (i:Int) (sz:Nat):M Addr:=.get λ_ a=>0<=i/\i<n/\a=b.add (i.toNat*sz)
def ixS (s:ByteArray) (i:Int):M Int:=.get λ_ n=>0<=i/\∃b,s[i.toNat]?=some b/\n=(b.toNat:Int)
def slL (s:Sl) (lo hi:Int) (sz:Nat):M Sl:=.get λ_ r=>0<=lo/\lo<=hi/\hi<=s.cap/\r=⟨if s.cap=lo.toNat then s.base else s.base.map (·.add (lo.toNat*sz)),hi.toNat - lo.toNat,s.cap - lo.toNat⟩
def slA (a:Addr) (n:Nat) (lo hi:Int) (sz:Nat):M Sl:=.get λ_ r=>0<=lo/\lo<=hi/\hi<=n/\r=⟨some (if n=lo.toNat then a else a.add (lo.toNat*sz)),hi.toNat - lo.toNat,n - lo.toNat⟩
def slS (s:ByteArray) (lo hi:Int):M ByteArray:=.get λ_ r=>0<=lo/\lo<=hi/\hi<=s.size/\r=s.extract lo.toNat hi.toNat
def iAnd (k:IntKind) (x y:Int):Int:=k.wrap ((BitVec.ofInt k.bits x)&&&(BitVec.ofInt k.bits y)).toNat
def iOr (k:IntKind) (x y:Int):Int:=k.wrap ((BitVec.ofInt k.bits x)|||(BitVec.ofInt k.bits y)).toNat
def iXor (k:IntKind) (x y:Int):Int:=k.wrap ((BitVec.ofInt k.bits x)^^^(BitVec.ofInt k.bits y)).toNat
def KNi (k:IntKind) (x y:Int):Int:=k.wrap ((BitVec.ofInt k.bits x)&&& ~~~(BitVec.ofInt k.bits y)).toNat
def iNot (k:IntKind) (x:Int):Int:=iXor k (if k.signed then -1 else k.max) x
def iShl (k:IntKind) (x y:Int):Int:=k.wrap (x*2^min y.toNat k.bits)
def iShr (k:IntKind) (x y:Int):Int:=x.fdiv (2^min y.toNat k.bits)
def pShl (k:IntKind) (x y:Int):M Int:=.get λ_ r=>0<=y/\r=iShl k x y
def pShr (k:IntKind) (x y:Int):M Int:=.get λ_ r=>0<=y/\r=iShr k x y
def pQuo (k:IntKind) (x y:Int):M Int:=.get λ_ r=>y≠0/\r=k.wrap (x.tdiv y)
def pRem (x y:Int):M Int:=.get λ_ r=>y≠0/\r=x.tmod y
def scB (P:Program) (t:TypeId):Bool:=match P.underlying t with
 |some (.struct _)=>false
 |some (.array _ _)=>false
 |none=>false
 |_=>true
def agB (P:Program) (t:TypeId) (n:Nat):Bool:=(match P.underlying t with
 |some (.struct _)=>true
 |some (.array _ _)=>true
 |_=>false)&&(match P.info? t with|some i=>Nat.beq i.size n|none=>false)
def szB (P:Program) (t:TypeId) (n:Nat):Bool:=match P.info? t with|some i=>Nat.beq i.size n|none=>false
def KHm (P:Program) (s f:Nat):Option Nat:=match P.underlying s with
 |some (.struct fs)=>match fs[f]? with
  |some fd=>match P.info? fd.type with
   |some i=>bif Nat.beq i.size 0 then none else some fd.offset
   |none=>none
  |none=>none
 |_=>none
section runs
variable {P:Program} {w:World}
theorem KOs {t:TypeId} (h:scB P t=true):(isAgg t).run P w=.ok false w:=by
 unfold scB at h
 cases hu:P.underlying t with
 |none=>rw [hu]at h;cases h
 |some d=>
  rw [hu]at h
  cases d<;>first|(simp at h;done)|simp [isAgg,run_underlying hu]
theorem KOt {t:TypeId} {n:Nat} (h:agB P t n=true):(isAgg t).run P w=.ok true w/\(Go.sizeOf t).run P w=.ok n w:=by
 unfold agB at h
 simp only [Eg]at h
 obtain⟨h1,h2⟩:=h
 constructor
 ·cases hu:P.underlying t with
  |none=>rw [hu]at h1;cases h1
  |some d=>
   rw [hu]at h1
   cases d<;>first|(simp at h1;done)|simp [isAgg,run_underlying hu]
 ·cases hi:P.info? t with
  |none=>rw [hi]at h2;cases h2
  |some i=>rw [hi]at h2;simp [Go.sizeOf,typeInfo,hi,Eu h2]
theorem Jl {t:TypeId} {n:Nat} (h:szB P t n=true):(Go.sizeOf t).run P w=.ok n w:=by
 unfold szB at h
 cases hi:P.info? t with
 |none=>rw [hi]at h;cases h
 |some i=>rw [hi]at h;simp [Go.sizeOf,typeInfo,hi,Eu h]
theorem KCx {t:TypeId} {a:Addr} {v:Value} (ht:scB P t=true) (hc:KJ w.heap a=some v):(loadVar t a).run P w=.ok v w:=by
 unfold loadVar
 simp [KOs ht,KJg,hc]
theorem KCy {t:TypeId} {a:Addr} {n:Nat} {cs:Ea} (ht:agB P t n=true) (hs:cs.size=n) (hc:∀i,i<n->KJ w.heap (a.add i)=cs[i]?):(loadVar t a).run P w=.ok (.agg cs) w:=by
 unfold loadVar
 simp only [Sem.run_bind,KOt ht,Result.andThen_ok,Oa]
 have:=run_loadCells_list (P:=P) (w:=w) a cs.toList (λj v hj=>by
  have hlt:j<n:=by
   rw [<-hs]
   rcases ES j cs.size with h|h
   ·exact h
   ·simp [h]at hj
  rw [KJg,hc j hlt]
  simpa using hj)
 have e:cs.toList.length=n:=by simpa using hs
 rw [e]at this
 simp [this]
theorem KEW {a:Addr} {v x:Value} (hc:KJ w.heap a=some x) (hf:Yg w.heap a=false) (h1:one v=true):(store a v).run P w=.ok () {w with heap:=hset w.heap a v}:=by
 rw [run_store P w a v _ h1,KJg,hc]
 simp only [KTO,hf]
 rfl
theorem KF2 (h:Heap) (a b:Addr) (v:Value):(∃x,KJ h b=some x)->∃x,KJ (hset h a v) b=some x:=by
 rintro⟨x,hx⟩
 exact RowKit.cell?_setCell_some (w:={(default:World)with heap:=h}) (p:=a) (q:=b) (x:=v) (v:=x) hx
theorem KLz (h:Heap) (a b:Addr) (v:Value):Yg (hset h a v) b=Yg h b:=
 World.frozen?_setCell (w:={(default:World)with heap:=h}) (a:=a) (v:=v) (b:=b)
theorem U4 {a:Addr}:∀(vs:List Value) (i:Nat) (w:World),(∀j,j<vs.length->(∃x,KJ w.heap (a.add (i+j))=some x)/\Yg w.heap (a.add (i+j))=false)->(∀v∈vs,one v=true)->
  (storeCells a vs i).run P w=.ok () {w with heap:=hsetL w.heap a vs i}
 | [],i,w,_,_=>rfl
 |v::r,i,w,hc,h1=>by
  obtain⟨⟨x,hx⟩,hf⟩:=hc 0 (by simp)
  simp only [storeCells,Sem.run_bind,hsetL]
  rw [KEW (a:=a.add i) (v:=v) hx hf (h1 v (by simp))]
  simp only [Result.andThen_ok]
  refine U4 r (i+1) _ (λj hj=>?_) (λv hv=>h1 v (by simp [hv]))
  have:=hc (j+1) (by simpa using hj)
  rw [show i+(j+1)=i+1+j from by omega]at this
  exact⟨KF2 _ _ _ _ this.1,by rw [KLz];exact this.2⟩
theorem KHn {t:TypeId} {a:Addr} {v x:Value} (ht:szB P t 1=true) (hc:KJ w.heap a=some x) (hf:Yg w.heap a=false) (h1:one v=true):
  (storeVar t a v).run P w=.ok () {w with heap:=hset w.heap a v}:=by
 have hv:v.cells=#[v]:=by cases v<;>first|rfl|(simp [one,Value.oneCell']at h1;done)
 unfold storeVar
 simp only [Sem.run_bind,Jl ht,Result.andThen_ok,hv]
 simp [storeCells,Addr.add,KEW hc hf h1]
theorem KHo {t:TypeId} {a:Addr} {cs:Ea} (ht:szB P t cs.size=true) (hc:∀i,i<cs.size->(∃x,KJ w.heap (a.add i)=some x)/\Yg w.heap (a.add i)=false) (h1:∀v∈cs.toList,one v=true):
  (storeVar t a (.agg cs)).run P w=.ok () {w with heap:=hsetL w.heap a cs.toList 0}:=by
 unfold storeVar
 simp only [Sem.run_bind,Jl ht,Result.andThen_ok,Value.cells]
 simp only [ne_eq,not_true_eq_false,IF]
 exact U4 cs.toList 0 w (λj hj=>by rw [EC];exact hc j (by simpa using hj)) h1
end runs
def opv (l:List (Nat×Value)):Operand->Option Value
 | .tmp t=>look l t
 | .const v=>some v
 | .global g=>some (.pointer (some ⟨g,0,none⟩))
 | .func f=>some (.func (.func f) #[] #[])
theorem Env.opv {n:Frm} {a:Act} {l:List (Nat×Value)} (hE:Env n a l) {x:Operand} {v:Value} (h:opv l x=some v):a.eval x=v:=by
 cases x with
 |tmp t=>exact hE.eval h
 |const c=>simp [Gx.opv]at h;exact h
 |global g=>simp [Gx.opv]at h;subst h;rfl
 |func f=>simp [Gx.opv]at h;subst h;rfl
section ops
variable {P:Program} {n:Frm} {a:Act} {w:World} {l:List (Nat×Value)} {dst:Option Tmp} {ty:TypeId} {pos:String} {aft:Array Edge} {g:Option (Nat×Bool)}
theorem VC {x:Operand} {v:Value} (hE:Env n a l) (hx:opv l x=some v):(execOp a.eval ⟨dst,.move x,ty,pos,aft,g⟩).run P w=.ok (.value v) w:=by
 simp [execOp,hE.opv hx]
theorem zB {x:Operand} {v:Value} (hE:Env n a l) (hx:opv l x=some v):(execOp a.eval ⟨dst,.assign x,ty,pos,aft,g⟩).run P w=.ok (.value v) w:=by
 simp [execOp,hE.opv hx]
theorem KTP {c x y:Operand} {v:Value} (hE:Env n a l) (hc:opv l c=some (.bool true)) (hx:opv l x=some v):(execOp a.eval ⟨dst,.pick c x y,ty,pos,aft,g⟩).run P w=.ok (.value v) w:=by
 simp [execOp,hE.opv hc,hE.opv hx,asBool]
theorem KTQ {c x y:Operand} {v:Value} (hE:Env n a l) (hc:opv l c=some (.bool false)) (hy:opv l y=some v):(execOp a.eval ⟨dst,.pick c x y,ty,pos,aft,g⟩).run P w=.ok (.value v) w:=by
 simp [execOp,hE.opv hc,hE.opv hy,asBool]
theorem GR {t:TypeId} {z:Value} {p:Addr} (hz:((P.info? t).bind (·.zero))=some z) (hp:p=⟨w.heap.size,0,none⟩):
  (execOp a.eval ⟨dst,.alloc t,ty,pos,aft,g⟩).run P w=.ok (.value (.pointer (some p))) {w with heap:=w.heap.push (.cells z.cells t)}:=by
 subst hp
 cases hi:P.info? t with
 |none=>rw [hi]at hz;cases hz
 |some i=>
  rw [hi]at hz
  simp at hz
  simp [execOp,Instr.alloc,zeroValue,typeInfo,hi,hz,newVar,newRow]
theorem KTR {t:TypeId} {x:Operand} {v:Value} {p:Addr} (hE:Env n a l) (hx:opv l x=some v) (hp:p=⟨w.heap.size,0,none⟩):
  (execOp a.eval ⟨dst,.box t x,ty,pos,aft,g⟩).run P w=.ok (.value (.pointer (some p))) {w with heap:=w.heap.push (.cells v.cells t)}:=by
 subst hp
 simp [execOp,hE.opv hx,Instr.box,newVar,newRow]
theorem qA {t:TypeId} {x:Operand} {p:Addr} {v:Value} (hE:Env n a l) (hx:opv l x=some (.pointer (some p))) (ht:scB P t=true) (hc:KJ w.heap p=some v):
  (execOp a.eval ⟨dst,.load t x,ty,pos,aft,g⟩).run P w=.ok (.value v) w:=by
 simp [execOp,hE.opv hx,Instr.loadAt,Instr.sureAddr,KCx ht hc]
theorem KNj {t:TypeId} {x:Operand} {p:Addr} {m:Nat} {cs:Ea} (hE:Env n a l) (hx:opv l x=some (.pointer (some p))) (ht:agB P t m=true) (hc:cs.size=m/\∀i,i<m->KJ w.heap (p.add i)=cs[i]?):
  (execOp a.eval ⟨dst,.load t x,ty,pos,aft,g⟩).run P w=.ok (.value (.agg cs)) w:=by
 simp [execOp,hE.opv hx,Instr.loadAt,Instr.sureAddr,KCy ht hc.1 hc.2]
theorem Jr {t:TypeId} {x y:Operand} {p:Addr} {v:Value} (hE:Env n a l) (hx:opv l x=some (.pointer (some p))) (hy:opv l y=some v) (ht:szB P t 1=true)
  (hc:(∃x,KJ w.heap p=some x)/\Yg w.heap p=false/\one v=true):
  (execOp a.eval ⟨dst,.store t x y,ty,pos,aft,g⟩).run P w=.ok .skip {w with heap:=hset w.heap p v}:=by
 obtain⟨⟨z,hz⟩,hf,h1⟩:=hc
 simp [execOp,hE.opv hx,hE.opv hy,Instr.storeAt,Instr.sureAddr,KHn ht hz hf h1]
theorem KAG {t:TypeId} {x y:Operand} {p:Addr} {cs:Ea} {m:Nat} (hE:Env n a l) (hx:opv l x=some (.pointer (some p))) (hy:opv l y=some (.agg cs)) (ht:szB P t m=true) (hm:cs.size=m)
  (hc:(∀i,i<cs.size->(∃x,KJ w.heap (p.add i)=some x)/\Yg w.heap (p.add i)=false)/\∀v∈cs.toList,one v=true):
  (execOp a.eval ⟨dst,.store t x y,ty,pos,aft,g⟩).run P w=.ok .skip {w with heap:=hsetL w.heap p cs.toList 0}:=by
 subst hm
 simp [execOp,hE.opv hx,hE.opv hy,Instr.storeAt,Instr.sureAddr,KHo ht hc.1 hc.2]
theorem N7 {x:Operand} {p:Addr} (hE:Env n a l) (hx:opv l x=some (.pointer (some p))):(execOp a.eval ⟨dst,.nilCheck x,ty,pos,aft,g⟩).run P w=.ok (.value (.pointer (some p))) w:=by
 simp [execOp,hE.opv hx]
theorem WU {s f off:Nat} {x:Operand} {p:Addr} (hE:Env n a l) (hx:opv l x=some (.pointer (some p))) (hf:KHm P s f=some off):
  (execOp a.eval ⟨dst,.fieldAddr s x f,ty,pos,aft,g⟩).run P w=.ok (.value (.pointer (some (p.add off)))) w:=by
 unfold KHm at hf
 cases hu:P.underlying s with
 |none=>rw [hu]at hf;cases hf
 |some d=>
  rw [hu]at hf
  cases d with
  |struct fs=>
   simp only at hf
   cases hfd:fs[f]? with
   |none=>rw [hfd]at hf;cases hf
   |some fd=>
    rw [hfd]at hf
    simp only at hf
    cases hi:P.info? fd.type with
    |none=>rw [hi]at hf;cases hf
    |some i=>
     rw [hi]at hf
     simp only at hf
     cases hb:Nat.beq i.size 0 with
     |true=>rw [hb]at hf;cases hf
     |false=>
      rw [hb]at hf
      simp only [cond_false,Option.some.injEq]at hf
      subst hf
      have hne:¬i.size=0:=λh=>by rw [h]at hb;cases hb
      simp [execOp,hE.opv hx,Instr.fieldAt,run_underlying hu,hfd,Instr.sureAddr,fieldPlace,Go.sizeOf,typeInfo,hi,hne]
  |_=>cases hf
theorem KL0 {t e m:Nat} {x y:Operand} {s:Sl} {k:IntKind} {i:Int} {p:Addr} (hE:Env n a l) (hx:opv l x=some s.v) (hy:opv l y=some (.int k i)) (ht:P.underlying t=some (.slice e)) (he:szB P e m=true)
  (hc:0<=i/\i<s.len/\∃b,s.base=some b/\p=b.add (i.toNat*m)):(execOp a.eval ⟨dst,.indexAddr t x y,ty,pos,aft,g⟩).run P w=.ok (.value (.pointer (some p))) w:=by
 obtain⟨h0,h1,b,hb,rfl⟩:=hc
 simp [execOp,hE.opv hx,hE.opv hy,Instr.indexAt,asIntOf,run_underlying ht,Sl.v,hb,h0,h1,Jl he]
theorem KL1 {t e m q:Nat} {x y:Operand} {b:Addr} {k:IntKind} {i:Int} {p:Addr} (hE:Env n a l) (hx:opv l x=some (.pointer (some b))) (hy:opv l y=some (.int k i)) (ht:P.underlying t=some (.array q e)) (he:szB P e m=true)
  (hc:0<=i/\i<q/\p=b.add (i.toNat*m)):(execOp a.eval ⟨dst,.indexAddr t x y,ty,pos,aft,g⟩).run P w=.ok (.value (.pointer (some p))) w:=by
 obtain⟨h0,h1,rfl⟩:=hc
 simp [execOp,hE.opv hx,hE.opv hy,Instr.indexAt,asIntOf,run_underlying ht,Instr.sureAddr,h0,h1,Jl he]
theorem KTS {t:Nat} {x y:Operand} {s:ByteArray} {k:IntKind} {i r:Int} (hE:Env n a l) (hx:opv l x=some (.string s)) (hy:opv l y=some (.int k i)) (ht:P.underlying t=some .string)
  (hc:0<=i/\∃b,s[i.toNat]?=some b/\r=(b.toNat:Int)):(execOp a.eval ⟨dst,.index t x y,ty,pos,aft,g⟩).run P w=.ok (.value (.int .u8 r)) w:=by
 obtain⟨h0,b,hb,rfl⟩:=hc
 simp [execOp,hE.opv hx,hE.opv hy,Instr.index,asIntOf,run_underlying ht,h0,hb]
theorem KV6 {t ti:Nat} {x:Operand} {s:Sl} (hE:Env n a l) (hx:opv l x=some s.v) (e:Nat) (ht:P.underlying t=some (.slice e)):
  (execOp a.eval ⟨dst,.call {callee:=.builtin .len,args:=#[x],argTypes:=#[t]},ti,pos,aft,g⟩).run P w=.ok (.value (.int .i64 s.len)) w:=by
 simp [execOp,resolve,invoke,builtin,Builtin.len_,hE.opv hx,run_underlying ht,Sl.v,goInt]
theorem KJh {t ti:Nat} {x:Operand} {s:ByteArray} (hE:Env n a l) (hx:opv l x=some (.string s)) (ht:P.underlying t=some .string):
  (execOp a.eval ⟨dst,.call {callee:=.builtin .len,args:=#[x],argTypes:=#[t]},ti,pos,aft,g⟩).run P w=.ok (.value (.int .i64 s.size)) w:=by
 simp [execOp,resolve,invoke,builtin,Builtin.len_,hE.opv hx,run_underlying ht,goInt]
theorem KV7 {s d:Nat} {x:Operand} {k k':IntKind} {i:Int} {ds:TypeDesc} (hE:Env n a l) (hx:opv l x=some (.int k i)) (hs:P.underlying s=some ds) (hd:P.underlying d=some (.int k')):
  (execOp a.eval ⟨dst,.convert s d x,ty,pos,aft,g⟩).run P w=.ok (.value (.int k' (k'.wrap i))) w:=by
 simp [execOp,hE.opv hx,convert,run_underlying hs,run_underlying hd,Conv.intToInt]
theorem YJ {x:Operand} {vs:Ea} {i:Nat} {v:Value} (hE:Env n a l) (hx:opv l x=some (.tuple vs)) (hv:vs[i]?=some v):(execOp a.eval ⟨dst,.extract x i,ty,pos,aft,g⟩).run P w=.ok (.value v) w:=by
 simp [execOp,hE.opv hx,Instr.extract,hv]
theorem KJB {op:BinOp} {xt yt:Nat} {x y:Operand} {u v r:Value} (hE:Env n a l) (hx:opv l x=some u) (hy:opv l y=some v) (hg:(eqGuard op xt x y u v).run P w=.ok () w) (hr:(binOp op xt u v).run P w=.ok r w):
  (execOp a.eval ⟨dst,.binOp op xt x y yt,ty,pos,aft,g⟩).run P w=.ok (.value r) w:=by
 simp [execOp,hE.opv hx,hE.opv hy,hg,hr]
theorem KEX {op:BinOp} {xt:Nat} {x y:Operand} {k k':IntKind} {u v:Int}:(eqGuard op xt x y (.int k u) (.int k' v)).run P w=.ok () w:=by
 cases op<;>simp [eqGuard]
theorem r_un {op:UnOp} {t:Nat} {x:Operand} {u r:Value} (hE:Env n a l) (hx:opv l x=some u) (hr:(Op.unary op u).run P w=.ok r w):
  (execOp a.eval ⟨dst,.unOp op t x,ty,pos,aft,g⟩).run P w=.ok (.value r) w:=by
 simp [execOp,hE.opv hx,hr]
end ops
section bins
variable {P:Program} {w:World} {t:TypeId} {k:IntKind} {x y:Int}
theorem KZd:(binOp .add t (.int k x) (.int k y)).run P w=.ok (.int k (k.wrap (x+y))) w:=by simp [binOp,Op.intArith]
theorem KZe:(binOp .sub t (.int k x) (.int k y)).run P w=.ok (.int k (k.wrap (x - y))) w:=by simp [binOp,Op.intArith]
theorem KZf:(binOp .mul t (.int k x) (.int k y)).run P w=.ok (.int k (k.wrap (x*y))) w:=by simp [binOp,Op.intArith]
theorem KZg:(binOp .and t (.int k x) (.int k y)).run P w=.ok (.int k (iAnd k x y)) w:=by simp [binOp,Op.intBits,iAnd]
theorem b_or:(binOp .or t (.int k x) (.int k y)).run P w=.ok (.int k (iOr k x y)) w:=by simp [binOp,Op.intBits,iOr]
theorem KZh:(binOp .xor t (.int k x) (.int k y)).run P w=.ok (.int k (iXor k x y)) w:=by simp [binOp,Op.intBits,iXor]
theorem KTT:(binOp .andNot t (.int k x) (.int k y)).run P w=.ok (.int k (KNi k x y)) w:=by simp [binOp,Op.intBits,KNi]
theorem KXt:(binOp .eql t (.int k x) (.int k y)).run P w=.ok (.bool (x==y)) w:=by simp [binOp,Op.intCmp]
theorem KXu:(binOp .neq t (.int k x) (.int k y)).run P w=.ok (.bool (x !=y)) w:=by simp [binOp,Op.intCmp]
theorem KXv:(binOp .lss t (.int k x) (.int k y)).run P w=.ok (.bool (decide (x<y))) w:=by simp [binOp,Op.intCmp]
theorem KZi:(binOp .leq t (.int k x) (.int k y)).run P w=.ok (.bool (decide (x<=y))) w:=by simp [binOp,Op.intCmp]
theorem KV8:(binOp .gtr t (.int k x) (.int k y)).run P w=.ok (.bool (decide (y<x))) w:=by simp [binOp,Op.intCmp]
theorem KZj:(binOp .geq t (.int k x) (.int k y)).run P w=.ok (.bool (decide (y<=x))) w:=by simp [binOp,Op.intCmp]
theorem KXw {k':IntKind} {r:Int} (h:0<=y/\r=iShl k x y):(binOp .shl t (.int k x) (.int k' y)).run P w=.ok (.int k r) w:=by
 obtain⟨h0,rfl⟩:=h
 have:¬y<0:=by omega
 simp [binOp,Op.shift,this,iShl]
theorem KXx {k':IntKind} {r:Int} (h:0<=y/\r=iShr k x y):(binOp .shr t (.int k x) (.int k' y)).run P w=.ok (.int k r) w:=by
 obtain⟨h0,rfl⟩:=h
 have:¬y<0:=by omega
 simp [binOp,Op.shift,this,iShr]
theorem KXy {r:Int} (h:y≠0/\r=k.wrap (x.tdiv y)):(binOp .quo t (.int k x) (.int k y)).run P w=.ok (.int k r) w:=by
 obtain⟨h0,rfl⟩:=h
 simp [binOp,Op.intDiv,h0]
theorem KXz {r:Int} (h:y≠0/\r=x.tmod y):(binOp .rem t (.int k x) (.int k y)).run P w=.ok (.int k r) w:=by
 obtain⟨h0,rfl⟩:=h
 simp [binOp,Op.intDiv,h0]
theorem KX0 {b:Bool}:(Op.unary .not (.bool b)).run P w=.ok (.bool !b) w:=by simp [Op.unary]
theorem KZk:(Op.unary .xor (.int k x)).run P w=.ok (.int k (iNot k x)) w:=by simp [Op.unary,Op.intBits,iNot,iXor]
theorem KZl:(Op.unary .neg (.int k x)).run P w=.ok (.int k (k.wrap (0 - x))) w:=by simp [Op.unary,Op.intArith]
end bins
end Gx
namespace Gx
open Go
theorem M.at {α:Type} {m:M α} {h h':Heap} {Q:α->Heap->Prop} (e:h'=h) (H:m.wp h Q):m.wp h' Q:=e▸H
theorem M.ite_t {α:Type} {b:Bool} {m n:M α} {h:Heap} {Q:α->Heap->Prop} (e:b=true) (H:(M.ite b m n).wp h Q):m.wp h Q:=by subst e;exact H
theorem M.ite_f {α:Type} {b:Bool} {m n:M α} {h:Heap} {Q:α->Heap->Prop} (e:b=false) (H:(M.ite b m n).wp h Q):n.wp h Q:=by subst e;exact H
def opvs (l:List (Nat×Value)):List Operand->Option (List Value)
 | []=>some []
 |x::r=>match opv l x,opvs l r with
  |some v,some vs=>some (v::vs)
  |_,_=>none
theorem Env.opvs {n:Frm} {a:Act} {l:List (Nat×Value)} (hE:Env n a l):∀{xs:List Operand} {vs:List Value},opvs l xs=some vs->xs.map a.eval=vs
 | [],vs,h=>by simp [Gx.opvs]at h;subst h;rfl
 |x::r,vs,h=>by
  simp only [Gx.opvs]at h
  cases h1:Gx.opv l x with
  |none=>rw [h1]at h;simp at h
  |some v=>
   cases h2:Gx.opvs l r with
   |none=>rw [h1,h2]at h;simp at h
   |some vs'=>
    rw [h1,h2]at h
    simp only [Option.some.injEq]at h
    subst h
    simp [hE.opv h1,Env.opvs hE h2]
def Callee? (P:Program) (f:FuncId):Prop:=∀(args:Ea) (w:World),(callFunc f args).run P w=.ok (.enter f args) w
theorem KC {P:Program} {f:FuncId} {fn:Func} (hf:P.funcs[f]?=some fn) (hname:(fn.name== "runtime.NumGoroutine")=false) (hb:fn.body.isSome=true):Callee? P f:=by
 intro args w
 have h1:fn.name≠"runtime.NumGoroutine":=by simpa using hname
 obtain⟨c,hc⟩:=IQ.1 hb
 simp [callFunc,hf,h1,hc]
theorem KEY {ro:Option Nat} {P:Program} {o:Oper} {a:Act} {w w1:World} {nx:Next} (h:(execOp a.eval o).run P w=.ok nx w1) (hd:∀d,nx≠.defer d):(o.semAt ro a.eval).run P w=.ok nx w1:=by
 unfold Oper.semAt
 cases ro with
 |none=>exact h
 |some l=>
  cases ho:o.op with
  |defer c=>
   exfalso
   simp only [execOp,ho,Sem.run_bind]at h
   cases hr:(resolve a.eval c o.type).run P w with
   |ok d w2=>
    rw [hr]at h
    simp [Result.andThen]at h
    exact hd _ h.1.symm
   |halt e w2=>
    rw [hr]at h
    simp [Result.andThen]at h
  |_=>exact h
theorem Gk {ro:Option Nat} {n:Nat} {P:Program} {f:FuncId} {args:Ea} {w:World} {R:Ending->World->Prop} (h:Calls P f args w R):CallsIn (Fw ro) n P f args w R:=by
 cases ro with
 |none=>exact callsIn_wide.2 h
 |some l=>exact CallsIn.inRound l (callsIn_wide.2 h)
section steps
variable {ro:Option Nat} {P:Program} {ops:Array Oper} {K:Act->World->Prop} {X:Nat->Act->World->Prop} {R:Act->World->Prop} {n:Frm} {a:Act} {w w0:World} {l:List (Nat×Value)} {rest:List Oper} {o:Oper}
theorem JE {id:Nat} {ops:Array Oper} (h:wpListIn (Fw ro) 1 P ops (Ps K X R) ops.toList a w):(Code.region id ops false).wpIn (Fw ro) 1 P (Ps K X R) a w:=wpIn_region_list h
theorem zb (h:K a w):wpListIn (Fw ro) 1 P ops (Ps K X R) [] a w:=h
theorem KNk {v:Value} {w1:World} (hg:o.guard=none) (hrun:(execOp a.eval o).run P w=.ok (.value v) w1) (h:wpListIn (Fw ro) 1 P ops (Ps K X R) rest (a.put o.dst v) w1):
  wpListIn (Fw ro) 1 P ops (Ps K X R) (o::rest) a w:=by
 refine wpListIn_plain hg λK' hK=>⟨λ_ _=>trivial,?_⟩
 rw [KEY hrun (λd h=>by cases h)]
 exact hK _ _ h
theorem VD {d:Nat} {v:Value} (hd:o.dst=some d) (hg:o.guard=none) (hE:Env n a l) (hn:Nat.blt d n.size=true) (hrun:(execOp a.eval o).run P w=.ok (.value v) w)
  (h:∀a',Env n a' ((d,v)::l)->wpListIn (Fw ro) 1 P ops (Ps K X R) rest a' w):wpListIn (Fw ro) 1 P ops (Ps K X R) (o::rest) a w:=by
 refine KNk hg hrun ?_
 rw [hd]
 exact h _ (hE.put d v hn)
theorem KX1 {d:Nat} {v:Value} {w1:World} (hd:o.dst=some d) (hg:o.guard=none) (hE:Env n a l) (hn:Nat.blt d n.size=true) (hR:Rest w0 w) (hrun:(execOp a.eval o).run P w=.ok (.value v) w1) (hr1:Rest w w1)
  (h:∀a' w',Env n a' ((d,v)::l)->Rest w0 w'->w'.heap=w1.heap->wpListIn (Fw ro) 1 P ops (Ps K X R) rest a' w'):wpListIn (Fw ro) 1 P ops (Ps K X R) (o::rest) a w:=by
 refine KNk hg hrun ?_
 rw [hd]
 exact h _ w1 (hE.put d v hn) (hR.trans hr1) rfl
theorem t_st {w1:World} (hd:o.dst=none) (hg:o.guard=none) (hE:Env n a l) (hR:Rest w0 w) (hrun:(execOp a.eval o).run P w=.ok .skip w1) (hr1:Rest w w1)
  (h:∀a' w',Env n a' l->Rest w0 w'->w'.heap=w1.heap->wpListIn (Fw ro) 1 P ops (Ps K X R) rest a' w'):wpListIn (Fw ro) 1 P ops (Ps K X R) (o::rest) a w:=by
 refine wpListIn_plain hg λK' hK=>⟨λ_ _=>trivial,?_⟩
 rw [KEY hrun (λd h=>by cases h)]
 refine hK _ _ ?_
 rw [hd]
 exact h _ w1 hE (hR.trans hr1) rfl
theorem KEZ {d:Nat} {v:Value} {h1:Heap} (hd:o.dst=some d) (hg:o.guard=none) (hE:Env n a l) (hn:Nat.blt d n.size=true) (hR:Rest w0 w) (hrun:(execOp a.eval o).run P w=.ok (.value v) {w with heap:=h1})
  (h:∀a' w',Env n a' ((d,v)::l)->Rest w0 w'->w'.heap=h1->wpListIn (Fw ro) 1 P ops (Ps K X R) rest a' w'):wpListIn (Fw ro) 1 P ops (Ps K X R) (o::rest) a w:=KX1 hd hg hE hn hR hrun ⟨rfl,rfl,rfl,Ee _⟩ h
theorem KJC {h1:Heap} (hd:o.dst=none) (hg:o.guard=none) (hE:Env n a l) (hR:Rest w0 w) (hrun:(execOp a.eval o).run P w=.ok .skip {w with heap:=h1})
  (h:∀a' w',Env n a' l->Rest w0 w'->w'.heap=h1->wpListIn (Fw ro) 1 P ops (Ps K X R) rest a' w'):wpListIn (Fw ro) 1 P ops (Ps K X R) (o::rest) a w:=t_st hd hg hE hR hrun ⟨rfl,rfl,rfl,Ee _⟩ h
theorem KJi {dst:Option Tmp} {f:FuncId} {as:Array Operand} {ts:Array TypeId} {ty:TypeId} {pos:String} {aft:Array Edge} {g:Option (Nat×Bool)} {vs:List Value} (hE:Env n a l) (hc:Callee? P f) (ha:opvs l as.toList=some vs):
  (execOp a.eval ⟨dst,.call {callee:=.value (.func f),args:=as,argTypes:=ts},ty,pos,aft,g⟩).run P w=.ok (.enter f vs.toArray) w:=by
 have h1:as.map a.eval=vs.toArray:=by
  have:=hE.opvs ha
  rw [<-this,<-FP,EG]
 have h2:=hc vs.toArray w
 simp [execOp,resolve,Deferred.ofValue,invoke,Act.eval,h1,h2]
theorem KVJ {d:Option Nat} {f:FuncId} {as:Array Operand} {ts:Array TypeId} {ty:TypeId} {pos:String} {aft:Array Edge} {vs:List Value} {ρ:Type} {enc:ρ->Value} {F:M ρ} {Q:ρ->Heap->Prop}
  (hE:Env n a l) (hR:Rest w0 w) (hc:Callee? P f) (ha:opvs l as.toList=some vs) (hS:KY P f vs.toArray enc F) (H:F.wp w.heap Q)
  (h:∀r a' w',a'=a.put d (enc r)->Rest w0 w'->Q r w'.heap->wpListIn (Fw ro) 1 P ops (Ps K X R) rest a' w'):
  wpListIn (Fw ro) 1 P ops (Ps K X R) (⟨d,.call {callee:=.value (.func f),args:=as,argTypes:=ts},ty,pos,aft,none⟩::rest) a w:=by
 refine wpListIn_plain rfl λK' hK=>⟨λ_ _=>trivial,?_⟩
 rw [KEY (KJi hE hc ha) (λd h=>by cases h),Oper.uponIn_enter]
 refine⟨λ_=>Ee 1,Gk ((hS w Q H).mono ?_)⟩
 rintro e w' ⟨r,rfl,hq,hr⟩
 exact hK _ _ (h r _ w' rfl (hR.trans hr) hq)
theorem Env.put_some {d:Nat} {v:Value} {a':Act} (hE:Env n a l) (hn:Nat.blt d n.size=true) (e:a'=a.put (some d) v):Env n a' ((d,v)::l):=e▸hE.put d v hn
theorem t_ex {d:Option Nat} {ρ:Type} {m:M ρ} {Q:ρ->Heap->Prop} (enc:ρ->Value) (hd:o.dst=d) (hg:o.guard=none) (hR:Rest w0 w) (H:m.wp w.heap Q)
  (hrun:∀Q:ρ->Heap->Prop,m.wp w.heap Q->∃r w1,(execOp a.eval o).run P w=.ok (.value (enc r)) w1/\Rest w w1/\Q r w1.heap)
  (h:∀r a' w',a'=a.put d (enc r)->Rest w0 w'->Q r w'.heap->wpListIn (Fw ro) 1 P ops (Ps K X R) rest a' w'):wpListIn (Fw ro) 1 P ops (Ps K X R) (o::rest) a w:=by
 obtain⟨r,w1,h1,h2,h3⟩:=hrun Q H
 refine KNk hg h1 ?_
 rw [hd]
 exact h r _ w1 rfl (hR.trans h2) h3
theorem KEa {i t:Nat} {b:Bool} (hE:Env n a l) (hi:(ops[i]?).bind (·.dst)=some t) (hl:look l t=some (.bool b)):yielded ops a.tmps i=some b:=by
 unfold yielded
 rw [hi]
 simp [hE.at_ _ _ hl]
theorem KVK (hw:Region.wanted o (yielded ops a.tmps)=false) (h:wpListIn (Fw ro) 1 P ops (Ps K X R) rest (a.put o.dst undef) w):wpListIn (Fw ro) 1 P ops (Ps K X R) (o::rest) a w:=by
 simp only [wpListIn,hw]
 exact⟨λ_ _=>trivial,h⟩
theorem KZm {i t:Nat} {b c:Bool} (hg:o.guard=some (i,c)) (hE:Env n a l) (hi:(ops[i]?).bind (·.dst)=some t) (hl:look l t=some (.bool b)) (hne:(b==c)=false)
  (h:∀a',a'=a.put o.dst undef->wpListIn (Fw ro) 1 P ops (Ps K X R) rest a' w):wpListIn (Fw ro) 1 P ops (Ps K X R) (o::rest) a w:=by
 refine KVK ?_ (h _ rfl)
 unfold Region.wanted
 rw [hg]
 simp only [KEa hE hi hl]
 revert hne
 cases b<;>cases c<;>simp
theorem t_on {i t:Nat} {b c:Bool} (hg:o.guard=some (i,c)) (hE:Env n a l) (hi:(ops[i]?).bind (·.dst)=some t) (hl:look l t=some (.bool b)) (heq:(b==c)=true)
  (h:wpListIn (Fw ro) 1 P ops (Ps K X R) ({o with guard:=none}::rest) a w):wpListIn (Fw ro) 1 P ops (Ps K X R) (o::rest) a w:=by
 have hw:Region.wanted o (yielded ops a.tmps)=true:=by
  unfold Region.wanted
  rw [hg]
  simp only [KEa hE hi hl]
  revert heq
  cases b<;>cases c<;>simp
 have h':=h
 simp only [wpListIn]at h'⊢
 rw [hw]
 simp only [Region.wanted,Oa]at h'
 exact h'
theorem KX2 {i t:Nat} {c:Bool} {v:Value} (hg:o.guard=some (i,c)) (hE:Env n a l) (hi:(ops[i]?).bind (·.dst)=some t) (hl:look l t=some v) (hv:∀b,v≠.bool b)
  (h:∀a',a'=a.put o.dst undef->wpListIn (Fw ro) 1 P ops (Ps K X R) rest a' w):wpListIn (Fw ro) 1 P ops (Ps K X R) (o::rest) a w:=by
 refine KVK ?_ (h _ rfl)
 unfold Region.wanted
 rw [hg]
 have:yielded ops a.tmps i=none:=by
  unfold yielded
  rw [hi]
  simp only [FG,hE.at_ _ _ hl]
  cases v<;>first|rfl|exact absurd rfl (hv _)
 simp [this]
theorem KNl {F:Fence} {m:Nat} {o:Oper} {r:Result Next} {N N':Act->World->Prop} {Q Q':Exit->Act->World->Prop} (hn:∀a w,N a w->N' a w) (hp:∀c a w,Q (.panic c) a w->Q' (.panic c) a w) (hl:LetsOut Q->LetsOut Q')
  (h:o.uponIn F m P a N Q r):o.uponIn F m P a N' Q' r:=by
 unfold Oper.uponIn at h⊢
 split at h
 ·exact hn _ _ h
 ·exact hn _ _ h
 ·exact hn _ _ h
 ·refine⟨h.1,h.2.mono λe w' hh=>?_⟩
  cases e with
  |returned v=>exact hn _ _ hh
  |panicked c=>exact hp _ _ _ hh
  |outgrown=>exact hl hh
 ·exact⟨h.1,h.2.mono λv w' hh=>hn _ _ hh⟩
 ·refine⟨h.1,h.2.mono λe w' hh=>?_⟩
  cases e with
  |returned v=>exact hn _ _ hh
  |panicked c=>exact hp _ _ _ hh
  |outgrown=>exact hl hh
 ·exact hp _ _ _ h
 ·exact h.elim
theorem KAv {Q:Exit->Act->World->Prop}:∀(L:List Oper) (k:Nat) (a:Act) (w:World),wpListIn (Fw ro) 1 P ops (Exit.then (wpListIn (Fw ro) 1 P ops Q (L.drop k)) Q) (L.take k) a w->wpListIn (Fw ro) 1 P ops Q L a w
 |L,0,a,w,h=>by simpa [wpListIn,Exit.then] using h
 | [],k+1,a,w,h=>by simpa [wpListIn,Exit.then] using h
 |o::r,k+1,a,w,h=>by
  simp only [Fq,OE,wpListIn]at h⊢
  split at h
  ·rename_i hw
   rw [if_pos hw]
   exact⟨h.1,KNl (λa w h=>KAv r k a w h) (λc a w h=>h) (λh=>h) h.2⟩
  ·rename_i hw
   rw [if_neg hw]
   exact⟨h.1,KAv r k _ w h.2⟩
theorem KZn {α:Type} (k:Nat) {L:List Oper} {m:M α} {Qr:α->Heap->Prop} (Lx:α->List (Nat×Value)) (H:m.wp w.heap Qr)
  (hg:∀Kr:Act->World->Prop,(∀x a w,Env n a (Lx x)->Rest w0 w->Qr x w.heap->Kr a w)->m.wp w.heap Qr->wpListIn (Fw ro) 1 P ops (Ps Kr X R) (L.take k) a w)
  (hj:∀x a w,Env n a (Lx x)->Rest w0 w->Qr x w.heap->wpListIn (Fw ro) 1 P ops (Ps K X R) (L.drop k) a w):wpListIn (Fw ro) 1 P ops (Ps K X R) L a w:=by
 refine KAv L k a w ?_
 have e:Ps (λa w=>wpListIn (Fw ro) 1 P ops (Ps K X R) (L.drop k) a w) X R=Exit.then (wpListIn (Fw ro) 1 P ops (Ps K X R) (L.drop k)) (Ps K X R):=by
  funext e a w
  cases e<;>rfl
 rw [<-e]
 exact hg _ hj H
end steps
section res
variable {P:Program} {n:Frm} {a:Act} {w:World} {l:List (Nat×Value)} {fn:Func}
def RV (P:Program) (l:List (Nat×Value)) (w:World):List ResultVar->List Value->Prop
 | [],[]=>True
 | .tmp t::r,v::vs=>look l t=some v/\RV P l w r vs
 | .cell t ty::r,v::vs=>(∃p,look l t=some (.pointer (some p))/\(loadVar ty p).run P w=.ok v w)/\RV P l w r vs
 |_,_=>False
theorem RV.nil:RV P l w [] []:=trivial
theorem RV.tmp {t:Nat} {v:Value} {r:List ResultVar} {vs:List Value} (h:look l t=some v) (hr:RV P l w r vs):RV P l w (.tmp t::r) (v::vs):=⟨h,hr⟩
theorem RV.cellG {t ty m:Nat} {p:Addr} {cs:Ea} {r:List ResultVar} {vs:List Value} (h:look l t=some (.pointer (some p))) (ht:agB P ty m=true) (hc:cs.size=m/\∀i,i<m->KJ w.heap (p.add i)=cs[i]?) (hr:RV P l w r vs):
  RV P l w (.cell t ty::r) (.agg cs::vs):=⟨⟨p,h,KCy ht hc.1 hc.2⟩,hr⟩
theorem RV.cell {t ty:Nat} {p:Addr} {v:Value} {r:List ResultVar} {vs:List Value} (h:look l t=some (.pointer (some p))) (ht:scB P ty=true) (hc:KJ w.heap p=some v) (hr:RV P l w r vs):
  RV P l w (.cell t ty::r) (v::vs):=⟨⟨p,h,KCx ht hc⟩,hr⟩
def KTU (tmps:Ea):ResultVar->Sem Value
 | .tmp t=>pure (tmps.getD t undef)
 | .cell c t=>do loadVar t (<-asAddr (tmps.getD c undef))
theorem RV.run (hE:Env n a l):∀{rs:List ResultVar} {vs:List Value},RV P l w rs vs->(rs.mapM (KTU a.tmps)).run P w=.ok vs w
 | [],[],_=>by simp
 | .tmp t::r,v::vs,h=>by
  have h1:a.tmps.getD t undef=v:=hE.eval h.1
  have h2:(KTU a.tmps (.tmp t)).run P w=.ok v w:=by show(pure (a.tmps.getD t undef):Sem Value).run P w=_;rw [h1];rfl
  simp only [Oj,Sem.run_bind,h2,Result.andThen_ok,RV.run hE h.2,Sem.run_pure]
 | .cell c t::r,v::vs,h=>by
  obtain⟨⟨p,hp,hl⟩,hr⟩:=h
  have h1:a.tmps.getD c undef=.pointer (some p):=hE.eval hp
  have h2:(KTU a.tmps (.cell c t)).run P w=.ok v w:=by show(do loadVar t (<-asAddr (a.tmps.getD c undef)):Sem Value).run P w=_;rw [h1];simp [asAddr,hl]
  simp only [Oj,Sem.run_bind,h2,Result.andThen_ok,RV.run hE hr,Sem.run_pure]
 | [],_::_,h=>h.elim
 | .tmp _::_,[],h=>h.elim
 | .cell _ _::_,[],h=>h.elim
theorem KQJ (fn:Func) (tmps:Ea):results fn tmps=(do let vs<-fn.results.mapM (KTU tmps);pure (if h:vs.size=1 then vs[0]else .tuple vs)):=by
 unfold results
 congr 2
theorem qB {rs:List ResultVar} {vs:List Value} (hE:Env n a l) (hf:fn.results=rs.toArray) (h:RV P l w rs vs):(results fn a.tmps).run P w=.ok (match vs with| [v]=>v|vs=>.tuple vs.toArray) w:=by
 have:=h.run hE
 rw [KQJ,hf,List.mapM_toArray]
 simp only [Sem.run_bind,Sem.run_map,this,Result.andThen_ok]
 match vs with
 | []=>simp
 | [v]=>simp
 |v::u::r=>simp
end res
section loops
variable {ro:Option Nat} {P:Program} {σ ρ:Type}
theorem KX3 {F:(σ->M ρ)->σ->M ρ} {Q:ρ->Heap->Prop} {c:Code} {N:Act->World->Prop} {X:Nat->Act->World->Prop} {R:Act->World->Prop} {w0:World} (n:σ->Frm) (L:σ->List (Nat×Value))
  {s:σ} {a:Act} {w:World} (H:(M.loop F s).wp w.heap Q) (hE:Env (n s) a (L s)) (hR:Rest w0 w)
  (h:∀(Y:Act->World->Prop) (self:σ->M ρ),
   (∀s a w,Env (n s) a (L s)->Rest w0 w->(self s).wp w.heap Q->Y a w)->
   ∀s a w,Env (n s) a (L s)->Rest w0 w->(F self s).wp w.heap Q->c.wpIn (Fw ro) 1 P (Ps Y X R) a w):(Code.loop c).wpIn (Fw ro) 1 P (Ps N X R) a w:=by
 refine KXs ?_
 refine H (λs h=>∀a w,w.heap=h->Env (n s) a (L s)->Rest w0 w->KEU ro P c (Ps N X R) a w) ?_ a w rfl hE hR
 intro s h hF a w hh hE hR
 subst hh
 refine KTM (λa w=>KEU ro P c (Ps N X R) a w) (λ_ _ h=>h) ?_
 exact h (λa w=>KEU ro P c (Ps N X R) a w) (λs'=>⟨λh' _=>∀(a:Act) (w:World),w.heap=h'->Env (n s') a (L s')->Rest w0 w->KEU ro P c (Ps N X R) a w,λ_ x=>x⟩) (λs a w hE hR hX=>hX a w rfl hE hR) s a w hE hR hF
end loops
def KOu (args:Ea):List (Nat×Value)->Prop
 | []=>True
 |(d,v)::r=>args[d]?=some v/\KOu args r
theorem KAH {args:Ea} {l:List (Nat×Value)} (h:KOu args l):∀d v,look l d=some v->args[d]?=some v:=by
 induction l with
 |nil=>intro d v hl;simp [look]at hl
 |cons p r ih=>
  obtain⟨k,x⟩:=p
  intro d v hl
  simp only [look]at hl
  cases hb:Nat.beq k d with
  |true=>
   rw [hb]at hl
   simp only [Fy,Option.some.injEq]at hl
   have:=Eu hb
   subst this;subst hl
   exact h.1
  |false=>rw [hb]at hl;exact ih h.2 d v hl
theorem KQ6 (b:Bool):b=true\/b=false:=by cases b<;>simp
theorem Env.reb {n:Frm} {a:Act} {l:List (Nat×Value)} (hE:Env n a l) (t:Nat) (b c:Bool) (h:b=c) (hl:look l t=some (.bool b)):Env n a ((t,.bool c)::l):=by
 subst h
 refine⟨hE.size,hE.defers,λd v hd=>?_⟩
 simp only [look]at hd
 cases hb:Nat.beq t d with
 |true=>
  rw [hb]at hd
  simp only [Fy,Option.some.injEq]at hd
  have:=Eu hb
  subst this;subst hd
  exact hE.at_ _ _ hl
 |false=>rw [hb]at hd;exact hE.at_ _ _ hd
end Gx
namespace Gx.Last
open Go
section
variable {P:Program} {ops:Array Oper} {Q:Exit->Act->World->Prop} {md:Region.Mode} {S:World->Prop} {ds:List Nat}
def Region.reachB (md:Region.Mode) (ops:Array Oper) (i:Nat):Nat->Nat->Bool
 |0,_=>false
 |fuel+1,d=>match ops[d]? with
  |some o=>o.after.any λe=>Region.binds md e&&(e.on==i||Region.reachB md ops i fuel e.on)
  |none=>false
def Region.closedB (md:Region.Mode) (ops:Array Oper) (listed:Array Bool):Bool:=
 (List.range ops.size).all λj=>!listed.getD j false||match ops[j]? with
  |some o=>o.after.all λe=>!Region.binds md e||listed.getD e.on false
  |none=>true
def Region.lastB (md:Region.Mode) (ops:Array Oper) (listed:Array Bool) (ds:List Nat) (i:Nat):Bool:=
 ds.all λd=>listed.getD d true||Region.reachB md ops i ops.size d
def YK (md:Region.Mode) (ops:Array Oper) (listed:Array Bool):Prop:=
 ∀j oj,ops[j]?=some oj->listed.getD j false=true->∀e∈oj.after,Region.binds md e=true->listed.getD e.on false=true
theorem Region.closedB_spec {listed:Array Bool} (h:Region.closedB md ops listed=true):YK md ops listed:=by
 intro j oj hj hl e he hb
 have hlt:j<ops.size:=(IK.1 hj).1
 have h1:=EB.1 h j (FQ.2 hlt)
 simp only [hl,hj,On,F5]at h1
 have h2:=Array.all_eq_true_iff_forall_mem.1 h1 e he
 simpa [hb] using h2
theorem YK.set {listed:Array Bool} {i:Nat} (h:YK md ops listed) (hi:i∈Region.ready md ops listed):YK md ops (listed.setIfInBounds i true):=by
 obtain⟨_,oi,hoi,hall⟩:=mem_ready.1 hi
 intro j oj hj hl e he hb
 by_cases hij:i=j
 ·subst hij
  have:oj=oi:=Option.some.inj (hj.symm.trans hoi)
  subst this
  exact getD_set_true (hall e he hb)
 ·rw [getD_set_ne false hij]at hl
  exact getD_set_true (h j oj hj hl e he hb)
theorem Region.reach_listed {listed:Array Bool} {i:Nat} (hc:YK md ops listed):∀(fuel d:Nat),Region.reachB md ops i fuel d=true->listed.getD d false=true->listed.getD i false=true
 |0,_,h,_=>by simp [Region.reachB]at h
 |fuel+1,d,h,hl=>by
  unfold Region.reachB at h
  cases ho:ops[d]? with
  |none=>rw [ho]at h;simp at h
  |some o=>
   rw [ho]at h
   obtain⟨e,he,h1⟩:=I8.1 h
   simp only [Eg,EO,Fx]at h1
   have hle:=hc d o ho hl e he h1.1
   rcases h1.2 with h2|h2
   ·rw [<-h2];exact hle
   ·exact Region.reach_listed hc fuel e.on h2 hle
theorem Region.reach_not_ready {listed:Array Bool} {i d fuel:Nat} (hc:YK md ops listed) (hr:Region.reachB md ops i fuel d=true) (hun:listed.getD i true=false):d∉Region.ready md ops listed:=by
 intro hd
 obtain⟨_,o,ho,hall⟩:=mem_ready.1 hd
 have hi:listed.getD i false=true:=by
  cases fuel with
  |zero=>simp [Region.reachB]at hr
  |succ n=>
   unfold Region.reachB at hr
   rw [ho]at hr
   obtain⟨e,he,h1⟩:=I8.1 hr
   simp only [Eg,EO,Fx]at h1
   have hle:=hall e he h1.1
   rcases h1.2 with h2|h2
   ·rw [<-h2];exact hle
   ·exact Region.reach_listed hc n e.on h2 hle
 rcases ES i listed.size with h'|h'
 ·simp [h']at hun hi
  rw [hun]at hi
  cases hi
 ·simp [EV h']at hun
def ZR (P:Program) (md:Region.Mode) (ops:Array Oper) (Q:Exit->Act->World->Prop) (S:World->Prop) (ds:List Nat):Nat->Array Bool->Act->World->Prop
 |0,listed,a,w=>Region.ready md ops listed=[]/\Q .normal a w
 |fuel+1,listed,a,w=>
  (Region.ready md ops listed=[]->Q .normal a w)/\
  ∀i∈Region.ready md ops listed,wpOp P ops Q i (λa' w'=>(i∉ds->S w->S w')/\ZR P md ops Q S ds fuel (listed.setIfInBounds i true) a' w') a w
theorem KEb:∀(fuel:Nat) (listed:Array Bool) (a:Act) (w:World),ZR P md ops Q S ds fuel listed a w->wpAny P md ops Q fuel listed a w
 |0,_,_,_,h=>h
 |fuel+1,_,_,_,h=>⟨h.1,λi hi=>wpOp_mono (λa' w' h'=>KEb fuel _ a' w' h'.2) (h.2 i hi)⟩
theorem KHp {i:Nat} {oi:Oper} {v:Value} (hi:ops[i]?=some oi) (hsel:∀(j:Nat) (o:Oper) cs b,ops[j]?=some o->o.op≠.select cs b)
  (hQ:∀c a w,Q (.panic c) (a.put oi.dst v) w->Q (.panic c) a w) (n:Nat):
  ∀(fuel:Nat) (listed:Array Bool) (a:Act) (w:World),
   (∀j oj,ops[j]?=some oj->j≠i->listed.getD j true=false->(∀e∈oj.after,Region.binds md e=true->e.on≠i)->oi.apart ops oj=true)->
   YK md ops listed->(∀d∈ds,listed.getD d true=false->Region.reachB md ops i n d=true)->
   i∈Region.ready md ops listed->YieldsIf P ops S oi v a->S w->
   ZR P md ops Q S ds fuel (listed.setIfInBounds i true) (a.put oi.dst v) w->ZR P md ops Q S ds (fuel+1) listed a w:=by
 intro fuel
 induction fuel with
 |zero=>
  intro listed a w _ _ _ hr hy hS H
  refine⟨λh=>(by rw [h]at hr;cases hr),λj hj=>?_⟩
  by_cases hji:j=i
  ·subst hji;exact hy.wpOp hi hS ⟨λ_ h=>h,H⟩
  ·have:=ready_mono hj hji
   rw [H.1]at this
   cases this
 |succ fuel ih=>
  intro listed a w hfree hc hd hr hy hS H
  refine⟨λh=>(by rw [h]at hr;cases hr),λj hj=>?_⟩
  by_cases hji:j=i
  ·subst hji;exact hy.wpOp hi hS ⟨λ_ h=>h,H⟩
  ·have h1:=H.2 j (ready_mono hj hji)
   obtain⟨hjun,oj,hoj,hall⟩:=mem_ready.1 hj
   have hiun:=(mem_ready.1 hr).1
   have hnot:∀e∈oj.after,Region.binds md e=true->e.on≠i:=λe he hb heq=>by
    have h1:=hall e he hb
    rw [heq]at h1
    rcases ES i listed.size with h'|h'
    ·simp [h']at hiun h1;rw [hiun]at h1;cases h1
    ·simp [EV h']at h1
   have hjd:j∉ds:=λhm=>Region.reach_not_ready hc (hd j hm hjun) hiun hj
   have h2:=wpOp_putIf hoj (hfree j oj hoj hji hjun hnot) (λcs b=>hsel i oi cs b hi) (λcs b=>hsel j oj cs b hoj) hQ hy h1
   have hfree':∀k ok,ops[k]?=some ok->k≠i->(listed.setIfInBounds j true).getD k true=false->
     (∀e∈ok.after,Region.binds md e=true->e.on≠i)->oi.apart ops ok=true:=λk ok hk hki hun hno=>by
    refine hfree k ok hk hki ?_ hno
    by_cases hjk:j=k
    ·subst hjk;exact hjun
    ·rw [getD_set_ne true hjk]at hun;exact hun
   have hd':∀d∈ds,(listed.setIfInBounds j true).getD d true=false->Region.reachB md ops i n d=true:=λd hm hun=>by
    refine hd d hm ?_
    by_cases hjk:j=d
    ·subst hjk;exact hjun
    ·rw [getD_set_ne true hjk]at hun;exact hun
   refine wpOp_mono (λa' w' h3=>⟨h3.2.1,ih (listed.setIfInBounds j true) a' w' hfree' (hc.set hj) hd' (ready_mono hr (Ne.symm hji)) h3.1 (h3.2.1 hjd hS) ?_⟩) h2
   rw [Oo _ _ hji]
   exact h3.2.2
theorem KKM {i:Nat} {oi:Oper} {v:Value} (hi:ops[i]?=some oi) (hsel:∀(j:Nat) (o:Oper) cs b,ops[j]?=some o->o.op≠.select cs b)
  (hQ:∀c a w,Q (.panic c) (a.put oi.dst v) w->Q (.panic c) a w):
  ∀(fuel:Nat) (listed:Array Bool) (a:Act) (w:World),
   (∀j oj,ops[j]?=some oj->j≠i->listed.getD j true=false->(∀e∈oj.after,Region.binds md e=true->e.on≠i)->oi.apart ops oj=true)->
   i∈Region.ready md ops listed->Yields P ops oi v a->
   ZR P md ops Q S ds fuel (listed.setIfInBounds i true) (a.put oi.dst v) w->ZR P md ops Q S ds (fuel+1) listed a w:=by
 intro fuel
 induction fuel with
 |zero=>
  intro listed a w _ hr hy H
  refine⟨λh=>(by rw [h]at hr;cases hr),λj hj=>?_⟩
  by_cases hji:j=i
  ·subst hji;exact(hy.yieldsIf (S:=λ_=>True)).wpOp hi trivial ⟨λ_ h=>h,H⟩
  ·have:=ready_mono hj hji
   rw [H.1]at this
   cases this
 |succ fuel ih=>
  intro listed a w hfree hr hy H
  refine⟨λh=>(by rw [h]at hr;cases hr),λj hj=>?_⟩
  by_cases hji:j=i
  ·subst hji;exact(hy.yieldsIf (S:=λ_=>True)).wpOp hi trivial ⟨λ_ h=>h,H⟩
  ·have h1:=H.2 j (ready_mono hj hji)
   obtain⟨hjun,oj,hoj,hall⟩:=mem_ready.1 hj
   have hiun:=(mem_ready.1 hr).1
   have hnot:∀e∈oj.after,Region.binds md e=true->e.on≠i:=λe he hb heq=>by
    have h1:=hall e he hb
    rw [heq]at h1
    rcases ES i listed.size with h'|h'
    ·simp [h']at hiun h1;rw [hiun]at h1;cases h1
    ·simp [EV h']at h1
   have h2:=wpOp_put hoj (hfree j oj hoj hji hjun hnot) (λcs b=>hsel i oi cs b hi) (λcs b=>hsel j oj cs b hoj) hQ hy h1
   have hfree':∀k ok,ops[k]?=some ok->k≠i->(listed.setIfInBounds j true).getD k true=false->
     (∀e∈ok.after,Region.binds md e=true->e.on≠i)->oi.apart ops ok=true:=λk ok hk hki hun hno=>by
    refine hfree k ok hk hki ?_ hno
    by_cases hjk:j=k
    ·subst hjk;exact hjun
    ·rw [getD_set_ne true hjk]at hun;exact hun
   refine wpOp_mono (λa' w' h3=>⟨h3.2.1,ih (listed.setIfInBounds j true) a' w' hfree' (ready_mono hr (Ne.symm hji)) h3.1 ?_⟩) h2
   rw [Oo _ _ hji]
   exact h3.2.2
theorem KJD {i:Nat} {oi:Oper} {v:Value} {fuel:Nat} {listed:Array Bool} {a:Act} {w:World} (hi:ops[i]?=some oi)
  (hs:Region.noSelect ops=true) (hf:Region.free md ops listed i=true) (hr:(Region.ready md ops listed).contains i=true)
  (hc:Region.closedB md ops listed=true) (hl:Region.lastB md ops listed ds i=true)
  (hQ:∀c a w,Q (.panic c) (a.put oi.dst v) w->Q (.panic c) a w) (hy:YieldsIf P ops S oi v a) (hS:S w)
  (h:ZR P md ops Q S ds fuel (listed.setIfInBounds i true) (a.put oi.dst v) w):ZR P md ops Q S ds (fuel+1) listed a w:=
 KHp hi (Region.noSelect_spec hs) hQ ops.size fuel listed a w (Region.free_spec hi hf) (Region.closedB_spec hc)
  (λd hm hun=>by have:=EB.1 hl d hm;rw [hun]at this;simpa using this) (by simpa using hr) hy hS h
theorem KEc {rs:List Nat} {fuel:Nat} {listed:Array Bool} {a:Act} {w:World} (hr:Region.ready md ops listed=rs) (hne:rs≠[])
  (h:∀i∈rs,wpOp P ops Q i (λa' w'=>(i∉ds->S w->S w')/\ZR P md ops Q S ds fuel (listed.setIfInBounds i true) a' w') a w):ZR P md ops Q S ds (fuel+1) listed a w:=
 ⟨λh0=>absurd (hr▸h0) hne,hr▸h⟩
theorem KJE {listed:Array Bool} {a:Act} {w:World} (hr:Region.ready md ops listed=[]) (h:Q .normal a w):
  ∀fuel,ZR P md ops Q S ds fuel listed a w
 |0=>⟨hr,h⟩
 |_+1=>⟨λ_=>h,by rw [hr];simp⟩
end
section
variable {P:Program} {ops:Array Oper} {Q:Exit->Act->World->Prop} {md:Region.Mode} {S:World->Prop} {ds:List Nat}
def Vu (P:Program) (md:Region.Mode) (ops:Array Oper) (Q:Exit->Act->World->Prop) (S:World->Prop) (ds:List Nat) (fuel:Nat) (listed:Array Bool) (a:Act) (w:World) (rs:List Nat):Prop:=
 ∀i∈rs,wpOp P ops Q i (λa' w'=>(i∉ds->S w->S w')/\ZR P md ops Q S ds fuel (listed.setIfInBounds i true) a' w') a w
theorem Vu.nil {fuel:Nat} {listed:Array Bool} {a:Act} {w:World}:Vu P md ops Q S ds fuel listed a w []:=λ_ h=>by cases h
theorem Vu.cons {fuel:Nat} {listed:Array Bool} {a:Act} {w:World} {i:Nat} {o:Oper} {rs:List Nat} (ho:ops[i]?=some o) (hd:i∉ds)
  (h:∀K':Act->World->Prop,Shut (∀a w,S w->(S w->ZR P md ops Q S ds fuel (listed.setIfInBounds i true) a w)->K' a w)->if Region.wanted o (yielded ops a.tmps)=true then Oper.wp P o a w K' Q else K' (a.put o.dst undef) w)
  (hs:Vu P md ops Q S ds fuel listed a w rs):Vu P md ops Q S ds fuel listed a w (i::rs):=λj hj=>by
 rcases ED.1 hj with rfl|hj
 ·exact wpOp_step ho (λK' hK=>h K' (λa w hS hW=>hK a w ⟨λ_ _=>hS,hW hS⟩))
 ·exact hs j hj
theorem Vu.cons_last {fuel:Nat} {listed:Array Bool} {a:Act} {w:World} {i:Nat} {o:Oper} {rs:List Nat} (ho:ops[i]?=some o) (hd:i∈ds)
  (h:∀K':Act->World->Prop,Shut (∀a w,ZR P md ops Q S ds fuel (listed.setIfInBounds i true) a w->K' a w)->if Region.wanted o (yielded ops a.tmps)=true then Oper.wp P o a w K' Q else K' (a.put o.dst undef) w)
  (hs:Vu P md ops Q S ds fuel listed a w rs):Vu P md ops Q S ds fuel listed a w (i::rs):=λj hj=>by
 rcases ED.1 hj with rfl|hj
 ·exact wpOp_step ho (λK' hK=>h K' (λa w hW=>hK a w ⟨λhn=>absurd hd hn,hW⟩))
 ·exact hs j hj
theorem KAw {rs:List Nat} {fuel:Nat} {listed:Array Bool} {a:Act} {w:World} (hr:Region.ready md ops listed=rs) (hne:rs≠[])
  (h:Vu P md ops Q S ds fuel listed a w rs):ZR P md ops Q S ds (fuel+1) listed a w:=KEc hr hne h
def KTV (md:Region.Mode) (ops:Array Oper) (ds:List Nat) (l l':Array Bool) (i:Nat):Bool:=
 Region.noSelect ops&&Region.free md ops l i&&(Region.ready md ops l).contains i&&Region.closedB md ops l&&Region.lastB md ops l ds i&&(l.setIfInBounds i true==l')
theorem KX4 {i:Nat} {N:Option Tmp} {oi:Oper} {v:Value} {fuel:Nat} {l:Array Bool} {a:Act} {w:World} (l':Array Bool) (hi:ops[i]?=some oi) (hN:oi.dst=N) (hc:KTV md ops ds l l' i=true)
  (hQ:∀c a w,Q (.panic c) (a.put oi.dst v) w->Q (.panic c) a w) (hy:YieldsIf P ops S oi v a) (hS:S w) {a':Act} (ha:a.put N v=a')
  (h:ZR P md ops Q S ds fuel l' a' w):ZR P md ops Q S ds (fuel+1) l a w:=by
 subst ha
 subst hN
 simp only [KTV,Eg,Fx]at hc
 obtain⟨⟨⟨⟨⟨h1,h2⟩,h3⟩,h4⟩,h5⟩,h6⟩:=hc
 subst h6
 exact KJD hi h1 h2 h3 h4 h5 hQ hy hS h
def anyB (md:Region.Mode) (ops:Array Oper) (l l':Array Bool) (i:Nat):Bool:=
 Region.noSelect ops&&Region.free md ops l i&&(Region.ready md ops l).contains i&&(l.setIfInBounds i true==l')
theorem KV9 {i:Nat} {N:Option Tmp} {oi:Oper} {v:Value} {fuel:Nat} {l:Array Bool} {a:Act} {w:World} (l':Array Bool) (hi:ops[i]?=some oi) (hN:oi.dst=N) (hc:anyB md ops l l' i=true)
  (hQ:∀c a w,Q (.panic c) (a.put oi.dst v) w->Q (.panic c) a w) (hy:Yields P ops oi v a) {a':Act} (ha:a.put N v=a')
  (h:ZR P md ops Q S ds fuel l' a' w):ZR P md ops Q S ds (fuel+1) l a w:=by
 subst ha
 subst hN
 simp only [anyB,Eg,Fx]at hc
 obtain⟨⟨⟨h1,h2⟩,h3⟩,h6⟩:=hc
 subst h6
 exact KKM hi (Region.noSelect_spec h1) hQ fuel l a w (Region.free_spec hi h2) (by simpa using h3) hy h
def KJj (md:Region.Mode) (ops:Array Oper) (l l':Array Bool) (i:Nat):Bool:=(Region.ready md ops l== [i])&&(l.setIfInBounds i true==l')
theorem one_ {i:Nat} {N:Option Tmp} {oi:Oper} {fuel:Nat} {l:Array Bool} {a:Act} {w:World} (l':Array Bool) (hi:ops[i]?=some oi) (hN:oi.dst=N) (hc:KJj md ops l l' i=true) (hd:i∉ds)
  (h:∀K:Act->World->Prop,Shut (∀a' w',S w'->(S w'->ZR P md ops Q S ds fuel l' a' w')->K a' w')->if Region.wanted oi (yielded ops a.tmps)=true then Oper.wp P oi a w K Q else K (a.put N undef) w):
  ZR P md ops Q S ds (fuel+1) l a w:=by
 subst hN
 simp only [KJj,Eg,Fx]at hc
 obtain⟨h1,h2⟩:=hc
 subst h2
 exact KAw h1 (by simp) (Vu.cons hi hd (λK hK=>h K hK) Vu.nil)
theorem KX5 {i:Nat} {N:Option Tmp} {oi:Oper} {fuel:Nat} {l:Array Bool} {a:Act} {w:World} (l':Array Bool) (hi:ops[i]?=some oi) (hN:oi.dst=N) (hc:KJj md ops l l' i=true) (hd:i∈ds)
  (h:∀K:Act->World->Prop,Shut (∀a' w',ZR P md ops Q S ds fuel l' a' w'->K a' w')->if Region.wanted oi (yielded ops a.tmps)=true then Oper.wp P oi a w K Q else K (a.put N undef) w):
  ZR P md ops Q S ds (fuel+1) l a w:=by
 subst hN
 simp only [KJj,Eg,Fx]at hc
 obtain⟨h1,h2⟩:=hc
 subst h2
 exact KAw h1 (by simp) (Vu.cons_last hi hd (λK hK=>h K hK) Vu.nil)
theorem KZo {l:Array Bool} {a:Act} {w:World} {n:Nat} (hr:(Region.ready md ops l== [])=true) (h:Q .normal a w):ZR P md ops Q S ds n l a w:=KJE (by simpa using hr) h n
theorem KX6 {oi:Oper} {N:Option Tmp} {a:Act} {w:World} {K:Act->World->Prop} (f:FuncId) (args:Ea) (hw:Region.wanted oi (yielded ops a.tmps)=true) (hN:oi.dst=N) (hrun:(execOp a.eval oi).run P w=.ok (.enter f args) w)
  (h:Calls P f args w λe w'=>∃v,e=.returned v/\K (a.put N v) w'):if Region.wanted oi (yielded ops a.tmps)=true then Oper.wp P oi a w K Q else K (a.put N undef) w:=by
 rw [if_pos hw]
 subst hN
 unfold Oper.wp
 rw [hrun,Oper.upon_enter]
 refine h.mono λe w'' hh=>?_
 obtain⟨v,rfl,hk⟩:=hh
 exact hk
theorem KOv {oi:Oper} {N:Option Tmp} {a:Act} {w w1:World} {v:Value} {K:Act->World->Prop} (hw:Region.wanted oi (yielded ops a.tmps)=true) (hN:oi.dst=N) (hrun:(execOp a.eval oi).run P w=.ok (.value v) w1)
  (h:K (a.put N v) w1):if Region.wanted oi (yielded ops a.tmps)=true then Oper.wp P oi a w K Q else K (a.put N undef) w:=by
 rw [if_pos hw]
 subst hN
 unfold Oper.wp
 rw [hrun]
 exact h
theorem KWA {oi:Oper} {a:Act} {w w1:World} {K:Act->World->Prop} (hw:Region.wanted oi (yielded ops a.tmps)=true) (hN:oi.dst=none) (hrun:(execOp a.eval oi).run P w=.ok .skip w1)
  (h:K a w1):if Region.wanted oi (yielded ops a.tmps)=true then Oper.wp P oi a w K Q else K (a.put none undef) w:=by
 rw [if_pos hw]
 unfold Oper.wp
 rw [hrun]
 show K (a.put oi.dst undef) w1
 rw [hN]
 exact h
end
end Gx.Last
namespace Gx
open Go Gx.Last
def KL2 (ops:Array Oper):List (List Nat):=ops.toList.map λo=>(o.after.toList.filter (Region.binds .any)).map (·.on)
def KQ7 (ops:Array Oper):List (List Nat):=(List.range ops.size).map λi=>match ops[i]? with
 |none=>[]
 |some oi=>(List.range ops.size).filter λj=>!(j==i||match ops[j]? with
   |some oj=>oj.after.any (λe=>Region.binds .any e&&e.on==i)||oi.apart ops oj
   |none=>true)
def KQ8 (E W:List (List Nat)):Bool:=(List.range W.length).all λd=>(W.getD d []).all λx=>(E.getD d []).any λj=>Nat.blt j d&&(j==x||(W.getD j []).contains x)
def tabB (ops:Array Oper) (E C W:List (List Nat)):Bool:=Region.noSelect ops&&KL2 ops==E&&KQ7 ops==C&&KQ8 E W
structure Tab (ops:Array Oper) (E C W:List (List Nat)):Prop where
 sel:Region.noSelect ops=true
 deps:KL2 ops=E
 conf:KQ7 ops=C
 anc:KQ8 E W=true
theorem Tab.of {ops:Array Oper} {E C W:List (List Nat)} (h:tabB ops E C W=true):Tab ops E C W:=by
 simp only [tabB,Eg,Fx]at h
 exact⟨h.1.1.1,h.1.1.2,h.1.2,h.2⟩
def qC (id:Nat):Code->Option (Array Oper)
 | .region i ops _=>bif Nat.beq i id then some ops else none
 | .seq a b=>match qC id a with
  |some o=>some o
  |none=>qC id b
 | .cond _ a b=>match qC id a with
  |some o=>some o
  |none=>qC id b
 | .block _ c=>qC id c
 | .loop c=>qC id c
 | .scope c=>qC id c
 | .rangeFunc _ _ a b=>match qC id a with
  |some o=>some o
  |none=>qC id b
 |_=>none
def KNm (f:Func) (id:Nat) (E C W:List (List Nat)):Bool:=match f.body with
 |some c=>match qC id c with
  |some ops=>tabB ops E C W
  |none=>false
 |none=>false
theorem KL3 {f:Func} {id:Nat} {E C W:List (List Nat)} {c:Code} {ops:Array Oper} (h:KNm f id E C W=true) (hb:f.body=some c) (hf:qC id c=some ops):Tab ops E C W:=by
 unfold KNm at h
 rw [hb]at h
 simp only [hf]at h
 exact Tab.of h
def readyT (E:List (List Nat)) (b:Array Bool):List Nat:=(List.range E.length).filter λi=>!b.getD i true&&(E.getD i []).all λj=>b.getD j false
def KBf (E:List (List Nat)) (b:Array Bool) (i:Nat):Bool:=Nat.blt i E.length&& !b.getD i true&&(E.getD i []).all λj=>b.getD j false
def KQK (C:List (List Nat)) (b:Array Bool) (i:Nat):Bool:=(C.getD i []).all λj=>b.getD j true
def KHq (E:List (List Nat)) (b:Array Bool):Bool:=(List.range E.length).all λj=>!b.getD j false||(E.getD j []).all λe=>b.getD e false
def KQ9 (W:List (List Nat)) (b:Array Bool) (ds:List Nat) (i:Nat):Bool:=ds.all λd=>b.getD d true||(W.getD d []).contains i
section
variable {ops:Array Oper} {E C W:List (List Nat)} {b:Array Bool} {i:Nat}
theorem Tab.len (h:Tab ops E C W):E.length=ops.size:=by rw [<-h.deps];simp [KL2]
theorem Tab.at_ (h:Tab ops E C W) {o:Oper} (ho:ops[i]?=some o):E.getD i []=(o.after.toList.filter (Region.binds .any)).map (·.on):=by
 rw [<-h.deps]
 have:(KL2 ops)[i]?=some ((o.after.toList.filter (Region.binds .any)).map (·.on)):=by
  simp [KL2,ho]
 rw [Fa,this]
 rfl
theorem Tab.allAfter (h:Tab ops E C W) {o:Oper} (ho:ops[i]?=some o) (p:Nat->Bool):(E.getD i []).all p=o.after.all λe=>!Region.binds .any e||p e.on:=by
 rw [h.at_ ho,<-Array.all_toList]
 induction o.after.toList with
 |nil=>rfl
 |cons e r ih=>
  by_cases hb:Region.binds .any e=true
  ·simp only [Iv,hb,Oa,Er,EX,ih,On,F5]
  ·have hb':Region.binds .any e=false:=by simpa using hb
   simp only [Iv,hb',Im,IF,EX,ih,Bool.not_false,Bool.true_or,E9]
theorem Tab.ready (h:Tab ops E C W):Region.ready .any ops b=readyT E b:=by
 unfold Region.ready readyT
 rw [h.len]
 apply List.filter_congr
 intro j hj
 have hlt:j<ops.size:=by simpa using hj
 have ho:ops[j]?=some ops[j]:=EF hlt
 rw [h.allAfter ho,ho]
 rfl
theorem Tab.isReady (h:Tab ops E C W) (hr:KBf E b i=true):i∈Region.ready .any ops b:=by
 rw [h.ready]
 simp only [KBf,Eg,IV]at hr
 unfold readyT
 rw [IA]
 exact⟨by simpa using hr.1.1,by simp only [Eg];exact⟨hr.1.2,hr.2⟩⟩
theorem Tab.free (h:Tab ops E C W) {oi:Oper} (hi:ops[i]?=some oi) (hf:KQK C b i=true):Region.free .any ops b i=true:=by
 have hlt:=(IK.1 hi).1
 have hc:C.getD i []=(List.range ops.size).filter λj=>!(j==i||match ops[j]? with
   |some oj=>oj.after.any (λe=>Region.binds .any e&&e.on==i)||oi.apart ops oj
   |none=>true):=by
  rw [<-h.conf,Fa]
  simp only [KQ7,Fs,List.getElem?_range hlt,Og,hi,Option.getD_some]
 unfold KQK at hf
 rw [hc]at hf
 unfold Region.free
 rw [hi]
 simp only [EB,FQ]at hf⊢
 intro j hj
 by_cases hp:(j==i||match ops[j]? with
   |some oj=>oj.after.any (λe=>Region.binds .any e&&e.on==i)||oi.apart ops oj
   |none=>true)=true
 ·simp only [EO]at hp⊢
  rcases hp with hp|hp
  ·exact .inl (.inl hp)
  ·exact .inr hp
 ·have:=hf j (by rw [IA];exact⟨by simpa using hj,by simpa using hp⟩)
  simp only [EO]
  exact .inl (.inr this)
theorem Tab.closed (h:Tab ops E C W) (hc:KHq E b=true):Region.closedB .any ops b=true:=by
 unfold KHq at hc
 unfold Region.closedB
 rw [h.len]at hc
 simp only [EB,FQ]at hc⊢
 intro j hj
 have ho:ops[j]?=some ops[j]:=EF hj
 have:=hc j hj
 rw [h.allAfter ho]at this
 rw [ho]
 exact this
theorem Tab.reach (h:Tab ops E C W):∀(fuel d:Nat),d<fuel->(W.getD d []).contains i=true->Region.reachB .any ops i fuel d=true:=by
 intro fuel
 induction fuel with
 |zero=>intro d hd;omega
 |succ fuel ih=>
  intro d hd hw
  have ha:=h.anc
  unfold KQ8 at ha
  simp only [EB,FQ]at ha
  have hdl:d<W.length:=by
   rcases ES d W.length with h'|h'
   ·exact h'
   ·rw [Fa,EK h']at hw;simp at hw
  have h1:=ha d hdl i (by simpa using hw)
  rw [Ig]at h1
  obtain⟨j,hj,h2⟩:=h1
  simp only [Eg,IV,EO]at h2
  have hdo:d<ops.size:=by
   rw [<-h.len]
   rcases ES d E.length with h'|h'
   ·exact h'
   ·rw [Fa,EK h']at hj;simp at hj
  have ho:ops[d]?=some ops[d]:=EF hdo
  rw [h.at_ ho]at hj
  simp only [Fv,IA]at hj
  obtain⟨e,⟨he,hb⟩,rfl⟩:=hj
  unfold Region.reachB
  rw [ho]
  simp only
  rw [I8]
  refine⟨e,by simpa using he,?_⟩
  simp only [Eg,EO]
  refine⟨hb,?_⟩
  rcases h2.2 with h3|h3
  ·exact .inl h3
  ·exact .inr (ih e.on (by omega) h3)
theorem Tab.last (h:Tab ops E C W) {ds:List Nat} (hl:KQ9 W b ds i=true):Region.lastB .any ops b ds i=true:=by
 unfold KQ9 at hl
 unfold Region.lastB
 simp only [EB,EO]at hl⊢
 intro d hd
 rcases hl d hd with h1|h1
 ·exact .inl h1
 ·by_cases hdo:d<ops.size
  ·exact .inr (h.reach ops.size d hdo h1)
  ·have hw:(E.getD d [])=[]:=by rw [Fa,EK (by rw [h.len];omega)];rfl
   have ha:=h.anc
   unfold KQ8 at ha
   simp only [EB,FQ]at ha
   have hdl:d<W.length:=by
    rcases ES d W.length with h'|h'
    ·exact h'
    ·rw [Fa,EK h']at h1;simp at h1
   have h2:=ha d hdl i (by simpa using h1)
   rw [hw]at h2
   simp at h2
end
def setB (b b':Array Bool) (i:Nat):Bool:=b.setIfInBounds i true==b'
def anyT (E C:List (List Nat)) (b b':Array Bool) (i:Nat):Bool:=KQK C b i&&KBf E b i&&setB b b' i
def KRA (E C W:List (List Nat)) (ds:List Nat) (b b':Array Bool) (i:Nat):Bool:=KQK C b i&&KBf E b i&&KHq E b&&KQ9 W b ds i&&setB b b' i
def oneT (E:List (List Nat)) (b b':Array Bool) (i:Nat):Bool:=readyT E b== [i]&&setB b b' i
section
variable {ops:Array Oper} {E C W:List (List Nat)} {b b':Array Bool} {i:Nat} {ds:List Nat}
theorem Tab.any (h:Tab ops E C W) {oi:Oper} (hi:ops[i]?=some oi) (hc:anyT E C b b' i=true):anyB .any ops b b' i=true:=by
 simp only [anyT,setB,Eg]at hc
 simp only [anyB,Eg]
 exact⟨⟨⟨h.sel,h.free hi hc.1.1⟩,by simpa using h.isReady hc.1.2⟩,hc.2⟩
theorem Tab.take (h:Tab ops E C W) {oi:Oper} (hi:ops[i]?=some oi) (hc:KRA E C W ds b b' i=true):KTV .any ops ds b b' i=true:=by
 simp only [KRA,setB,Eg]at hc
 simp only [KTV,Eg]
 exact⟨⟨⟨⟨⟨h.sel,h.free hi hc.1.1.1.1⟩,by simpa using h.isReady hc.1.1.1.2⟩,h.closed hc.1.1.2⟩,h.last hc.1.2⟩,hc.2⟩
theorem Tab.one (h:Tab ops E C W) (hc:oneT E b b' i=true):KJj .any ops b b' i=true:=by
 simp only [oneT,setB,Eg]at hc
 simp only [KJj,Eg]
 rw [h.ready]
 exact hc
end
end Gx
namespace Gx
open Go
def ndB (ops:Array Oper):Bool:=ops.toList.all λo=>match o.op with| .defer _=>false|_=>true
section
variable {ro:Option Nat} {P:Program} {ops:Array Oper} {Q:Exit->Act->World->Prop} {md:Region.Mode}
theorem KTW (h:ndB ops=true) {i:Nat} {o:Oper} (ho:ops[i]?=some o):∀c,o.op≠.defer c:=by
 intro c hc
 have hm:o∈ops.toList:=by rw [OD];exact IW ho
 have:=EB.1 h o hm
 rw [hc]at this
 cases this
theorem KWB {n:Nat} {row:String} {args:Ea} {w:World} {R:Value->World->Prop} (h:Rows P row args w R):RowsIn (Fw ro) n P row args w R:=by
 intro c cs _
 obtain⟨v,w',hR,hs⟩:=h c cs
 refine⟨v,w',hR,?_⟩
 have:StepsIn (Machine.fenced P Fence.wide) P (lone (Frame.ofRow P row args .normal) (c::cs) w) (lone (c.finish v) cs w'):=stepsIn_wide.2 hs
 cases ro with
 |none=>exact this
 |some l=>exact this
theorem KZp {o:Oper} {a:Act} {w:World} {K:Act->World->Prop} (hd:∀c,o.op≠.defer c) (h:o.wp P a w K Q):o.wpIn (Fw ro) 1 P a w K Q:=by
 refine⟨λ_ _=>trivial,?_⟩
 rw [show(Fw ro).round=ro from rfl,Oper.semAt_eq _ _ _ hd]
 unfold Oper.wp at h
 generalize(execOp a.eval o).run P w=r at h⊢
 cases r with
 |ok x w'=>
  cases x<;>simp only [Oper.upon,Oper.uponIn]at h⊢ <;>
   first
    |exact h
    |exact⟨λ_=>Ee 1,Gk (h.mono (λe w'' he=>by cases e<;>exact he))⟩
    |exact⟨λ_=>Ee 1,KWB h⟩
 |halt x w'=>cases x<;>simp only [Oper.upon,Oper.uponIn]at h⊢ <;>exact h
theorem KWC {i:Nat} {a:Act} {w:World} {K K':Act->World->Prop} (hL:¬LetsOut Q) (hd:ndB ops=true) (hk:∀a w,K a w->K' a w) (h:wpOp P ops Q i K a w):wpOpIn (Fw ro) 1 P ops Q i K' a w:=by
 unfold wpOp at h
 unfold wpOpIn
 split
 ·rename_i ho;simp only [ho]at h;exact hk _ _ h
 ·rename_i o ho
  simp only [ho]at h
  split
  ·rename_i hw
   simp only [hw,Oa]at h
   exact Oper.wpIn_mono hk (KZp (KTW hd ho) (h.resolve_right λh=>hL h.2))
  ·rename_i hw
   simp only [hw]at h
   exact⟨λ_ _=>trivial,hk _ _ h⟩
theorem KOw (hL:¬LetsOut Q) (hd:ndB ops=true):∀(fuel:Nat) (listed:Array Bool) (a:Act) (w:World),wpAny P md ops Q fuel listed a w->wpAnyIn (Fw ro) 1 P md ops Q fuel listed a w
 |0,_,_,_,h=>h
 |fuel+1,listed,a,w,h=>⟨h.1,λi hi=>KWC hL hd (λa w h=>KOw hL hd fuel _ a w h) (h.2 i hi)⟩
theorem KRB {id:Nat} {a:Act} {w:World} (hL:¬LetsOut Q) (hd:ndB ops=true) (hm:P.follows .mixedOrders=true) (h:wpAny P .any ops Q ops.size (Array.replicate ops.size false) a {w with drawn:=w.drawn+1}):(Code.region id ops true).wpIn (Fw ro) 1 P Q a w:=
 wpIn_region_any hm (KOw hL hd _ _ _ _ h)
end
end Gx
namespace Gx
open Go Gx.Last
section
variable {ro:Option Nat} {P:Program} {ops:Array Oper} {K:Act->World->Prop} {X:Nat->Act->World->Prop} {R:Act->World->Prop} {n:Frm} {a:Act} {w w0:World} {l:List (Nat×Value)} {S:World->Prop} {ds:List Nat} {fuel:Nat} {b b':Array Bool} {i:Nat} {E C W:List (List Nat)}
abbrev NL (P:Program) (ops:Array Oper) (K:Act->World->Prop) (X:Nat->Act->World->Prop) (R:Act->World->Prop) (S:World->Prop) (ds:List Nat) (fuel:Nat) (b:Array Bool) (a:Act) (w:World):Prop:=
 ZR P .any ops (Ps K X R) S ds fuel b a w
theorem KF3 {id m:Nat} (S:World->Prop) (ds:List Nat) (b:Array Bool) (hm:P.follows .mixedOrders=true) (hR:Rest w0 w) (hn:ops.size=m) (hl:Array.replicate m false=b) (hS:∀w':World,w'.heap=w.heap->S w')
  (h:∀w':World,w'.heap=w.heap->Rest w0 w'->S w'->NL P ops K X R S ds m b a w')
  (hnd:ndB ops=true:=by kernel_rfl):(Code.region id ops true).wpIn (Fw ro) 1 P (Ps K X R) a w:=by
 subst hn;subst hl
 exact KRB (λ⟨a,w,h⟩=>h) hnd hm (KEb _ _ _ _ (h w.drew rfl (hR.trans ⟨rfl,rfl,rfl,IM _⟩) (hS _ rfl)))
theorem KRC {o:Oper} {j t:Nat} {x c:Bool} (hg:o.guard=some (j,c)) (hE:Env n a l) (hj:(ops[j]?).bind (·.dst)=some t) (hl:look l t=some (.bool x)) (heq:(x==c)=true):Region.wanted o (yielded ops a.tmps)=true:=by
 unfold Region.wanted
 rw [hg]
 simp only [KEa hE hj hl]
 revert heq
 cases x<;>cases c<;>simp
theorem KNn {o:Oper} {j t:Nat} {x c:Bool} (hg:o.guard=some (j,c)) (hE:Env n a l) (hj:(ops[j]?).bind (·.dst)=some t) (hl:look l t=some (.bool x)) (hne:(x==c)=false):Region.wanted o (yielded ops a.tmps)=false:=by
 unfold Region.wanted
 rw [hg]
 simp only [KEa hE hj hl]
 revert hne
 cases x<;>cases c<;>simp
theorem KL4 {o:Oper} {j t:Nat} {c:Bool} {v:Value} (hg:o.guard=some (j,c)) (hE:Env n a l) (hj:(ops[j]?).bind (·.dst)=some t) (hl:look l t=some v) (hv:∀b,v≠.bool b):Region.wanted o (yielded ops a.tmps)=false:=by
 unfold Region.wanted
 rw [hg]
 have:yielded ops a.tmps j=none:=by
  unfold yielded
  rw [hj]
  simp only [FG,hE.at_ _ _ hl]
  cases v<;>first|rfl|exact absurd rfl (hv _)
 simp [this]
theorem Kg {o:Oper} (hg:o.guard=none):Region.wanted o (yielded ops a.tmps)=true:=by simp [Region.wanted,hg]
theorem KAx {o:Oper} {d:Nat} {v:Value} (b':Array Bool) (hi:ops[i]?=some o) (hd:o.dst=some d) (hT:Tab ops E C W) (hc:anyT E C b b' i=true) (hE:Env n a l) (hn:Nat.blt d n.size=true) (hw:Region.wanted o (yielded ops a.tmps)=true)
  (hy:∀w:World,(execOp a.eval o).run P w=.ok (.value v) w) (h:∀a',Env n a' ((d,v)::l)->NL P ops K X R S ds fuel b' a' w):NL P ops K X R S ds (fuel+1) b a w:=
 KV9 b' hi hd (hT.any hi hc) KLy (Oh ⟨hw,hy⟩) rfl (h _ (hE.put d v hn))
theorem KHr {o:Oper} {d:Nat} {v:Value} (b':Array Bool) (hi:ops[i]?=some o) (hd:o.dst=some d) (hT:Tab ops E C W) (hc:KRA E C W ds b b' i=true) (hE:Env n a l) (hn:Nat.blt d n.size=true) (hw:Region.wanted o (yielded ops a.tmps)=true)
  (hS:S w) (hy:∀w:World,S w->(execOp a.eval o).run P w=.ok (.value v) w) (h:∀a',Env n a' ((d,v)::l)->NL P ops K X R S ds fuel b' a' w):NL P ops K X R S ds (fuel+1) b a w:=
 KX4 b' hi hd (hT.take hi hc) KLy (Oh ⟨hw,hy⟩) hS rfl (h _ (hE.put d v hn))
theorem d_st {o:Oper} {w1:World} (b':Array Bool) (hi:ops[i]?=some o) (hd:o.dst=none) (hT:Tab ops E C W) (hc:oneT E b b' i=true) (hds:ds.contains i=false) (hE:Env n a l) (hR:Rest w0 w) (hw:Region.wanted o (yielded ops a.tmps)=true)
  (hrun:(execOp a.eval o).run P w=.ok .skip w1) (hr1:Rest w w1) (hS:∀w':World,w'.heap=w1.heap->S w')
  (h:∀a' w',Env n a' l->Rest w0 w'->w'.heap=w1.heap->S w'->NL P ops K X R S ds fuel b' a' w'):NL P ops K X R S ds (fuel+1) b a w:=by
 refine one_ b' hi hd (hT.one hc) (by simpa using hds) λKK hK=>KWA hw hd hrun ?_
 exact hK _ _ (hS _ rfl) λhs=>h _ w1 hE (hR.trans hr1) rfl hs
theorem KZq {o:Oper} {w1:World} (b':Array Bool) (hi:ops[i]?=some o) (hd:o.dst=none) (hT:Tab ops E C W) (hc:oneT E b b' i=true) (hds:ds.contains i=true) (hE:Env n a l) (hR:Rest w0 w) (hw:Region.wanted o (yielded ops a.tmps)=true)
  (hrun:(execOp a.eval o).run P w=.ok .skip w1) (hr1:Rest w w1)
  (h:∀a' w',Env n a' l->Rest w0 w'->w'.heap=w1.heap->NL P ops K X R S ds fuel b' a' w'):NL P ops K X R S ds (fuel+1) b a w:=by
 refine KX5 b' hi hd (hT.one hc) (by simpa using hds) λKK hK=>KWA hw hd hrun ?_
 exact hK _ _ (h _ w1 hE (hR.trans hr1) rfl)
theorem KJk (hT:Tab ops E C W) (hr:(readyT E b== [])=true) (h:K a w):NL P ops K X R S ds fuel b a w:=KZo (by rw [hT.ready];exact hr) h
def KWD (b:Array Bool) (n:Nat) (ds:List Nat):Bool:=(List.range n).all λi=>b.getD i false||ds.contains i
theorem KTX (S':World->Prop) (ds':List Nat) (hc:KWD b ops.size ds=true) (h:NL P ops K X R S' ds' fuel b a w):NL P ops K X R S ds fuel b a w:=by
 have hd:∀i,i<ops.size->b.getD i false=false->i∈ds:=λi hi hb=>by
  have:=EB.1 hc i (FQ.2 hi)
  rw [hb]at this
  simpa using this
 clear hc
 show ZR _ _ _ _ _ _ _ _ _ _
 replace h:ZR P .any ops (Ps K X R) S' ds' fuel b a w:=h
 induction fuel generalizing b a w with
 |zero=>exact h
 |succ fuel ih=>
  refine⟨h.1,λi hi=>wpOp_mono (λa' w' hh=>⟨λhn=>?_,ih ?_ hh.2⟩) (h.2 i hi)⟩
  ·obtain⟨hun,oi,hoi,_⟩:=mem_ready.1 hi
   refine absurd (hd i (IK.1 hoi).1 ?_) hn
   rcases ES i b.size with h'|h'
   ·simp [h']at hun⊢;exact hun
   ·simp [EV h']
  ·intro j hj hb
   refine hd j hj ?_
   by_cases hij:i=j
   ·subst hij
    rcases ES i b.size with h'|h'
    ·simp [h']at hb
    ·simp [EV h']
   ·rw [getD_set_ne false hij]at hb
    exact hb
theorem KX7 (rs:List Nat) (hT:Tab ops E C W) (hr:(readyT E b==rs)=true) (hne:rs.isEmpty=false) (h:∀i∈rs,wpOp P ops (Ps K X R) i (λa' w'=>(i∉ds->S w->S w')/\NL P ops K X R S ds fuel (b.setIfInBounds i true) a' w') a w):
  NL P ops K X R S ds (fuel+1) b a w:=by
 refine KEc (by rw [hT.ready];simpa using hr) (by intro e;rw [e]at hne;cases hne) h
end
section
variable {P:Program} {ops:Array Oper} {K:Act->World->Prop} {X:Nat->Act->World->Prop} {R:Act->World->Prop} {n:Frm} {a:Act} {w w0:World} {l:List (Nat×Value)} {S:World->Prop} {ds:List Nat} {fuel:Nat} {b b':Array Bool} {i:Nat} {E C W:List (List Nat)}
theorem KRD {o:Oper} {h1:Heap} (b':Array Bool) (hi:ops[i]?=some o) (hd:o.dst=none) (hT:Tab ops E C W) (hc:oneT E b b' i=true) (hds:ds.contains i=false) (hE:Env n a l) (hR:Rest w0 w) (hw:Region.wanted o (yielded ops a.tmps)=true)
  (hrun:(execOp a.eval o).run P w=.ok .skip {w with heap:=h1}) (hS:∀w':World,w'.heap=h1->S w')
  (h:∀a' w',Env n a' l->Rest w0 w'->w'.heap=h1->S w'->NL P ops K X R S ds fuel b' a' w'):NL P ops K X R S ds (fuel+1) b a w:=d_st b' hi hd hT hc hds hE hR hw hrun ⟨rfl,rfl,rfl,Ee _⟩ hS h
theorem KGs {o:Oper} {h1:Heap} (b':Array Bool) (hi:ops[i]?=some o) (hd:o.dst=none) (hT:Tab ops E C W) (hc:oneT E b b' i=true) (hds:ds.contains i=true) (hE:Env n a l) (hR:Rest w0 w) (hw:Region.wanted o (yielded ops a.tmps)=true)
  (hrun:(execOp a.eval o).run P w=.ok .skip {w with heap:=h1})
  (h:∀a' w',Env n a' l->Rest w0 w'->w'.heap=h1->NL P ops K X R S ds fuel b' a' w'):NL P ops K X R S ds (fuel+1) b a w:=KZq b' hi hd hT hc hds hE hR hw hrun ⟨rfl,rfl,rfl,Ee _⟩ h
end
def chk (p:Heap->Prop):M Unit:=.get λh _=>p h
end Gx
namespace Gx
open Go Gx.Last
def unb (n m:Nat):Array Bool:=((List.range n).map λi=>m.testBit i).toArray
theorem KKN (n m:Nat):(unb n m).size=n:=by simp [unb]
theorem zC (n m i:Nat) (d:Bool):(unb n m).getD i d=if i<n then m.testBit i else d:=by
 by_cases h:i<n
 ·rw [if_pos h,IE]
  simp [unb,h]
 ·rw [if_neg h,IE,EV (by rw [KKN];omega)]
  rfl
theorem KVL (i j:Nat):(1<<<i).testBit j=decide (i=j):=by
 rw [Nat.one_shiftLeft,Nat.testBit_two_pow]
theorem KNo (n m i:Nat) (hi:i<n):(unb n m).setIfInBounds i true=unb n (m|||1<<<i):=by
 apply Array.ext
 ·simp [unb]
 ·intro j h1 h2
  have hj:j<n:=by rw [KKN]at h2;exact h2
  have e1:((unb n m).setIfInBounds i true)[j]=if i=j then true else m.testBit j:=by
   rw [Array.getElem_setIfInBounds (by rw [KKN];exact hj)]
   split
   ·rfl
   ·simp [unb]
  have e2:(unb n (m|||1<<<i))[j]=(m.testBit j||decide (i=j)):=by
   simp only [unb,List.getElem_toArray,Ie,List.getElem_range,Nat.testBit_or,KVL]
  rw [e1,e2]
  by_cases h:i=j<;>simp [h]
def mkM (L:List Nat):Nat:=L.foldl (λa j=>a|||1<<<j) 0
theorem KTY (L:List Nat):∀a j,(L.foldl (λa j=>a|||1<<<j) a).testBit j=(a.testBit j||L.contains j):=by
 induction L with
 |nil=>intro a j;simp
 |cons x L ih=>
  intro a j
  rw [IB,ih,Nat.testBit_or,KVL,List.contains_cons]
  have e:(j==x)=decide (x=j):=by by_cases h:x=j<;>simp [h,Ne.symm]<;>omega
  rw [e]
  cases a.testBit j<;>cases L.contains j<;>simp
theorem KKO (L:List Nat) (j:Nat):(mkM L).testBit j=L.contains j:=by simp [mkM,KTY]
theorem KRE {a m:Nat} (h:(a&&&m==a)=true) {j:Nat} (hj:a.testBit j=true):m.testBit j=true:=by
 have h1:a&&&m=a:=by simpa using h
 rw [<-h1,Nat.testBit_and]at hj
 simp at hj
 exact hj.2
theorem KWE {a m:Nat} (h:∀j,a.testBit j=true->m.testBit j=true):(a&&&m==a)=true:=by
 rw [Fx]
 apply Nat.eq_of_testBit_eq
 intro j
 rw [Nat.testBit_and]
 cases ha:a.testBit j with
 |false=>rfl
 |true=>simp [h j ha]
structure TabM (n:Nat) (E C W:List (List Nat)) (em cm wm:List Nat):Prop where
 len:E.length=n
 lt:(E.all λl=>l.all λj=>Nat.blt j n)=true
 e:E.map mkM=em
 c:C.map mkM=cm
 w:W.map mkM=wm
def KWF (n:Nat) (E C W:List (List Nat)) (em cm wm:List Nat):Bool:=E.length==n&&(E.all λl=>l.all λj=>Nat.blt j n)&&E.map mkM==em&&C.map mkM==cm&&W.map mkM==wm
theorem TabM.of {n:Nat} {E C W:List (List Nat)} {em cm wm:List Nat} (h:KWF n E C W em cm wm=true):TabM n E C W em cm wm:=by
 simp only [KWF,Eg,Fx]at h
 obtain⟨⟨⟨⟨h1,h2⟩,h3⟩,h4⟩,h5⟩:=h
 exact⟨h1,h2,h3,h4,h5⟩
theorem KNp (L:List (List Nat)) (i:Nat):(L.map mkM).getD i 0=mkM (L.getD i []):=by
 rw [Fa,Fa,Fs]
 cases L[i]? <;>rfl
section
variable {n m m' i:Nat} {E C W:List (List Nat)} {em cm wm:List Nat}
def subM (x m:Nat):Bool:=x&&&m==x
theorem TabM.free (H:TabM n E C W em cm wm) (h:subM (cm.getD i 0) m=true):KQK C (unb n m) i=true:=by
 rw [<-H.c,KNp]at h
 unfold KQK
 rw [EB]
 intro j hj
 rw [zC]
 split
 ·exact KRE h (by rw [KKO];simpa using hj)
 ·rfl
theorem TabM.deps (H:TabM n E C W em cm wm):subM (em.getD i 0) m=(E.getD i []).all λj=>(unb n m).getD j false:=by
 rw [<-H.e,KNp,EZ,EB]
 have hlt:∀j∈E.getD i [],j<n:=λj hj=>by
  have h1:=H.lt
  rw [EB]at h1
  rcases ES i E.length with hi|hi
  ·rw [Fa,Em hi]at hj
   have h2:=h1 _ (EJ hi)
   rw [EB]at h2
   simpa using h2 j hj
  ·rw [Fa,EK hi]at hj
   simp at hj
 constructor
 ·intro h j hj
  rw [zC,if_pos (hlt j hj)]
  exact KRE h (by rw [KKO];simpa using hj)
 ·intro h
  refine KWE λj hj=>?_
  rw [KKO]at hj
  have hj':j∈E.getD i []:=by simpa using hj
  have:=h j hj'
  rw [zC,if_pos (hlt j hj')]at this
  exact this
def rdyM (n:Nat) (em:List Nat) (m i:Nat):Bool:=Nat.blt i n&& !m.testBit i&&subM (em.getD i 0) m
theorem TabM.rdy (H:TabM n E C W em cm wm):rdyM n em m i=KBf E (unb n m) i:=by
 unfold rdyM KBf
 rw [H.deps,H.len,zC]
 by_cases h:i<n
 ·rw [if_pos h]
 ·have:Nat.blt i n=false:=by
   cases hb:Nat.blt i n with
   |false=>rfl
   |true=>exact absurd (by simpa [IV] using hb) h
  rw [this];rfl
def KNq (n:Nat) (em cm:List Nat) (m m' i:Nat):Bool:=subM (cm.getD i 0) m&&rdyM n em m i&&m|||1<<<i==m'
theorem KWG {i:Nat} (h:rdyM n em m i=true):i<n:=by
 unfold rdyM at h
 simp only [Eg,IV]at h
 exact h.1.1
theorem anyM (H:TabM n E C W em cm wm) (h:KNq n em cm m m' i=true):anyT E C (unb n m) (unb n m') i=true:=by
 simp only [KNq,Eg,Fx]at h
 obtain⟨⟨h1,h2⟩,h3⟩:=h
 have hi:=KWG h2
 rw [H.rdy]at h2
 simp only [anyT,setB,Eg]
 exact⟨⟨H.free h1,h2⟩,by rw [KNo _ _ _ hi,h3];simp⟩
def KEd:List Nat->Nat->Nat->Bool
 | [],_,_=>true
 |e::es,m,j=>(!m.testBit j||subM e m)&&KEd es m (j+1)
theorem KEe:∀(es:List Nat) (m j:Nat),KEd es m j=true->∀k,k<es.length->(!m.testBit (j+k)||subM (es.getD k 0) m)=true
 | [],_,_,_,k,hk=>by simp at hk
 |e::es,m,j,h,k,hk=>by
  simp only [KEd,Eg]at h
  cases k with
  |zero=>exact h.1
  |succ k=>
   have:=KEe es m (j+1) h.2 k (by simpa using hk)
   rw [show j+(k+1)=j+1+k by omega]
   exact this
theorem TabM.closed (H:TabM n E C W em cm wm) (h:KEd em m 0=true):KHq E (unb n m)=true:=by
 unfold KHq
 rw [EB]
 intro j hj
 have hj:j<E.length:=by simpa using hj
 have hl:em.length=E.length:=by rw [<-H.e,EL]
 have h1:=KEe em m 0 h j (by omega)
 rw [EC,H.deps]at h1
 rw [zC,if_pos (by rw [<-H.len];exact hj)]
 exact h1
def KRF (wm:List Nat) (m:Nat) (ds:List Nat) (i:Nat):Bool:=ds.all λd=>m.testBit d||(wm.getD d 0).testBit i
theorem TabM.last {ds:List Nat} (H:TabM n E C W em cm wm) (h:KRF wm m ds i=true):KQ9 W (unb n m) ds i=true:=by
 unfold KRF at h
 unfold KQ9
 rw [EB]at h⊢
 intro d hd
 have h1:=h d hd
 rw [<-H.w,KNp,KKO]at h1
 rw [zC]
 split
 ·exact h1
 ·rfl
def KOx (n:Nat) (em cm wm:List Nat) (ds:List Nat) (m m' i:Nat):Bool:=KNq n em cm m m' i&&KEd em m 0&&KRF wm m ds i
theorem KZr {ds:List Nat} (H:TabM n E C W em cm wm) (h:KOx n em cm wm ds m m' i=true):KRA E C W ds (unb n m) (unb n m') i=true:=by
 simp only [KOx,Eg]at h
 obtain⟨⟨h1,h2⟩,h3⟩:=h
 have h4:=anyM H h1
 simp only [anyT,Eg]at h4
 simp only [KRA,Eg]
 exact⟨⟨⟨⟨h4.1.1,h4.1.2⟩,H.closed h2⟩,H.last h3⟩,h4.2⟩
def KCz (m:Nat) (is:List Nat):List Nat->Nat->Bool
 | [],_=>true
 |e::es,j=>((!m.testBit j&&subM e m)==is.contains j)&&KCz m is es (j+1)
theorem KHs (m:Nat) (is:List Nat):∀(es:List Nat) (j:Nat),KCz m is es j=true->∀k,k<es.length->(!m.testBit (j+k)&&subM (es.getD k 0) m)=is.contains (j+k)
 | [],_,_,k,hk=>by simp at hk
 |e::es,j,h,k,hk=>by
  simp only [KCz,Eg,Fx]at h
  cases k with
  |zero=>exact h.1
  |succ k=>
   have:=KHs m is es (j+1) h.2 k (by simpa using hk)
   rw [show j+(k+1)=j+1+k by omega]
   exact this
theorem TabM.readyT (H:TabM n E C W em cm wm) (is:List Nat) (h:KCz m is em 0=true):readyT E (unb n m)=(List.range n).filter λi=>is.contains i:=by
 unfold Gx.readyT
 rw [H.len]
 apply List.filter_congr
 intro j hj
 have hj:j<n:=by simpa using hj
 have hl:em.length=n:=by rw [<-H.e,EL,H.len]
 have h1:=KHs m is em 0 h j (by omega)
 rw [EC,H.deps]at h1
 rw [zC,if_pos hj]
 exact h1
theorem KJl (i:Nat):∀n,i<n->((List.range n).filter λj=>[i].contains j)=[i]
 |0,h=>by omega
 |n+1,h=>by
  rw [List.range_succ,List.filter_append]
  rcases ES i n with h'|h'
  ·rw [KJl i n h']
   simp [Iv]
   omega
  ·have hn:n=i:=by omega
   subst hn
   have:((List.range n).filter λj=>[n].contains j)=[]:=by
    rw [Ow]
    intro a ha
    have:=FQ.1 ha
    simp;omega
   rw [this]
   simp
def KTZ (n:Nat) (em:List Nat) (m m' i:Nat):Bool:=Nat.blt i n&&KCz m [i] em 0&&m|||1<<<i==m'
theorem oneM (H:TabM n E C W em cm wm) (h:KTZ n em m m' i=true):oneT E (unb n m) (unb n m') i=true:=by
 simp only [KTZ,Eg,Fx,IV]at h
 obtain⟨⟨h1,h2⟩,h3⟩:=h
 simp only [oneT,setB,Eg]
 refine⟨?_,by rw [KNo _ _ _ h1,h3];simp⟩
 rw [H.readyT [i] h2,KJl i n h1]
 simp
theorem KZs (H:TabM n E C W em cm wm) (h:KCz m [] em 0=true):(readyT E (unb n m)== [])=true:=by
 rw [H.readyT [] h]
 have:((List.range n).filter λi=>([]:List Nat).contains i)=[]:=by
  rw [Ow]
  intro a _
  simp
 rw [this]
 rfl
def KF4 (m:Nat) (ds:List Nat):Nat->Bool
 |0=>true
 |n+1=>(m.testBit n||ds.contains n)&&KF4 m ds n
theorem KGt {m i:Nat} {ds:List Nat}:∀n,KF4 m ds n=true->i<n->(m.testBit i||ds.contains i)=true
 |0,_,hi=>by omega
 |n+1,h,hi=>by
  simp only [KF4,Eg]at h
  rcases ES i n with h'|h'
  ·exact KGt n h.2 h'
  ·have:i=n:=by omega
   subst this
   exact h.1
theorem KX8 {ops:Array Oper} {ds:List Nat} (hT:Tab ops E C W) (H:TabM n E C W em cm wm) (h:KF4 m ds n=true):KWD (unb n m) ops.size ds=true:=by
 unfold KWD
 rw [<-hT.len,H.len,EB]
 intro i hi
 have hi:i<n:=by simpa using hi
 rw [zC,if_pos hi]
 exact KGt n h hi
end
section
variable {P:Program} {ops:Array Oper} {K:Act->World->Prop} {X:Nat->Act->World->Prop} {R:Act->World->Prop} {N:Frm} {w:World} {S:World->Prop} {ds:List Nat} {E C W:List (List Nat)} {em cm wm:List Nat} {n:Nat}
end
end Gx
namespace Gx
open Go
section ops
variable {P:Program} {n:Frm} {a:Act} {w:World} {l:List (Nat×Value)} {dst:Option Tmp} {ty:TypeId} {pos:String} {aft:Array Edge} {g:Option (Nat×Bool)}
theorem KTa {l:List (Nat×Value)} {x:Operand} {u v:Value} (h:opv l x=some u) (e:u=v):opv l x=some v:=e▸h
theorem KKP {x:Value} {y:Nat} {c:BoundsCode} {k:IntKind} {i:Int} (hx:x=.int k i) (h0:0<=i) (h1:i<=y):(Instr.sliceBound x y c).run P w=.ok i.toNat w:=by
 subst hx
 simp [Instr.sliceBound,asIntOf,h0,h1]
theorem KRG {b:Bool} {len cap:Nat} {k k':IntKind} {lo hi:Int} (h0:0<=lo) (h1:lo<=hi) (h2:hi<=cap):(Instr.sliceBounds b len cap (some (.int k lo)) (some (.int k' hi)) none).run P w=.ok (lo.toNat,hi.toNat,cap) w:=by
 have e:lo<=((hi.toNat:Nat):Int):=by omega
 simp [Instr.sliceBounds,KKP rfl (by omega:0<=hi) h2,KKP rfl h0 e]
theorem KWH {b:Bool} {len cap:Nat} {k':IntKind} {hi:Int} (h1:0<=hi) (h2:hi<=cap):(Instr.sliceBounds b len cap none (some (.int k' hi)) none).run P w=.ok (0,hi.toNat,cap) w:=by
 simp [Instr.sliceBounds,KKP rfl h1 h2]
theorem KWI {b:Bool} {len cap:Nat} {k:IntKind} {lo:Int} (h0:0<=lo) (h1:lo<=len):(Instr.sliceBounds b len cap (some (.int k lo)) none none).run P w=.ok (lo.toNat,len,cap) w:=by
 simp [Instr.sliceBounds,KKP rfl h0 h1]
theorem sbs_ {b:Bool} {len cap:Nat}:(Instr.sliceBounds b len cap none none none).run P w=.ok (0,len,cap) w:=by
 simp [Instr.sliceBounds]
theorem add_zero (a:Addr):a.add 0=a:=rfl
theorem KNr {t q e m:Nat} {x y z:Operand} {p:Addr} {k k':IntKind} {lo hi:Int} {r:Sl} (hE:Env n a l) (hx:opv l x=some (.pointer (some p))) (hy:opv l y=some (.int k lo)) (hz:opv l z=some (.int k' hi)) (ht:P.underlying t=some (.array q e)) (hm:szB P e m=true)
  (hc:0<=lo/\lo<=hi/\hi<=q/\r=⟨some (if q=lo.toNat then p else p.add (lo.toNat*m)),hi.toNat - lo.toNat,q - lo.toNat⟩):
  (execOp a.eval ⟨dst,.slice t x (some y) (some z) none,ty,pos,aft,g⟩).run P w=.ok (.value r.v) w:=by
 obtain⟨h0,h1,h2,rfl⟩:=hc
 simp [execOp,hE.opv hx,hE.opv hy,hE.opv hz,Instr.sliceAt,run_underlying ht,Instr.sureAddr,KRG h0 h1 h2,Jl hm,Sl.v]
theorem KQL {t q e m:Nat} {x z:Operand} {p:Addr} {k':IntKind} {hi:Int} {r:Sl} (hE:Env n a l) (hx:opv l x=some (.pointer (some p))) (hz:opv l z=some (.int k' hi)) (ht:P.underlying t=some (.array q e)) (hm:szB P e m=true)
  (hc:(0:Int)<=0/\0<=hi/\hi<=q/\r=⟨some (if q=(0:Int).toNat then p else p.add ((0:Int).toNat*m)),hi.toNat - (0:Int).toNat,q - (0:Int).toNat⟩):
  (execOp a.eval ⟨dst,.slice t x none (some z) none,ty,pos,aft,g⟩).run P w=.ok (.value r.v) w:=by
 obtain⟨h0,h1,h2,rfl⟩:=hc
 simp [execOp,hE.opv hx,hE.opv hz,Instr.sliceAt,run_underlying ht,Instr.sureAddr,KWH h1 h2,Jl hm,Sl.v]
theorem KQM {t q e m:Nat} {x y:Operand} {p:Addr} {k:IntKind} {lo:Int} {r:Sl} (hE:Env n a l) (hx:opv l x=some (.pointer (some p))) (hy:opv l y=some (.int k lo)) (ht:P.underlying t=some (.array q e)) (hm:szB P e m=true)
  (hc:0<=lo/\lo<=(q:Int)/\(q:Int)<=q/\r=⟨some (if q=lo.toNat then p else p.add (lo.toNat*m)),(q:Int).toNat - lo.toNat,q - lo.toNat⟩):
  (execOp a.eval ⟨dst,.slice t x (some y) none none,ty,pos,aft,g⟩).run P w=.ok (.value r.v) w:=by
 obtain⟨h0,h1,h2,rfl⟩:=hc
 simp [execOp,hE.opv hx,hE.opv hy,Instr.sliceAt,run_underlying ht,Instr.sureAddr,KWI h0 h1,Jl hm,Sl.v]
theorem KRH {t q e m:Nat} {x:Operand} {p:Addr} {r:Sl} (hE:Env n a l) (hx:opv l x=some (.pointer (some p))) (ht:P.underlying t=some (.array q e)) (hm:szB P e m=true)
  (hc:(0:Int)<=0/\(0:Int)<=(q:Int)/\(q:Int)<=q/\r=⟨some (if q=(0:Int).toNat then p else p.add ((0:Int).toNat*m)),(q:Int).toNat - (0:Int).toNat,q - (0:Int).toNat⟩):
  (execOp a.eval ⟨dst,.slice t x none none none,ty,pos,aft,g⟩).run P w=.ok (.value r.v) w:=by
 obtain⟨h0,h1,h2,rfl⟩:=hc
 simp [execOp,hE.opv hx,Instr.sliceAt,run_underlying ht,Instr.sureAddr,sbs_,Jl hm,Sl.v]
theorem KNs {t e m:Nat} {x y z:Operand} {s:Sl} {k k':IntKind} {lo hi:Int} {r:Sl} (hE:Env n a l) (hx:opv l x=some s.v) (hy:opv l y=some (.int k lo)) (hz:opv l z=some (.int k' hi)) (ht:P.underlying t=some (.slice e)) (hm:szB P e m=true)
  (hc:0<=lo/\lo<=hi/\hi<=s.cap/\r=⟨if s.cap=lo.toNat then s.base else s.base.map (·.add (lo.toNat*m)),hi.toNat - lo.toNat,s.cap - lo.toNat⟩):
  (execOp a.eval ⟨dst,.slice t x (some y) (some z) none,ty,pos,aft,g⟩).run P w=.ok (.value r.v) w:=by
 obtain⟨h0,h1,h2,rfl⟩:=hc
 simp [execOp,hE.opv hx,hE.opv hy,hE.opv hz,Instr.sliceAt,Instr.slice,run_underlying ht,KRG h0 h1 h2,Jl hm,Sl.v]
theorem KQN {t e m:Nat} {x z:Operand} {s:Sl} {k':IntKind} {hi:Int} {r:Sl} (hE:Env n a l) (hx:opv l x=some s.v) (hz:opv l z=some (.int k' hi)) (ht:P.underlying t=some (.slice e)) (hm:szB P e m=true)
  (hc:(0:Int)<=0/\0<=hi/\hi<=s.cap/\r=⟨if s.cap=(0:Int).toNat then s.base else s.base.map (·.add ((0:Int).toNat*m)),hi.toNat - (0:Int).toNat,s.cap - (0:Int).toNat⟩):
  (execOp a.eval ⟨dst,.slice t x none (some z) none,ty,pos,aft,g⟩).run P w=.ok (.value r.v) w:=by
 obtain⟨h0,h1,h2,rfl⟩:=hc
 simp [execOp,hE.opv hx,hE.opv hz,Instr.sliceAt,Instr.slice,run_underlying ht,KWH h1 h2,Jl hm,Sl.v]
theorem KQO {t e m:Nat} {x y:Operand} {s:Sl} {k:IntKind} {lo:Int} {r:Sl} (hE:Env n a l) (hx:opv l x=some s.v) (hy:opv l y=some (.int k lo)) (ht:P.underlying t=some (.slice e)) (hm:szB P e m=true)
  (hc:0<=lo/\lo<=(s.len:Int)/\(s.len:Int)<=s.cap/\r=⟨if s.cap=lo.toNat then s.base else s.base.map (·.add (lo.toNat*m)),(s.len:Int).toNat - lo.toNat,s.cap - lo.toNat⟩):
  (execOp a.eval ⟨dst,.slice t x (some y) none none,ty,pos,aft,g⟩).run P w=.ok (.value r.v) w:=by
 obtain⟨h0,h1,h2,rfl⟩:=hc
 simp [execOp,hE.opv hx,hE.opv hy,Instr.sliceAt,Instr.slice,run_underlying ht,KWI h0 h1,Jl hm,Sl.v]
theorem KRI {t e m:Nat} {x:Operand} {s:Sl} {r:Sl} (hE:Env n a l) (hx:opv l x=some s.v) (ht:P.underlying t=some (.slice e)) (hm:szB P e m=true)
  (hc:(0:Int)<=0/\(0:Int)<=(s.len:Int)/\(s.len:Int)<=s.cap/\r=⟨if s.cap=(0:Int).toNat then s.base else s.base.map (·.add ((0:Int).toNat*m)),(s.len:Int).toNat - (0:Int).toNat,s.cap - (0:Int).toNat⟩):
  (execOp a.eval ⟨dst,.slice t x none none none,ty,pos,aft,g⟩).run P w=.ok (.value r.v) w:=by
 obtain⟨h0,h1,h2,rfl⟩:=hc
 simp [execOp,hE.opv hx,Instr.sliceAt,Instr.slice,run_underlying ht,sbs_,Jl hm,Sl.v]
theorem KNt {t:Nat} {x y z:Operand} {s:ByteArray} {k k':IntKind} {lo hi:Int} {r:ByteArray} (hE:Env n a l) (hx:opv l x=some (.string s)) (hy:opv l y=some (.int k lo)) (hz:opv l z=some (.int k' hi)) (ht:P.underlying t=some .string)
  (hc:0<=lo/\lo<=hi/\hi<=s.size/\r=s.extract lo.toNat hi.toNat):
  (execOp a.eval ⟨dst,.slice t x (some y) (some z) none,ty,pos,aft,g⟩).run P w=.ok (.value (.string r)) w:=by
 obtain⟨h0,h1,h2,rfl⟩:=hc
 simp [execOp,hE.opv hx,hE.opv hy,hE.opv hz,Instr.sliceAt,Instr.slice,run_underlying ht,KRG h0 h1 h2]
theorem KQP {t:Nat} {x z:Operand} {s:ByteArray} {k':IntKind} {hi:Int} {r:ByteArray} (hE:Env n a l) (hx:opv l x=some (.string s)) (hz:opv l z=some (.int k' hi)) (ht:P.underlying t=some .string)
  (hc:(0:Int)<=0/\0<=hi/\hi<=s.size/\r=s.extract (0:Int).toNat hi.toNat):
  (execOp a.eval ⟨dst,.slice t x none (some z) none,ty,pos,aft,g⟩).run P w=.ok (.value (.string r)) w:=by
 obtain⟨h0,h1,h2,rfl⟩:=hc
 simp [execOp,hE.opv hx,hE.opv hz,Instr.sliceAt,Instr.slice,run_underlying ht,KWH h1 h2]
theorem KQQ {t:Nat} {x y:Operand} {s:ByteArray} {k:IntKind} {lo:Int} {r:ByteArray} (hE:Env n a l) (hx:opv l x=some (.string s)) (hy:opv l y=some (.int k lo)) (ht:P.underlying t=some .string)
  (hc:0<=lo/\lo<=(s.size:Int)/\(s.size:Int)<=s.size/\r=s.extract lo.toNat (s.size:Int).toNat):
  (execOp a.eval ⟨dst,.slice t x (some y) none none,ty,pos,aft,g⟩).run P w=.ok (.value (.string r)) w:=by
 obtain⟨h0,h1,h2,rfl⟩:=hc
 simp [execOp,hE.opv hx,hE.opv hy,Instr.sliceAt,Instr.slice,run_underlying ht,KWI h0 h1]
theorem KTb {op:BinOp} {xt:Nat} {x y:Operand} {u v:Option Addr}:(eqGuard op xt x y (.pointer u) (.pointer v)).run P w=.ok () w:=by cases op<;>simp [eqGuard]
theorem g_sl {op:BinOp} {xt:Nat} {x y:Operand} {u v:Sl}:(eqGuard op xt x y u.v v.v).run P w=.ok () w:=by cases op<;>simp [eqGuard,Sl.v]
theorem g_mp {op:BinOp} {xt:Nat} {x y:Operand} {u v:Option Nat}:(eqGuard op xt x y (.map u) (.map v)).run P w=.ok () w:=by cases op<;>simp [eqGuard]
theorem KOy {op:BinOp} {xt:Nat} {x y:Operand} {u v:Bool}:(eqGuard op xt x y (.bool u) (.bool v)).run P w=.ok () w:=by cases op<;>simp [eqGuard]
theorem KNu {op:BinOp} {xt:Nat} {x y:Operand} {u v:ByteArray}:(eqGuard op xt x y (.string u) (.string v)).run P w=.ok () w:=by cases op<;>simp [eqGuard]
theorem eqd {t:Nat} {x y:Value} {b:Bool} (h:∀d,(Op.equalIn (d+1) t x y).run P w=.ok b w):(Op.equal t x y).run P w=.ok b w:=h 9999
theorem KF5 {t:Nat} {x y:Value} {b:Bool} (he:binOp .eql t x y=(do pure (.bool (<-Op.equal t x y)))) (h:∀d,(Op.equalIn (d+1) t x y).run P w=.ok b w):(binOp .eql t x y).run P w=.ok (.bool b) w:=by
 rw [he,Sem.run_bind,eqd h]
 rfl
theorem KF6 {t:Nat} {x y:Value} {b:Bool} (he:binOp .neq t x y=(do pure (.bool (!(<-Op.equal t x y))))) (h:∀d,(Op.equalIn (d+1) t x y).run P w=.ok b w):(binOp .neq t x y).run P w=.ok (.bool !b) w:=by
 rw [he,Sem.run_bind,eqd h]
 rfl
theorem KX9 {t e:Nat} {p:Option Addr} (ht:P.underlying t=some (.pointer e)) (d:Nat):(Op.equalIn (d+1) t (.pointer p) (.pointer none)).run P w=.ok p.isNone w:=by
 cases p<;>simp [Op.equalIn,run_underlying ht]
theorem KVM {t e:Nat} {p:Option Addr} (ht:P.underlying t=some (.pointer e)):(binOp .eql t (.pointer p) (.pointer none)).run P w=.ok (.bool p.isNone) w:=KF5 rfl (KX9 ht)
theorem KVN {t e:Nat} {p:Option Addr} (ht:P.underlying t=some (.pointer e)):(binOp .neq t (.pointer p) (.pointer none)).run P w=.ok (.bool !p.isNone) w:=KF6 rfl (KX9 ht)
theorem e_sl {t e:Nat} {s:Sl} (ht:P.underlying t=some (.slice e)) (d:Nat):(Op.equalIn (d+1) t s.v Sl.nil.v).run P w=.ok s.base.isNone w:=by
 obtain⟨b,n,c⟩:=s
 cases b<;>simp [Op.equalIn,run_underlying ht,Sl.v,Sl.nil]
theorem KYA {t e:Nat} {s:Sl} (ht:P.underlying t=some (.slice e)):(binOp .eql t s.v Sl.nil.v).run P w=.ok (.bool s.base.isNone) w:=KF5 rfl (e_sl ht)
theorem KYB {t e:Nat} {s:Sl} (ht:P.underlying t=some (.slice e)):(binOp .neq t s.v Sl.nil.v).run P w=.ok (.bool !s.base.isNone) w:=KF6 rfl (e_sl ht)
theorem e_mp {t k e:Nat} {m:Option Nat} (ht:P.underlying t=some (.map k e)) (d:Nat):(Op.equalIn (d+1) t (.map m) (.map none)).run P w=.ok m.isNone w:=by
 cases m<;>simp [Op.equalIn,run_underlying ht]
theorem KYC {t k e:Nat} {m:Option Nat} (ht:P.underlying t=some (.map k e)):(binOp .eql t (.map m) (.map none)).run P w=.ok (.bool m.isNone) w:=KF5 rfl (e_mp ht)
theorem KYD {t k e:Nat} {m:Option Nat} (ht:P.underlying t=some (.map k e)):(binOp .neq t (.map m) (.map none)).run P w=.ok (.bool !m.isNone) w:=KF6 rfl (e_mp ht)
theorem KVO {t:Nat} {x y:Bool} (ht:P.underlying t=some .bool) (d:Nat):(Op.equalIn (d+1) t (.bool x) (.bool y)).run P w=.ok (x==y) w:=by
 simp [Op.equalIn,run_underlying ht]
theorem KVP {t:Nat} {x y:Bool} (ht:P.underlying t=some .bool):(binOp .eql t (.bool x) (.bool y)).run P w=.ok (.bool (x==y)) w:=KF5 rfl (KVO ht)
theorem KVQ {t:Nat} {x y:Bool} (ht:P.underlying t=some .bool):(binOp .neq t (.bool x) (.bool y)).run P w=.ok (.bool (x !=y)) w:=KF6 rfl (KVO ht)
def sEq (x y:ByteArray):Bool:=x.toList==y.toList
def sLt (x y:ByteArray):Bool:=Op.bytesLess x.toList y.toList
theorem KYE {t:Nat} {x y:ByteArray}:(binOp .eql t (.string x) (.string y)).run P w=.ok (.bool (sEq x y)) w:=by simp [binOp,Op.stringOp,sEq]
theorem KYF {t:Nat} {x y:ByteArray}:(binOp .neq t (.string x) (.string y)).run P w=.ok (.bool !(sEq x y)) w:=by simp [binOp,Op.stringOp,sEq]
theorem KYG {t:Nat} {x y:ByteArray}:(binOp .lss t (.string x) (.string y)).run P w=.ok (.bool (sLt x y)) w:=by simp [binOp,Op.stringOp,sLt]
theorem KYH {t:Nat} {x y:ByteArray}:(binOp .leq t (.string x) (.string y)).run P w=.ok (.bool (sLt x y||sEq x y)) w:=by simp [binOp,Op.stringOp,sLt,sEq]
theorem KYI {t:Nat} {x y:ByteArray}:(binOp .gtr t (.string x) (.string y)).run P w=.ok (.bool !(sLt x y||sEq x y)) w:=by simp [binOp,Op.stringOp,sLt,sEq]
theorem KYJ {t:Nat} {x y:ByteArray}:(binOp .geq t (.string x) (.string y)).run P w=.ok (.bool !(sLt x y)) w:=by simp [binOp,Op.stringOp,sLt]
def sCat (x y:ByteArray):M ByteArray:=.get λ_ r=>(x.size+y.size:Int)<=9223372036854775807/\r=x++y
theorem KYK {t:Nat} {x y r:ByteArray} (h:(x.size+y.size:Int)<=9223372036854775807/\r=x++y):(binOp .add t (.string x) (.string y)).run P w=.ok (.string r) w:=by
 obtain⟨h0,rfl⟩:=h
 have:¬(((x.size+y.size:Nat):Int)>IntKind.i64.max):=by
  have e:IntKind.i64.max=9223372036854775807:=rfl
  rw [e];omega
 simp only [binOp,Op.stringOp]
 rw [if_neg this]
 rfl
def iMin (x y:Int):Int:=if y<x then y else x
def iMax (x y:Int):Int:=if x<y then y else x
theorem KZt {x y:Operand} {k k':IntKind} {u v:Int} {ts:Array TypeId} (hE:Env n a l) (hx:opv l x=some (.int k u)) (hy:opv l y=some (.int k' v)):
  (execOp a.eval ⟨dst,.call {callee:=.builtin .min,args:=#[x,y],argTypes:=ts},ty,pos,aft,g⟩).run P w=.ok (.value (.int k (iMin u v))) w:=by
 simp [execOp,resolve,invoke,builtin,Builtin.min_,Builtin.min2,hE.opv hx,hE.opv hy,iMin,List.foldlM]
theorem KZu {t ti:Nat} {x:Operand} {s:Sl} (hE:Env n a l) (hx:opv l x=some s.v) (e:Nat) (ht:P.underlying t=some (.slice e)):
  (execOp a.eval ⟨dst,.call {callee:=.builtin .cap,args:=#[x],argTypes:=#[t]},ti,pos,aft,g⟩).run P w=.ok (.value (.int .i64 s.cap)) w:=by
 simp [execOp,resolve,invoke,builtin,Builtin.cap_,hE.opv hx,run_underlying ht,Sl.v,goInt]
end ops
end Gx
namespace Gx
open Go
def iat (xs:Ea) (i:Nat):Int:=match xs[i]? with
 |some (.int _ u)=>u
 |_=>0
def aEq (q:Nat) (xs ys:Ea):Bool:=(List.range q).all λi=>iat xs i==iat ys i
def Nums (k:IntKind) (q:Nat) (xs:Ea):Prop:=∀i,i<q->∃u,xs[i]?=some (.int k u)
def eqA (k:IntKind) (q:Nat) (xs ys:Ea):M Bool:=.get λ_ b=>Nums k q xs/\Nums k q ys/\b=aEq q xs ys
section arr
variable {P:Program} {w:World}
theorem KOz {e:TypeId} {k:IntKind} {xs:Ea} {i:Nat} {u:Int} (he:P.underlying e=some (.int k)) (hx:xs[i]?=some (.int k u)):(part e xs i).run P w=.ok (.int k u) w:=by
 simp [part,isAgg,run_underlying he,hx]
theorem KZv {t e q:Nat} {k:IntKind} {xs ys:Ea} (ht:P.underlying t=some (.array q e)) (he:P.underlying e=some (.int k)) (hs:szB P e 1=true) (hx:Nums k q xs) (hy:Nums k q ys) (d:Nat):
  (Op.equalIn (d+2) t (.agg xs) (.agg ys)).run P w=.ok (aEq q xs ys) w:=by
 have step:∀i,i<q->((Op.equalIn (d+1) e (.int k (iat xs i)) (.int k (iat ys i))).run P w)=.ok (iat xs i==iat ys i) w:=λi _=>by
  simp [Op.equalIn,run_underlying he]
 have hpx:∀i,i<q->(part e xs (i*1)).run P w=.ok (.int k (iat xs i)) w:=λi hi=>by
  obtain⟨u,hu⟩:=hx i hi
  rw [FT,KOz he hu]
  simp [iat,hu]
 have hpy:∀i,i<q->(part e ys (i*1)).run P w=.ok (.int k (iat ys i)) w:=λi hi=>by
  obtain⟨u,hu⟩:=hy i hi
  rw [FT,KOz he hu]
  simp [iat,hu]
 unfold Op.equalIn
 simp only [Sem.run_bind,run_underlying ht,Result.andThen_ok,Jl hs,Std.Legacy.Range.forIn_eq_forIn_range',Std.Legacy.Range.size,FW,Nat.add_sub_cancel,Nat.div_one]
 have main:∀(m s:Nat),s+m=q->∀(r:Option Bool×Unit),r.fst=none->
   (forIn (m:=Sem) (List.range' s m 1) r λi r=>do
    if !(<-Op.equalIn (d+1) e (<-part e xs (i*1)) (<-part e ys (i*1)))then pure (ForInStep.done (some false,()))else pure (ForInStep.yield (none,()))).run P w
   = .ok ⟨if(List.range' s m 1).all (λi=>iat xs i==iat ys i)then none else some false,()⟩ w:=by
  intro m
  induction m with
  |zero=>intro s _ r hr;cases r;simp at hr;subst hr;simp
  |succ m ih=>
   intro s hs r hr
   rw [List.range'_succ]
   simp only [List.forIn_cons,Sem.run_bind,hpx s (by omega),hpy s (by omega),Result.andThen_ok,step s (by omega)]
   by_cases hb:(iat xs s==iat ys s)=true
   ·rw [hb]
    simp only [On,Im,IF,Sem.run_pure,Result.andThen_ok,EX,hb,E9]
    exact ih (s+1) (by omega) _ rfl
   ·have hb':(iat xs s==iat ys s)=false:=by simpa using hb
    simp [hb']
 have:=main q 0 (by omega) (none,()) rfl
 rw [show aEq q xs ys=(List.range' 0 q 1).all (λi=>iat xs i==iat ys i) by simp [aEq,List.range_eq_range']]
 rw [this]
 simp only [Result.andThen_ok]
 cases(List.range' 0 q 1).all (λi=>iat xs i==iat ys i)<;>simp
theorem KVR {t e q:Nat} {k:IntKind} {xs ys:Ea} {b:Bool} (ht:P.underlying t=some (.array q e)) (he:P.underlying e=some (.int k)) (hs:szB P e 1=true) (h:Nums k q xs/\Nums k q ys/\b=aEq q xs ys):
  (Op.equal t (.agg xs) (.agg ys)).run P w=.ok b w:=by
 obtain⟨hx,hy,rfl⟩:=h
 exact KZv ht he hs hx hy 9998
theorem KTc {op:BinOp} {t:Nat} {x y:Operand} {u v:Ea} (h:P.eqGuardType P.depth t=false):(eqGuard op t x y (.agg u) (.agg v)).run P w=.ok () w:=run_eqGuard_agg w op t x y u v h
theorem KYL {t e q:Nat} {k:IntKind} {xs ys:Ea} {b:Bool} (ht:P.underlying t=some (.array q e)) (he:P.underlying e=some (.int k)) (hs:szB P e 1=true) (h:Nums k q xs/\Nums k q ys/\b=aEq q xs ys):
  (binOp .eql t (.agg xs) (.agg ys)).run P w=.ok (.bool b) w:=by
 have e1:binOp .eql t (.agg xs) (.agg ys)=(do pure (.bool (<-Op.equal t (.agg xs) (.agg ys)))):=rfl
 rw [e1,Sem.run_bind,KVR ht he hs h]
 rfl
theorem KYM {t e q:Nat} {k:IntKind} {xs ys:Ea} {b:Bool} (ht:P.underlying t=some (.array q e)) (he:P.underlying e=some (.int k)) (hs:szB P e 1=true) (h:Nums k q xs/\Nums k q ys/\b=aEq q xs ys):
  (binOp .neq t (.agg xs) (.agg ys)).run P w=.ok (.bool !b) w:=by
 have e1:binOp .neq t (.agg xs) (.agg ys)=(do pure (.bool (!(<-Op.equal t (.agg xs) (.agg ys))))):=rfl
 rw [e1,Sem.run_bind,KVR ht he hs h]
 rfl
end arr
def KAI (h:Heap) (b:Option Addr) (cs:List Value):Prop:=
 cs=[]\/∃a,b=some a/\∀j v,cs[j]?=some v->KJ h (a.add j)=some v
def Open (h:Heap) (a:Addr) (m:Nat):Prop:=∀j,j<m->(∃x,KJ h (a.add j)=some x)/\Yg h (a.add j)=false
def zc (h:Heap) (b:Option Addr) (off:Nat) (cs:List Value):Heap:=match b with
 |some a=>hsetL h (a.add off) cs 0
 |none=>h
def zRow (z:Ea) (n:Nat):Ea:=((List.range n).map λi=>z[i%z.size]!).toArray
theorem KC7 (z:Ea) (n:Nat):zRow z n=(Array.range n).map λi=>z[i%z.size]!:=by
 apply Iw
 simp [zRow]
def apGo (e sz bytes:Nat) (z:Ea) (s:Sl) (k:Nat) (news:List Value) (h:Heap) (Q:Sl->Heap->Prop):Prop:=
 if s.len+k<=s.cap then
  (∀a,s.base=some a->Open h (a.add (s.len*sz)) news.length)/\(∀v∈news,one v=true)/\Q ⟨s.base,s.len+k,s.cap⟩ (zc h s.base (s.len*sz) news)
 else(s.len+k)*bytes<=140737488355328/\s.len+k<=9223372036854775807/\∃olds:List Value,olds.length=s.len*sz/\KAI h s.base olds/\
  ∀cap,s.len+k<=cap->Q ⟨some ⟨h.size,0,none⟩,s.len+k,cap⟩ (h.push (.cells (olds.toArray++news.toArray++zRow z ((cap - (s.len+k))*z.size)) e))
theorem KHt {e sz bytes:Nat} {z:Ea} {s:Sl} {k:Nat} {news:List Value} {h:Heap} {Q Q':Sl->Heap->Prop} (hq:∀r h',Q r h'->Q' r h') (H:apGo e sz bytes z s k news h Q):apGo e sz bytes z s k news h Q':=by
 unfold apGo at H⊢
 split at H
 ·rename_i hc
  rw [if_pos hc]
  exact⟨H.1,H.2.1,hq _ _ H.2.2⟩
 ·rename_i hc
  rw [if_neg hc]
  obtain⟨h1,h2,olds,h3,h4,h5⟩:=H
  exact⟨h1,h2,olds,h3,h4,λcap hcap=>hq _ _ (h5 cap hcap)⟩
def apL (e sz bytes:Nat) (z:Ea) (s x:Sl):M Sl:=
 ⟨λh Q=>∃news:List Value,news.length=x.len*sz/\KAI h x.base news/\apGo e sz bytes z s x.len news h Q,
  λhq ⟨news,h1,h2,h3⟩=>⟨news,h1,h2,KHt hq h3⟩⟩
def Uj (x:ByteArray):List Value:=x.data.toList.map λ(b:UInt8)=>Value.int .u8 (b.toNat:Int)
def apS (e:Nat) (s:Sl) (x:ByteArray):M Sl:=
 ⟨λh Q=>apGo e 1 1 #[.int .u8 0] s x.size (Uj x) h Q,λhq h3=>KHt hq h3⟩
def cpL (sz:Nat) (d s:Sl):M Int:=
 ⟨λh Q=>∃cs:List Value,cs.length=min s.len d.len*sz/\KAI h s.base cs/\(∀a,d.base=some a->Open h a cs.length)/\(∀v∈cs,one v=true)/\Q (min s.len d.len:Nat) (zc h d.base 0 cs),
  λhq ⟨cs,h1,h2,h3,h4,h5⟩=>⟨cs,h1,h2,h3,h4,hq _ _ h5⟩⟩
def mkS (e sz bytes:Nat) (z:Ea) (n c:Int):M Sl:=
 ⟨λh Q=>0<=n/\n<=c/\bytes*c<=281474976710656/\c<=9223372036854775807/\Q ⟨some ⟨h.size,0,none⟩,n.toNat,c.toNat⟩ (h.push (.cells (zRow z (c.toNat*sz)) e)),
  λhq ⟨h1,h2,h3,h4,h5⟩=>⟨h1,h2,h3,h4,hq _ _ h5⟩⟩
def apB (P:Program) (t e sz bytes:Nat) (z:Ea):Prop:=P.underlying t=some (.slice e)/\∃i,P.info? e=some i/\i.size=sz/\i.bytes=bytes/\∃v,i.zero=some v/\v.cells=z
section rows
variable {P:Program} {n:Frm} {a:Act} {w:World} {l:List (Nat×Value)} {dst:Option Tmp} {ty:TypeId} {pos:String} {aft:Array Edge} {g:Option (Nat×Bool)}
theorem KEf {sz k:Nat} {s:Sl} {cs:List Value} (hl:cs.length=k*sz) (hr:KAI w.heap s.base cs):(Builtin.firstCells sz k s.v).run P w=.ok cs.toArray w:=by
 rcases hr with rfl|⟨b,hb,hc⟩
 ·unfold Sl.v
  cases hb:s.base with
  |none=>exact run_firstCells_none w sz k s.len s.cap
  |some b=>exact run_firstCells_some w sz k b s.len s.cap [] hl (by simp)
 ·unfold Sl.v
  rw [hb]
  exact run_firstCells_some w sz k b s.len s.cap cs hl (λj v hj=>hc j v hj)
theorem KO0 {b:Option Addr} {off:Nat} {cs:List Value} (hw:∀a,b=some a->Open w.heap (a.add off) cs.length) (h1:∀v∈cs,one v=true):
  (match b with|some a=>storeCells (a.add off) cs|none=>pure ():Sem Unit).run P w=.ok () {w with heap:=zc w.heap b off cs}:=by
 cases b with
 |none=>rfl
 |some a=>exact U4 cs 0 w (λj hj=>by rw [EC];exact hw a rfl j hj) h1
theorem KJm {t ty e sz bytes k:Nat} {z:Ea} {s:Sl} {x:Value} {u:TypeId} {news:List Value} {Q:Sl->Heap->Prop} (hu:P.underlying u=some (.slice e)\/P.underlying u=some .string)
  (hP:apB P t e sz bytes z) (hk:∀w:World,(Builtin.lenOf x).run P w=.ok k w) (hx:∀w':World,w'.heap=w.heap->(Builtin.firstCells sz k x).run P w'=.ok news.toArray w') (H:apGo e sz bytes z s k news w.heap Q):
  ∃r w1,(Builtin.append_ #[t,u] ty #[s.v,x]).run P w=.ok (Sl.v r) w1/\Rest w w1/\Q r w1.heap:=by
 obtain⟨ht,i,hi,rfl,rfl,v,hv,rfl⟩:=hP
 unfold apGo at H
 split at H
 ·rename_i hc
  obtain⟨h1,h2,h3⟩:=H
  refine⟨⟨s.base,s.len+k,s.cap⟩,{w with heap:=zc w.heap s.base (s.len*i.size) news},?_,⟨rfl,rfl,rfl,Ee _⟩,h3⟩
  simp only [Builtin.append_,Sl.v]
  cases hb:s.base with
  |none=>rcases hu with hd|hd<;>simp [run_underlying ht,run_underlying hd,Go.sizeOf,typeInfo,hi,hk,hc,hx w rfl,zc]
  |some b=>
   have hp:(storeCells (b.add (s.len*i.size)) news).run P w=.ok () {w with heap:=zc w.heap (some b) (s.len*i.size) news}:=by
    rw [hb]at h1
    exact KO0 (b:=some b) h1 h2
   rcases hu with hd|hd<;>simp [run_underlying ht,run_underlying hd,Go.sizeOf,typeInfo,hi,hk,hc,hx w rfl,hp]
 ·rename_i hc
  obtain⟨h1,h2,olds,h3,h4,h5⟩:=H
  have hlt:s.cap<s.len+k:=by omega
  have h63:¬(((s.len+k:Nat):Int)>IntKind.i64.max):=by
   have e:IntKind.i64.max=9223372036854775807:=rfl
   rw [e];omega
  have hfit:=growslice_fits hlt h1
  have h48:¬(Builtin.nextslicecap (s.len+k) s.cap*i.bytes>2^48):=by
   have e:(2:Nat)^48=281474976710656:=by decide
   rw [e];omega
  have hcap:s.len+k<=grownCap w (s.len+k) s.cap e:=by unfold grownCap;simp only [Question.cut];omega
  refine⟨⟨some ⟨w.heap.size,0,none⟩,s.len+k,grownCap w (s.len+k) s.cap e⟩,{w with drawn:=w.drawn+1,heap:=w.heap.push (.cells (olds.toArray++news.toArray++zRow v.cells ((grownCap w (s.len+k) s.cap e - (s.len+k))*v.cells.size)) e)},?_,⟨rfl,rfl,rfl,IM _⟩,h5 _ hcap⟩
  have ho:=KEf (P:=P) (w:=w.drew) (sz:=i.size) (k:=s.len) (s:=s) h3 h4
  have hn:=hx w.drew rfl
  have hd':({w with drawn:=w.drawn+1}:World)=w.drew:=rfl
  have hmax:¬((9223372036854775807:Int)<(s.len:Int)+(k:Int)):=by omega
  have h48':¬(281474976710656<Builtin.nextslicecap (s.len+k) s.cap*i.bytes):=by omega
  simp only [Builtin.append_,Sl.v]at ho⊢
  rcases hu with hd|hd<;>
   simp [run_underlying ht,run_underlying hd,Go.sizeOf,typeInfo,hi,hk,hc,hmax,h48',Question.forced,hd',ho,hn,zeroValue,hv,newRow,grownCap,Builtin.zeroCells,KC7]
  all_goals (rw [<-Array.append_assoc,show olds.toArray++news.toArray=(olds++news).toArray from by simp];rfl)
theorem KVS {t e sz bytes:Nat} {z:Ea} {x y:Operand} {s u:Sl} {Q:Sl->Heap->Prop} (hE:Env n a l) (hx:opv l x=some s.v) (hy:opv l y=some u.v) (hP:apB P t e sz bytes z) (H:(apL e sz bytes z s u).wp w.heap Q):
  ∃r w1,(execOp a.eval ⟨dst,.call {callee:=.builtin .append,args:=#[x,y],argTypes:=#[t,t]},ty,pos,aft,g⟩).run P w=.ok (.value (Sl.v r)) w1/\Rest w w1/\Q r w1.heap:=by
 obtain⟨news,h1,h2,h3⟩:=H
 obtain⟨r,w1,hr,hrest,hq⟩:=KJm (P:=P) (ty:=ty) (x:=u.v) (u:=t) (.inl hP.1) hP (λw=>by simp [Builtin.lenOf,Sl.v]) (λw' e=>KEf h1 (e▸h2)) h3
 exact⟨r,w1,by simp [execOp,resolve,invoke,builtin,hE.opv hx,hE.opv hy,hr],hrest,hq⟩
theorem KWJ {t e su:Nat} {x y:Operand} {s:Sl} {u:ByteArray} {Q:Sl->Heap->Prop} (hE:Env n a l) (hx:opv l x=some s.v) (hy:opv l y=some (.string u)) (hP:apB P t e 1 1 #[.int .u8 0]) (hu:P.underlying su=some .string) (H:(apS e s u).wp w.heap Q):
  ∃r w1,(execOp a.eval ⟨dst,.call {callee:=.builtin .append,args:=#[x,y],argTypes:=#[t,su]},ty,pos,aft,g⟩).run P w=.ok (.value (Sl.v r)) w1/\Rest w w1/\Q r w1.heap:=by
 obtain⟨r,w1,hr,hrest,hq⟩:=KJm (P:=P) (ty:=ty) (w:=w) (s:=s) (x:=.string u) (u:=su) (k:=u.size) (news:=Uj u) (Q:=Q) (.inr hu) hP (λw=>by simp [Builtin.lenOf]) (λw' e=>by
  have:(Uj u).toArray=u.data.map λ(b:UInt8)=>Value.int .u8 (b.toNat:Int):=by unfold Uj;rw [<-FP,EG]
  rw [this]
  simp [Builtin.firstCells]) H
 exact⟨r,w1,by simp [execOp,resolve,invoke,builtin,hE.opv hx,hE.opv hy,hr],hrest,hq⟩
end rows
end Gx
namespace Gx
open Go
section rows
variable {P:Program} {n:Frm} {a:Act} {w:World} {l:List (Nat×Value)} {dst:Option Tmp} {ty:TypeId} {pos:String} {aft:Array Edge} {g:Option (Nat×Bool)}
theorem KYN {t e sz:Nat} {x y:Operand} {d s:Sl} {Q:Int->Heap->Prop} {u:TypeId} (hE:Env n a l) (hx:opv l x=some d.v) (hy:opv l y=some s.v) (ht:P.underlying t=some (.slice e)) (hs:szB P e sz=true) (H:(cpL sz d s).wp w.heap Q):
  ∃r w1,(execOp a.eval ⟨dst,.call {callee:=.builtin .copy,args:=#[x,y],argTypes:=#[t,u]},ty,pos,aft,g⟩).run P w=.ok (.value (.int .i64 r)) w1/\Rest w w1/\Q r w1.heap:=by
 obtain⟨cs,h1,h2,h3,h4,h5⟩:=H
 refine⟨_,{w with heap:=zc w.heap d.base 0 cs},?_,⟨rfl,rfl,rfl,Ee _⟩,h5⟩
 have hf:=KEf (P:=P) (w:=w) h1 h2
 cases hb:d.base with
 |none=>
  simp only [Sl.v]at hf
  simp [execOp,resolve,invoke,builtin,hE.opv hx,hE.opv hy,Builtin.copy_,run_underlying ht,Sl.v,Builtin.lenOf,Jl hs,hb,goInt,zc,Nat.min_def]at hf⊢
  simp [hf]
 |some b=>
  have hp:=U4 (P:=P) (a:=b) cs 0 w (λj hj=>by rw [EC];exact h3 b hb j hj) h4
  simp only [Sl.v]at hf
  simp [execOp,resolve,invoke,builtin,hE.opv hx,hE.opv hy,Builtin.copy_,run_underlying ht,Sl.v,Builtin.lenOf,Jl hs,hb,goInt,zc,Nat.min_def,add_zero]at hf⊢
  simp [hf,hp]
theorem KWK {t e sz bytes:Nat} {z:Ea} {x y:Operand} {k k':IntKind} {u v:Int} {Q:Sl->Heap->Prop} (hE:Env n a l) (hx:opv l x=some (.int k u)) (hy:opv l y=some (.int k' v)) (hP:apB P t e sz bytes z) (H:(mkS e sz bytes z u v).wp w.heap Q):
  ∃r w1,(execOp a.eval ⟨dst,.makeSlice t x y,ty,pos,aft,g⟩).run P w=.ok (.value (Sl.v r)) w1/\Rest w w1/\Q r w1.heap:=by
 obtain⟨ht,i,hi,rfl,rfl,zv,hz,rfl⟩:=hP
 obtain⟨h1,h2,h3,h4,h5⟩:=H
 refine⟨_,{w with heap:=w.heap.push (.cells (zRow zv.cells (v.toNat*i.size)) e)},?_,⟨rfl,rfl,rfl,Ee _⟩,h5⟩
 have eu:IntKind.i64.wrap u=u:=by rw [IntKind.wrap_i64];omega
 have ev:IntKind.i64.wrap v=v:=by rw [IntKind.wrap_i64];omega
 have e48:(2:Int)^48=281474976710656:=by decide
 have b1:¬v<0:=by omega
 have b2:¬((i.bytes:Int)*v>281474976710656):=by omega
 have b3:¬u<0:=by omega
 have b4:¬v<u:=by omega
 by_cases hn:v.toNat*i.size=0
 ·simp [execOp,hE.opv hx,hE.opv hy,Instr.makeSlice,run_underlying ht,asInt,asIntOf,typeInfo,hi,eu,ev,b1,b2,b3,b4,Go.sizeOf,hn,newRow,Sl.v,KC7]
  rw [show(Array.range 0)=#[]from Ix (by simp)]
  simp only [Array.map_empty]
 ·simp [execOp,hE.opv hx,hE.opv hy,Instr.makeSlice,run_underlying ht,asInt,asIntOf,typeInfo,hi,eu,ev,b1,b2,b3,b4,Go.sizeOf,hn,newRow,Sl.v,KC7,zeroValue,hz]
theorem KRJ {t:Nat} {m:Option Nat} (hm:m=some w.heap.size):(execOp a.eval ⟨dst,.makeMap t none,ty,pos,aft,g⟩).run P w=.ok (.value (.map m)) {w with heap:=w.heap.push (.map #[] 0)}:=by
 subst hm
 simp [execOp,Instr.makeMap]
end rows
def mget (h:Heap):Option Nat->Option (Array MapEntry)
 |none=>some #[]
 |some r=>match h[r]? with
  |some (.map es _)=>some es
  |_=>none
def lkM {τ:Type} (dec:τ->Value) (kd:TypeDesc) (key z:Value) (m:Option Nat):M (τ×Bool):=
 .get λh r=>∃es res,mget h m=some es/\Instr.findNow kd key es.toList 0=some res/\dec r.1=(match res with|some p=>p.2|none=>z)/\r.2=res.isSome
def hup (kd:TypeDesc) (key v:Value) (m:Option Nat) (h:Heap):Heap:=match m with
 |some r=>match h[r]? with
  |some (.map es clock)=>match Instr.findNow kd key es.toList 0 with
   |some (some (i,_))=>h.set! r (.map (es.modify i λe=>{e with key,val:=v}) clock)
   |_=>h.set! r (.map (es.push {key,val:=v,born:=clock}) (clock+1))
  |_=>h
 |none=>h
def upM (kd:TypeDesc) (key v:Value) (m:Option Nat):M Unit:=
 ⟨λh Q=>∃r:Unit,(∃r es clock res,m=some r/\h[r]?=some (.map es clock)/\Instr.findNow kd key es.toList 0=some res)/\Q r (hup kd key v m h),λhq ⟨r,hp,h⟩=>⟨r,hp,hq _ _ h⟩⟩
def hcl (m:Option Nat) (h:Heap):Heap:=match m with
 |some r=>match h[r]? with
  |some (.map _ clock)=>h.set! r (.map #[] clock)
  |_=>h
 |none=>h
def clM (m:Option Nat):M Unit:=
 ⟨λh Q=>∃r:Unit,(m=none\/∃r es clock,m=some r/\h[r]?=some (.map es clock))/\Q r (hcl m h),λhq ⟨r,hp,h⟩=>⟨r,hp,hq _ _ h⟩⟩
def lenM (m:Option Nat):M Int:=.get λh n=>∃es,mget h m=some es/\n=(es.size:Int)
def hit (m:Option Nat) (h:Heap):Obj:=match m with
 |none=>.mapIter none 0 #[] 0
 |some r=>match h[r]? with
  |some (.map _ clock)=>.mapIter (some r) clock #[] clock
  |_=>.mapIter none 0 #[] 0
def rgM (m:Option Nat):M Addr:=⟨λh Q=>∃r:Addr,(r=⟨h.size,0,none⟩/\(m=none\/∃r es clock,m=some r/\h[r]?=some (.map es clock)))/\Q r (h.push (hit m h)),λhq ⟨r,hp,h⟩=>⟨r,hp,hq _ _ h⟩⟩
def nxM (it:Addr):M Value:=
 ⟨λh Q=>it.off=0/\((∃x y z,h[it.block]?=some (.mapIter none x y z)/\Q (.tuple #[.bool false]) h)\/
  ∃m since seen last es clock,h[it.block]?=some (.mapIter (some m) since seen last)/\h[m]?=some (.map es clock)/\(!seen.isEmpty&& !es.isEmpty&&es.all (·.born>=last))=false/\
   ((∀e∈es,seen.contains e.born=false->(∀e'∈es,seen.contains e'.born=false->e'.born<since->False)\/True))/\
   (∀e∈es,seen.contains e.born=false->Q (.tuple #[.bool true,e.key,e.val]) (h.set! it.block (.mapIter (some m) since (seen.push e.born) clock)))/\
   ((∀e∈es,seen.contains e.born=false->since<=e.born)->Q (.tuple #[.bool false]) h)),
  λhq ⟨h0,h⟩=>⟨h0,h.elim (λ⟨x,y,z,h1,h2⟩=>.inl ⟨x,y,z,h1,hq _ _ h2⟩) (λ⟨m,since,seen,last,es,clock,h1,h2,h3,h4,h5,h6⟩=>.inr ⟨m,since,seen,last,es,clock,h1,h2,h3,h4,λe he hs=>hq _ _ (h5 e he hs),λhh=>hq _ _ (h6 hh)⟩)⟩⟩
def enM (it:Addr):M (Value×Value):=.get λh r=>it.off=0/\∃m since seen clock es stamp e,h[it.block]?=some (.mapIter (some m) since seen clock)/\seen.back?=some stamp/\h[m]?=some (.map es clock)/\es.find? (·.born==stamp)=some e/\r=(e.key,e.val)
def exB (v:Value) (i:Nat):M Bool:=.get λ_ b=>∃vs,v=.tuple vs/\vs[i]?=some (.bool b)
def exI (k:IntKind) (v:Value):M Int:=.get λ_ n=>v=.int k n
def keyB (d:TypeDesc):Bool:=match d with
 | .int _=>true
 | .string=>true
 | .bool=>true
 |_=>false
section maps
variable {P:Program} {n:Frm} {a:Act} {w:World} {l:List (Nat×Value)} {dst:Option Tmp} {ty:TypeId} {pos:String} {aft:Array Edge} {g:Option (Nat×Bool)}
theorem YL {kt:Nat} {d:TypeDesc} {b:Bool} {m:Nat} {v:Value} (hd:P.underlying kt=some d) (hk:keyB d=true):(Instr.checkKey b (m+1) kt v).run P w=.ok () w:=by
 unfold Instr.checkKey
 cases d<;>first|(simp [keyB]at hk;done)|simp [run_underlying hd]
theorem Xg {kt:Nat} {d:TypeDesc} {v:Value} {es:List MapEntry} {res:Option (Nat×Value)} (hd:P.underlying kt=some d) (h:Instr.findNow d v es 0=some res):(Instr.findKey kt v es).run P w=.ok res w:=by
 simp [Instr.findKey,run_underlying hd,h]
theorem Vv {r:Nat} {es:Array MapEntry} {c:Nat} (h:w.heap[r]?=some (.map es c)):(getObj r).run P w=.ok (.map es c) w:=by
 simp only [getObj,Sem.run,h]
theorem KRK {τ:Type} {dec:τ->Value} {t kt e:Nat} {x y:Operand} {d:TypeDesc} {key:Value} {z:Value} {m:Option Nat} {r:τ×Bool} (hE:Env n a l) (hx:opv l x=some (.map m)) (hy:opv l y=some key) (ht:P.underlying t=some (.map kt e)) (hd:P.underlying kt=some d) (hk:keyB d=true) (hz:(P.info? e).bind (·.zero)=some z)
  (hc:∃es res,mget w.heap m=some es/\Instr.findNow d key es.toList 0=some res/\dec r.1=(match res with|some p=>p.2|none=>z)/\r.2=res.isSome):
  (execOp a.eval ⟨dst,.lookup t x y true,ty,pos,aft,g⟩).run P w=.ok (.value (.tuple #[dec r.1,.bool r.2])) w:=by
 obtain⟨es,res,h1,h2,h3,h4⟩:=hc
 have hzv:(zeroValue e).run P w=.ok z w:=by
  cases hi:P.info? e with
  |none=>rw [hi]at hz;cases hz
  |some i=>rw [hi]at hz;simp at hz;simp [zeroValue,typeInfo,hi,hz]
 rw [h3,h4]
 cases m with
 |none=>
  simp [mget]at h1
  subst h1
  simp only [Instr.findNow,Option.some.injEq]at h2
  subst h2
  simp [execOp,hE.opv hx,hE.opv hy,Instr.lookup,run_underlying ht,YL hd hk,Xg hd (rfl:Instr.findNow d key [] 0=some none),hzv]
 |some b=>
  simp only [mget]at h1
  split at h1
  ·rename_i es' c hb
   simp only [Option.some.injEq]at h1
   subst h1
   cases res with
   |none=>simp [execOp,hE.opv hx,hE.opv hy,Instr.lookup,run_underlying ht,Vv hb,YL hd hk,Xg hd h2,hzv]
   |some p=>simp [execOp,hE.opv hx,hE.opv hy,Instr.lookup,run_underlying ht,Vv hb,YL hd hk,Xg hd h2]
  ·cases h1
theorem KRL {τ:Type} {dec:τ->Value} {t kt e:Nat} {x y:Operand} {d:TypeDesc} {key:Value} {z:Value} {m:Option Nat} {r:τ×Bool} (hE:Env n a l) (hx:opv l x=some (.map m)) (hy:opv l y=some key) (ht:P.underlying t=some (.map kt e)) (hd:P.underlying kt=some d) (hk:keyB d=true) (hz:(P.info? e).bind (·.zero)=some z)
  (hc:∃es res,mget w.heap m=some es/\Instr.findNow d key es.toList 0=some res/\dec r.1=(match res with|some p=>p.2|none=>z)/\r.2=res.isSome):
  (execOp a.eval ⟨dst,.lookup t x y false,ty,pos,aft,g⟩).run P w=.ok (.value (dec r.1)) w:=by
 obtain⟨es,res,h1,h2,h3,h4⟩:=hc
 have hzv:(zeroValue e).run P w=.ok z w:=by
  cases hi:P.info? e with
  |none=>rw [hi]at hz;cases hz
  |some i=>rw [hi]at hz;simp at hz;simp [zeroValue,typeInfo,hi,hz]
 rw [h3]
 cases m with
 |none=>
  simp [mget]at h1
  subst h1
  simp only [Instr.findNow,Option.some.injEq]at h2
  subst h2
  simp [execOp,hE.opv hx,hE.opv hy,Instr.lookup,run_underlying ht,YL hd hk,Xg hd (rfl:Instr.findNow d key [] 0=some none),hzv]
 |some b=>
  simp only [mget]at h1
  split at h1
  ·rename_i es' c hb
   simp only [Option.some.injEq]at h1
   subst h1
   cases res with
   |none=>simp [execOp,hE.opv hx,hE.opv hy,Instr.lookup,run_underlying ht,Vv hb,YL hd hk,Xg hd h2,hzv]
   |some p=>simp [execOp,hE.opv hx,hE.opv hy,Instr.lookup,run_underlying ht,Vv hb,YL hd hk,Xg hd h2]
  ·cases h1
theorem KHu {d:TypeDesc} {key:Value} (hk:keyB d=true):∀(es:List MapEntry) (s i:Nat) (v:Value),Instr.findNow d key es s=some (some (i,v))->s<=i/\∃e,es[i - s]?=some e/\Instr.sameNow d key e.key=some true
 | [],s,i,v,h=>by simp [Instr.findNow]at h
 |e::es,s,i,v,h=>by
  simp only [Instr.findNow]at h
  cases hs:Instr.sameNow d key e.key with
  |none=>rw [hs]at h;cases h
  |some b=>
   rw [hs]at h
   cases b with
   |true=>
    simp only [Option.some.injEq,Prod.mk.injEq]at h
    obtain⟨rfl,rfl⟩:=h
    exact⟨Ee _,e,by simp,hs⟩
   |false=>
    obtain⟨h1,e',h2,h3⟩:=KHu hk es (s+1) i v h
    refine⟨by omega,e',?_,h3⟩
    rw [show i - s=(i - (s+1))+1 by omega]
    simpa using h2
theorem KL5 {d:TypeDesc} {k k':Value} (h:Instr.sameNow d k k'=some true) (n:Nat):Instr.sameBits n k' k=true:=by
 unfold Instr.sameNow at h
 split at h
 ·rename_i a b c e
  split at h
  ·rename_i hc
   simp only [Option.some.injEq,Fx]at h
   subst h hc
   cases n<;>simp [Instr.sameBits]
  ·cases h
 ·simp only [Option.some.injEq]at h
  have h':∀a b:ByteArray,(a==b)=true->(b==a)=true:=λa b hab=>by
   rw [Go.beq_toListBytes]at hab⊢
   rw [Fx]at hab⊢
   exact hab.symm
  cases n<;>simp [Instr.sameBits,h' _ _ h]
 ·simp only [Option.some.injEq,Fx]at h;subst h;cases n<;>simp [Instr.sameBits]
 ·cases h
theorem KTd {t kt e:Nat} {x y z:Operand} {d:TypeDesc} {key v:Value} {m:Option Nat} (hE:Env n a l) (hx:opv l x=some (.map m)) (hy:opv l y=some key) (hz:opv l z=some v) (ht:P.underlying t=some (.map kt e)) (hd:P.underlying kt=some d) (hk:keyB d=true)
  (hc:∃r es clock res,m=some r/\w.heap[r]?=some (.map es clock)/\Instr.findNow d key es.toList 0=some res):
  (execOp a.eval ⟨dst,.mapUpdate t x y z,ty,pos,aft,g⟩).run P w=.ok .skip {w with heap:=hup d key v m w.heap}:=by
 obtain⟨r,es,clock,res,rfl,h1,h2⟩:=hc
 have hset:∀(o:Obj),(setObj r o).run P w=.ok () {w with heap:=w.heap.set! r o}:=λo=>by
  have hlt:r<w.heap.size:=by
   rcases ES r w.heap.size with h|h
   ·exact h
   ·rw [EV h]at h1;cases h1
  simp only [setObj,Sem.run,h1,Array.set!]
 simp only [hup,h1,h2]
 cases res with
 |none=>simp [execOp,hE.opv hx,hE.opv hy,hE.opv hz,Instr.mapUpdate,run_underlying ht,Vv h1,YL hd hk,Xg hd h2,hset]
 |some p=>
  obtain⟨i,u⟩:=p
  obtain⟨_,e',he,hs⟩:=KHu hk es.toList 0 i u h2
  have he':es[i]?=some e':=by simpa using he
  simp [execOp,hE.opv hx,hE.opv hy,hE.opv hz,Instr.mapUpdate,run_underlying ht,Vv h1,YL hd hk,Xg hd h2,he',Instr.keyThatStays,KL5 hs,hset]
end maps
end Gx
namespace Gx
open Go
def KKQ (P:Program) (f:Field):Option (Nat×Nat):=match P.info? f.type with
 |some i=>some (f.offset,i.size)
 |none=>none
def KF7 (P:Program):List Field->Option (List (Nat×Nat))
 | []=>some []
 |f::r=>match KKQ P f,KF7 P r with
  |some p,some ps=>some (p::ps)
  |_,_=>none
def Gl (P:Program) (t:TypeId):Option (List (Nat×Nat)):=match P.underlying t with
 |some (.struct fs)=>KF7 P fs.toList
 |_=>none
section
variable {P:Program} {w:World}
theorem KHv:∀{fs:List Field} {ps:List (Nat×Nat)},KF7 P fs=some ps->(fs.mapM (m:=Sem) λf=>do pure (f.offset,<-Go.sizeOf f.type)).run P w=.ok ps w
 | [],ps,h=>by simp [KF7]at h;subst h;rfl
 |f::r,ps,h=>by
  simp only [KF7]at h
  cases h1:KKQ P f with
  |none=>rw [h1]at h;simp at h
  |some p=>
   cases h2:KF7 P r with
   |none=>rw [h1,h2]at h;simp at h
   |some qs=>
    rw [h1,h2]at h
    simp only [Option.some.injEq]at h
    subst h
    unfold KKQ at h1
    cases hi:P.info? f.type with
    |none=>rw [hi]at h1;cases h1
    |some i=>
     rw [hi]at h1
     simp only [Option.some.injEq]at h1
     subst h1
     have hh:((do pure (f.offset,<-Go.sizeOf f.type)):Sem (Nat×Nat)).run P w=.ok (f.offset,i.size) w:=by simp [Go.sizeOf,typeInfo,hi]
     rw [Oj]
     simp only [Sem.run_bind]at hh⊢
     rw [hh]
     have:=KHv h2
     simp only [Result.andThen_ok,this,Sem.run_pure]
theorem KRM {t:Nat} {z:Value} {ps:List (Nat×Nat)} {parts:Array (Nat×Value)} {cells:Ea} (hz:(P.info? t).bind (·.zero)=some z) (hp:Gl P t=some ps) (hf:Instr.fill (ps[·]?) z.cells parts.toList=some cells):
  (Instr.build t parts).run P w=.ok (.agg cells) w:=by
 have hzv:(zeroValue t).run P w=.ok z w:=by
  cases hi:P.info? t with
  |none=>rw [hi]at hz;cases hz
  |some i=>rw [hi]at hz;simp at hz;simp [zeroValue,typeInfo,hi,hz]
 unfold Gl at hp
 cases hu:P.underlying t with
 |none=>rw [hu]at hp;cases hp
 |some d=>
  rw [hu]at hp
  cases d with
  |struct fs=>
   simp only at hp
   have h1:=KHv (w:=w) hp
   have h2:(fs.mapM (m:=Sem) λf=>do pure (f.offset,<-Go.sizeOf f.type)).run P w=.ok ps.toArray w:=by
    have e:fs=fs.toList.toArray:=by simp
    rw [e,List.mapM_toArray]
    simp only [Sem.run_map,h1,Result.andThen_ok]
   unfold Instr.build
   simp only [Sem.run_bind,hzv,Result.andThen_ok,run_underlying hu,h2]
   have h3:(λx:Nat=>ps.toArray[x]?)=(λx:Nat=>ps[x]?):=by funext x;simp
   rw [h3,hf]
   rfl
  |_=>cases hp
end
def qD (ps:List (Nat×Nat)) (z:Ea) (parts:List (Nat×Value)):M (Ea):=.get λ_ cs=>Instr.fill (ps[·]?) z parts=some cs
def bdL (e len:Nat) (cells:Ea):M Sl:=⟨λh Q=>∃r:Sl,r=⟨some ⟨h.size,0,none⟩,len,len⟩/\Q r (h.push (.cells cells e)),λhq ⟨r,hp,h⟩=>⟨r,hp,hq _ _ h⟩⟩
def Xs (size len:Nat) (z:Ea) (parts:List (Nat×Value)):M (Ea):=.get λ_ cs=>Instr.fill (λi=>some (i*size,size)) (zRow z (len*size)) parts=some cs
def fdI (k:IntKind) (cs:Ea) (i:Nat):M Int:=.get λ_ n=>cs[i]?=some (.int k n)
def fdB (cs:Ea) (i:Nat):M Bool:=.get λ_ n=>cs[i]?=some (.bool n)
def fdS (cs:Ea) (i:Nat):M ByteArray:=.get λ_ n=>cs[i]?=some (.string n)
def fdP (cs:Ea) (i:Nat):M (Option Addr):=.get λ_ n=>cs[i]?=some (.pointer n)
def fdL (cs:Ea) (i:Nat):M Sl:=.get λ_ n=>cs[i]?=some n.v
def fdMp (cs:Ea) (i:Nat):M (Option Nat):=.get λ_ n=>cs[i]?=some (.map n)
def fdV (cs:Ea) (i:Nat):M Value:=.get λ_ n=>cs[i]?=some n
def fdoB (P:Program) (s f:Nat):Option (Nat×Nat):=match P.underlying s with
 |some (.struct fs)=>match fs[f]? with
  |some fd=>some (fd.offset,fd.type)
  |none=>none
 |_=>none
def b2s (s:Sl):M ByteArray:=.get λh r=>∃ns:Eb,ns.length=s.len/\KAI h s.base (ns.map λb=>Value.int .u8 (b.toNat:Int))/\r=⟨ns.toArray⟩
def s2b (e:Nat) (s:ByteArray):M Sl:=
 ⟨λh Q=>∀cap,s.size<=cap->∀mk:Nat×Nat,mk=(cap,cap+1)->Q ⟨some ⟨h.size,0,none⟩,s.size,cap⟩ (h.push (.cells ((Uj s).toArray++Array.replicate (cap - s.size) (.int .u8 0)) e mk)),
  λhq H cap hc mk hm=>hq _ _ (H cap hc mk hm)⟩
section ops
variable {P:Program} {n:Frm} {a:Act} {w:World} {l:List (Nat×Value)} {dst:Option Tmp} {ty:TypeId} {pos:String} {aft:Array Edge} {g:Option (Nat×Bool)}
def opps (l:List (Nat×Value)):List (Nat×Operand)->Option (List (Nat×Value))
 | []=>some []
 |(i,x)::r=>match opv l x,opps l r with
  |some v,some vs=>some ((i,v)::vs)
  |_,_=>none
theorem Env.opps (hE:Env n a l):∀{xs:List (Nat×Operand)} {vs:List (Nat×Value)},opps l xs=some vs->xs.map (λ(i,x)=>(i,a.eval x))=vs
 | [],vs,h=>by simp [Gx.opps]at h;subst h;rfl
 |(i,x)::r,vs,h=>by
  simp only [Gx.opps]at h
  cases h1:Gx.opv l x with
  |none=>rw [h1]at h;simp at h
  |some v=>
   cases h2:Gx.opps l r with
   |none=>rw [h1,h2]at h;simp at h
   |some vs'=>
    rw [h1,h2]at h
    simp only [Option.some.injEq]at h
    subst h
    simp [hE.opv h1,Env.opps hE h2]
theorem KTe {parts:Array (Nat×Operand)} {vs:List (Nat×Value)} (hE:Env n a l) (ho:Gx.opps l parts.toList=some vs):(parts.map λ(i,x)=>(i,a.eval x)).toList=vs:=by
 rw [FP]
 exact hE.opps ho
theorem KAy {t:Nat} {z:Value} {ps:List (Nat×Nat)} {parts:Array (Nat×Operand)} {vs:List (Nat×Value)} {cells:Ea} (hE:Env n a l) (ho:Gx.opps l parts.toList=some vs) (hz:(P.info? t).bind (·.zero)=some z) (hp:Gl P t=some ps) (hf:Instr.fill (ps[·]?) z.cells vs=some cells):
  (execOp a.eval ⟨dst,.build t parts,ty,pos,aft,g⟩).run P w=.ok (.value (.agg cells)) w:=by
 have:=KRM (P:=P) (w:=w) (parts:=parts.map λ(i,x)=>(i,a.eval x)) hz hp (by rw [KTe hE ho];exact hf)
 simp [execOp,this]
theorem KTf {t:Nat} {v:Value} (h:∀w,(Instr.build t #[]).run P w=.ok v w):(execOp a.eval ⟨dst,.build t #[],ty,pos,aft,g⟩).run P w=.ok (.value v) w:=by
 simp [execOp,h]
theorem KKR {t e sz len:Nat} {z:Value} {parts:Array (Nat×Operand)} {vs:List (Nat×Value)} {cells:Ea} {s:Sl} (hE:Env n a l) (ho:Gx.opps l parts.toList=some vs) (ht:P.underlying t=some (.slice e)) (hs:szB P e sz=true) (hz:(P.info? e).bind (·.zero)=some z) (hlim:Nat.ble (len*sz) 16777216=true)
  (hf:Instr.fill (λi=>some (i*sz,sz)) (zRow z.cells (len*sz)) vs=some cells) (hq:s=⟨some ⟨w.heap.size,0,none⟩,len,len⟩):
  (execOp a.eval ⟨dst,.buildSlice t len parts,ty,pos,aft,g⟩).run P w=.ok (.value s.v) {w with heap:=w.heap.push (.cells cells e)}:=by
 subst hq
 have hzv:∀w,(zeroValue e).run P w=.ok z w:=λw=>by
  cases hi:P.info? e with
  |none=>rw [hi]at hz;cases hz
  |some i=>rw [hi]at hz;simp at hz;simp [zeroValue,typeInfo,hi,hz]
 have h1:¬(16777216<len*sz):=by have:=Fc hlim;omega
 have h2:List.map (λx:Nat×Operand=>(x.1,a.eval x.2)) parts.toList=vs:=hE.opps ho
 by_cases h0:len*sz=0
 ·rw [h0]at hf
  have e0:(Array.range 0)=#[]:=Ix (by simp)
  simp [KC7,e0]at hf
  simp [execOp,Instr.buildSlice,run_underlying ht,Jl hs,h0,h2,hf,newRow,Sl.v,e0]
 ·simp only [KC7]at hf
  simp [execOp,Instr.buildSlice,run_underlying ht,Jl hs,h0,h1,hzv,h2,hf,newRow,Sl.v]
theorem KWL {s f off ft:Nat} {x:Operand} {cs:Ea} {v:Value} (hE:Env n a l) (hx:opv l x=some (.agg cs)) (hf:fdoB P s f=some (off,ft)) (ht:scB P ft=true) (hv:cs[off]?=some v):
  (execOp a.eval ⟨dst,.field s x f,ty,pos,aft,g⟩).run P w=.ok (.value v) w:=by
 unfold fdoB at hf
 cases hu:P.underlying s with
 |none=>rw [hu]at hf;cases hf
 |some d=>
  rw [hu]at hf
  cases d with
  |struct fs=>
   simp only at hf
   cases hfd:fs[f]? with
   |none=>rw [hfd]at hf;cases hf
   |some fd=>
    rw [hfd]at hf
    simp only [Option.some.injEq,Prod.mk.injEq]at hf
    obtain⟨rfl,rfl⟩:=hf
    simp [execOp,hE.opv hx,Instr.field,run_underlying hu,hfd,asAgg,part,KOs ht,hv]
  |_=>cases hf
theorem KTg {s f off ft m:Nat} {x:Operand} {cs:Ea} (hE:Env n a l) (hx:opv l x=some (.agg cs)) (hf:fdoB P s f=some (off,ft)) (ht:agB P ft m=true):
  (execOp a.eval ⟨dst,.field s x f,ty,pos,aft,g⟩).run P w=.ok (.value (.agg (cs.extract off (off+m)))) w:=by
 unfold fdoB at hf
 cases hu:P.underlying s with
 |none=>rw [hu]at hf;cases hf
 |some d=>
  rw [hu]at hf
  cases d with
  |struct fs=>
   simp only at hf
   cases hfd:fs[f]? with
   |none=>rw [hfd]at hf;cases hf
   |some fd=>
    rw [hfd]at hf
    simp only [Option.some.injEq,Prod.mk.injEq]at hf
    obtain⟨rfl,rfl⟩:=hf
    simp [execOp,hE.opv hx,Instr.field,run_underlying hu,hfd,asAgg,part,KOt ht]
  |_=>cases hf
theorem KYO {t kt e ti:Nat} {x:Operand} {m:Option Nat} {r:Int} (hE:Env n a l) (hx:opv l x=some (.map m)) (ht:P.underlying t=some (.map kt e)) (hc:∃es,mget w.heap m=some es/\r=(es.size:Int)):
  (execOp a.eval ⟨dst,.call {callee:=.builtin .len,args:=#[x],argTypes:=#[t]},ti,pos,aft,g⟩).run P w=.ok (.value (.int .i64 r)) w:=by
 obtain⟨es,h1,rfl⟩:=hc
 cases m with
 |none=>simp [mget]at h1;subst h1;simp [execOp,resolve,invoke,builtin,Builtin.len_,hE.opv hx,run_underlying ht,goInt]
 |some b=>
  simp only [mget]at h1
  split at h1
  ·rename_i es' c hb
   simp only [Option.some.injEq]at h1
   subst h1
   simp [execOp,resolve,invoke,builtin,Builtin.len_,hE.opv hx,run_underlying ht,goInt,Vv hb]
  ·cases h1
theorem KL6 {r:Nat} {o o':Obj} (h:w.heap[r]?=some o') (hn:∀c t f,o'≠.cells c t f):(setObj r o).run P w=.ok () {w with heap:=w.heap.set! r o}:=by
 simp only [setObj,Sem.run,h,Array.set!]
theorem KTh {t kt e ti:Nat} {x:Operand} {m:Option Nat} (hE:Env n a l) (hx:opv l x=some (.map m)) (ht:P.underlying t=some (.map kt e)) (hc:m=none\/∃r es clock,m=some r/\w.heap[r]?=some (.map es clock)):
  (execOp a.eval ⟨dst,.call {callee:=.builtin .clear,args:=#[x],argTypes:=#[t]},ti,pos,aft,g⟩).run P w=.ok (.value (.tuple #[])) {w with heap:=hcl m w.heap}:=by
 rcases hc with rfl|⟨r,es,clock,rfl,h⟩
 ·simp [execOp,resolve,invoke,builtin,Builtin.clear_,hE.opv hx,run_underlying ht,hcl]
 ·have hs:=KL6 (P:=P) (w:=w) (r:=r) (o:=.map #[] clock) h (λc t f hh=>by cases hh)
  simp only [hcl,h]
  simp [execOp,resolve,invoke,builtin,Builtin.clear_,hE.opv hx,run_underlying ht,Vv h,hs]
theorem KWM {t kt e:Nat} {x:Operand} {m:Option Nat} {p:Addr} (hE:Env n a l) (hx:opv l x=some (.map m)) (ht:P.underlying t=some (.map kt e)) (hc:p=⟨w.heap.size,0,none⟩/\(m=none\/∃r es clock,m=some r/\w.heap[r]?=some (.map es clock))):
  (execOp a.eval ⟨dst,.range t x,ty,pos,aft,g⟩).run P w=.ok (.value (.pointer (some p))) {w with heap:=w.heap.push (hit m w.heap)}:=by
 obtain⟨rfl,hc⟩:=hc
 rcases hc with rfl|⟨r,es,clock,rfl,h⟩
 ·simp [execOp,hE.opv hx,Instr.range,run_underlying ht,hit]
 ·simp only [hit,h]
  simp [execOp,hE.opv hx,Instr.range,run_underlying ht,Vv h]
theorem KWN {x:Operand} {p:Addr} {r:Value×Value} (hE:Env n a l) (hx:opv l x=some (.pointer (some p)))
  (hc:p.off=0/\∃m since seen clock es stamp e,w.heap[p.block]?=some (.mapIter (some m) since seen clock)/\seen.back?=some stamp/\w.heap[m]?=some (.map es clock)/\es.find? (·.born==stamp)=some e/\r=(e.key,e.val)):
  (execOp a.eval ⟨dst,.entry x,ty,pos,aft,g⟩).run P w=.ok (.value (.tuple #[r.1,r.2])) w:=by
 obtain⟨h0,m,since,seen,clock,es,stamp,e,h1,h2,h3,h4,rfl⟩:=hc
 obtain⟨b,o,sp⟩:=p
 simp only at h0 h1
 subst h0
 have hg:(getObj b).run P w=.ok (.mapIter (some m) since seen clock) w:=by simp only [getObj,Sem.run,h1]
 simp [execOp,hE.opv hx,Instr.entry,hg,h2,Vv h3,h4]
theorem KYP {x:Operand} {p:Addr} {Q:Value->Heap->Prop} (hE:Env n a l) (hx:opv l x=some (.pointer (some p))) (H:(nxM p).wp w.heap Q):
  ∃r w1,(execOp a.eval ⟨dst,.next x false,ty,pos,aft,g⟩).run P w=.ok (.value r) w1/\Rest w w1/\Q r w1.heap:=by
 obtain⟨h0,H⟩:=H
 obtain⟨b,o,sp⟩:=p
 simp only at h0 H
 subst h0
 rcases H with⟨u,v,z,h1,h2⟩|⟨m,since,seen,last,es,clock,h1,h2,h3,h4,h5,h6⟩
 ·have hg:(getObj b).run P w=.ok (.mapIter none u v z) w:=by simp only [getObj,Sem.run,h1]
  exact⟨_,w,by simp [execOp,hE.opv hx,Instr.next,hg],⟨rfl,rfl,rfl,Ee _⟩,h2⟩
 ·have hg:(getObj b).run P w=.ok (.mapIter (some m) since seen last) w:=by simp only [getObj,Sem.run,h1]
  have hlt:b<w.heap.size:=by
   rcases ES b w.heap.size with h|h
   ·exact h
   ·rw [EV h]at h1;cases h1
  let left:=es.filter λe=>!seen.contains e.born
  let old:=left.filter (·.born<since)
  let new:=left.filter (·.born>=since)
  let cand:=(if old.isEmpty then #[none]else #[])++(old++new).map some
  have hpos:0<cand.size:=by
   by_cases ho:old.isEmpty=true
   ·simp [cand,ho];omega
   ·have:0<old.size:=by
     rcases I1 old.size with h|h
     ·exact absurd (by simpa using Ix h) ho
     ·exact h
    simp [cand,ho];omega
  have hch:∃i w',(choose (.mapNext cand.size)).run P w=.ok i w'/\i<cand.size/\Rest w w'/\w'.heap=w.heap:=by
   by_cases hf:(Question.mapNext cand.size).forced=true
   ·exact⟨0,w,by simp [hf],hpos,⟨rfl,rfl,rfl,Ee _⟩,rfl⟩
   ·refine⟨_,{w with drawn:=w.drawn+1},by rw [run_choose,if_neg hf],?_,⟨rfl,rfl,rfl,IM _⟩,rfl⟩
    simp only [Question.cut]
    exact Oi _ hpos
  obtain⟨i,w',hci,hi,hr',hh'⟩:=hch
  have hrun:(execOp a.eval ⟨dst,.next x false,ty,pos,aft,g⟩).run P w=(((match cand[i]? with
   |some (some e)=>do setObj b (.mapIter (some m) since (seen.push e.born) clock);pure (.tuple #[.bool true,e.key,e.val])
   |some none=>pure (.tuple #[.bool false])
   |none=>stuck "Next: no such candidate"):Sem Value).run P w').andThen λv w''=>.ok (.value v) w'':=by
   have h3':¬((!seen.isEmpty&& !es.isEmpty&&es.all (·.born>=last))=true):=by rw [h3];simp
   simp only [execOp,hE.opv hx,Instr.next,Sem.run_bind,hg,Result.andThen_ok,Vv h2]
   rw [if_neg h3']
   simp only [Sem.run_bind,Sem.run_pure,Result.andThen_ok]
   show(((choose (.mapNext cand.size)).run P w).andThen _).andThen _=_
   rw [hci]
   rfl
  rw [hrun]
  have hget:cand[i]?=some cand[i]:=EF hi
  have hmem:cand[i]∈cand:=Array.getElem_mem hi
  rw [hget]
  cases hc:cand[i]with
  |none=>
   refine⟨_,w',rfl,hr',?_⟩
   rw [hh']
   refine h6 λe he hs=>?_
   rw [hc]at hmem
   simp only [cand,Array.mem_append,Array.mem_map]at hmem
   rcases hmem with hmem|⟨e',_,he'⟩
   ·by_cases ho:old.isEmpty=true
    ·have hn:e∉old:=by
      have:old=#[]:=by simpa using ho
      rw [this];simp
     simp only [old,left,Of]at hn
     simp at hn
     exact hn he (by simpa using hs)
    ·simp [ho]at hmem
   ·cases he'
  |some e=>
   rw [hc]at hmem
   simp only [cand,Array.mem_append,Array.mem_map]at hmem
   have hme:e∈es/\seen.contains e.born=false:=by
    rcases hmem with hmem|⟨e',he',hee⟩
    ·by_cases ho:old.isEmpty=true
     ·simp [ho]at hmem
     ·simp [ho]at hmem
    ·simp only [Option.some.injEq]at hee
     subst hee
     rcases he' with he'|he'
     ·simp only [old,left,Of]at he'
      exact⟨he'.1.1,by simpa using he'.1.2⟩
     ·simp only [new,left,Of]at he'
      exact⟨he'.1.1,by simpa using he'.1.2⟩
   have hset:=KL6 (P:=P) (w:=w') (r:=b) (o:=.mapIter (some m) since (seen.push e.born) clock) (by rw [hh'];exact h1) (λc t f hh=>by cases hh)
   refine⟨.tuple #[.bool true,e.key,e.val],{w' with heap:=w'.heap.set! b (.mapIter (some m) since (seen.push e.born) clock)},?_,⟨hr'.os,hr'.output,hr'.tape,hr'.drawn⟩,?_⟩
   ·simp only [Sem.run_bind,hset,Result.andThen_ok,Sem.run_pure]
   ·show Q _ (w'.heap.set! _ _)
    rw [hh']
    exact h5 e hme.1 hme.2
theorem KWO {s d e:Nat} {x:Operand} {u:Sl} {r:ByteArray} (hE:Env n a l) (hx:opv l x=some u.v) (hs:P.underlying s=some (.slice e)) (hd:P.underlying d=some .string) (he:P.underlying e=some (.int .u8))
  (hc:∃ns:Eb,ns.length=u.len/\KAI w.heap u.base (ns.map λb=>Value.int .u8 (b.toNat:Int))/\r=⟨ns.toArray⟩):
  (execOp a.eval ⟨dst,.convert s d x,ty,pos,aft,g⟩).run P w=.ok (.value (.string r)) w:=by
 obtain⟨ns,h1,h2,rfl⟩:=hc
 have key:(Conv.bytesToString u.v).run P w=.ok (.string ⟨ns.toArray⟩) w:=by
  unfold Sl.v
  cases hb:u.base with
  |none=>
   rw [hb]at h2
   rcases h2 with h2|⟨b,hb',_⟩
   ·have:ns=[]:=by simpa using h2
    subst this
    simp [Conv.bytesToString];rfl
   ·cases hb'
  |some b=>
   have hl:(loadCells b u.len).run P w=.ok ((ns.map λb=>(b.toNat:Int)).map (Value.int .u8)).toArray w:=by
    rw [<-h1]
    have e:(ns.map λb=>(b.toNat:Int)).map (Value.int .u8)=ns.map λb=>Value.int .u8 (b.toNat:Int):=by rw [Ic];rfl
    rw [e]
    have:=run_loadCells_list (P:=P) (w:=w) b (ns.map λb=>Value.int .u8 (b.toNat:Int)) (λj v hj=>by
     rcases h2 with h2|⟨b',hb',hc⟩
     ·rw [h2]at hj;simp at hj
     ·rw [hb]at hb';cases hb';exact hc j v hj)
    simpa using this
   rw [run_bytesToString w b u.len u.cap _ hl]
   congr 2
   have:∀(l:Eb) (acc:ByteArray),(l.map λb=>(b.toNat:Int)).foldl (λr n=>r.push (UInt8.ofNat n.toNat)) acc=⟨acc.data++l.toArray⟩:=by
    intro l
    induction l with
    |nil=>intro acc;simp
    |cons b r ih=>
     intro acc
     simp only [Er,IB,ih]
     congr 1
     simp [ByteArray.push]
   rw [this]
   simp
 simp [execOp,hE.opv hx,convert,run_underlying hs,run_underlying hd,Sl.v]at key⊢
 simp [run_underlying he,key]
end ops
end Gx
