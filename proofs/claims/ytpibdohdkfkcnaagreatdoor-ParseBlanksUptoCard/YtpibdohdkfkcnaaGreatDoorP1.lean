/- Own library: a small logic of Lean programs over the model's heap, with the laws that tie Go code to it. No condition. -/
import Derived.Test.YtpibdohdkfkcnaaGreatDoorP0
import Derived.RangeFuncRecord
import Derived.RangeFuncLeaves
import Derived.Lib.IfaceEq
import Derived.Lib.UnsafeStr
import Derived.Laws.StructEq
import Derived.Laws.Externs
import Derived.Lib.MakeNoZero
import Derived.KernelRfl
set_option linter.unusedVariables false
set_option linter.unusedSimpArgs false
namespace Gx
open Go
section ops
variable {P:Program} {n:Frm} {a:Act} {w:World} {l:List (Nat×Value)} {dst:Option Tmp} {ty:TypeId} {pos:String} {aft:Array Edge} {g:Option (Nat×Bool)}
theorem KF8 {e sz bytes:Nat} {z:Ea} (h:((P.info? e).bind λi=>i.zero.map λv=>(i.size,i.bytes,v.cells))=some (sz,bytes,z)):∃i,P.info? e=some i/\i.size=sz/\i.bytes=bytes/\∃v,i.zero=some v/\v.cells=z:=by
 cases hi:P.info? e with
 |none=>rw [hi]at h;cases h
 |some i=>
  rw [hi]at h
  simp only [FG]at h
  cases hz:i.zero with
  |none=>rw [hz]at h;cases h
  |some v=>
   rw [hz]at h
   simp only [Og,Option.some.injEq,Prod.mk.injEq]at h
   exact⟨i,rfl,h.1,h.2.1,v,hz,h.2.2⟩
theorem KYQ {x:Operand} {v:Value} {i:Nat} {b:Bool} (hE:Env n a l) (hx:opv l x=some v) (hc:∃vs,v=.tuple vs/\vs[i]?=some (.bool b)):(execOp a.eval ⟨dst,.extract x i,ty,pos,aft,g⟩).run P w=.ok (.value (.bool b)) w:=by
 obtain⟨vs,rfl,h⟩:=hc
 exact YJ hE hx h
theorem KWP {s d:Nat} {x:Operand} {u:ByteArray} (hE:Env n a l) (hx:opv l x=some (.string u)) (hs:P.underlying s=some .string) (hd:P.underlying d=some .string):
  (execOp a.eval ⟨dst,.convert s d x,ty,pos,aft,g⟩).run P w=.ok (.value (.string u)) w:=by
 simp [execOp,hE.opv hx,convert,run_underlying hs,run_underlying hd]
theorem KYR {t ti q e:Nat} {x:Operand} {v:Value} (hE:Env n a l) (hx:opv l x=some v) (ht:P.underlying t=some (.array q e)):
  (execOp a.eval ⟨dst,.call {callee:=.builtin .len,args:=#[x],argTypes:=#[t]},ti,pos,aft,g⟩).run P w=.ok (.value (.int .i64 (q:Int))) w:=by
 simp [execOp,resolve,invoke,builtin,Builtin.len_,hE.opv hx,run_underlying ht,goInt]
theorem KZw {x y:Operand} {k k':IntKind} {u v:Int} {ts:Array TypeId} (hE:Env n a l) (hx:opv l x=some (.int k u)) (hy:opv l y=some (.int k' v)):
  (execOp a.eval ⟨dst,.call {callee:=.builtin .max,args:=#[x,y],argTypes:=ts},ty,pos,aft,g⟩).run P w=.ok (.value (.int k (iMax u v))) w:=by
 simp [execOp,resolve,invoke,builtin,Builtin.max_,Builtin.max2,hE.opv hx,hE.opv hy,iMax,List.foldlM]
theorem KWQ {s d e:Nat} {x:Operand} {u:ByteArray} {Q:Sl->Heap->Prop} (hE:Env n a l) (hx:opv l x=some (.string u)) (hs:P.underlying s=some .string) (hd:P.underlying d=some (.slice e)) (he:P.underlying e=some (.int .u8)) (H:(s2b e u).wp w.heap Q):
  ∃r w1,(execOp a.eval ⟨dst,.convert s d x,ty,pos,aft,g⟩).run P w=.ok (.value (Sl.v r)) w1/\Rest w w1/\Q r w1.heap:=by
 let cap:=(Question.appendCap u.size 0 e).cut (w.tape w.drawn (.appendCap u.size 0 e))
 have hcap:u.size<=cap:=by simp only [cap,Question.cut];omega
 have hH:=H cap hcap (cap,cap+1) rfl
 refine⟨⟨some ⟨w.heap.size,0,none⟩,u.size,cap⟩,{w with drawn:=w.drawn+1,heap:=w.heap.push (.cells ((Uj u).toArray++Array.replicate (cap - u.size) (.int .u8 0)) e (cap,cap+1))},?_,⟨rfl,rfl,rfl,IM _⟩,hH⟩
 have hl:(Uj u).length=u.size:=by simp [Uj]
 have e1:u.data.map (λ(b:UInt8)=>Value.int .u8 (b.toNat:Int))=(Uj u).toArray:=by unfold Uj;rw [<-FP,EG]
 have hsz:u.size+(cap - u.size)=cap:=by omega
 have hrun:(Conv.stringToBytes e u).run P w=.ok (.slice (some ⟨w.heap.size,0,none⟩) u.size cap) {w with drawn:=w.drawn+1,heap:=w.heap.push (.cells ((Uj u).toArray++Array.replicate (cap - u.size) (.int .u8 0)) e (cap,cap+1))}:=by
  have hf:(Question.appendCap u.size 0 e).forced=false:=rfl
  unfold Conv.stringToBytes
  simp only [Sem.run_bind,run_choose,hf,Im,IF,Result.andThen_ok]
  show(((newRow e (u.data.map (λ(b:UInt8)=>Value.int .u8 (b.toNat:Int))++Array.replicate (cap - u.size) (.int .u8 0))).run P {w with drawn:=w.drawn+1}).andThen _)=_
  rw [e1]
  simp only [newRow,Sem.run_bind,run_newObj,Result.andThen_ok,Sem.run_pure,markStringish,run_shape,World.shape?,Array.getElem?_push_size]
  simp only [Oc,IN,hl,Array.size_replicate,hsz,run_freeze,Result.andThen_ok,Sem.run_pure]
  simp only [World.freeze,Nat.add_one_ne_zero,IF]
  congr 1
  congr 1
  apply Array.ext
  ·simp
  ·intro i h1 h2
   simp only [Array.getElem_modify]
   split
   ·rename_i hi
    subst hi
    simp
   ·rename_i hne
    have hlt:i<w.heap.size:=by simp at h2;omega
    rw [OB hlt,OB hlt]
 simp [execOp,hE.opv hx,convert,run_underlying hs,run_underlying hd,he,run_underlying he,hrun,Sl.v]
def hmrk (s:Sl) (h:Heap):Heap:=match s.base with
 |some a=>match h[a.block]? with
  |some (.cells c _ _)=>h.modify a.block fun
   | .cells c' t (lo,hi)=>.cells c' t (if lo=hi then(c.size,c.size+1)else(min lo c.size,max hi (c.size+1)))
   |o=>o
  |_=>h
 |none=>h
def mrk (s:Sl):M Sl:=⟨λh Q=>∃r:Sl,(r=s/\∃a c t f,s.base=some a/\h[a.block]?=some (.cells c t f))/\Q r (hmrk s h),λhq ⟨r,hp,h⟩=>⟨r,hp,hq _ _ h⟩⟩
theorem KZx {t e:Nat} {x:Operand} {s r:Sl} (hE:Env n a l) (hx:opv l x=some s.v) (ht:P.underlying t=some (.slice e)) (he:P.underlying e=some (.int .u8)) (hc:r=s/\∃a c t f,s.base=some a/\w.heap[a.block]?=some (.cells c t f)):
  (execOp a.eval ⟨dst,.convert t t x,ty,pos,aft,g⟩).run P w=.ok (.value r.v) {w with heap:=hmrk s w.heap}:=by
 obtain⟨rfl,b,c,t',f,hb,hh⟩:=hc
 have hsh:w.shape? b.block=some (t',c.size):=by simp only [World.shape?,hh]
 simp only [hmrk,hb,hh]
 simp [execOp,hE.opv hx,convert,run_underlying ht,run_underlying he,Sl.v,hb,markStringish,hsh,World.freeze]
 rfl
theorem KYS {x:Operand} {v r:Value} (hE:Env n a l) (hx:opv l x=some r) (hc:r=v/\v≠.nilFunc/\v≠.nilIface/\v≠.pointer none/\∀n x y,v≠.func (.method n) x y):(execOp a.eval ⟨dst,.nilCheck x,ty,pos,aft,g⟩).run P w=.ok (.value r) w:=by
 obtain⟨rfl,h1,h2,h3,h4⟩:=hc
 cases r with
 |func fn x y=>cases fn<;>first|exact absurd rfl (h4 _ _ _)|simp [execOp,hE.opv hx]
 |pointer p=>cases p<;>first|exact absurd rfl h3|simp [execOp,hE.opv hx]
 |nilFunc=>exact absurd rfl h1
 |nilIface=>exact absurd rfl h2
 |_=>simp [execOp,hE.opv hx]
theorem KF9 {fn:Fn} {cs:Array Operand} {vs:List Value} (hE:Env n a l) (h:opvs l cs.toList=some vs):(execOp a.eval ⟨dst,.makeFunc fn #[] cs,ty,pos,aft,g⟩).run P w=.ok (.value (.func fn #[] vs.toArray)) w:=by
 have h1:cs.map a.eval=vs.toArray:=by
  have:=hE.opvs h
  rw [<-this,<-FP,EG]
 simp [execOp,Instr.makeFunc,h1]
def Inv (P:Program) (v:Value) (args:List Value) (w:World) (R:Ending->World->Prop):Prop:=
 (∃(f:FuncId) (cap:Ea),v=.func (.func f) #[] cap/\Callee? P f/\Calls P f (args.toArray++cap) w R)\/
 (∃(l:Nat) (r:Loop),v=.func (.yield l) #[] #[]/\w.heap[l]?=some (.loop r)/\args.length=r.params.size/\
  RoundIn (Fw none) 1 P l r.fn ((r.params.zip args.toArray).foldl (λtmps (t,a)=>tmps.setIfInBounds t a) r.tmps) r.assign r.body w R)
theorem Inv.mono {P:Program} {v:Value} {args:List Value} {w:World} {R R':Ending->World->Prop} (h:Inv P v args w R) (hr:∀e w',R e w'->R' e w'):Inv P v args w R':=by
 rcases h with⟨f,cap,h1,h2,h3⟩|⟨l,r,h1,h2,h3,h4⟩
 ·exact .inl ⟨f,cap,h1,h2,h3.mono hr⟩
 ·exact .inr ⟨l,r,h1,h2,h3,h4.mono hr⟩
def qq (P:Program) {ρ:Type} (enc:ρ->Value) (v:Value) (args:List Value):M ρ:=
 ⟨λh Q=>∀w:World,w.heap=h->Inv P v args w (λe w'=>∃r,e=.returned (enc r)/\Q r w'.heap/\Rest w w'),
  λhq h w hw=>(h w hw).mono λ_ _ ⟨r,h1,h2,h3⟩=>⟨r,h1,hq _ _ h2,h3⟩⟩
theorem KKS {P:Program} {ρ:Type} {enc:ρ->Value} {f:FuncId} {cap:Ea} {args:List Value} {F:M ρ} {h:Heap} {Q:ρ->Heap->Prop} (hc:Callee? P f) (hS:KY P f (args.toArray++cap) enc F) (H:F.wp h Q):
  (qq P enc (.func (.func f) #[] cap) args).wp h Q:=λw hw=>.inl ⟨f,cap,rfl,hc,hS w Q (hw▸H)⟩
end ops
section steps
variable {ro:Option Nat} {P:Program} {ops:Array Oper} {K:Act->World->Prop} {X:Nat->Act->World->Prop} {R:Act->World->Prop} {n:Frm} {a:Act} {w w0:World} {l:List (Nat×Value)} {rest:List Oper}
theorem KKT {dst:Option Tmp} {f:FuncId} {cap:Ea} {x:Operand} {as:Array Operand} {ts:Array TypeId} {ty:TypeId} {pos:String} {aft:Array Edge} {g:Option (Nat×Bool)} {vs:List Value} (hE:Env n a l) (hx:opv l x=some (.func (.func f) #[] cap)) (hc:Callee? P f) (ha:opvs l as.toList=some vs):
  (execOp a.eval ⟨dst,.call {callee:=.value x,args:=as,argTypes:=ts},ty,pos,aft,g⟩).run P w=.ok (.enter f (vs.toArray++cap)) w:=by
 have h1:as.map a.eval=vs.toArray:=by
  have:=hE.opvs ha
  rw [<-this,<-FP,EG]
 have h2:=hc (vs.toArray++cap) w
 simp [execOp,resolve,Deferred.ofValue,invoke,hE.opv hx,h1,h2]
theorem KTi {dst:Option Tmp} {lp:Nat} {r:Loop} {x:Operand} {as:Array Operand} {ts:Array TypeId} {ty:TypeId} {pos:String} {aft:Array Edge} {g:Option (Nat×Bool)} {vs:List Value} (hE:Env n a l) (hx:opv l x=some (.func (.yield lp) #[] #[])) (hl:w.heap[lp]?=some (.loop r)) (hs:vs.length=r.params.size) (ha:opvs l as.toList=some vs):
  (execOp a.eval ⟨dst,.call {callee:=.value x,args:=as,argTypes:=ts},ty,pos,aft,g⟩).run P w=.ok (.round lp r.fn ((r.params.zip vs.toArray).foldl (λtmps (t,a)=>tmps.setIfInBounds t a) r.tmps) r.assign r.body) w:=by
 have h1:as.map a.eval=vs.toArray:=by
  have:=hE.opvs ha
  rw [<-this,<-FP,EG]
 have h2:=run_yield (P:=P) (args:=vs.toArray) hl (by simpa using hs)
 simp [execOp,resolve,Deferred.ofValue,invoke,hE.opv hx,h1,h2]
theorem KWR {d:Option Nat} {x:Operand} {as:Array Operand} {ts:Array TypeId} {ty:TypeId} {pos:String} {aft:Array Edge} {v:Value} {vs:List Value} {ρ:Type} {enc:ρ->Value} {Q:ρ->Heap->Prop}
  (hE:Env n a l) (hR:Rest w0 w) (hx:opv l x=some v) (ha:opvs l as.toList=some vs) (H:(qq P enc v vs).wp w.heap Q)
  (h:∀r a' w',a'=a.put d (enc r)->Rest w0 w'->Q r w'.heap->wpListIn (Fw ro) 1 P ops (Ps K X R) rest a' w'):
  wpListIn (Fw ro) 1 P ops (Ps K X R) (⟨d,.call {callee:=.value x,args:=as,argTypes:=ts},ty,pos,aft,none⟩::rest) a w:=by
 rcases H w rfl with⟨f,cap,rfl,hc,hC⟩|⟨lp,r,rfl,hl,hs,hC⟩
 ·refine wpListIn_plain rfl λK' hK=>⟨λ_ _=>trivial,?_⟩
  rw [KEY (KKT hE hx hc ha) (λd h=>by cases h),Oper.uponIn_enter]
  refine⟨λ_=>Ee 1,Gk (hC.mono ?_)⟩
  rintro e w' ⟨r,rfl,hq,hr⟩
  exact hK _ _ (h r _ w' rfl (hR.trans hr) hq)
 ·refine wpListIn_plain rfl λK' hK=>⟨λ_ _=>trivial,?_⟩
  rw [KEY (KTi hE hx hl hs ha) (λd h=>by cases h),Oper.uponIn_round]
  have hC':RoundIn (Fw ro) (1 - 1) P lp r.fn ((r.params.zip vs.toArray).foldl (λtmps (t,a)=>tmps.setIfInBounds t a) r.tmps) r.assign r.body w _:=⟨trivial,λc cs _=>hC.2 c cs (KOr _)⟩
  refine⟨λ_=>Ee 1,hC'.mono ?_⟩
  rintro e w' ⟨r,rfl,hq,hr⟩
  exact hK _ _ (h r _ w' rfl (hR.trans hr) hq)
end steps
end Gx
namespace Gx
open Go
def slL3 (s:Sl) (lo hi mx:Int) (sz:Nat):M Sl:=.get λ_ r=>0<=lo/\lo<=hi/\hi<=mx/\mx<=s.cap/\r=⟨if mx.toNat=lo.toNat then s.base else s.base.map (·.add (lo.toNat*sz)),hi.toNat - lo.toNat,mx.toNat - lo.toNat⟩
def apM (e sz bytes:Nat) (z:Ea) (s:Sl) (n:Int):M Sl:=
 ⟨λh Q=>0<=n/\n*bytes<=140737488355328/\n<=9223372036854775807/\∃news:List Value,news=(zRow z (n.toNat*z.size)).toList/\apGo e sz bytes z s n.toNat news h Q,
  λhq ⟨h1,h2,h3,news,h4,h5⟩=>⟨h1,h2,h3,news,h4,KHt hq h5⟩⟩
section
variable {P:Program} {n:Frm} {a:Act} {w:World} {l:List (Nat×Value)} {dst:Option Tmp} {ty:TypeId} {pos:String} {aft:Array Edge} {g:Option (Nat×Bool)}
theorem KWS {b:Bool} {len cap:Nat} {k k' k'':IntKind} {lo hi mx:Int} (h0:0<=lo) (h1:lo<=hi) (h2:hi<=mx) (h3:mx<=cap):(Instr.sliceBounds b len cap (some (.int k lo)) (some (.int k' hi)) (some (.int k'' mx))).run P w=.ok (lo.toNat,hi.toNat,mx.toNat) w:=by
 have e:lo<=((hi.toNat:Nat):Int):=by omega
 have e2:hi<=((mx.toNat:Nat):Int):=by omega
 simp [Instr.sliceBounds,KKP rfl (by omega:0<=mx) h3,KKP rfl (by omega:0<=hi) e2,KKP rfl h0 e]
theorem KRN {t e m:Nat} {x y z u:Operand} {s:Sl} {k k' k'':IntKind} {lo hi mx:Int} {r:Sl} (hE:Env n a l) (hx:opv l x=some s.v) (hy:opv l y=some (.int k lo)) (hz:opv l z=some (.int k' hi)) (hu:opv l u=some (.int k'' mx)) (ht:P.underlying t=some (.slice e)) (hm:szB P e m=true)
  (hc:0<=lo/\lo<=hi/\hi<=mx/\mx<=s.cap/\r=⟨if mx.toNat=lo.toNat then s.base else s.base.map (·.add (lo.toNat*m)),hi.toNat - lo.toNat,mx.toNat - lo.toNat⟩):
  (execOp a.eval ⟨dst,.slice t x (some y) (some z) (some u),ty,pos,aft,g⟩).run P w=.ok (.value r.v) w:=by
 obtain⟨h0,h1,h2,h3,rfl⟩:=hc
 simp [execOp,hE.opv hx,hE.opv hy,hE.opv hz,hE.opv hu,Instr.sliceAt,Instr.slice,run_underlying ht,KWS h0 h1 h2 h3,Jl hm,Sl.v]
theorem KWT {t ti e sz bytes:Nat} {z:Ea} {x y:Operand} {s:Sl} {m:Int} {Q:Sl->Heap->Prop} (hE:Env n a l) (hx:opv l x=some s.v) (hy:opv l y=some (.int .i64 m)) (hP:apB P t e sz bytes z) (hti:P.underlying ti=some (.int .i64)) (hzs:z.size=sz) (H:(apM e sz bytes z s m).wp w.heap Q):
  ∃r w1,(execOp a.eval ⟨dst,.call {callee:=.builtin .append,args:=#[x,y],argTypes:=#[t,ti]},ty,pos,aft,g⟩).run P w=.ok (.value (Sl.v r)) w1/\Rest w w1/\Q r w1.heap:=by
 obtain⟨hm0,hm1,hm2,news,hnews,H⟩:=H
 obtain⟨ht,i,hi,rfl,rfl,v,hv,rfl⟩:=hP
 have hwr:IntKind.i64.wrap m=m:=by simp [IntKind.wrap,IntKind.bits,IntKind.signed];omega
 have hl0:¬m<0:=by omega
 have hl1:¬(m*(i.bytes:Int)>2^48):=by
  have e:(2:Int)^48=281474976710656:=by decide
  rw [e];omega
 have hl1':¬((281474976710656:Int)<m*(i.bytes:Int)):=by omega
 have hzv:∀w':World,(zeroValue e).run P w'=.ok v w':=λw'=>by simp [zeroValue,typeInfo,hi,hv]
 have hzc:Builtin.zeroCells v.cells m.toNat=news.toArray:=by
  subst hnews
  simp only [Builtin.zeroCells,zRow]
  apply Iw;simp
 have hn0:m.toNat*i.size=0->news=[]:=λh0=>by
  subst hnews
  rw [hzs,h0]
  rfl
 suffices hh:∃r w1,(Builtin.append_ #[t,ti] ty #[s.v,.int .i64 m]).run P w=.ok (Sl.v r) w1/\Rest w w1/\Q r w1.heap by
  obtain⟨r,w1,hr,hrest,hq⟩:=hh
  exact⟨r,w1,by simp [execOp,resolve,invoke,builtin,hE.opv hx,hE.opv hy,hr],hrest,hq⟩
 unfold apGo at H
 split at H
 ·rename_i hc
  obtain⟨h1,h2,h3⟩:=H
  refine⟨⟨s.base,s.len+m.toNat,s.cap⟩,{w with heap:=zc w.heap s.base (s.len*i.size) news},?_,⟨rfl,rfl,rfl,Ee _⟩,h3⟩
  simp only [Builtin.append_,Sl.v]
  cases hb:s.base with
  |none=>
   by_cases h0:m.toNat*i.size=0
   ·have:=hn0 h0
    subst this
    simp [run_underlying ht,run_underlying hti,Go.sizeOf,typeInfo,hi,hc,asInt,hwr,hl0,hl1',zc,asIntOf,h0]
   ·simp [run_underlying ht,run_underlying hti,Go.sizeOf,typeInfo,hi,hc,asInt,hwr,hl0,hl1',zc,asIntOf,h0,hzv,hzc]
  |some b=>
   have hp:(storeCells (b.add (s.len*i.size)) news).run P w=.ok () {w with heap:=zc w.heap (some b) (s.len*i.size) news}:=by
    rw [hb]at h1
    exact KO0 (b:=some b) h1 h2
   by_cases h0:m.toNat*i.size=0
   ·have:=hn0 h0
    subst this
    simp [run_underlying ht,run_underlying hti,Go.sizeOf,typeInfo,hi,hc,asInt,asIntOf,hwr,hl0,hl1',h0,hp]
   ·simp [run_underlying ht,run_underlying hti,Go.sizeOf,typeInfo,hi,hc,asInt,asIntOf,hwr,hl0,hl1',h0,hp,hzv,hzc]
 ·rename_i hc
  obtain⟨h1,h2,olds,h3,h4,h5⟩:=H
  have hlt:s.cap<s.len+m.toNat:=by omega
  have hfit:=growslice_fits hlt h1
  have h48':¬(281474976710656<Builtin.nextslicecap (s.len+m.toNat) s.cap*i.bytes):=by omega
  have hcap:s.len+m.toNat<=grownCap w (s.len+m.toNat) s.cap e:=by unfold grownCap;simp only [Question.cut];omega
  refine⟨⟨some ⟨w.heap.size,0,none⟩,s.len+m.toNat,grownCap w (s.len+m.toNat) s.cap e⟩,{w with drawn:=w.drawn+1,heap:=w.heap.push (.cells (olds.toArray++news.toArray++zRow v.cells ((grownCap w (s.len+m.toNat) s.cap e - (s.len+m.toNat))*v.cells.size)) e)},?_,⟨rfl,rfl,rfl,IM _⟩,h5 _ hcap⟩
  have ho:=KEf (P:=P) (w:=w.drew) (sz:=i.size) (k:=s.len) (s:=s) h3 h4
  have hd':({w with drawn:=w.drawn+1}:World)=w.drew:=rfl
  have hmax:¬((9223372036854775807:Int)<(s.len:Int)+(m.toNat:Int)):=by omega
  have hmax':¬((9223372036854775807:Int)<(s.len:Int)+max m 0):=by omega
  simp only [Builtin.append_,Sl.v]at ho⊢
  by_cases h0:m.toNat*i.size=0
  ·have:=hn0 h0
   subst this
   simp [run_underlying ht,run_underlying hti,Go.sizeOf,typeInfo,hi,hc,hmax,hmax',h48',Question.forced,hd',ho,hzv,hzc,h0,hv,newRow,grownCap,asInt,asIntOf,hwr,hl0,hl1']
   simp [Builtin.zeroCells,KC7]
   rfl
  ·simp [run_underlying ht,run_underlying hti,Go.sizeOf,typeInfo,hi,hc,hmax,hmax',h48',Question.forced,hd',ho,hzv,hzc,h0,hv,newRow,grownCap,asInt,asIntOf,hwr,hl0,hl1']
   simp [Builtin.zeroCells,KC7]
   rw [<-Array.append_assoc,show olds.toArray++news.toArray=(olds++news).toArray from by simp]
   rfl
end
def KAJ (r:Loop) (s:LoopState) (p:Option Code):Obj:=.loop {r with state:=s,pending:=p}
def jat (js:List Code):Nat->Option Code
 |0=>none
 |k+1=>js[k]?
def beg (l:Nat):M Unit:=⟨λh Q=>∃r:Loop,h[l]?=some (.loop r)/\r.state=.ready/\Q () (h.setIfInBounds l (.loop {r with state:=.busy})),λhq ⟨r,h1,h2,h3⟩=>⟨r,h1,h2,hq _ _ h3⟩⟩
def yV (l:Nat):Value:=.func (.yield l) #[] #[]
def KTj (r:Loop) (l:Nat) (js:List Code) (Q:Bool->Heap->Prop) (j:Nat) (h:Heap):Prop:=
 ∃s p,h[l]?=some (KAJ r s p)/\Q (jat js j).isNone (h.setIfInBounds l (KAJ r (if(jat js j).isNone then .ready else .done) (jat js j)))
def KWU (r:Loop) (l:Nat) (js:List Code) (Q:Nat->Heap->Prop) (h:Heap):Prop:=
 ∃s j,s≠LoopState.busy/\h[l]?=some (KAJ r s (jat js j))/\Q j (h.setIfInBounds l (KAJ r .exhausted (jat js j)))
def KO1 (P:Program) {α:Type} (enc:α->List Value) (js:List Code) (Y:Nat->α->M Nat) (r:Loop) (l:Nat):Prop:=
 ∀x h (Q:Bool->Heap->Prop) s p,h[l]?=some (KAJ r s p)->(Y l x).wp h (KTj r l js Q)->(qq P (λb:Bool=>.bool b) (yV l) (enc x)).wp h Q
def rgF (P:Program) {α:Type} (enc:α->List Value) (js:List Code) (Y:Nat->α->M Nat) (g:Value):M (Nat×Nat):=
 ⟨λh Q=>(∀l,g≠.func (.yield l) #[] #[])/\∀r:Loop,KO1 P enc js Y r (h.size+1)->
   (qq P (λ_:Unit=>.tuple #[]) g [yV (h.size+1)]).wp ((h.push (.deferred (some []))).push (KAJ r .ready none)) (λ_ h3=>KWU r (h.size+1) js (λj h4=>Q (j,h.size) h4) h3),
  λhq H=>⟨H.1,λr hr=>(qq P _ _ _).mono (λ_ h3 ⟨s,j,h1,h2,h3⟩=>⟨s,j,h1,h2,hq _ _ h3⟩) (H.2 r hr)⟩⟩
def shut:List Nat->M Unit
 | []=>M.pure ()
 |b::r=>⟨λh Q=>h[b]?=some (.deferred (some []))/\(shut r).wp (h.setIfInBounds b (.deferred none)) Q,λhq H=>⟨H.1,(shut r).mono hq H.2⟩⟩
section
variable {ro:Option Nat} {P:Program} {K:Act->World->Prop} {X:Nat->Act->World->Prop} {R:Act->World->Prop} {n:Frm} {a:Act} {w w0:World} {l:List (Nat×Value)}
theorem KZy {β:Type} {lp:Nat} {f:Unit->M β} {Q:β->Heap->Prop} {B:World->Prop} (hR:Rest w0 w) (H:(beg lp>>=f).wp w.heap Q) (h:∀w',Rest w0 w'->(f ()).wp w'.heap Q->B w'):
  ∃w2,(Instr.beginRound lp).run P w=.ok () w2/\B w2:=by
 obtain⟨r,h1,h2,h3⟩:=H
 exact⟨_,run_beginRound h1 h2,h _ (hR.trans ⟨rfl,rfl,rfl,Ee _⟩) h3⟩
def jgo (ro:Option Nat) (P:Program) (N:Act->World->Prop) (Z:Exit->Act->World->Prop):List Code->Nat->Act->World->Prop
 | [],_,a,w=>N a w
 |c::cs,j,a,w=>if j=1 then c.wpIn (Fw ro) 1 P Z a w else jgo ro P N Z cs (j - 1) a w
theorem KTk {N:Act->World->Prop} {Z:Exit->Act->World->Prop} {c:Code} {cs:List Code} {j:Nat} (h1:j=1->c.wpIn (Fw ro) 1 P Z a w) (h2:¬j=1->jgo ro P N Z cs (j - 1) a w):jgo ro P N Z (c::cs) j a w:=by
 unfold jgo
 split
 ·exact h1 ‹_›
 ·exact h2 ‹_›
theorem KWV {N:Act->World->Prop} {Z:Exit->Act->World->Prop} {j:Nat} (h:N a w):jgo ro P N Z [] j a w:=h
theorem KVT {N:Act->World->Prop} {Z:Exit->Act->World->Prop}:∀{js:List Code} {j:Nat},jgo ro P N Z js j a w->match jat js j with|none=>N a w|some c=>c.wpIn (Fw ro) 1 P Z a w
 |js,0,h=>by
  show N a w
  induction js with
  |nil=>exact h
  |cons c cs ih=>exact ih (by unfold jgo at h;simpa using h)
 | [],j+1,h=>by simpa [jat,jgo] using h
 |c::cs,1,h=>by
  have:c.wpIn (Fw ro) 1 P Z a w:=by unfold jgo at h;simpa using h
  simpa [jat] using this
 |c::cs,j+2,h=>by
  have h':jgo ro P N Z cs (j+1) a w:=by unfold jgo at h;simpa using h
  have:=KVT h'
  simpa [jat] using this
def zipl:List Tmp->List Value->List (Nat×Value)->List (Nat×Value)
 |t::ts,v::vs,l=>zipl ts vs ((t,v)::l)
 |_,_,l=>l
theorem KRO:∀(ps:List Tmp) (vs:List Value) {a:Act} {l:List (Nat×Value)},Env n a l->(ps.all λt=>Nat.blt t n.size)=true->Env n {a with tmps:=(ps.zip vs).foldl (λt p=>t.setIfInBounds p.1 p.2) a.tmps} (zipl ps vs l)
 | [],vs,a,l,hE,_=>by simpa [zipl] using hE
 |t::ts,[],a,l,hE,_=>by simpa [zipl] using hE
 |t::ts,v::vs,a,l,hE,h=>by
  simp only [EX,Eg]at h
  have:=KRO ts vs (hE.put t v h.1) h.2
  simpa [zipl,Act.put] using this
abbrev Xr (js:List Code) (Rr:Nat->Act->World->Prop):Nat->Act->World->Prop:=λid a w=>bif Nat.beq pid id then False else ∃k,js[k]?=some (.exit id)/\Rr (k+1) a w
abbrev Rr' (js:List Code) (Rr:Nat->Act->World->Prop):Act->World->Prop:=λa w=>∃k,js[k]?=some .ret/\Rr (k+1) a w
theorem KTl {lp:Nat} {fn:FuncId} {tmps:Ea} {ps:Array Tmp} {assign body:Code} {D:Nat} {js:List Code} {α:Type} {enc:α->List Value} {Y:Nat->α->M Nat}
  (hps:∀x,(enc x).length=ps.size)
  (hround:∀(lp:Nat) (x:α) (Q:Nat->Heap->Prop) (w0:World) (Rr:Nat->Act->World->Prop) (hfin:∀j a w,Rest w0 w->Q j w.heap->Rr j a w),(Y lp x).wp w0.heap Q->
   assign.wpIn (Fw (some lp)) 1 P (Ps (λa1 w1=>∃w2,(Instr.beginRound lp).run P w1=.ok () w2/\body.wpIn (Fw (some lp)) 1 P (Ps (Rr 0) (Xr js Rr) (Rr' js Rr)) a1 w2) X0 (λ_ _=>False))
    {tmps:=(ps.zip (enc x).toArray).foldl (λt p=>t.setIfInBounds p.1 p.2) tmps,defers:=[]} w0):
  KO1 P enc js Y {state:=.ready,pending:=none,fn:=fn,tmps:=tmps,params:=ps,assign:=assign,body:=body,defers:=D} lp:=by
 intro x h Q s p hl hY w hw
 subst hw
 refine .inr ⟨lp,_,rfl,hl,hps x,roundIn_of_wpIn trivial ?_⟩
 refine wpIn_mono (hround lp x _ w (λj a w'=>∃v w'',(Instr.endRound lp (jat js j)).run P w'=.ok v w''/\∃r,Ending.returned v=.returned (.bool r)/\Q r w''.heap/\Rest w w'') ?_ hY) ?_
 ·rintro j a w' hR ⟨s,p,h1,h2⟩
  exact⟨_,_,run_endRound _ h1,_,rfl,h2,hR.trans ⟨rfl,rfl,rfl,Ee _⟩⟩
 ·intro e a w' hh
  cases e with
  |normal=>
   obtain⟨w2,h1,h2⟩:=hh
   refine⟨w2,h1,wpIn_mono h2 ?_⟩
   intro e a w' hh
   cases e with
   |normal=>exact hh
   |ret=>
    obtain⟨k,hk,hh⟩:=hh
    have:jat js (k+1)=some .ret:=hk
    rw [this]at hh
    exact hh
   |exit id=>
    obtain⟨h0,hh⟩:=hh
    unfold Xr at hh
    rw [h0]at hh
    dsimp only [cond_false]at hh
    obtain⟨k,hk,hh⟩:=hh
    have:jat js (k+1)=some (.exit id):=hk
    rw [this]at hh
    exact hh
   |goto t=>exact False.elim hh
   |panic c=>obtain⟨_,_,hh⟩:=hh;exact False.elim hh
   |outgrown=>exact hh
  |panic c=>obtain⟨_,_,hh⟩:=hh;exact False.elim hh
  |exit id=>exact False.elim hh.2
  |_=>exact hh
theorem KNv {lp:Nat} {g:Value} {w:World} {Q:Unit->Heap->Prop} (hg:∀l,g≠.func (.yield l) #[] #[]) (H:(qq P (λ_:Unit=>.tuple #[]) g [yV lp]).wp w.heap Q):
  ∃f cap,g=.func (.func f) #[] cap/\Callee? P f/\Calls P f (#[yV lp]++cap) w (λe w'=>∃r,e=.returned (.tuple #[])/\Q r w'.heap/\Rest w w'):=by
 rcases H w rfl with⟨f,cap,h1,h2,h3⟩|⟨l,r,h1,_⟩
 ·exact⟨f,cap,h1,h2,h3⟩
 ·exact absurd h1 (hg l)
theorem KTm {gv:Value} {g:Operand} {ps:Array Tmp} {assign body:Code} {js:List Code} {α:Type} {enc:α->List Value} {Y:Nat->α->M Nat} {Q:Nat×Nat->Heap->Prop}
  (hE:Env n a l) (hR:Rest w0 w) (hg:opv l g=some gv) (hps:∀x,(enc x).length=ps.size) (hpl:(ps.toList.all λt=>Nat.blt t n.size)=true) (H:(rgF P enc js Y gv).wp w.heap Q)
  (hround:∀(lp:Nat) (x:α) (Q:Nat->Heap->Prop) (w0:World) (Rr:Nat->Act->World->Prop) (hfin:∀j a w,Rest w0 w->Q j w.heap->Rr j a w) (a:Act) (w:World),Env ⟨n.size,[]⟩ a (zipl ps.toList (enc x) l)->Rest w0 w->(Y lp x).wp w.heap Q->
   assign.wpIn (Fw (some lp)) 1 P (Ps (λa1 w1=>∃w2,(Instr.beginRound lp).run P w1=.ok () w2/\body.wpIn (Fw (some lp)) 1 P (Ps (Rr 0) (Xr js Rr) (Rr' js Rr)) a1 w2) X0 (λ_ _=>False)) a w)
  (h:∀(x:Nat×Nat) a w,Env ⟨n.size,x.2::n.marks⟩ a l->Rest w0 w->Q x w.heap->jgo none P K (Ps K X R) js x.1 a w):
  (Code.rangeFunc g ps assign body).wpIn (Fw none) 1 P (Ps K X R) a w:=by
 refine wpIn_rangeFunc ?_
 intro fn hfn
 let r0:Loop:={state:=.ready,pending:=none,fn:=fn,tmps:=a.tmps,params:=ps,assign:=assign,body:=body,defers:=w.heap.size}
 have hRo:KO1 P enc js Y r0 (w.heap.size+1):=KTl hps (λlp x Q w1 Rr hfin hY=>by
  have hE0:Env ⟨n.size,[]⟩ {tmps:=a.tmps,defers:=[]} l:=⟨hE.size,rfl,hE.at_⟩
  have:=hround lp x Q w1 Rr hfin _ w1 (KRO ps.toList (enc x) hE0 hpl) (Rest.refl _) hY
  have e:(ps.zip (enc x).toArray).foldl (λt p=>t.setIfInBounds p.1 p.2) a.tmps=(ps.toList.zip (enc x)).foldl (λt p=>t.setIfInBounds p.1 p.2) a.tmps:=by
   rw [<-Array.foldl_toList];simp
  rw [e]
  exact this)
 obtain⟨f,cap,rfl,hc,hC⟩:=KNv (w:=(w.alloc (.deferred (some []))).alloc (.loop r0)) H.1 (H.2 r0 hRo)
 refine⟨w.heap.size+1,[KTL w.heap.size],(w.alloc (.deferred (some []))).alloc (.loop r0),{target:=.fn (.func f) cap,args:=#[yV (w.heap.size+1)]},(w.alloc (.deferred (some []))).alloc (.loop r0),f,#[yV (w.heap.size+1)]++cap,(w.alloc (.deferred (some []))).alloc (.loop r0),?_,?_,?_,?_,λ_=>Ee 1,?_⟩
 ·exact run_enterLoop_outer _ _ _ _ _
 ·simp only [resolve,hE.opv hg]
  simp [Deferred.ofValue,yV,Act.eval]
 ·intro f' _;trivial
 ·have:=hc (#[yV (w.heap.size+1)]++cap) ((w.alloc (.deferred (some []))).alloc (.loop r0))
  simp [invoke,this]
 ·refine Gk (hC.mono ?_)
  rintro e w' ⟨_,rfl,⟨s,j,h1,h2,h3⟩,hr⟩
  have hend:=run_endLoop (P:=P) h2 (by simpa using h1)
  have hj:=KVT (h (j,w.heap.size) {a with defers:=KTL w.heap.size::a.defers} (w'.putObj (w.heap.size+1) (KAJ r0 .exhausted (jat js j))) ⟨hE.size,by simp [hE.defers],hE.at_⟩ (hR.trans ⟨hr.os,hr.output,hr.tape,hr.drawn⟩) h3)
  exact⟨_,_,hend,hj⟩
end
theorem KHw {P:Program} {fn:Func} {tmps:Ea} {Q:Heap->Prop} {w0:World} {R:Ending->World->Prop}:∀(m:List Nat) {w:World},
  Rest w0 w->(shut m).wp w.heap (λ_ h=>Q h)->(∀w,Rest w0 w->Q w.heap->∃v,(results fn tmps).run P w=.ok v w/\R (.returned v) w)->LeavesInM (Fw none) 1 P fn tmps R (m.map KTL) .returning w
 | [],w,hR,hs,h=>h w hR hs
 |b::r,w,hR,hs,h=>⟨by simp,.inl ⟨b,_,rfl,run_takeDeferred hs.1,KHw (w:=w.putObj b (.deferred none)) r (hR.trans ⟨rfl,rfl,rfl,Ee _⟩) hs.2 h⟩⟩
theorem KRP {P:Program} {f:FuncId} {fn:Func} {c:Code} {args:Ea} {ρ:Type} {enc:ρ->Value} {F:M ρ} {n:Nat} (l:List (Nat×Value))
  (hf:P.funcs[f]?=some fn) (hb:fn.body=some c) (hn:fn.ntmps=n) (hs:args.size<=n) (hl:∀d v,look l d=some v->args[d]?=some v)
  (h:∀(w0 w:World) (Q:ρ->Heap->Prop) (R:Act->World->Prop) (a:Act),
   (∀(m:List Nat) a w l (Q1:Heap->Prop),Env ⟨n,m⟩ a l->Rest w0 w->(shut m).wp w.heap (λ_ h=>Q1 h)->
    (∀w,Rest w0 w->Q1 w.heap->∃r v,(results fn a.tmps).run P w=.ok v w/\v=enc r/\Q r w.heap)->R a w)->
   Env ⟨n,[]⟩ a l->Rest w0 w->F.wp w.heap Q->c.wpIn (Fw none) 1 P (Ps R X0 R) a w):KY P f args enc F:=by
 intro w Q hF
 refine(callsIn_wide (n:=1)).1 (callsIn_of_wp_marks hf hb trivial ?_)
 refine wpIn_mono (h w w Q (λa w'=>LeavesInM (Fw none) 1 P fn a.tmps (λe w'=>∃r,e=.returned (enc r)/\Q r w'.heap/\Rest w w') a.defers .returning w') _ ?_ (hn▸Env.enter args l (hn▸hs) hl) (Rest.refl w) hF) ?_
 ·intro m a w' l Q1 hE hR hsh hret
  rw [hE.defers]
  refine KHw m hR hsh (λw2 hR2 hQ2=>?_)
  obtain⟨r,v,h1,rfl,h3⟩:=hret w2 hR2 hQ2
  exact⟨_,h1,r,rfl,h3,hR2⟩
 ·intro e a w' hh
  cases e with
  |normal=>exact hh
  |ret=>exact hh
  |exit i=>exact hh.2.elim
  |goto l=>exact hh.elim
  |panic c=>obtain⟨_,_,hh⟩:=hh;exact hh.elim
  |outgrown=>exact hh.elim
end Gx
namespace Gx
open Go Gx.Last
def niB (P:Program) (t:TypeId):Bool:=match P.underlying t with
 |some (.interface _)=>false
 |some _=>true
 |none=>false
section
variable {ro:Option Nat} {P:Program} {ops:Array Oper} {K:Act->World->Prop} {X:Nat->Act->World->Prop} {R:Act->World->Prop} {n:Frm} {a:Act} {w w0:World} {l:List (Nat×Value)} {rest:List Oper} {S:World->Prop} {ds:List Nat} {fuel:Nat} {b b':Array Bool} {i:Nat} {E C W:List (List Nat)}
theorem KHx {t:TypeId} {x:Operand} {v:Value} {dst:Option Tmp} {ty:TypeId} {pos:String} {aft:Array Edge} {g:Option (Nat×Bool)} (hE:Env n a l) (hx:opv l x=some v) (ht:niB P t=true):(execOp a.eval ⟨dst,.makeInterface t x,ty,pos,aft,g⟩).run P w=.ok (.value (.iface t v)) w:=by
 unfold niB at ht
 cases hu:P.underlying t with
 |none=>rw [hu]at ht;cases ht
 |some d=>
  rw [hu]at ht
  cases d<;>first|(cases ht;done)|simp [execOp,Instr.makeInterface,run_underlying hu,hE.opv hx]
theorem KWW {t:TypeId} {x:Operand} {v:Value} {dst:Option Tmp} {ty:TypeId} {pos:String} {aft:Array Edge} {g:Option (Nat×Bool)} (hE:Env n a l) (hx:opv l x=some (.iface t v)):(execOp a.eval ⟨dst,.panic x,ty,pos,aft,g⟩).run P w=.halt (.panic (.iface t v)) w:=by
 simp [execOp,Instr.panic,hE.opv hx,goPanic]
theorem KRQ {d:Option Nat} {x:Operand} {ty:TypeId} {pos:String} {aft:Array Edge} {t:TypeId} {v:Value} {m:Nat} (hE:Env ⟨m,[]⟩ a l) (hx:opv l x=some (.iface t v)) (h:X pid {tmps:=#[.iface t v],defers:=[]} w):
  wpListIn (Fw ro) 1 P ops (Ps K X R) (⟨d,.panic x,ty,pos,aft,none⟩::rest) a w:=by
 refine wpListIn_plain rfl λK' hK=>⟨λ_ _=>trivial,?_⟩
 rw [show(Fw ro).round=ro from rfl,Oper.semAt_eq _ _ _ (λc hc=>by cases hc),KWW hE hx,Oper.uponIn_panic]
 exact⟨_,rfl,by rw [hE.defers];exact h⟩
theorem KYT {Q:Exit->Act->World->Prop} {oi:Oper} {N:Option Tmp} {a:Act} {w:World} {K:Act->World->Prop} (f:FuncId) (args:Ea) (hw:Region.wanted oi (yielded ops a.tmps)=true) (hN:oi.dst=N) (hrun:(execOp a.eval oi).run P w=.ok (.enter f args) w)
  (h:Calls P f args w λe w'=>(∃v,e=.returned v/\K (a.put N v) w')\/∃c,e=.panicked c/\Q (.panic c) a w'):if Region.wanted oi (yielded ops a.tmps)=true then Oper.wp P oi a w K Q else K (a.put N undef) w:=by
 rw [if_pos hw]
 subst hN
 unfold Oper.wp
 rw [hrun,Oper.upon_enter]
 refine h.mono λe w'' hh=>?_
 rcases hh with⟨v,rfl,hk⟩|⟨c,rfl,hk⟩
 ·exact hk
 ·exact hk
def KHy (P:Program) {ρ:Type} (enc:ρ->Value) (v:Value) (args:List Value):M (Value⊕ρ):=
 ⟨λh Q=>∀w:World,w.heap=h->∃f cap,v=.func (.func f) #[] cap/\Callee? P f/\Calls P f (args.toArray++cap) w (λe w'=>∃r,(match r with| .inl v=>e=.panicked [{v:=v,recovered:=false}]| .inr r=>e=.returned (enc r))/\Q r w'.heap/\Rest w w'),
  λhq h w hw=>let⟨f,cap,h1,h2,h3⟩:=h w hw;⟨f,cap,h1,h2,h3.mono λ_ _ ⟨r,a,b,c⟩=>⟨r,a,hq _ _ b,c⟩⟩⟩
theorem KKU {P:Program} {ρ:Type} {enc:ρ->Value} {f:FuncId} {cap:Ea} {args:List Value} {F:M (Value⊕ρ)} {h:Heap} {Q:Value⊕ρ->Heap->Prop} (hc:Callee? P f) (hS:Jx P f (args.toArray++cap) enc F) (H:F.wp h Q):
  (KHy P enc (.func (.func f) #[] cap) args).wp h Q:=λw hw=>⟨f,cap,rfl,hc,hS w Q (hw▸H)⟩
end
end Gx
namespace Gx
open Go Gx.Last
inductive FK where
 |I (k:IntKind)
 |S
 |B
def FK.is:FK->Value->Bool
 | .I k,.int k' _=>decide (k=k')
 | .S,.string _=>true
 | .B,.bool _=>true
 |_,_=>false
def vEq:Value->Value->Bool
 | .int _ a,.int _ b=>a==b
 | .string a,.string b=>a.toList==b.toList
 | .bool a,.bool b=>a==b
 |_,_=>false
def cEq:List FK->Nat->Ea->Ea->Bool
 | [],_,_,_=>true
 |_::ks,i,xs,ys=>(match xs[i]?,ys[i]? with|some x,some y=>vEq x y|_,_=>false)&&cEq ks (i+1) xs ys
def Fits:List FK->Nat->Ea->Prop
 | [],_,_=>True
 |k::ks,i,xs=>(∃v,xs[i]?=some v/\k.is v=true)/\Fits ks (i+1) xs
def eqS (ks:List FK) (xs ys:Ea):M Bool:=.get λ_ b=>Fits ks 0 xs/\Fits ks 0 ys/\b=cEq ks 0 xs ys
def fkB (P:Program) (t:TypeId):FK->Bool
 | .I k=>match P.underlying t with|some (.int k')=>decide (k=k')|_=>false
 | .S=>match P.underlying t with|some .string=>true|_=>false
 | .B=>match P.underlying t with|some .bool=>true|_=>false
def flL (P:Program):List Field->List FK->Nat->Bool
 | [],[],_=>true
 |f::fs,k::ks,i=>(f.name != "_")&&Nat.beq f.offset i&&fkB P f.type k&&flL P fs ks (i+1)
 |_,_,_=>false
def flB (P:Program) (t:TypeId) (ks:List FK):Bool:=(match P.underlying t with|some (.struct _)=>true|_=>false)&& !P.stoodInHeld t&&flL P (P.fieldsOf t).toList ks 0
section
variable {P:Program} {w:World}
theorem KRR {t:TypeId} {k:FK} {xs:Ea} {i:Nat} {v:Value} (ht:fkB P t k=true) (hx:xs[i]?=some v):(part t xs i).run P w=.ok v w:=by
 cases k<;>(unfold fkB at ht;cases hu:P.underlying t with
  |none=>rw [hu]at ht;cases ht
  |some d=>rw [hu]at ht;cases d<;>first|(cases ht;done)|simp [part,isAgg,run_underlying hu,hx])
theorem KZz {t:TypeId} {k:FK} {a b:Value} (d:Nat) (ht:fkB P t k=true) (ha:k.is a=true) (hb:k.is b=true):(Op.equalIn (d+1) t a b).run P w=.ok (vEq a b) w:=by
 cases k with
 |I k=>
  unfold fkB at ht
  cases hu:P.underlying t with
  |none=>rw [hu]at ht;cases ht
  |some u=>
   rw [hu]at ht
   cases u<;>first|(cases ht;done)|skip
   cases a<;>first|(cases ha;done)|skip
   cases b<;>first|(cases hb;done)|skip
   have h1:=Ec ha
   have h2:=Ec hb
   subst h1;subst h2
   exact run_equalIn_int w d t _ _ _ _ hu
 |S=>
  unfold fkB at ht
  cases hu:P.underlying t with
  |none=>rw [hu]at ht;cases ht
  |some u=>
   rw [hu]at ht
   cases u<;>first|(cases ht;done)|skip
   cases a<;>first|(cases ha;done)|skip
   cases b<;>first|(cases hb;done)|skip
   exact run_equalIn_string w d t _ _ hu
 |B=>
  unfold fkB at ht
  cases hu:P.underlying t with
  |none=>rw [hu]at ht;cases ht
  |some u=>
   rw [hu]at ht
   cases u<;>first|(cases ht;done)|skip
   cases a<;>first|(cases ha;done)|skip
   cases b<;>first|(cases hb;done)|skip
   exact run_equalIn_bool' w d t _ _ hu
theorem KL7 (d:Nat) {xs ys:Ea}:∀{fs:List Field} {ks:List FK} {i:Nat},flL P fs ks i=true->Fits ks i xs->Fits ks i ys->(Op.eqFields (d+1) xs ys fs).run P w=.ok (cEq ks i xs ys) w
 | [],[],_,_,_,_=>rfl
 | [],_::_,_,h,_,_=>by cases h
 |_::_,[],_,h,_,_=>by cases h
 |f::fs,k::ks,i,h,hx,hy=>by
  simp only [flL,Eg]at h
  obtain⟨⟨⟨h1,h2⟩,h3⟩,h4⟩:=h
  obtain⟨⟨a,ha,hka⟩,hx⟩:=hx
  obtain⟨⟨b,hb,hkb⟩,hy⟩:=hy
  have h2:f.offset=i:=Eu h2
  have h1:f.name≠"_":=by simpa using h1
  have ih:=KL7 d h4 hx hy
  simp only [Op.eqFields,if_pos h1,Sem.run_bind,h2,KRR h3 ha,KRR h3 hb,Result.andThen_ok,KZz d h3 hka hkb,Sem.run_ite,cEq,ha,hb]
  cases vEq a b with
  |true=>simpa using ih
  |false=>simp
theorem e_st {t:TypeId} {ks:List FK} {xs ys:Ea} (ht:flB P t ks=true) (hx:Fits ks 0 xs) (hy:Fits ks 0 ys) (d:Nat):(Op.equalIn (d+2) t (.agg xs) (.agg ys)).run P w=.ok (cEq ks 0 xs ys) w:=by
 unfold flB at ht
 simp only [Eg,FJ]at ht
 obtain⟨⟨h1,h2⟩,h3⟩:=ht
 have hu:P.underlying t=some (.struct (P.fieldsOf t)):=by
  unfold Program.fieldsOf
  cases hu:P.underlying t with
  |none=>rw [hu]at h1;cases h1
  |some u=>rw [hu]at h1;cases u<;>first|(cases h1;done)|rfl
 rw [run_equalIn_struct w (d+1) t xs ys hu h2]
 exact KL7 d h3 hx hy
theorem KYU {t:TypeId} {ks:List FK} {xs ys:Ea} {b:Bool} (ht:flB P t ks=true) (h:Fits ks 0 xs/\Fits ks 0 ys/\b=cEq ks 0 xs ys):(binOp .eql t (.agg xs) (.agg ys)).run P w=.ok (.bool b) w:=by
 obtain⟨hx,hy,rfl⟩:=h
 have e1:binOp .eql t (.agg xs) (.agg ys)=(do pure (.bool (<-Op.equal t (.agg xs) (.agg ys)))):=rfl
 rw [e1,Sem.run_bind,show(Op.equal t (.agg xs) (.agg ys)).run P w=_ from e_st ht hx hy 9998]
 rfl
theorem KYV {t:TypeId} {ks:List FK} {xs ys:Ea} {b:Bool} (ht:flB P t ks=true) (h:Fits ks 0 xs/\Fits ks 0 ys/\b=cEq ks 0 xs ys):(binOp .neq t (.agg xs) (.agg ys)).run P w=.ok (.bool !b) w:=by
 obtain⟨hx,hy,rfl⟩:=h
 have e1:binOp .neq t (.agg xs) (.agg ys)=(do pure (.bool (!(<-Op.equal t (.agg xs) (.agg ys))))):=rfl
 rw [e1,Sem.run_bind,show(Op.equal t (.agg xs) (.agg ys)).run P w=_ from e_st ht hx hy 9998]
 rfl
def isNF (v:Value):M Bool:=.get λ_ b=>(v=.nilFunc/\b=true)\/((∃f x y,v=.func f x y)/\b=false)
def fnB (P:Program) (t:TypeId):Bool:=match P.underlying t with|some (.func _ _ _)=>true|_=>false
theorem e_fn {t:TypeId} {v:Value} {b:Bool} (ht:fnB P t=true) (h:(v=.nilFunc/\b=true)\/((∃f x y,v=.func f x y)/\b=false)) (d:Nat):(Op.equalIn (d+1) t v .nilFunc).run P w=.ok b w:=by
 unfold fnB at ht
 cases hu:P.underlying t with
 |none=>rw [hu]at ht;cases ht
 |some u=>
  rw [hu]at ht
  cases u<;>first|(cases ht;done)|skip
  rcases h with⟨rfl,rfl⟩|⟨⟨f,x,y,rfl⟩,rfl⟩<;>simp [Op.equalIn,run_underlying hu]
theorem g_fn {op:BinOp} {t:Nat} {x y:Operand} {u:Value} {b:Bool} (h:(u=.nilFunc/\b=true)\/((∃f x y,u=.func f x y)/\b=false)):(eqGuard op t x y u .nilFunc).run P w=.ok () w:=by
 rcases h with⟨rfl,rfl⟩|⟨⟨f,x,y,rfl⟩,rfl⟩<;>cases op<;>simp [eqGuard]
theorem KYW {t:TypeId} {v:Value} {b:Bool} (ht:fnB P t=true) (h:(v=.nilFunc/\b=true)\/((∃f x y,v=.func f x y)/\b=false)):(binOp .eql t v .nilFunc).run P w=.ok (.bool b) w:=by
 refine KF5 ?_ (e_fn ht h)
 rcases h with⟨rfl,rfl⟩|⟨⟨f,x,y,rfl⟩,rfl⟩<;>rfl
theorem KYX {t:TypeId} {v:Value} {b:Bool} (ht:fnB P t=true) (h:(v=.nilFunc/\b=true)\/((∃f x y,v=.func f x y)/\b=false)):(binOp .neq t v .nilFunc).run P w=.ok (.bool !b) w:=by
 refine KF6 ?_ (e_fn ht h)
 rcases h with⟨rfl,rfl⟩|⟨⟨f,x,y,rfl⟩,rfl⟩<;>rfl
end
def isNI (v:Value):M Bool:=.get λ_ b=>(v=.nilIface/\b=true)\/((∃u x,v=.iface u x)/\b=false)
def ifB (P:Program) (t:TypeId):Bool:=match P.underlying t with|some (.interface _)=>true|_=>false
section
variable {P:Program} {w:World}
theorem e_ni {t:TypeId} {v:Value} {b:Bool} (ht:ifB P t=true) (h:(v=.nilIface/\b=true)\/((∃u x,v=.iface u x)/\b=false)) (d:Nat):(Op.equalIn (d+1) t v .nilIface).run P w=.ok b w:=by
 unfold ifB at ht
 cases hu:P.underlying t with
 |none=>rw [hu]at ht;cases ht
 |some u=>
  rw [hu]at ht
  cases u<;>first|(cases ht;done)|skip
  rcases h with⟨rfl,rfl⟩|⟨⟨f,x,rfl⟩,rfl⟩<;>simp [Op.equalIn,run_underlying hu]
theorem g_ni {op:BinOp} {t:Nat} {x:Operand} {u c:Value} {b:Bool} (h:(u=.nilIface/\b=true)\/((∃f x,u=.iface f x)/\b=false)):(eqGuard op t x (.const c) u .nilIface).run P w=.ok () w:=by
 rcases h with⟨rfl,rfl⟩|⟨⟨f,x,rfl⟩,rfl⟩<;>cases op<;>simp [eqGuard]
theorem KL8 {t:TypeId} {v:Value} {b:Bool} (ht:ifB P t=true) (h:(v=.nilIface/\b=true)\/((∃u x,v=.iface u x)/\b=false)):(binOp .eql t v .nilIface).run P w=.ok (.bool b) w:=by
 refine KF5 ?_ (e_ni ht h)
 rcases h with⟨rfl,rfl⟩|⟨⟨f,x,rfl⟩,rfl⟩<;>rfl
theorem KYY {t:TypeId} {v:Value} {b:Bool} (ht:ifB P t=true) (h:(v=.nilIface/\b=true)\/((∃u x,v=.iface u x)/\b=false)):(binOp .neq t v .nilIface).run P w=.ok (.bool !b) w:=by
 refine KF6 ?_ (e_ni ht h)
 rcases h with⟨rfl,rfl⟩|⟨⟨f,x,rfl⟩,rfl⟩<;>rfl
end
def eqII (te:TypeId) (x y:Value):M Bool:=.get λ_ b=>∃k m n,x=.iface te (.int k m)/\y=.iface te (.int k n)/\b=(m==n)
def cmB (P:Program) (t:TypeId):Bool:=(match P.underlying t with|some (.int _)=>true|_=>false)&&(match P.info? t with|some i=>i.comparable|none=>false)
def cpSt (d:Sl) (u:ByteArray):M Int:=
 ⟨λh Q=>u.size<=d.len/\(∀a,d.base=some a->Open h a u.size)/\Q (u.size:Int) (zc h d.base 0 (Uj u)),
  λhq ⟨h1,h2,h3⟩=>⟨h1,h2,hq _ _ h3⟩⟩
section
variable {P:Program} {n:Frm} {a:Act} {w:World} {l:List (Nat×Value)} {dst:Option Tmp} {ty:TypeId} {pos:String} {aft:Array Edge} {g:Option (Nat×Bool)}
theorem g_ii {op:BinOp} {t te:Nat} {x y:Operand} {u v:Value} {b:Bool} (h:∃k m n,u=.iface te (.int k m)/\v=.iface te (.int k n)/\b=(m==n)):(eqGuard op t x y u v).run P w=.ok () w:=by
 obtain⟨k,m,n,rfl,rfl,_⟩:=h
 cases op<;>simp [eqGuard]
theorem KYZ {t te:TypeId} {u v:Value} {b:Bool} (ht:ifB P t=true) (hc:cmB P te=true) (h:∃k m n,u=.iface te (.int k m)/\v=.iface te (.int k n)/\b=(m==n)):(binOp .eql t u v).run P w=.ok (.bool b) w:=by
 obtain⟨k,m,n,rfl,rfl,rfl⟩:=h
 unfold ifB at ht
 unfold cmB at hc
 rw [Eg]at hc
 obtain⟨h1,h2⟩:=hc
 cases hu:P.underlying t with
 |none=>rw [hu]at ht;cases ht
 |some d=>
  rw [hu]at ht
  cases d<;>first|(cases ht;done)|skip
  cases hv:P.underlying te with
  |none=>rw [hv]at h1;cases h1
  |some e=>
   rw [hv]at h1
   cases e<;>first|(cases h1;done)|skip
   refine Lib.run_eql_iface_int w m n hu ?_ hv
   cases hi:P.info? te with
   |none=>rw [hi]at h2;cases h2
   |some i=>rw [hi]at h2;simpa using h2
theorem KTn {t e su:Nat} {x y:Operand} {d:Sl} {u:ByteArray} {Q:Int->Heap->Prop} (hE:Env n a l) (hx:opv l x=some d.v) (hy:opv l y=some (.string u)) (ht:P.underlying t=some (.slice e)) (hs:szB P e 1=true) (H:(cpSt d u).wp w.heap Q):
  ∃r w1,(execOp a.eval ⟨dst,.call {callee:=.builtin .copy,args:=#[x,y],argTypes:=#[t,su]},ty,pos,aft,g⟩).run P w=.ok (.value (.int .i64 r)) w1/\Rest w w1/\Q r w1.heap:=by
 obtain⟨h1,h3,h5⟩:=H
 have hlen:(Uj u).length=u.size:=by unfold Uj;rw [EL,Ep];rfl
 have h4:∀v∈Uj u,one v=true:=by
  intro v hv
  unfold Uj at hv
  obtain⟨c,_,rfl⟩:=Fv.1 hv
  rfl
 refine⟨_,{w with heap:=zc w.heap d.base 0 (Uj u)},?_,⟨rfl,rfl,rfl,Ee _⟩,h5⟩
 have hf:(Builtin.firstCells 1 u.size (.string u)).run P w=.ok (Uj u).toArray w:=by
  have e2:(Uj u).toArray=u.data.map λ(b:UInt8)=>Value.int .u8 (b.toNat:Int):=by unfold Uj;rw [<-FP,EG]
  rw [e2]
  simp [Builtin.firstCells]
 have e1:Nat.min u.size d.len=u.size:=FZ h1
 cases hb:d.base with
 |none=>
  simp [execOp,resolve,invoke,builtin,hE.opv hx,hE.opv hy,Builtin.copy_,run_underlying ht,Sl.v,Builtin.lenOf,Jl hs,hb,goInt,zc,hf,e1]
 |some b=>
  have hp:=U4 (P:=P) (a:=b) (Uj u) 0 w (λj hj=>by rw [EC];exact h3 b hb j (by omega)) h4
  simp [execOp,resolve,invoke,builtin,hE.opv hx,hE.opv hy,Builtin.copy_,run_underlying ht,Sl.v,Builtin.lenOf,Jl hs,hb,goInt,zc,add_zero,hf,hp,e1]
end
def uSD (x:Sl):M (Option Addr):=.get λ_ r=>(x.base=none/\r=none)\/(x.cap≠0/\x.base=r)
def uStr (e:TypeId) (p:Option Addr) (n:Int):M ByteArray:=
 ⟨λh Q=>(n=0/\Q .empty h)\/∃g cells fz,∃l:Eb,p=some ⟨g,0,none⟩/\n=(l.length:Int)/\l≠[]/\l.length<=cells.size/\l.length<=9223372036854775807/\h[g]?=some (.cells cells e fz)/\(∀(j:Nat) x,l[j]?=some x->cells[j]?=some (.int .u8 (x.toNat:Int)))/\
   ∀h':Heap,h'.size=h.size->(∀i,i≠g->h'[i]?=h[i]?)->Q ⟨l.toArray⟩ h',
  λhq H=>H.imp (λ⟨a,b⟩=>⟨a,hq _ _ b⟩) (λ⟨g,c,f,l,h1,h2,h3,h4,h5,h6,h7,h8⟩=>⟨g,c,f,l,h1,h2,h3,h4,h5,h6,h7,λh' a b=>hq _ _ (h8 h' a b)⟩)⟩
section
variable {P:Program} {n:Frm} {a:Act} {w:World} {l:List (Nat×Value)} {dst:Option Tmp} {ty:TypeId} {pos:String} {aft:Array Edge} {g:Option (Nat×Bool)}
theorem KZ0 {t:TypeId} {x:Operand} {s:Sl} {r:Option Addr} (hE:Env n a l) (hx:opv l x=some s.v) (h:(s.base=none/\r=none)\/(s.cap≠0/\s.base=r)):
  (execOp a.eval ⟨dst,.call {callee:=.builtin .unsafeSliceData,args:=#[x],argTypes:=#[t]},ty,pos,aft,g⟩).run P w=.ok (.value (.pointer r)) w:=by
 obtain⟨base,len,cap⟩:=s
 have hr:(Builtin.unsafeSliceData_ #[t] ty #[.slice base len cap]).run P w=.ok (.pointer r) w:=by
  rcases h with⟨h1,rfl⟩|⟨h1,h2⟩
  ·have h1:base=none:=h1
   subst h1
   rfl
  ·have h2:base=r:=h2
   subst h2
   have h1:cap≠0:=h1
   cases base with
   |none=>rfl
   |some b=>exact Lib.run_unsafeSliceData_row _ _ _ _ _ _ h1
 simp [execOp,resolve,invoke,builtin,hE.opv hx,Sl.v,hr]
theorem KTo {pt it e:TypeId} {x y:Operand} {p:Option Addr} {m:Int} {Q:ByteArray->Heap->Prop} (hE:Env n a l) (hx:opv l x=some (.pointer p)) (hy:opv l y=some (.int .i64 m)) (hp:P.underlying pt=some (.pointer e)) (hc:P.cellsOf e=1) (H:(uStr e p m).wp w.heap Q):
  ∃r w1,(execOp a.eval ⟨dst,.call {callee:=.builtin .unsafeString,args:=#[x,y],argTypes:=#[pt,it]},ty,pos,aft,g⟩).run P w=.ok (.value (.string r)) w1/\Rest w w1/\Q r w1.heap:=by
 rcases H with⟨rfl,H⟩|⟨b,cells,fz,ls,rfl,rfl,h3,h4,h5,h6,h7,h8⟩
 ·refine⟨.empty,w,?_,Rest.refl w,H⟩
  have hr:=Lib.run_unsafeString_none (P:=P) w pt it ty p
  simp [execOp,resolve,invoke,builtin,hE.opv hx,hE.opv hy,hr]
 ·have hr:=Lib.run_unsafeString_row (P:=P) w pt it ty e hp hc b cells.size (by simp [World.shape?,h6]) ls h3 h4 h5 (λj x hj=>by
   have:=h7 j x hj
   rw [KJg,show((⟨b,0,none⟩:Addr).add j)=⟨b,0+j,none⟩ by unfold Addr.add;split<;>simp_all]
   simp only [KJ,h6,EC,this]
   rfl)
  refine⟨⟨ls.toArray⟩,w.freeze ⟨b,0,none⟩ ls.length,?_,⟨by unfold World.freeze;split<;>rfl,by unfold World.freeze;split<;>rfl,by unfold World.freeze;split<;>rfl,by unfold World.freeze;split<;>exact Ee _⟩,h8 _ ?_ ?_⟩
  ·simp [execOp,resolve,invoke,builtin,hE.opv hx,hE.opv hy,hr]
  ·unfold World.freeze
   split
   ·rfl
   ·simp
  ·intro i hi
   unfold World.freeze
   split
   ·rfl
   ·simp only [Iu]
    rw [if_neg (λh=>hi h.symm)]
end
def KZ1 (P:Program) {ρ:Type} (enc:ρ->Value) (v:Value) (args:List Value):M ρ:=
 ⟨λh Q=>∀w:World,w.heap=h->∃f cap,v=.func (.func f) #[] cap/\Callee? P f/\Calls P f (args.toArray++cap) w (λe w'=>∃r,e=.returned (enc r)/\Q r w'.heap/\Rest w w'),
  λhq h w hw=>let⟨f,cap,h1,h2,h3⟩:=h w hw;⟨f,cap,h1,h2,h3.mono λ_ _ ⟨r,a,b,c⟩=>⟨r,a,hq _ _ b,c⟩⟩⟩
section
variable {P:Program} {ops:Array Oper} {K:Act->World->Prop} {X:Nat->Act->World->Prop} {R:Act->World->Prop} {n:Frm} {a:Act} {w w0:World} {l:List (Nat×Value)} {S:World->Prop} {ds:List Nat} {fuel:Nat} {b b':Array Bool} {i:Nat} {E C W:List (List Nat)}
end
def clL (z:Ea) (s:Sl):M Unit:=
 ⟨λh Q=>(s.base=none\/s.len=0)/\Q () h\/∃a,s.base=some a/\s.len≠0/\Open h a (s.len*z.size)/\(∀v∈z.toList,one v=true)/\Q () (hsetL h a (zRow z (s.len*z.size)).toList 0),
  λhq H=>H.imp (λ⟨a,b⟩=>⟨a,hq _ _ b⟩) (λ⟨a,h1,h2,h3,h4,h5⟩=>⟨a,h1,h2,h3,h4,hq _ _ h5⟩)⟩
theorem KWX {P:Program} {n:Frm} {a:Act} {w:World} {l:List (Nat×Value)} {dst:Option Tmp} {ty:TypeId} {pos:String} {aft:Array Edge} {g:Option (Nat×Bool)} {t e sz bytes:Nat} {z:Ea} {x:Operand} {s:Sl} {Q:Unit->Heap->Prop} (hE:Env n a l) (hx:opv l x=some s.v) (hP:apB P t e sz bytes z) (H:(clL z s).wp w.heap Q):
  ∃(r:Unit) (w1:World),(execOp a.eval ⟨dst,.call {callee:=.builtin .clear,args:=#[x],argTypes:=#[t]},ty,pos,aft,g⟩).run P w=.ok (.value (.tuple #[])) w1/\Rest w w1/\Q r w1.heap:=by
 obtain⟨ht,i,hi,rfl,rfl,v,hv,rfl⟩:=hP
 obtain⟨base,len,cap⟩:=s
 rcases H with⟨h1,H⟩|⟨b,h1,h2,h3,h4,H⟩
 ·refine⟨(),w,?_,Rest.refl w,H⟩
  have hr:(Builtin.clear_ #[t] ty #[.slice base len cap]).run P w=.ok (.tuple #[]) w:=by
   cases base with
   |none=>simp [Builtin.clear_,run_underlying ht]
   |some b=>
    rcases h1 with h1|h1
    ·cases h1
    ·have h1:len=0:=h1
     subst h1
     simp [Builtin.clear_,run_underlying ht]
  simp [execOp,resolve,invoke,builtin,hE.opv hx,Sl.v,hr]
 ·have h1:base=some b:=h1
  subst h1
  have h2:len≠0:=h2
  have hzv:(zeroValue e).run P w=.ok v w:=by simp [zeroValue,typeInfo,hi,hv]
  have hzc:Builtin.zeroCells v.cells len=zRow v.cells (len*v.cells.size):=by
   simp only [Builtin.zeroCells,zRow]
   apply Iw;simp
  have hl:(zRow v.cells (len*v.cells.size)).toList.length=len*v.cells.size:=by simp [zRow]
  have hone:∀u∈(zRow v.cells (len*v.cells.size)).toList,one u=true:=by
   intro u hu
   simp only [zRow,Fv,FQ]at hu
   obtain⟨j,hj,rfl⟩:=hu
   have hpos:0<v.cells.size:=by
    rcases I1 v.cells.size with h|h
    ·rw [h]at hj;simp at hj
    ·exact h
   have hlt:=Oi j hpos
   rw [getElem!_pos v.cells _ hlt]
   exact h4 _ (by simp)
  have hs:=U4 (P:=P) (a:=b) (zRow v.cells (len*v.cells.size)).toList 0 w (λj hj=>by rw [EC];exact h3 j (by rw [hl]at hj;exact hj)) hone
  refine⟨(),{w with heap:=hsetL w.heap b (zRow v.cells (len*v.cells.size)).toList 0},?_,⟨rfl,rfl,rfl,Ee _⟩,H⟩
  obtain⟨m,rfl⟩:∃m,len=m+1:=⟨len - 1,by omega⟩
  simp [execOp,resolve,invoke,builtin,hE.opv hx,Sl.v,Builtin.clear_,run_underlying ht,hzv,hzc,hs]
end Gx
namespace Gx
open Go
section b
variable {α β:Type} {h:Heap} {Q:β->Heap->Prop}
theorem KD {m:M α} {f:α->M β} (H:m.wp h (λr h'=>(f r).wp h' Q)):(m>>=f).wp h Q:=H
theorem KA {a:β} (H:Q a h):(M.pure a:M β).wp h Q:=H
theorem KZ {a:α} {f:α->M β} (H:(f a).wp h Q):(M.pure a>>=f).wp h Q:=H
theorem ZH {p:Prop} {f:Unit->M β} (hp:p) (H:(f ()).wp h Q):(M.need p>>=f).wp h Q:=⟨hp,H⟩
theorem qE {p:Heap->Prop} {f:Unit->M β} (hp:p h) (H:(f ()).wp h Q):(chk p>>=f).wp h Q:=⟨(),hp,H⟩
theorem KH {b:Bool} {m n:M β} (ht:b=true->m.wp h Q) (hf:b=false->n.wp h Q):(M.ite b m n).wp h Q:=by cases b;exact hf rfl;exact ht rfl
theorem KJF {b:Bool} {m n:M α} {f:α->M β} (ht:b=true->(m>>=f).wp h Q) (hf:b=false->(n>>=f).wp h Q):(M.ite b m n>>=f).wp h Q:=by cases b;exact hf rfl;exact ht rfl
theorem iteT {b:Bool} {m n:M β} (hb:b=true) (H:m.wp h Q):(M.ite b m n).wp h Q:=by subst hb;exact H
theorem iteF {b:Bool} {m n:M β} (hb:b=false) (H:n.wp h Q):(M.ite b m n).wp h Q:=by subst hb;exact H
theorem Ve {b:Bool} {m n:M α} {f:α->M β} (hb:b=true) (H:(m>>=f).wp h Q):(M.ite b m n>>=f).wp h Q:=by subst hb;exact H
theorem Y9 {b:Bool} {m n:M α} {f:α->M β} (hb:b=false) (H:(n>>=f).wp h Q):(M.ite b m n>>=f).wp h Q:=by subst hb;exact H
theorem KR {γ:Type} {m:M γ} {g:γ->M α} {f:α->M β} (H:(m>>=λx=>g x>>=f).wp h Q):((m>>=g)>>=f).wp h Q:=H
theorem KJn {m n:M β} (h1:m.wp h Q) (h2:n.wp h Q):(M.both m n).wp h Q:=⟨h1,h2⟩
theorem KVU {m n:M α} {f:α->M β} (h1:(m>>=f).wp h Q) (h2:(n>>=f).wp h Q):(M.both m n>>=f).wp h Q:=⟨h1,h2⟩
theorem KV {k:IntKind} {a:Addr} {n:Int} {f:Int->M β} (hc:KJ h a=some (.int k n)) (H:(f n).wp h Q):(ldI k a>>=f).wp h Q:=⟨n,hc,H⟩
theorem KYa {a:Addr} {n:Bool} {f:Bool->M β} (hc:KJ h a=some (.bool n)) (H:(f n).wp h Q):(ldB a>>=f).wp h Q:=⟨n,hc,H⟩
theorem WO {a:Addr} {n:ByteArray} {f:ByteArray->M β} (hc:KJ h a=some (.string n)) (H:(f n).wp h Q):(ldS a>>=f).wp h Q:=⟨n,hc,H⟩
theorem zd {a:Addr} {n:Option Addr} {f:Option Addr->M β} (hc:KJ h a=some (.pointer n)) (H:(f n).wp h Q):(ldP a>>=f).wp h Q:=⟨n,hc,H⟩
theorem Kn {a:Addr} {n:Sl} {f:Sl->M β} (hc:KJ h a=some n.v) (H:(f n).wp h Q):(ldL a>>=f).wp h Q:=⟨n,hc,H⟩
theorem YF {n:Nat} {a:Addr} {cs:Ea} {f:Ea->M β} (hs:cs.size=n) (hc:∀i,i<n->KJ h (a.add i)=cs[i]?) (H:(f cs).wp h Q):(ldG n a>>=f).wp h Q:=⟨cs,⟨hs,hc⟩,H⟩
theorem qF {a:Addr} {v x:Value} {f:Unit->M β} (hc:KJ h a=some x) (hf:Yg h a=false) (h1:one v=true) (H:(f ()).wp (hset h a v) Q):(stV a v>>=f).wp h Q:=⟨(),⟨⟨x,hc⟩,hf,h1⟩,H⟩
theorem KZ2 {a:Addr} {cs:Ea} {f:Unit->M β} (hc:∀i,i<cs.size->(∃x,KJ h (a.add i)=some x)/\Yg h (a.add i)=false) (h1:∀v∈cs.toList,one v=true) (H:(f ()).wp (hsetL h a cs.toList 0) Q):(stG a cs>>=f).wp h Q:=⟨(),⟨hc,h1⟩,H⟩
theorem KWY {t:TypeId} {cs:Ea} {f:Addr->M β} (H:(f ⟨h.size,0,none⟩).wp (h.push (.cells cs t)) Q):(mkB t cs>>=f).wp h Q:=⟨_,rfl,H⟩
theorem Kc {a:Addr} {f:Addr->M β} (H:(f a).wp h Q):(nilP (some a)>>=f).wp h Q:=⟨a,rfl,H⟩
theorem NM {s:Sl} {i:Int} {sz:Nat} {b:Addr} {f:Addr->M β} (h0:0<=i) (h1:i<s.len) (hb:s.base=some b) (H:(f (b.add (i.toNat*sz))).wp h Q):(ixL s i sz>>=f).wp h Q:=⟨_,⟨h0,h1,b,hb,rfl⟩,H⟩
theorem KYb {s:Sl} {lo hi:Int} {sz:Nat} {f:Sl->M β} (h0:0<=lo) (h1:lo<=hi) (h2:hi<=s.cap) (H:(f ⟨if s.cap=lo.toNat then s.base else s.base.map (·.add (lo.toNat*sz)),hi.toNat - lo.toNat,s.cap - lo.toNat⟩).wp h Q):(slL s lo hi sz>>=f).wp h Q:=⟨_,⟨h0,h1,h2,rfl⟩,H⟩
theorem KAz {e len:Nat} {cells:Ea} {f:Sl->M β} (H:(f ⟨some ⟨h.size,0,none⟩,len,len⟩).wp (h.push (.cells cells e)) Q):(bdL e len cells>>=f).wp h Q:=⟨_,rfl,H⟩
theorem KTp {s:Sl} {ns:Eb} {f:ByteArray->M β} (hl:ns.length=s.len) (hr:KAI h s.base (ns.map λb=>Value.int .u8 (b.toNat:Int))) (H:(f ⟨ns.toArray⟩).wp h Q):(b2s s>>=f).wp h Q:=⟨_,⟨ns,hl,hr,rfl⟩,H⟩
end b
theorem KM (b o n:Nat):(⟨b,o,none⟩:Addr).add n=⟨b,o+n,none⟩:=by
 cases n with
 |zero=>rfl
 |succ n=>simp [Addr.add]
theorem KF {h:Heap} {b o:Nat} {cs:Ea} {t:TypeId} {z:Nat×Nat} (hb:h[b]?=some (.cells cs t z)):KJ h ⟨b,o,none⟩=cs[o]?:=by
 simp [KJ,hb]
theorem Kv {h:Heap} {b o:Nat} {cs:Ea} {t:TypeId} (hb:h[b]?=some (.cells cs t (0,0))):Yg h ⟨b,o,none⟩=false:=by
 simp [Yg,hb]
theorem qG {h:Heap} {o:Obj} {i:Nat} (hi:i<h.size):(h.push o)[i]?=h[i]?:=by
 rw [I0]
 rw [if_neg (by omega)]
theorem Kx {h:Heap} {o:Obj}:(h.push o)[h.size]?=some o:=by simp
theorem KHz {h:Heap} {a:Addr} {v:Value}:(hset h a v).size=h.size:=by simp [hset]
theorem KNw {h:Heap} {a:Addr} {v:Value} {i:Nat} (hi:i≠a.block):(hset h a v)[i]?=h[i]?:=by
 simp only [hset,Iu]
 rw [if_neg (λe=>hi e.symm)]
theorem J8 {h:Heap} {b o:Nat} {v:Value} {cs:Ea} {t:TypeId} {z:Nat×Nat} (hb:h[b]?=some (.cells cs t z)):(hset h ⟨b,o,none⟩ v)[b]?=some (.cells (cs.setIfInBounds o v) t z):=by
 simp only [hset,Iu,Oa,hb,Og]
 rfl
theorem ze {a:Addr}:∀(vs:List Value) (h:Heap) (i:Nat),(hsetL h a vs i).size=h.size
 | [],_,_=>rfl
 |v::r,h,i=>by simp only [hsetL];rw [ze r,KHz]
theorem Z8 (a:Addr) (n:Nat):(a.add n).block=a.block:=by
 cases n<;>rfl
theorem KHR {a:Addr} {j:Nat} (hj:j≠a.block):∀(vs:List Value) (h:Heap) (i:Nat),(hsetL h a vs i)[j]?=h[j]?
 | [],_,_=>rfl
 |v::r,h,i=>by simp only [hsetL];rw [KHR hj r,KNw (by rw [Z8];exact hj)]
def lay (cs:Ea) (o:Nat):List Value->Ea
 | []=>cs
 |v::r=>lay (cs.setIfInBounds o v) (o+1) r
theorem KHS {b o:Nat} {t:TypeId} {z:Nat×Nat}:∀(vs:List Value) (h:Heap) (i:Nat) (cs:Ea),h[b]?=some (.cells cs t z)->(hsetL h ⟨b,o,none⟩ vs i)[b]?=some (.cells (lay cs (o+i) vs) t z)
 | [],h,i,cs,hb=>hb
 |v::r,h,i,cs,hb=>by
  simp only [hsetL,lay]
  rw [KM]
  exact KHS r _ (i+1) _ (J8 hb)
theorem KAK:∀(vs:List Value) (cs:Ea) (o:Nat),(lay cs o vs).size=cs.size
 | [],_,_=>rfl
 |v::r,cs,o=>by simp only [lay];rw [KAK r];simp
theorem KBg:∀(vs:List Value) (cs:Ea) (o:Nat),o+vs.length<=cs.size->(lay cs o vs).toList=cs.toList.take o++vs++cs.toList.drop (o+vs.length)
 | [],cs,o,_=>by simp [lay]
 |v::r,cs,o,h=>by
  simp only [Ef]at h
  simp only [lay]
  rw [KBg r _ _ (by simp;omega)]
  simp only [Array.toList_setIfInBounds,Ef]
  have h1:(cs.toList.set o v).take (o+1)=cs.toList.take o++[v]:=by
   rw [Et (by simp;omega),List.take_set_of_le (Ee _)]
   simp
  rw [h1,List.drop_set_of_lt (by omega)]
  simp [Iy,Nat.add_comm 1]
structure Ext (h h':Heap):Prop where
 size:h.size<=h'.size
 same:∀i,i<h.size->h'[i]?=h[i]?
theorem Ext.refl (h:Heap):Ext h h:=⟨Ee _,λ_ _=>rfl⟩
theorem Ext.trans {h h' h'':Heap} (a:Ext h h') (b:Ext h' h''):Ext h h'':=⟨Fb a.size b.size,λi hi=>(b.same i (Ez hi a.size)).trans (a.same i hi)⟩
theorem Ext.push (h:Heap) (o:Obj):Ext h (h.push o):=⟨by simp,λi hi=>qG hi⟩
theorem Ext.pushed {h h':Heap} (a:Ext h h') (o:Obj):Ext h (h'.push o):=a.trans (Ext.push _ _)
theorem Ext.hset {h h':Heap} (a:Ext h h') {p:Addr} {v:Value} (hp:h.size<=p.block):Ext h (hset h' p v):=
 ⟨by rw [KHz];exact a.size,λi hi=>by rw [KNw (by omega)];exact a.same i hi⟩
theorem Ext.hsetL {h h':Heap} (a:Ext h h') {p:Addr} {vs:List Value} {j:Nat} (hp:h.size<=p.block):Ext h (hsetL h' p vs j):=
 ⟨by rw [ze];exact a.size,λi hi=>by rw [KHR (by omega)];exact a.same i hi⟩
theorem Ext.cell {h h':Heap} (a:Ext h h') {p:Addr} {v:Value} (hc:KJ h p=some v):KJ h' p=some v:=by
 have hlt:p.block<h.size:=by
  rcases ES p.block h.size with h1|h1
  ·exact h1
  ·simp [KJ,EV h1]at hc
 simp only [KJ,a.same _ hlt]at hc⊢
 exact hc
theorem Ext.blk {h h':Heap} (a:Ext h h') {b:Nat} {o:Obj} (hb:h[b]?=some o):h'[b]?=some o:=by
 have hlt:b<h.size:=by
  rcases ES b h.size with h1|h1
  ·exact h1
  ·rw [EV h1]at hb;cases hb
 rw [a.same _ hlt];exact hb
theorem Ext.reads {h h':Heap} (a:Ext h h') {b:Option Addr} {cs:List Value} (hr:KAI h b cs):KAI h' b cs:=by
 rcases hr with h1|⟨p,hp,hc⟩
 ·exact .inl h1
 ·exact .inr ⟨p,hp,λj v hj=>a.cell (hc j v hj)⟩
theorem JV {h:Heap} {b:Nat} {o:Obj} (hb:h[b]?=some o):b<h.size:=by
 rcases ES b h.size with h1|h1
 ·exact h1
 ·rw [EV h1]at hb;cases hb
def bv (b:UInt8):Value:=.int .u8 (b.toNat:Int)
def KJo (l:Eb):Ea:=(l.map bv).toArray
theorem KQR (l:Eb) (i:Nat):(KJo l)[i]?=(l[i]?).map bv:=by simp [KJo]
theorem KQS (l:Eb) (i:Nat) (b:UInt8):(KJo l).setIfInBounds i (bv b)=KJo (l.set i b):=by
 apply Iw
 simp [KJo,List.map_set]
structure Bys (h:Heap) (s:Sl) (l:Eb):Prop where
 len:s.len=l.length
 at_:KAI h s.base (l.map bv)
theorem Bys.ext {h h':Heap} {s:Sl} {l:Eb} (hb:Bys h s l) (he:Ext h h'):Bys h' s l:=⟨hb.len,he.reads hb.at_⟩
theorem Bys.get {h:Heap} {s:Sl} {l:Eb} (hb:Bys h s l) {i:Nat} (hi:i<l.length):∃a,s.base=some a/\KJ h (a.add i)=some (bv l[i]):=by
 rcases hb.at_ with h1|⟨a,ha,hc⟩
 ·simp at h1;subst h1;simp at hi
 ·exact⟨a,ha,hc i _ (by simp [Em hi])⟩
theorem Bys.nil (h:Heap):Bys h Sl.nil []:=⟨rfl,.inl rfl⟩
def u8 (n:Int):UInt8:=UInt8.ofNat (n%256).toNat
theorem wrap_u8 (n:Int):IntKind.wrap .u8 n=((u8 n).toNat:Int):=by
 have e:IntKind.wrap .u8 n=n%256:=by simp [IntKind.wrap,IntKind.signed,IntKind.bits]
 rw [e]
 simp [u8,Il]
 omega
end Gx
namespace Gx
open Go
theorem w64 {n:Int} (h0:-9223372036854775808<=n) (h1:n<=9223372036854775807):IntKind.wrap .i64 n=n:=by
 rw [IntKind.wrap_i64];omega
theorem KRS {l:Eb} {j:Nat} (h:j<l.length):l.take (j+1)=l.take j++[l[j]]:=by
 rw [Et h]
structure Upd (b:Nat) (h h':Heap):Prop where
 size:h'.size=h.size
 ne:∀i,i≠b->h'[i]?=h[i]?
theorem Upd.refl (b:Nat) (h:Heap):Upd b h h:=⟨rfl,λ_ _=>rfl⟩
theorem Upd.trans {b:Nat} {h h' h'':Heap} (a:Upd b h h') (c:Upd b h' h''):Upd b h h'':=⟨c.size.trans a.size,λi hi=>(c.ne i hi).trans (a.ne i hi)⟩
theorem Upd.hset (h:Heap) (b o:Nat) (v:Value):Upd b h (hset h ⟨b,o,none⟩ v):=⟨KHz,λi hi=>KNw hi⟩
theorem Upd.hsetL (h:Heap) (b o:Nat) (vs:List Value) (j:Nat):Upd b h (hsetL h ⟨b,o,none⟩ vs j):=⟨ze _ _ _,λi hi=>KHR hi _ _ _⟩
theorem Ext.upd {h h' h'':Heap} {b:Nat} (e:Ext h h') (u:Upd b h' h'') (hb:h.size<=b):Ext h h'':=⟨by rw [u.size];exact e.size,λi hi=>by rw [u.ne i (by omega)];exact e.same i hi⟩
def BB (h:Heap) (b:Nat) (t:TypeId) (l:Eb):Prop:=h[b]?=some (.cells (KJo l) t (0,0))
theorem BB.cell {h:Heap} {b:Nat} {t:TypeId} {l:Eb} (hb:BB h b t l) {i:Nat} (hi:i<l.length):KJ h ⟨b,i,none⟩=some (bv l[i]):=by
 rw [KF hb,KQR,Em hi];rfl
theorem BB.set {h:Heap} {b:Nat} {t:TypeId} {l:Eb} (hb:BB h b t l) (i:Nat) (x:UInt8):BB (hset h ⟨b,i,none⟩ (bv x)) b t (l.set i x):=by
 unfold BB
 rw [J8 hb,KQS]
theorem BB.upd {h h':Heap} {b c:Nat} {t:TypeId} {l:Eb} (hb:BB h b t l) (u:Upd c h h') (hne:b≠c):BB h' b t l:=by
 unfold BB
 rw [u.ne b hne];exact hb
theorem BB.bys {h:Heap} {b:Nat} {t:TypeId} {l:Eb} (hb:BB h b t l) (o n cap:Nat) (hl:o+n<=l.length):Bys h ⟨some ⟨b,o,none⟩,n,cap⟩ ((l.drop o).take n):=by
 refine⟨by simp;omega,.inr ⟨_,rfl,λj v hj=>?_⟩⟩
 rw [KM]
 have hlt:j<((l.drop o).take n).length:=by
  rcases ES j ((l.drop o).take n).length with h'|h'
  ·exact h'
  ·rw [EK (by simpa using h')]at hj;cases hj
 have hlt':j<n/\o+j<l.length:=by simp at hlt;omega
 rw [hb.cell hlt'.2]
 rw [Fs,Em hlt]at hj
 simp at hj
 rw [<-hj]
theorem KWZ (c:List Value):∀(cs:Ea) (off k:Nat),(c.zipIdx k).foldl (λcs (x:Value×Nat)=>cs.setIfInBounds (off+x.2) x.1) cs=lay cs (off+k) c:=by
 induction c with
 |nil=>intro cs off k;rfl
 |cons v r ih=>
  intro cs off k
  rw [List.zipIdx_cons,IB,ih]
  rfl
theorem zf {place:Nat->Option (Nat×Nat)} {cells:Ea} {i off size:Nat} {v:Value} {rest:List (Nat×Value)} (hp:place i=some (off,size)) (hs:v.cells.size=size) (hl:off+size<=cells.size):
  Instr.fill place cells ((i,v)::rest)=Instr.fill place (lay cells off v.cells.toList) rest:=by
 conv=>lhs;unfold Instr.fill
 simp only [hp]
 rw [if_neg (by rw [hs];simp;omega)]
 congr 1
 rw [<-Array.foldl_toList,Array.toList_zipIdx]
 exact KWZ _ _ _ 0
theorem KW {cs:Ea} {vs:List Value} (h:vs.length=cs.size):lay cs 0 vs=vs.toArray:=by
 apply Iw
 rw [KBg _ _ _ (by omega)]
 simp [h]
theorem zD {β:Type} {h:Heap} {Q:β->Heap->Prop} {sz:Nat} {z c:Ea} {f:Ea->M β} (hc:c.size=sz) (H:(f c).wp h Q):(Xs sz 1 z [(0,.agg c)]>>=f).wp h Q:=by
 refine⟨c,?_,H⟩
 have hz:(zRow z (1*sz)).size=sz:=by simp [zRow]
 show Instr.fill (λi=>some (i*sz,sz)) (zRow z (1*sz)) [(0,Value.agg c)]=some c
 rw [zf (off:=0) (size:=sz) (v:=Value.agg c) (by simp) hc (by omega)]
 show some _=some c
 rw [show(Value.agg c).cells=c from rfl,KW (by rw [Ep];omega)]
structure Row (lo:Nat) (h:Heap) (r:Sl) (sz b:Nat) (ty:TypeId) (cells:Ea) (vs:List Value):Prop where
 base:r.base=some ⟨b,0,none⟩
 lo:lo<=b
 blk:h[b]?=some (.cells cells ty (0,0))
 size:cells.size=r.cap*sz
 cap:r.len<=r.cap
 len:vs.length=r.len*sz
 get:∀(j:Nat) v,vs[j]?=some v->cells[j]?=some v
def Gw (lo:Nat) (h:Heap) (r:Sl) (sz:Nat) (vs:List Value):Prop:=(r=Sl.nil/\vs=[])\/∃b ty cells,Row lo h r sz b ty cells vs
theorem Gw.nil (lo:Nat) (h:Heap) (sz:Nat):Gw lo h Sl.nil sz []:=.inl ⟨rfl,rfl⟩
def Sl.on (r:Sl) (i:Nat):Prop:=∃a,r.base=some a/\a.block=i
theorem Gw.same {lo:Nat} {h h':Heap} {r:Sl} {sz:Nat} {vs:List Value} (H:Gw lo h r sz vs) (e:∀i,Sl.on r i->h'[i]?=h[i]?):Gw lo h' r sz vs:=by
 rcases H with H|⟨b,ty,cells,H⟩
 ·exact .inl H
 ·exact .inr ⟨b,ty,cells,H.base,H.lo,(e b ⟨_,H.base,rfl⟩).trans H.blk,H.size,H.cap,H.len,H.get⟩
theorem Gw.lt {lo:Nat} {h:Heap} {r:Sl} {sz:Nat} {vs:List Value} (H:Gw lo h r sz vs) {i:Nat} (hi:Sl.on r i):i<h.size/\lo<=i:=by
 obtain⟨a,ha,rfl⟩:=hi
 rcases H with⟨rfl,_⟩|⟨b,ty,cells,H⟩
 ·cases ha
 ·rw [H.base]at ha
  cases ha
  exact⟨JV H.blk,H.lo⟩
theorem Gw.reads {lo:Nat} {h:Heap} {r:Sl} {sz:Nat} {vs:List Value} (H:Gw lo h r sz vs):KAI h r.base vs:=by
 rcases H with⟨_,rfl⟩|⟨b,ty,cells,H⟩
 ·exact .inl rfl
 ·refine .inr ⟨_,H.base,λj v hj=>?_⟩
  rw [KM,EC,KF H.blk]
  exact H.get j v hj
theorem Gw.cell {lo:Nat} {h:Heap} {r:Sl} {sz:Nat} {vs:List Value} (H:Gw lo h r sz vs) {j:Nat} {v:Value} (hj:vs[j]?=some v):∃b,r.base=some ⟨b,0,none⟩/\KJ h ⟨b,j,none⟩=some v:=by
 rcases H with⟨_,rfl⟩|⟨b,ty,cells,H⟩
 ·cases hj
 ·exact⟨b,H.base,by rw [KF H.blk];exact H.get j v hj⟩
theorem Gw.len {lo:Nat} {h:Heap} {r:Sl} {sz:Nat} {vs:List Value} (H:Gw lo h r sz vs):vs.length=r.len*sz:=by
 rcases H with⟨rfl,rfl⟩|⟨b,ty,cells,H⟩
 ·simp [Sl.nil]
 ·exact H.len
theorem KL9 (z:Ea) (n:Nat):(zRow z n).size=n:=by simp [zRow]
theorem KGA {lo:Nat} {h:Heap} {Q:Sl->Heap->Prop} {e sz bytes:Nat} {z:Ea} {r x:Sl} {vs news:List Value} (hz:z.size=sz) (H:Gw lo h r sz vs) (hn:news.length=x.len*sz) (hr:KAI h x.base news) (h1:∀v∈news,one v=true)
  (hb:(r.len+x.len)*bytes<=140737488355328) (hm:r.len+x.len<=9223372036854775807) (hlo:lo<=h.size)
  (hq:∀h' r',Gw lo h' r' sz (vs++news)->r'.len=r.len+x.len->h.size<=h'.size->(∀i,i<h.size->¬Sl.on r i->h'[i]?=h[i]?)->(∀i,Sl.on r' i->Sl.on r i\/h.size<=i)->Q r' h'):(apL e sz bytes z r x).wp h Q:=by
 refine⟨news,hn,hr,?_⟩
 unfold apGo
 split
 ·rename_i hc
  rcases H with⟨rfl,rfl⟩|⟨b,ty,cells,H⟩
  ·have h0:x.len=0:=by simp [Sl.nil]at hc;exact hc
   have:news=[]:=E8.1 (by rw [hn,h0];simp)
   subst this
   refine⟨λa ha=>(by cases ha),by simp,?_⟩
   rw [h0]
   exact hq h _ (.inl ⟨rfl,rfl⟩) (by rw [h0]) (Ee _) (λi _ _=>rfl) (λi hi=>.inl hi)
  ·have hsz:r.len*sz+news.length<=cells.size:=by
    rw [hn,H.size,<-Io]
    exact Nat.mul_le_mul_right _ hc
   have hblk:(zc h r.base (r.len*sz) news)[b]?=some (.cells (lay cells (r.len*sz) news) ty (0,0)):=by
    rw [H.base]
    show(hsetL h ((⟨b,0,none⟩:Addr).add (r.len*sz)) news 0)[b]?=_
    rw [KM,EC,KHS _ _ _ _ H.blk,FX]
   have hne:∀i,i≠b->(zc h r.base (r.len*sz) news)[i]?=h[i]?:=λi hi=>by
    rw [H.base]
    show(hsetL h ((⟨b,0,none⟩:Addr).add (r.len*sz)) news 0)[i]?=_
    rw [KM,KHR hi]
   have hsize:(zc h r.base (r.len*sz) news).size=h.size:=by
    rw [H.base]
    exact ze _ _ _
   refine⟨λa ha j hj=>?_,h1,hq _ _ (.inr ⟨b,ty,_,H.base,H.lo,hblk,?_,hc,?_,λj v hj=>?_⟩) rfl (by rw [hsize];exact Ee _) (λi hi hno=>hne i (λe=>hno ⟨_,H.base,e.symm⟩)) (λi hi=>.inl hi)⟩
   ·rw [H.base]at ha;cases ha
    rw [KM,KM,EC,KF H.blk,Kv H.blk]
    exact⟨⟨_,EF (by omega)⟩,rfl⟩
   ·rw [KAK];exact H.size
   ·rw [List.length_append,H.len,hn,Io]
   ·rw [<-Fu,KBg _ _ _ hsz]
    have hlen:(cells.toList.take (r.len*sz)).length=r.len*sz:=by rw [EI,Ep];omega
    by_cases hj1:j<vs.length
    ·rw [Fk hj1]at hj
     have:=H.get j v hj
     rw [Ek,Fk (by rw [hlen,<-H.len];exact hj1),I6,if_pos (by rw [<-H.len];exact hj1),Fu]
     exact this
    ·rw [Fi (by omega)]at hj
     have hjn:j - vs.length<news.length:=(Fj.1 hj).1
     rw [Ek,Fi (by rw [hlen,<-H.len];omega),hlen,Fk (by rw [<-H.len];exact hjn),<-H.len]
     exact hj
 ·rename_i hc
  refine⟨hb,hm,vs,H.len,H.reads,λcap hcap=>?_⟩
  have hl:=H.len
  refine hq _ _ (.inr ⟨h.size,e,_,rfl,hlo,Kx,?_,hcap,?_,λj v hj=>?_⟩) rfl (by simp) (λi hi _=>qG hi) (λi hi=>.inr ?_)
  ·rw [Oc,Oc,KL9,IN,IN,hl,hn,hz]
   show r.len*sz+x.len*sz+(cap - (r.len+x.len))*sz=cap*sz
   rw [<-Io,<-Io]
   congr 1
   omega
  ·rw [List.length_append,hl,hn,Io]
  ·have hlt:j<(vs++news).length:=(Fj.1 hj).1
   rw [IL (by simpa using hlt)]
   rw [<-hj]
   simp
  ·obtain⟨a,ha,rfl⟩:=hi
   cases ha
   exact Ee _
structure Km (S:Nat->Prop) (h h':Heap):Prop where
 size:h.size<=h'.size
 same:∀i,i<h.size->¬S i->h'[i]?=h[i]?
theorem Km.refl (S:Nat->Prop) (h:Heap):Km S h h:=⟨Ee _,λ_ _ _=>rfl⟩
theorem Km.trans {S:Nat->Prop} {h h' h'':Heap} (a:Km S h h') (b:Km S h' h''):Km S h h'':=
 ⟨Fb a.size b.size,λi hi hn=>(b.same i (Ez hi a.size) hn).trans (a.same i hi hn)⟩
theorem Km.ext {S:Nat->Prop} {h h':Heap} (a:Ext h h'):Km S h h':=⟨a.size,λi hi _=>a.same i hi⟩
theorem Km.upd {S:Nat->Prop} {h h':Heap} {b:Nat} (u:Upd b h h') (hb:S b):Km S h h':=⟨by rw [u.size];exact Ee _,λi hi hn=>u.ne i (λe=>hn (e▸hb))⟩
theorem Km.own {S:Nat->Prop} {h h' h'':Heap} {b:Nat} (K:Km S h h') (u:Upd b h' h'') (hb:h.size<=b):Km S h h'':=
 ⟨by rw [u.size];exact K.size,λi hi hn=>(u.ne i (by omega)).trans (K.same i hi hn)⟩
theorem Km.blk {S:Nat->Prop} {h h':Heap} (k:Km S h h') {b:Nat} {o:Obj} (hb:h[b]?=some o) (hn:¬S b):h'[b]?=some o:=(k.same b (JV hb) hn).trans hb
theorem Ext.km {S:Nat->Prop} {h h' h'':Heap} (e:Ext h h') (k:Km S h' h'') (hF:∀i,S i->h.size<=i):Ext h h'':=
 ⟨Fb e.size k.size,λi hi=>(k.same i (Ez hi e.size) (λho=>by have:=hF i ho;omega)).trans (e.same i hi)⟩
theorem Gw.bys {lo:Nat} {h:Heap} {r:Sl} {l:Eb} (H:Gw lo h r 1 (l.map bv)):Bys h r l:=⟨by have:=H.len;simp at this;exact this.symm,H.reads⟩
theorem Gw.cap {lo:Nat} {h:Heap} {r:Sl} {sz:Nat} {vs:List Value} (H:Gw lo h r sz vs):r.len<=r.cap:=by
 rcases H with⟨rfl,_⟩|⟨b,ty,cells,H⟩
 ·exact Ee _
 ·exact H.cap
theorem Gw.ext {lo:Nat} {h h':Heap} {r:Sl} {sz:Nat} {vs:List Value} (H:Gw lo h r sz vs) (e:Ext h h'):Gw lo h' r sz vs:=H.same λi hi=>e.same i (H.lt hi).1
theorem KC8 (s:Sl):one s.v=true:=by cases s;rfl
theorem stR {β:Type} {h:Heap} {Q:β->Heap->Prop} {b off:Nat} {cs vs:Ea} {ty:TypeId} {f:Unit->M β} (hb:h[b]?=some (.cells cs ty (0,0))) (hl:off+vs.size<=cs.size) (h1:∀v∈vs.toList,one v=true)
  (H:∀h',Upd b h h'->h'[b]?=some (.cells (lay cs off vs.toList) ty (0,0))->(f ()).wp h' Q):(stG ⟨b,off,none⟩ vs>>=f).wp h Q:=by
 refine KZ2 (λi hi=>?_) h1 (H _ (Upd.hsetL _ _ _ _ _) (by rw [KHS _ _ _ _ hb,FX]))
 rw [KM,KF hb]
 exact⟨⟨_,EF (by omega)⟩,Kv hb⟩
theorem ldR {β:Type} {h:Heap} {Q:β->Heap->Prop} {b n:Nat} {cs:Ea} {ty:TypeId} {f:Ea->M β} (hb:h[b]?=some (.cells cs ty (0,0))) (hn:cs.size=n) (H:(f cs).wp h Q):(ldG n ⟨b,0,none⟩>>=f).wp h Q:=
 YF hn (λi hi=>by rw [KM,EC,KF hb]) H
theorem Ext.modify {h h':Heap} {b:Nat} {f:Obj->Obj} (e:Ext h h') (hb:h.size<=b):Ext h (h'.modify b f):=
 ⟨by rw [Array.size_modify];exact e.size,λi hi=>by
  rw [Iu,if_neg (by omega)];exact e.same i hi⟩
end Gx
namespace Gx
open Go
section
variable {P:Program} {n:Frm} {a:Act} {w:World} {l:List (Nat×Value)} {dst:Option Tmp} {ty:TypeId} {pos:String} {aft:Array Edge} {g:Option (Nat×Bool)}
theorem KWa {b:Bool} {len cap:Nat} {k' k'':IntKind} {hi mx:Int} (h1:0<=hi) (h2:hi<=mx) (h3:mx<=cap):(Instr.sliceBounds b len cap none (some (.int k' hi)) (some (.int k'' mx))).run P w=.ok (0,hi.toNat,mx.toNat) w:=by
 have e2:hi<=((mx.toNat:Nat):Int):=by omega
 simp [Instr.sliceBounds,KKP rfl (by omega:0<=mx) h3,KKP rfl h1 e2]
theorem KNx {t e m:Nat} {x z u:Operand} {s:Sl} {k' k'':IntKind} {hi mx:Int} {r:Sl} (hE:Env n a l) (hx:opv l x=some s.v) (hz:opv l z=some (.int k' hi)) (hu:opv l u=some (.int k'' mx)) (ht:P.underlying t=some (.slice e)) (hm:szB P e m=true)
  (hc:0<=(0:Int)/\(0:Int)<=hi/\hi<=mx/\mx<=s.cap/\r=⟨if mx.toNat=(0:Int).toNat then s.base else s.base.map (·.add ((0:Int).toNat*m)),hi.toNat - (0:Int).toNat,mx.toNat - (0:Int).toNat⟩):
  (execOp a.eval ⟨dst,.slice t x none (some z) (some u),ty,pos,aft,g⟩).run P w=.ok (.value r.v) w:=by
 obtain⟨h0,h1,h2,h3,rfl⟩:=hc
 simp [execOp,hE.opv hx,hE.opv hz,hE.opv hu,Instr.sliceAt,Instr.slice,run_underlying ht,KWa h1 h2 h3,Jl hm,Sl.v]
end
end Gx
namespace Gx
open Go
inductive Kd where
 |I (k:IntKind) (x:Int)|B (b:Bool)|C (b:Bool)|S (s:ByteArray)|A (a:Addr)|P (p:Option Addr)|L (s:Sl)|Mp (m:Option Nat)|G (c:Ea)|V (v:Value)|N (v:Value)|U
 |T (l:List Kd)
def Kd.e0:Kd->Value
 | .I k x=>.int k x
 | .B b=>.bool b
 | .C b=>.bool b
 | .S s=>.string s
 | .A a=>.pointer (some a)
 | .P p=>.pointer p
 | .L s=>s.v
 | .Mp m=>.map m
 | .G c=>.agg c
 | .V v=>v
 | .N v=>v
 | .U=>undef
 | .T _=>undef
def Kd.flat:Kd->Bool
 | .T _=>false
 |_=>true
def Kd.e:Kd->Value
 | .T l=>.tuple (l.map Kd.e0).toArray
 |k=>k.e0
theorem Kd.e_flat {k:Kd} (h:k.flat=true):k.e=k.e0:=by cases k<;>first|rfl|cases h
abbrev KEnv:=List (Nat×Kd)
def encL (l:KEnv):List (Nat×Value):=l.map λp=>(p.1,p.2.e)
def Xt:KEnv->Nat->Option Kd
 | [],_=>none
 |(k,v)::l,d=>bif Nat.beq k d then some v else Xt l d
theorem Vw:∀{l:KEnv} {t:Nat} {k:Kd},Xt l t=some k->look (encL l) t=some k.e
 | [],t,k,h=>by cases h
 |(d,v)::l,t,k,h=>by
  simp only [Xt]at h
  simp only [encL,Er,look]
  cases hb:Nat.beq d t with
  |true=>rw [hb]at h;simp only [Fy,Option.some.injEq]at h⊢;rw [h]
  |false=>rw [hb]at h;exact Vw h
def zkOf:Value->Option Kd
 | .int k x=>some (.I k x)
 | .bool b=>some (.C b)
 | .string s=>some (.S s)
 | .pointer p=>some (.P p)
 | .slice b n c=>some (.L ⟨b,n,c⟩)
 | .map m=>some (.Mp m)
 | .nilFunc=>some (.V .nilFunc)
 | .nilIface=>some (.V .nilIface)
 | .agg cs=>some (.G cs)
 |_=>none
theorem KZ3 {v:Value} {k:Kd} (h:zkOf v=some k):k.e=v:=by
 cases v<;>simp [zkOf]at h<;>subst h<;>rfl
def opk (l:KEnv):Operand->Option Kd
 | .tmp t=>Xt l t
 | .const v=>zkOf v
 | .global g=>some (.A ⟨g,0,none⟩)
 | .func f=>some (.V (.func (.func f) #[] #[]))
theorem KWb {l:KEnv} {x:Operand} {k:Kd} (h:opk l x=some k):opv (encL l) x=some k.e:=by
 cases x with
 |tmp t=>exact Vw h
 |const v=>simp only [opk]at h;simp only [opv,KZ3 h]
 |global g=>simp only [opk,Option.some.injEq]at h;subst h;rfl
 |func f=>simp only [opk,Option.some.injEq]at h;subst h;rfl
def opks (l:KEnv):List Operand->Option (List Kd)
 | []=>some []
 |x::r=>match opk l x with
  |some k=>match opks l r with
   |some ks=>some (k::ks)
   |none=>none
  |none=>none
theorem KO2 {l:KEnv}:∀{xs:List Operand} {ks:List Kd},opks l xs=some ks->opvs (encL l) xs=some (ks.map Kd.e)
 | [],ks,h=>by simp only [opks,Option.some.injEq]at h;subst h;rfl
 |x::r,ks,h=>by
  simp only [opks]at h
  cases h1:opk l x with
  |none=>rw [h1]at h;cases h
  |some k=>
   rw [h1]at h
   simp only at h
   cases h2:opks l r with
   |none=>rw [h2]at h;cases h
   |some ks'=>
    rw [h2]at h
    simp only [Option.some.injEq]at h
    subst h
    simp only [opvs,KWb h1,KO2 h2,Er]
def oppk (l:KEnv):List (Nat×Operand)->Option (List (Nat×Value))
 | []=>some []
 |(i,x)::r=>match opk l x with
  |some k=>match oppk l r with
   |some ks=>some ((i,k.e)::ks)
   |none=>none
  |none=>none
theorem KVV {l:KEnv}:∀{xs:List (Nat×Operand)} {ks:List (Nat×Value)},oppk l xs=some ks->opps (encL l) xs=some ks
 | [],ks,h=>by simp only [oppk,Option.some.injEq]at h;subst h;rfl
 |(i,x)::r,ks,h=>by
  simp only [oppk]at h
  cases h1:opk l x with
  |none=>rw [h1]at h;cases h
  |some k=>
   rw [h1]at h
   simp only at h
   cases h2:oppk l r with
   |none=>rw [h2]at h;cases h
   |some ks'=>
    rw [h2]at h
    simp only [Option.some.injEq]at h
    subst h
    simp only [opps,KWb h1,KVV h2]
inductive Tk where
 |I (k:IntKind)|B|S|A|P|L|Mp|G|V|N|T (l:List Tk)
def Tk.t0:Tk->Type
 | .I _=>Int
 | .B=>Bool
 | .S=>ByteArray
 | .A=>Addr
 | .P=>Option Addr
 | .L=>Sl
 | .Mp=>Option Nat
 | .G=>Ea
 | .V=>Value
 | .N=>Value
 | .T _=>Unit
def Tup:List Tk->Type
 | []=>Unit
 | [k]=>k.t0
 |k::k'::r=>k.t0×Tup (k'::r)
def Tk.kd:(τ:Tk)->τ.t0->Kd
 | .I k,x=>.I k x
 | .B,x=>.B x
 | .S,x=>.S x
 | .A,x=>.A x
 | .P,x=>.P x
 | .L,x=>.L x
 | .Mp,x=>.Mp x
 | .G,x=>.G x
 | .V,x=>.V x
 | .N,x=>.N x
 | .T _,_=>.T []
def KJp (a b:IntKind):Bool:=match a,b with
 | .i8,.i8| .i16,.i16| .i32,.i32| .i64,.i64| .u8,.u8| .u16,.u16| .u32,.u32| .u64,.u64=>true
 |_,_=>false
theorem KBh {a b:IntKind} (h:KJp a b=true):a=b:=by cases a<;>cases b<;>first|rfl|cases h
def Tk.of:(τ:Tk)->(k:Kd)->Option τ.t0
 | .I k,.I k' x=>bif KJp k' k then some x else none
 | .B,.B b=>some b
 | .B,.C b=>some b
 | .S,.S s=>some s
 | .A,.A a=>some a
 | .P,.P p=>some p
 | .P,.A a=>some (some a)
 | .L,.L s=>some s
 | .Mp,.Mp m=>some m
 | .G,.G c=>some c
 | .V,.U=>none
 | .V,.T _=>none
 | .V,.N _=>none
 | .V,k=>some k.e0
 | .N,.N v=>some v
 |_,_=>none
theorem Tk.of_e {τ:Tk} {k:Kd} {x:τ.t0} (h:τ.of k=some x):(τ.kd x).e=k.e:=by
 cases τ with
 |I kk=>
  cases k with
  |I k' y=>
   simp only [Tk.of]at h
   cases hb:KJp k' kk with
   |false=>rw [hb]at h;cases h
   |true=>
    rw [hb]at h
    have:=KBh hb
    subst this
    have h:=Option.some.inj h
    cases h
    rfl
  |_=>cases h
 |T l=>cases k<;>cases h
 |_=>cases k<;>first|(cases h;done)|(have h:=Option.some.inj h;cases h;rfl)
def kT (P:Program) (t:TypeId):Tk:=match P.underlying t with
 |some (.int k)=>.I k
 |some .bool=>.B
 |some .string=>.S
 |some (.pointer _)=>.P
 |some (.slice _)=>.L
 |some (.map _ _)=>.Mp
 |some (.struct _)=>.G
 |some (.array _ _)=>.G
 |some (.tuple ts)=>.T (ts.toList.map λt=>match P.underlying t with
  |some (.int k)=>.I k
  |some .bool=>.B
  |some .string=>.S
  |some (.pointer _)=>.P
  |some (.slice _)=>.L
  |some (.map _ _)=>.Mp
  |some (.struct _)=>.G
  |some (.array _ _)=>.G
  |_=>.V)
 |_=>.V
def tupL:(ks:List Tk)->List Kd->Option (Tup ks)
 | [],[]=>some ()
 | [k],[x]=>k.of x
 |k::k'::r,x::xs=>match k.of x with
  |some v=>match tupL (k'::r) xs with
   |some t=>some (v,t)
   |none=>none
  |none=>none
 |_,_=>none
def kdL:(ks:List Tk)->Tup ks->List Kd
 | [],_=>[]
 | [k],x=>[k.kd x]
 |k::k'::r,x=>k.kd x.1::kdL (k'::r) x.2
theorem KO3 {ks:List Tk}:∀{xs:List Kd} {t:Tup ks},tupL ks xs=some t->xs.map Kd.e=(kdL ks t).map Kd.e:=by
 induction ks with
 |nil=>
  intro xs t h
  cases xs with
  |nil=>rfl
  |cons x xs=>cases h
 |cons k ks ih=>
  intro xs t h
  cases ks with
  |nil=>
   cases xs with
   |nil=>cases h
   |cons x xs=>
    cases xs with
    |nil=>
     have h1:k.of x=some t:=h
     show [x.e]=[(k.kd t).e]
     rw [Tk.of_e h1]
    |cons y ys=>cases h
  |cons k' r=>
   cases xs with
   |nil=>cases h
   |cons x xs=>
    have h0:(match k.of x with|some v=>(match tupL (k'::r) xs with|some t=>some (v,t)|none=>none)|none=>none)=some t:=h
    cases h1:k.of x with
    |none=>rw [h1]at h0;cases h0
    |some v=>
     rw [h1]at h0
     cases h2:tupL (k'::r) xs with
     |none=>rw [h2]at h0;cases h0
     |some t'=>
      rw [h2]at h0
      have h3:(v,t')=t:=Option.some.inj h0
      show x.e::xs.map Kd.e=(k.kd (Prod.fst t)).e::(kdL (k'::r) (Prod.snd t)).map Kd.e
      rw [<-h3,Tk.of_e h1,ih h2]
def KC0 (l:KEnv):List Nat->Option (List Kd)
 | []=>some []
 |t::r=>match Xt l t with
  |some k=>match KC0 l r with
   |some ks=>some (k::ks)
   |none=>none
  |none=>none
def kdR:(τ:List Tk)->Tup τ->Kd
 | [],_=>.T []
 | [k],x=>k.kd x
 |k::k'::r,x=>.T (kdL (k::k'::r) x)
def encR (τ:List Tk) (x:Tup τ):Value:=(kdR τ x).e
def ldT:(τ:Tk)->Addr->M τ.t0
 | .I k,a=>ldI k a
 | .B,a=>ldB a
 | .S,a=>ldS a
 | .P,a=>ldP a
 | .L,a=>ldL a
 | .Mp,a=>ldMp a
 | .V,a=>ldV a
 |_,_=>M.fail
theorem KYc {τ:Tk} {a:Addr} {ρ:Type} {f:τ.t0->M ρ} {h:Heap} {Q:ρ->Heap->Prop} (H:(ldT τ a>>=f).wp h Q):∃x,KJ h a=some (τ.kd x).e/\(f x).wp h Q:=by
 cases τ<;>first|exact H.elim|(obtain⟨x,hx,H⟩:=H;exact⟨x,hx,H⟩)
def fdT:(τ:Tk)->Ea->Nat->M τ.t0
 | .I k,c,i=>fdI k c i
 | .B,c,i=>fdB c i
 | .S,c,i=>fdS c i
 | .P,c,i=>fdP c i
 | .L,c,i=>fdL c i
 | .Mp,c,i=>fdMp c i
 | .V,c,i=>fdV c i
 |_,_,_=>M.fail
theorem KZ4 {τ:Tk} {c:Ea} {i:Nat} {ρ:Type} {f:τ.t0->M ρ} {h:Heap} {Q:ρ->Heap->Prop} (H:(fdT τ c i>>=f).wp h Q):∃x,c[i]?=some (τ.kd x).e/\(f x).wp h Q:=by
 cases τ<;>first|exact H.elim|(obtain⟨x,hx,H⟩:=H;exact⟨x,hx,H⟩)
def KJq (P:Program) (l:KEnv) (o:Oper) (v:Value):Prop:=∀(n:Frm) (a:Act) (w:World),Env n a (encL l)->(execOp a.eval o).run P w=.ok (.value v) w
inductive OpS (P:Program) (l:KEnv) (o:Oper):Type 1 where
 |v (kd:Kd) (ok:KJq P l o kd.e)
 |p (run:∀{ρ:Type},(Kd->M ρ)->M ρ) (ok:∀(ρ:Type) (K:Kd->M ρ) h Q,(run K).wp h Q->∃kd,(K kd).wp h Q/\KJq P l o kd.e)
 |r (run:∀{ρ:Type},(Kd->(Heap->Prop)->M ρ)->M ρ) (ok:∀(ρ:Type) (K:Kd->(Heap->Prop)->M ρ) h Q,(run K).wp h Q->∃kd fact,(K kd fact).wp h Q/\fact h/\∀(n:Frm) (a:Act) (w:World),Env n a (encL l)->fact w.heap->(execOp a.eval o).run P w=.ok (.value kd.e) w)
 |e (run:∀{ρ:Type},(Kd->M ρ)->M ρ) (ok:∀(ρ:Type) (K:Kd->M ρ) (n:Frm) (a:Act) (w:World) Q,Env n a (encL l)->(run K).wp w.heap Q->∃kd w1,(execOp a.eval o).run P w=.ok (.value kd.e) w1/\Rest w w1/\(K kd).wp w1.heap Q)
 |s (run:∀{ρ:Type},M ρ->M ρ) (ok:∀(ρ:Type) (K:M ρ) (n:Frm) (a:Act) (w:World) Q,Env n a (encL l)->(run K).wp w.heap Q->∃w1,(execOp a.eval o).run P w=.ok .skip w1/\Rest w w1/\K.wp w1.heap Q)
 |c (run:∀{ρ:Type},(Kd->M ρ)->M ρ) (ok:∀(ρ:Type) (K:Kd->M ρ) (n:Frm) (a:Act) (w:World) Q,Env n a (encL l)->(run K).wp w.heap Q->∃f args,(execOp a.eval o).run P w=.ok (.enter f args) w/\Calls P f args w λe w'=>∃kd:Kd,e=.returned kd.e/\(K kd).wp w'.heap Q/\Rest w w')
 |cv (τ:List Tk) (v:Value) (vs:List Value) (ok:∃(x:Operand) (args:Array Operand) (ts:Array TypeId),o.op=.call {callee:=.value x,args:=args,argTypes:=ts}/\opv (encL l) x=some v/\opvs (encL l) args.toList=some vs)
section find
variable {β:Type 1} (P:Program) (l:KEnv)
def wk (x:Operand) (f:(k:Kd)->opv (encL l) x=some k.e->Option β):Option β:=match h:opk l x with
 |some k=>f k (KWb h)
 |none=>none
def wI (x:Operand) (f:(k:IntKind)->(i:Int)->opv (encL l) x=some (.int k i)->Option β):Option β:=wk l x λkd h=>match kd,h with
 | .I k i,h=>f k i h
 |_,_=>none
def wB (x:Operand) (f:(b:Bool)->opv (encL l) x=some (.bool b)->Option β):Option β:=wk l x λkd h=>match kd,h with
 | .B b,h=>f b h
 | .C b,h=>f b h
 |_,_=>none
def wS (x:Operand) (f:(s:ByteArray)->opv (encL l) x=some (.string s)->Option β):Option β:=wk l x λkd h=>match kd,h with
 | .S b,h=>f b h
 |_,_=>none
def wA (x:Operand) (f:(a:Addr)->opv (encL l) x=some (.pointer (some a))->Option β):Option β:=wk l x λkd h=>match kd,h with
 | .A b,h=>f b h
 |_,_=>none
def wP (x:Operand) (f:(a:Option Addr)->opv (encL l) x=some (.pointer a)->Option β):Option β:=wk l x λkd h=>match kd,h with
 | .A b,h=>f (some b) h
 | .P b,h=>f b h
 |_,_=>none
def wL (x:Operand) (f:(s:Sl)->opv (encL l) x=some s.v->Option β):Option β:=wk l x λkd h=>match kd,h with
 | .L b,h=>f b h
 |_,_=>none
def wMp (x:Operand) (f:(s:Option Nat)->opv (encL l) x=some (.map s)->Option β):Option β:=wk l x λkd h=>match kd,h with
 | .Mp b,h=>f b h
 |_,_=>none
def wG (x:Operand) (f:(s:Ea)->opv (encL l) x=some (.agg s)->Option β):Option β:=wk l x λkd h=>match kd,h with
 | .G b,h=>f b h
 |_,_=>none
def wks (xs:Array Operand) (f:(ks:List Kd)->opvs (encL l) xs.toList=some (ks.map Kd.e)->Option β):Option β:=match h:opks l xs.toList with
 |some k=>f k (KO2 h)
 |none=>none
def wps (xs:Array (Nat×Operand)) (f:(ks:List (Nat×Value))->opps (encL l) xs.toList=some ks->Option β):Option β:=match h:oppk l xs.toList with
 |some k=>f k (KVV h)
 |none=>none
def wb (b:Bool) (f:b=true->Option β):Option β:=match h:b with
 |true=>f rfl
 |false=>none
def wU (t:TypeId) (f:(d:TypeDesc)->P.underlying t=some d->Option β):Option β:=match h:P.underlying t with
 |some d=>f d h
 |none=>none
def wZ (t:TypeId) (f:(z:Value)->(P.info? t).bind (·.zero)=some z->Option β):Option β:=match h:(P.info? t).bind (·.zero)with
 |some d=>f d h
 |none=>none
def wSz (t:TypeId) (f:(m:Nat)->szB P t m=true->Option β):Option β:=match h:P.info? t with
 |some i=>f i.size (by unfold szB;rw [h];exact ID _)
 |none=>none
def wO {α:Type} (x:Option α) (f:(y:α)->x=some y->Option β):Option β:=match h:x with
 |some y=>f y rfl
 |none=>none
end find
def apOf (P:Program) (t e:TypeId):Option (Nat×Nat×Ea):=(P.info? e).bind λi=>i.zero.map λv=>(i.size,i.bytes,v.cells)
theorem YM {w:World} {h:Heap}:Rest w {w with heap:=h}:=⟨rfl,rfl,rfl,Ee _⟩
end Gx
namespace Gx
open Go
structure CalleeS (P:Program):Type 1 where
 f:FuncId
 sem:∀(l:KEnv) (dst:Option Tmp) (ty:TypeId) (pos:String) (aft:Array Edge) (g:Option (Nat×Bool)) (args:Array Operand) (ts:Array TypeId) (f':FuncId),f'=f->
  Option (OpS P l ⟨dst,.call {callee:=.value (.func f'),args:=args,argTypes:=ts},ty,pos,aft,g⟩)
def mkC {P:Program} (f:FuncId) (cl:Callee? P f) (ks rk:List Tk) (F:Tup ks->M (Tup rk)) (S:∀t,KY P f ((kdL ks t).map Kd.e).toArray (encR rk) (F t)):CalleeS P where
 f:=f
 sem l dst ty pos aft g args ts f' hf:=wks l args λkds h=>match ht:tupL ks kds with
  |none=>none
  |some t=>some (.c (λK=>F t>>=λr=>K (kdR rk r)) (by
   subst hf
   intro ρ K n a w Q hE H
   rw [KO3 ht]at h
   exact⟨f',_,KJi hE cl h,((S t) w _ H).mono λe w' ⟨r,h1,h2,h3⟩=>⟨_,h1,h2,h3⟩⟩))
def KYd {P:Program} (f:FuncId):List (CalleeS P)->Option {c:CalleeS P // f=c.f}
 | []=>none
 |c::r=>match h:Nat.beq f c.f with
  |true=>some ⟨c,Eu h⟩
  |false=>KYd f r
section
variable (P:Program) (l:KEnv) (dst:Option Tmp) (ty:TypeId) (pos:String) (aft:Array Edge) (g:Option (Nat×Bool))
section bin
variable {P l dst ty pos aft g}
theorem JZ {op:BinOp} {xt yt:TypeId} {x y:Operand} {u v r:Value} (hx:opv (encL l) x=some u) (hy:opv (encL l) y=some v) (hg:∀w:World,(eqGuard op xt x y u v).run P w=.ok () w) (hr:∀w:World,(binOp op xt u v).run P w=.ok r w):
  KJq P l ⟨dst,.binOp op xt x y yt,ty,pos,aft,g⟩ r:=λn a w hE=>KJB hE hx hy (hg w) (hr w)
theorem Jk {α:Type} {p:α->Prop} {o:Oper} {kd:α->Kd} (h:∀x,p x->KJq P l o (kd x).e):∀(ρ:Type) (K:Kd->M ρ) (hh:Heap) Q,((M.get λ_ x=>p x)>>=λx=>K (kd x)).wp hh Q->∃kd,(K kd).wp hh Q/\KJq P l o kd.e:=
 λρ K hh Q ⟨x,hx,H⟩=>⟨kd x,H,h x hx⟩
end bin
def KZ5 (op:BinOp) (xt:TypeId) (x y:Operand) (yt:TypeId) (k:IntKind) (u:Int) (hx:opv (encL l) x=some (.int k u)) (k':IntKind) (v:Int) (hy:opv (encL l) y=some (.int k' v)):Option (OpS P l ⟨dst,.binOp op xt x y yt,ty,pos,aft,g⟩):=
 let go (r:Kd) (h:k'=k->∀w:World,(binOp op xt (.int k u) (.int k' v)).run P w=.ok r.e w):Option (OpS P l ⟨dst,.binOp op xt x y yt,ty,pos,aft,g⟩):=match hk:KJp k' k with
  |true=>some (.v r (JZ hx hy (λ_=>KEX) (h (KBh hk))))
  |false=>none
 let isC (o:Operand):Bool:=match o with| .const _=>true|_=>false
 match op,go with
 | .add,go=>go (.I k (k.wrap (u+v))) (λe w=>by subst e;exact KZd)
 | .sub,go=>go (.I k (k.wrap (u - v))) (λe w=>by subst e;exact KZe)
 | .mul,go=>go (.I k (k.wrap (u*v))) (λe w=>by subst e;exact KZf)
 | .and,go=>go (.I k (iAnd k u v)) (λe w=>by subst e;exact KZg)
 | .or,go=>go (.I k (iOr k u v)) (λe w=>by subst e;exact b_or)
 | .xor,go=>go (.I k (iXor k u v)) (λe w=>by subst e;exact KZh)
 | .andNot,go=>go (.I k (KNi k u v)) (λe w=>by subst e;exact KTT)
 | .eql,go=>go (.B (u==v)) (λe w=>by subst e;exact KXt)
 | .neq,go=>go (.B (u !=v)) (λe w=>by subst e;exact KXu)
 | .lss,go=>go (.B (decide (u<v))) (λe w=>by subst e;exact KXv)
 | .leq,go=>go (.B (decide (u<=v))) (λe w=>by subst e;exact KZi)
 | .gtr,go=>go (.B (decide (u>v))) (λe w=>by subst e;exact KV8)
 | .geq,go=>go (.B (decide (u>=v))) (λe w=>by subst e;exact KZj)
 | .shl,_=>match isC y with
  |true=>match hv:decide (0<=v)with
   |true=>some (.v (.I k (iShl k u v)) (JZ hx hy (λ_=>KEX) (λw=>KXw ⟨Ec hv,rfl⟩)))
   |false=>none
  |false=>some (.p (λK=>pShl k u v>>=λz=>K (.I k z)) (Jk λz hz=>JZ hx hy (λ_=>KEX) (λw=>KXw hz)))
 | .shr,_=>match isC y with
  |true=>match hv:decide (0<=v)with
   |true=>some (.v (.I k (iShr k u v)) (JZ hx hy (λ_=>KEX) (λw=>KXx ⟨Ec hv,rfl⟩)))
   |false=>none
  |false=>some (.p (λK=>pShr k u v>>=λz=>K (.I k z)) (Jk λz hz=>JZ hx hy (λ_=>KEX) (λw=>KXx hz)))
 | .quo,_=>match hk:KJp k' k with
  |false=>none
  |true=>match isC y with
   |true=>match hv:decide (v≠0)with
    |true=>some (.v (.I k (k.wrap (Int.tdiv u v))) (JZ hx hy (λ_=>KEX) (λw=>by have e:=KBh hk;subst e;exact KXy ⟨Ec hv,rfl⟩)))
    |false=>none
   |false=>some (.p (λK=>pQuo k u v>>=λz=>K (.I k z)) (Jk λz hz=>JZ hx hy (λ_=>KEX) (λw=>by have e:=KBh hk;subst e;exact KXy hz)))
 | .rem,_=>match hk:KJp k' k with
  |false=>none
  |true=>match isC y with
   |true=>match hv:decide (v≠0)with
    |true=>some (.v (.I k (Int.tmod u v)) (JZ hx hy (λ_=>KEX) (λw=>by have e:=KBh hk;subst e;exact KXz ⟨Ec hv,rfl⟩)))
    |false=>none
   |false=>some (.p (λK=>pRem u v>>=λz=>K (.I k z)) (Jk λz hz=>JZ hx hy (λ_=>KEX) (λw=>by have e:=KBh hk;subst e;exact KXz hz)))
def fkOf (P:Program) (t:TypeId):List FK:=(P.fieldsOf t).toList.map λf=>match P.underlying f.type with
 |some (.int k)=>.I k
 |some .bool=>.B
 |_=>.S
def KZ6 (op:BinOp) (xt:TypeId) (x y:Operand) (yt:TypeId) (k1:Kd) (hx:opv (encL l) x=some k1.e) (k2:Kd) (hy:opv (encL l) y=some k2.e):Option (OpS P l ⟨dst,.binOp op xt x y yt,ty,pos,aft,g⟩):=
 match op with
 | .eql=>match k1,hx,k2,hy with
  | .A p,hx,.P none,hy=>wU P xt λd hd=>match d,hd with
   | .pointer e,hd=>some (.v (.B (some p).isNone) (JZ hx hy (λ_=>KTb) (λw=>KVM hd)))
   |_,_=>none
  | .P p,hx,.P none,hy=>wU P xt λd hd=>match d,hd with
   | .pointer e,hd=>some (.v (.B p.isNone) (JZ hx hy (λ_=>KTb) (λw=>KVM hd)))
   |_,_=>none
  | .L s,hx,.L ⟨none,0,0⟩,hy=>wU P xt λd hd=>match d,hd with
   | .slice e,hd=>some (.v (.B s.base.isNone) (JZ hx hy (λ_=>g_sl (v:=Sl.nil)) (λw=>KYA hd)))
   |_,_=>none
  | .Mp m,hx,.Mp none,hy=>wU P xt λd hd=>match d,hd with
   | .map k e,hd=>some (.v (.B m.isNone) (JZ hx hy (λ_=>g_mp) (λw=>KYC hd)))
   |_,_=>none
  | .B u,hx,.B v,hy=>wU P xt λd hd=>match d,hd with
   | .bool,hd=>some (.v (.B (u==v)) (JZ hx hy (λ_=>KOy) (λw=>KVP hd)))
   |_,_=>none
  | .B u,hx,.C v,hy=>wU P xt λd hd=>match d,hd with
   | .bool,hd=>some (.v (.B (u==v)) (JZ hx hy (λ_=>KOy) (λw=>KVP hd)))
   |_,_=>none
  | .S u,hx,.S v,hy=>some (.v (.B (sEq u v)) (JZ hx hy (λ_=>KNu) (λw=>KYE)))
  | .V v,hx,.V .nilFunc,hy=>wb (fnB P xt) λht=>some (.p (λK=>isNF v>>=λb=>K (.B b)) (Jk λb hb=>JZ hx hy (λ_=>g_fn hb) (λw=>KYW ht hb)))
  | .V v,hx,.V .nilIface,hy=>match y,hy with
   | .const c,hy=>wb (ifB P xt) λht=>some (.p (λK=>isNI v>>=λb=>K (.B b)) (Jk λb hb=>JZ hx hy (λ_=>g_ni hb) (λw=>KL8 ht hb)))
   |_,_=>none
  | .V v,hx,.V (.iface te (.int kk n)),hy=>wb (ifB P xt) λht=>wb (cmB P te) λhc=>some (.p (λK=>eqII te v (.iface te (.int kk n))>>=λb=>K (.B b)) (Jk λb hb=>JZ hx hy (λ_=>g_ii hb) (λw=>KYZ ht hc hb)))
  | .G u,hx,.G v,hy=>wU P xt λd hd=>match d,hd with
   | .struct _,_=>wb (!P.eqGuardType P.depth xt) λhe=>wb (flB P xt (fkOf P xt)) λhf=>some (.p (λK=>eqS (fkOf P xt) u v>>=λb=>K (.B b)) (Jk λb hb=>JZ hx hy (λ_=>KTc (by simpa using he)) (λw=>KYU hf hb)))
   | .array q e,hd=>wU P e λd2 hd2=>match d2,hd2 with
    | .int k,hd2=>wb (!P.eqGuardType P.depth xt) λhe=>wb (szB P e 1) λhs=>some (.p (λK=>eqA k q u v>>=λb=>K (.B b)) (Jk λb hb=>JZ hx hy (λ_=>KTc (by simpa using he)) (λw=>KYL hd hd2 hs hb)))
    |_,_=>none
   |_,_=>none
  |_,_,_,_=>none
 | .neq=>match k1,hx,k2,hy with
  | .A p,hx,.P none,hy=>wU P xt λd hd=>match d,hd with
   | .pointer e,hd=>some (.v (.B !(some p).isNone) (JZ hx hy (λ_=>KTb) (λw=>KVN hd)))
   |_,_=>none
  | .P p,hx,.P none,hy=>wU P xt λd hd=>match d,hd with
   | .pointer e,hd=>some (.v (.B !p.isNone) (JZ hx hy (λ_=>KTb) (λw=>KVN hd)))
   |_,_=>none
  | .L s,hx,.L ⟨none,0,0⟩,hy=>wU P xt λd hd=>match d,hd with
   | .slice e,hd=>some (.v (.B !s.base.isNone) (JZ hx hy (λ_=>g_sl (v:=Sl.nil)) (λw=>KYB hd)))
   |_,_=>none
  | .Mp m,hx,.Mp none,hy=>wU P xt λd hd=>match d,hd with
   | .map k e,hd=>some (.v (.B !m.isNone) (JZ hx hy (λ_=>g_mp) (λw=>KYD hd)))
   |_,_=>none
  | .B u,hx,.B v,hy=>wU P xt λd hd=>match d,hd with
   | .bool,hd=>some (.v (.B (u !=v)) (JZ hx hy (λ_=>KOy) (λw=>KVQ hd)))
   |_,_=>none
  | .B u,hx,.C v,hy=>wU P xt λd hd=>match d,hd with
   | .bool,hd=>some (.v (.B (u !=v)) (JZ hx hy (λ_=>KOy) (λw=>KVQ hd)))
   |_,_=>none
  | .S u,hx,.S v,hy=>some (.v (.B !(sEq u v)) (JZ hx hy (λ_=>KNu) (λw=>KYF)))
  | .V v,hx,.V .nilFunc,hy=>wb (fnB P xt) λht=>some (.p (λK=>isNF v>>=λb=>K (.B !b)) (Jk λb hb=>JZ hx hy (λ_=>g_fn hb) (λw=>KYX ht hb)))
  | .V v,hx,.V .nilIface,hy=>match y,hy with
   | .const c,hy=>wb (ifB P xt) λht=>some (.p (λK=>isNI v>>=λb=>K (.B !b)) (Jk λb hb=>JZ hx hy (λ_=>g_ni hb) (λw=>KYY ht hb)))
   |_,_=>none
  | .G u,hx,.G v,hy=>wU P xt λd hd=>match d,hd with
   | .struct _,_=>wb (!P.eqGuardType P.depth xt) λhe=>wb (flB P xt (fkOf P xt)) λhf=>some (.p (λK=>eqS (fkOf P xt) u v>>=λb=>K (.B !b)) (Jk λb hb=>JZ hx hy (λ_=>KTc (by simpa using he)) (λw=>KYV hf hb)))
   | .array q e,hd=>wU P e λd2 hd2=>match d2,hd2 with
    | .int k,hd2=>wb (!P.eqGuardType P.depth xt) λhe=>wb (szB P e 1) λhs=>some (.p (λK=>eqA k q u v>>=λb=>K (.B !b)) (Jk λb hb=>JZ hx hy (λ_=>KTc (by simpa using he)) (λw=>KYM hd hd2 hs hb)))
    |_,_=>none
   |_,_=>none
  |_,_,_,_=>none
 | .add=>match k1,hx,k2,hy with
  | .S u,hx,.S v,hy=>some (.p (λK=>sCat u v>>=λr=>K (.S r)) (Jk λr hr=>JZ hx hy (λ_=>KNu) (λw=>KYK hr)))
  |_,_,_,_=>none
 | .lss=>match k1,hx,k2,hy with
  | .S u,hx,.S v,hy=>some (.v (.B (sLt u v)) (JZ hx hy (λ_=>KNu) (λw=>KYG)))
  |_,_,_,_=>none
 | .leq=>match k1,hx,k2,hy with
  | .S u,hx,.S v,hy=>some (.v (.B (sLt u v||sEq u v)) (JZ hx hy (λ_=>KNu) (λw=>KYH)))
  |_,_,_,_=>none
 | .gtr=>match k1,hx,k2,hy with
  | .S u,hx,.S v,hy=>some (.v (.B !(sLt u v||sEq u v)) (JZ hx hy (λ_=>KNu) (λw=>KYI)))
  |_,_,_,_=>none
 | .geq=>match k1,hx,k2,hy with
  | .S u,hx,.S v,hy=>some (.v (.B !(sLt u v)) (JZ hx hy (λ_=>KNu) (λw=>KYJ)))
  |_,_,_,_=>none
 |_=>none
def sBin (op:BinOp) (xt:TypeId) (x y:Operand) (yt:TypeId):Option (OpS P l ⟨dst,.binOp op xt x y yt,ty,pos,aft,g⟩):=
 wk l x λk1 hx=>wk l y λk2 hy=>match k1,hx,k2,hy with
  | .I k u,hx,.I k' v,hy=>KZ5 P l dst ty pos aft g op xt x y yt k u hx k' v hy
  |k1,hx,k2,hy=>KZ6 P l dst ty pos aft g op xt x y yt k1 hx k2 hy
def KZ7 (t:TypeId) (x:Operand):Option (OpS P l ⟨dst,.load t x,ty,pos,aft,g⟩):=
 wA l x λp hx=>match kT P t with
  | .G=>wSz P t λm _=>wb (agB P t m) λha=>some (.r (λK=>ldG m p>>=λc=>K (.G c) (λh=>c.size=m/\∀i,i<m->KJ h (Addr.add p i)=c[i]?))
    (λρ K h Q ⟨c,hc,H⟩=>⟨_,_,H,hc,λn a w hE hf=>KNj hE hx ha hf⟩))
  |τ=>wb (scB P t) λhs=>some (.r (λK=>ldT τ p>>=λc=>K (τ.kd c) (λh=>KJ h p=some (τ.kd c).e))
    (λρ K h Q H=>by
     obtain⟨c,hc,H⟩:=KYc H
     exact⟨_,_,H,hc,λn a w hE hf=>qA hE hx hs hf⟩))
def KYe (t:TypeId) (x y:Operand):Option (OpS P l ⟨dst,.store t x y,ty,pos,aft,g⟩):=
 wA l x λp hx=>match kT P t with
  | .G=>wG l y λc hy=>wSz P t λm hm=>some (.s (λK=>M.need (c.size=m)>>=λ_=>stG p c>>=λ_=>K)
    (λρ K n a w Q hE H=>by
     obtain⟨hz,_,hc,H⟩:=H
     exact⟨_,KAG hE hx hy hm hz hc,YM,H⟩))
  |_=>wk l y λv hy=>wb (szB P t 1) λhm=>some (.s (λK=>stV p v.e>>=λ_=>K)
    (λρ K n a w Q hE H=>by
     obtain⟨_,hc,H⟩:=H
     exact⟨_,Jr hE hx hy hm hc,YM,H⟩))
end
end Gx
namespace Gx
open Go
section
variable (P:Program) (l:KEnv) (dst:Option Tmp) (ty:TypeId) (pos:String) (aft:Array Edge) (g:Option (Nat×Bool))
def KYf (t:TypeId) (x:Operand) (lo hi mx:Option Operand):Option (OpS P l ⟨dst,.slice t x lo hi mx,ty,pos,aft,g⟩):=
 wU P t λd hd=>match d,hd with
  | .array q e,hd=>wA l x λp hx=>wSz P e λm hm=>match lo,hi,mx with
   |some y,some z,none=>wI l y λk u hy=>wI l z λk' v hz=>some (.p (λK=>slA p q u v m>>=λr=>K (.L r)) (Jk λr hr n a w hE=>KNr hE hx hy hz hd hm hr))
   |some y,none,none=>wI l y λk u hy=>some (.p (λK=>slA p q u q m>>=λr=>K (.L r)) (Jk λr hr n a w hE=>KQM hE hx hy hd hm hr))
   |none,some z,none=>wI l z λk' v hz=>some (.p (λK=>slA p q 0 v m>>=λr=>K (.L r)) (Jk λr hr n a w hE=>KQL hE hx hz hd hm hr))
   |none,none,none=>some (.p (λK=>slA p q 0 q m>>=λr=>K (.L r)) (Jk λr hr n a w hE=>KRH hE hx hd hm hr))
   |_,_,_=>none
  | .slice e,hd=>wL l x λs hx=>wSz P e λm hm=>match lo,hi,mx with
   |some y,some z,none=>wI l y λk u hy=>wI l z λk' v hz=>some (.p (λK=>slL s u v m>>=λr=>K (.L r)) (Jk λr hr n a w hE=>KNs hE hx hy hz hd hm hr))
   |some y,none,none=>wI l y λk u hy=>some (.p (λK=>slL s u s.len m>>=λr=>K (.L r)) (Jk λr hr n a w hE=>KQO hE hx hy hd hm hr))
   |none,some z,none=>wI l z λk' v hz=>some (.p (λK=>slL s 0 v m>>=λr=>K (.L r)) (Jk λr hr n a w hE=>KQN hE hx hz hd hm hr))
   |none,none,none=>some (.p (λK=>slL s 0 s.len m>>=λr=>K (.L r)) (Jk λr hr n a w hE=>KRI hE hx hd hm hr))
   |some y,some z,some u=>wI l y λk lo hy=>wI l z λk' hi hz=>wI l u λk'' mx hu=>some (.p (λK=>slL3 s lo hi mx m>>=λr=>K (.L r)) (Jk λr hr n a w hE=>KRN hE hx hy hz hu hd hm hr))
   |none,some z,some u=>wI l z λk' hi hz=>wI l u λk'' mx hu=>some (.p (λK=>slL3 s 0 hi mx m>>=λr=>K (.L r)) (Jk λr hr n a w hE=>KNx hE hx hz hu hd hm hr))
   |_,_,_=>none
  | .string,hd=>wS l x λs hx=>match lo,hi,mx with
   |some y,some z,none=>wI l y λk u hy=>wI l z λk' v hz=>some (.p (λK=>slS s u v>>=λr=>K (.S r)) (Jk λr hr n a w hE=>KNt hE hx hy hz hd hr))
   |some y,none,none=>wI l y λk u hy=>some (.p (λK=>slS s u s.size>>=λr=>K (.S r)) (Jk λr hr n a w hE=>KQQ hE hx hy hd hr))
   |none,some z,none=>wI l z λk' v hz=>some (.p (λK=>slS s 0 v>>=λr=>K (.S r)) (Jk λr hr n a w hE=>KQP hE hx hz hd hr))
   |_,_,_=>none
  |_,_=>none
def KZ8 (s d:TypeId) (x:Operand):Option (OpS P l ⟨dst,.convert s d x,ty,pos,aft,g⟩):=
 wU P s λds hs=>wU P d λdd hd=>match ds,hs,dd,hd with
  | .int _,hs,.int k',hd=>wI l x λk i hx=>some (.v (.I k' (k'.wrap i)) (λn a w hE=>KV7 hE hx hs hd))
  | .string,hs,.string,hd=>wS l x λu hx=>some (.v (.S u) (λn a w hE=>KWP hE hx hs hd))
  | .slice e,hs,.string,hd=>wL l x λu hx=>wU P e λde he=>match de,he with
   | .int .u8,he=>some (.r (λK=>b2s u>>=λr=>K (.S r) (λh=>∃ns:Eb,ns.length=u.len/\KAI h u.base (ns.map λb=>Value.int .u8 (b.toNat:Int))/\r=⟨ns.toArray⟩)) (λρ K h Q ⟨r,hr,H⟩=>⟨_,_,H,hr,λn a w hE hf=>KWO hE hx hs hd he hf⟩))
   |_,_=>none
  | .string,hs,.slice e,hd=>wS l x λu hx=>wU P e λde he=>match de,he with
   | .int .u8,he=>some (.e (λK=>s2b e u>>=λr=>K (.L r)) (λρ K n a w Q hE H=>by
     obtain⟨r,w1,h1,h2,h3⟩:=KWQ hE hx hs hd he (M.unbind H)
     exact⟨.L r,w1,h1,h2,h3⟩))
   |_,_=>none
  | .slice e,hs,.slice _,hd=>wL l x λu hx=>wU P e λde he=>match de,he with
   | .int .u8,he=>match h:Nat.beq s d with
    |true=>some (.e (λK=>mrk u>>=λr=>K (.L r)) (λρ K n a w Q hE ⟨r,hr,H⟩=>by
      have e:=Eu h
      subst e
      exact⟨.L r,_,KZx hE hx hs he hr,YM,H⟩))
    |false=>none
   |_,_=>none
  |_,_,_,_=>none
def Tk.flat:Tk->Bool
 | .T _=>false
 |_=>true
theorem Tk.flat_e {τ:Tk} (h:τ.flat=true) (x:τ.t0):(τ.kd x).flat=true:=by cases τ<;>first|rfl|cases h
def KWc (t:TypeId) (x y:Operand) (ok:Bool):Option (OpS P l ⟨dst,.lookup t x y ok,ty,pos,aft,g⟩):=
 wU P t λd hd=>match d,hd with
  | .map kt e,hd=>wMp l x λm hx=>wk l y λkk hy=>wU P kt λkd hk=>wb (keyB kd) λhb=>wZ P e λz hz=>wb (kT P e).flat λhfl=>
   let dec:=λv:(kT P e).t0=>((kT P e).kd v).e
   match ok with
   |true=>some (.r (λK=>lkM dec kd kk.e z m>>=λr=>K (.T [(kT P e).kd r.1,.B r.2]) (λh=>∃es res,mget h m=some es/\Instr.findNow kd kk.e es.toList 0=some res/\dec r.1=(match res with|some p=>p.2|none=>z)/\r.2=res.isSome))
     (λρ K h Q ⟨r,hr,H⟩=>⟨_,_,H,hr,λn a w hE hf=>by
      have:=KRK (dec:=dec) (dst:=dst) (ty:=ty) (pos:=pos) (aft:=aft) (g:=g) hE hx hy hd hk hb hz hf
      rw [this]
      show _=Result.ok (Next.value (.tuple #[((kT P e).kd r.1).e0,.bool r.2])) w
      rw [<-Kd.e_flat (Tk.flat_e hfl r.1)]⟩))
   |false=>some (.r (λK=>lkM dec kd kk.e z m>>=λr=>K ((kT P e).kd r.1) (λh=>∃es res,mget h m=some es/\Instr.findNow kd kk.e es.toList 0=some res/\dec r.1=(match res with|some p=>p.2|none=>z)/\r.2=res.isSome))
     (λρ K h Q ⟨r,hr,H⟩=>⟨_,_,H,hr,λn a w hE hf=>KRL (dec:=dec) hE hx hy hd hk hb hz hf⟩))
  |_,_=>none
def KWd (t:TypeId) (x y z:Operand):Option (OpS P l ⟨dst,.mapUpdate t x y z,ty,pos,aft,g⟩):=
 wU P t λd hd=>match d,hd with
  | .map kt e,hd=>wMp l x λm hx=>wk l y λkk hy=>wk l z λv hz=>wU P kt λkd hk=>wb (keyB kd) λhb=>
   some (.s (λK=>upM kd kk.e v.e m>>=λ_=>K) (λρ K n a w Q hE ⟨_,hr,H⟩=>⟨_,KTd hE hx hy hz hd hk hb hr,YM,H⟩))
  |_,_=>none
def KYg (t:TypeId) (ps:Array (Nat×Operand)):Option (OpS P l ⟨dst,.build t ps,ty,pos,aft,g⟩):=
 wps l ps λvs ho=>wZ P t λz hz=>match ps with
  |⟨[]⟩=>wO (Gl P t) λpl hp=>match h:Instr.fill (pl[·]?) z.cells vs with
   |some cs=>some (.v (.G z.cells) (λn a w hE=>by
     have h1:vs=[]:=by simpa [opps] using ho.symm
     subst h1
     have h2:cs=z.cells:=by simpa [Instr.fill] using h.symm
     subst h2
     exact KAy hE ho hz hp h))
   |none=>none
  |_=>wO (Gl P t) λpl hp=>
   bif ps.all (λp=>match(P.fieldsOf t)[p.1]? with
    |some f=>(match kT P f.type with| .G=>false| .V=>false|_=>true)
    |none=>false)then match h:Instr.fill (pl[·]?) z.cells vs with
    |some cs=>some (.v (.G cs) (λn a w hE=>KAy hE ho hz hp h))
    |none=>none
   else some (.p (λK=>qD pl z.cells vs>>=λc=>K (.G c)) (Jk λc hc n a w hE=>KAy hE ho hz hp hc))
def KWe (t:TypeId) (len:Nat) (ps:Array (Nat×Operand)):Option (OpS P l ⟨dst,.buildSlice t len ps,ty,pos,aft,g⟩):=
 wU P t λd hd=>match d,hd with
  | .slice e,hd=>wps l ps λvs ho=>wSz P e λm hm=>wZ P e λz hz=>wb (Nat.ble (len*m) 16777216) λhl=>
   bif Nat.beq m 1 then match h:Instr.fill (λi=>some (i*m,m)) (zRow z.cells (len*m)) vs with
    |some cs=>some (.e (λK=>bdL e len cs>>=λr=>K (.L r)) (λρ K n a w Q hE ⟨r,hr,H⟩=>⟨.L r,_,KKR hE ho hd hm hz hl h hr,YM,H⟩))
    |none=>none
   else some (.e (λK=>Xs m len z.cells vs>>=λcs=>bdL e len cs>>=λr=>K (.L r)) (λρ K n a w Q hE ⟨cs,hc,r,hr,H⟩=>⟨.L r,_,KKR hE ho hd hm hz hl hc hr,YM,H⟩))
  |_,_=>none
def KYh (t:TypeId) (x:Operand) (f:Nat):Option (OpS P l ⟨dst,.field t x f,ty,pos,aft,g⟩):=
 wG l x λc hx=>wO (fdoB P t f) λof hf=>match of,hf with
  |(off,ft),hf=>match kT P ft with
   | .G=>wSz P ft λm _=>wb (agB P ft m) λha=>some (.v (.G (c.extract off (off+m))) (λn a w hE=>KTg hE hx hf ha))
   |τ=>wb (scB P ft) λhs=>some (.p (λK=>fdT τ c off>>=λv=>K (τ.kd v)) (λρ K h Q H=>by
     obtain⟨v,hv,H⟩:=KZ4 H
     exact⟨_,H,λn a w hE=>KWL hE hx hf hs hv⟩))
def KTq (x:Operand) (i:Nat):Option (OpS P l ⟨dst,.extract x i,ty,pos,aft,g⟩):=
 wk l x λk hx=>match k,hx with
  | .N v,hx=>match i,hx with
   |0,hx=>some (.p (λK=>exB v 0>>=λb=>K (.B b)) (Jk λb hb n a w hE=>KYQ hE hx hb))
   |_,_=>none
  | .T ks,hx=>match hi:ks[i]? with
   |none=>none
   |some q=>wb q.flat λhq=>
    have hv:((ks.map Kd.e0).toArray)[i]?=some q.e:=by
     rw [Kd.e_flat hq]
     simp [hi]
    match q,hv with
    | .V v,hv=>match kT P ty with
     | .I k=>some (.p (λK=>exI k v>>=λn=>K (.I k n)) (Jk λr hr n a w hE=>YJ hE hx (hv.trans (Ew some hr))))
     |_=>some (.v (.V v) (λn a w hE=>YJ hE hx hv))
    |q,hv=>some (.v q (λn a w hE=>YJ hE hx hv))
  |_,_=>none
def sUn (op:UnOp) (t:TypeId) (x:Operand):Option (OpS P l ⟨dst,.unOp op t x,ty,pos,aft,g⟩):=match op with
 | .not=>wB l x λb hx=>some (.v (.B !b) (λn a w hE=>r_un hE hx KX0))
 | .xor=>wI l x λk i hx=>some (.v (.I k (iNot k i)) (λn a w hE=>r_un hE hx KZk))
 | .neg=>wI l x λk i hx=>some (.v (.I k (k.wrap (0 - i))) (λn a w hE=>r_un hE hx KZl))
 |_=>none
def KQT (t:TypeId) (x y:Operand):Option (OpS P l ⟨dst,.indexAddr t x y,ty,pos,aft,g⟩):=
 wU P t λd hd=>match d,hd with
  | .slice e,hd=>wL l x λs hx=>wI l y λk i hy=>wSz P e λm hm=>some (.p (λK=>ixL s i m>>=λa=>K (.A a)) (Jk λr hr n a w hE=>KL0 hE hx hy hd hm hr))
  | .array q e,hd=>wA l x λs hx=>wI l y λk i hy=>wSz P e λm hm=>some (.p (λK=>ixA s q i m>>=λa=>K (.A a)) (Jk λr hr n a w hE=>KL1 hE hx hy hd hm hr))
  |_,_=>none
def KRT (x:Operand):Option (OpS P l ⟨dst,.nilCheck x,ty,pos,aft,g⟩):=
 wk l x λk hx=>match k,hx with
  | .A p,hx=>some (.v (.A p) (λn a w hE=>N7 hE hx))
  | .P p,hx=>some (.p (λK=>nilP p>>=λa=>K (.A a)) (Jk λr hr n a w hE=>N7 hE (KTa hx (Ew Value.pointer hr))))
  | .V v,hx=>some (.p (λK=>nilV v>>=λa=>K (.V a)) (Jk λr hr n a w hE=>KYS hE (KTa hx hr.1.symm) hr))
  |_,_=>none
def KQU (t:TypeId) (x y:Operand):Option (OpS P l ⟨dst,.makeSlice t x y,ty,pos,aft,g⟩):=
 wU P t λd hd=>match d,hd with
  | .slice e,hd=>wI l x λk u hx=>wI l y λk' v hy=>wO (apOf P t e) λq hq=>match q,hq with
   |(sz,bytes,z),hq=>some (.e (λK=>mkS e sz bytes z u v>>=λr=>K (.L r)) (λρ K n a w Q hE H=>by
     obtain⟨r,w1,h1,h2,h3⟩:=KWK hE hx hy ⟨hd,KF8 hq⟩ (M.unbind H)
     exact⟨.L r,w1,h1,h2,h3⟩))
  |_,_=>none
def KWf (x y:Operand) (t t2:TypeId):Option (OpS P l ⟨dst,.call {callee:=.builtin .append,args:=#[x,y],argTypes:=#[t,t2]},ty,pos,aft,g⟩):=
 wU P t λd hd=>match d,hd with
  | .slice e,hd=>wL l x λs hx=>wO (apOf P t e) λq hq=>match q,hq with
   |(sz,bytes,z),hq=>wk l y λk hy=>match k,hy with
    | .L u,hy=>match ht:Nat.beq t t2 with
     |true=>some (.e (λK=>apL e sz bytes z s u>>=λr=>K (.L r)) (λρ K n a w Q hE H=>by
       have e2:=Eu ht
       subst e2
       obtain⟨r,w1,h1,h2,h3⟩:=KVS hE hx hy ⟨hd,KF8 hq⟩ (M.unbind H)
       exact⟨.L r,w1,h1,h2,h3⟩))
     |false=>none
    | .I .i64 m,hy=>wU P t2 λd2 hd2=>match d2,hd2 with
     | .int .i64,hd2=>match hz:Nat.beq z.size sz with
      |true=>some (.e (λK=>apM e sz bytes z s m>>=λr=>K (.L r)) (λρ K n a w Q hE H=>by
       obtain⟨r,w1,h1,h2,h3⟩:=KWT hE hx hy ⟨hd,KF8 hq⟩ hd2 (Eu hz) (M.unbind H)
       exact⟨.L r,w1,h1,h2,h3⟩))
      |false=>none
     |_,_=>none
    | .S u,hy=>wU P t2 λd2 hd2=>match d2,hd2 with
     | .string,hd2=>match sz,bytes,z,hq with
      |1,1,⟨[.int .u8 0]⟩,hq=>some (.e (λK=>apS e s u>>=λr=>K (.L r)) (λρ K n a w Q hE H=>by
       obtain⟨r,w1,h1,h2,h3⟩:=KWJ hE hx hy ⟨hd,KF8 hq⟩ hd2 (M.unbind H)
       exact⟨.L r,w1,h1,h2,h3⟩))
      |_,_,_,_=>none
     |_,_=>none
    |_,_=>none
  |_,_=>none
def KZ9 (x y:Operand) (t t2:TypeId):Option (OpS P l ⟨dst,.call {callee:=.builtin .copy,args:=#[x,y],argTypes:=#[t,t2]},ty,pos,aft,g⟩):=
 wU P t λd hd=>match d,hd with
  | .slice e,hd=>wL l x λs hx=>wk l y λk hy=>match k,hy with
   | .L u,hy=>wSz P e λm hm=>some (.e (λK=>cpL m s u>>=λr=>K (.I .i64 r)) (λρ K n a w Q hE H=>by
     obtain⟨r,w1,h1,h2,h3⟩:=KYN (u:=t2) hE hx hy hd hm (M.unbind H)
     exact⟨.I .i64 r,w1,h1,h2,h3⟩))
   | .S u,hy=>wb (szB P e 1) λhm=>some (.e (λK=>cpSt s u>>=λr=>K (.I .i64 r)) (λρ K n a w Q hE H=>by
     obtain⟨r,w1,h1,h2,h3⟩:=KTn (su:=t2) hE hx hy hd hm (M.unbind H)
     exact⟨.I .i64 r,w1,h1,h2,h3⟩))
   |_,_=>none
  |_,_=>none
def sLen (x:Operand) (t:TypeId):Option (OpS P l ⟨dst,.call {callee:=.builtin .len,args:=#[x],argTypes:=#[t]},ty,pos,aft,g⟩):=
 wU P t λd hd=>match d,hd with
  | .slice e,hd=>wL l x λs hx=>some (.v (.I .i64 (s.len:Int)) (λn a w hE=>KV6 hE hx e hd))
  | .string,hd=>wS l x λs hx=>some (.v (.I .i64 (s.size:Int)) (λn a w hE=>KJh hE hx hd))
  | .array q e,hd=>wk l x λk hx=>some (.v (.I .i64 (q:Int)) (λn a w hE=>KYR hE hx hd))
  | .map kt e,hd=>wMp l x λm hx=>some (.r (λK=>lenM m>>=λr=>K (.I .i64 r) (λh=>∃es,mget h m=some es/\r=(es.size:Int)))
    (λρ K h Q ⟨r,hr,H⟩=>⟨_,_,H,hr,λn a w hE hf=>KYO hE hx hd hf⟩))
  |_,_=>none
def KYi (x:Operand) (t:TypeId):Option (OpS P l ⟨dst,.call {callee:=.builtin .clear,args:=#[x],argTypes:=#[t]},ty,pos,aft,g⟩):=
 wU P t λd hd=>match d,hd with
  | .slice e,hd=>wL l x λs hx=>wO (apOf P t e) λq hq=>match q,hq with
   |(sz,bytes,z),hq=>some (.e (λK=>clL z s>>=λ_=>K (.T [])) (λρ K n a w Q hE H=>by
     obtain⟨r,w1,h1,h2,h3⟩:=KWX hE hx ⟨hd,KF8 hq⟩ (M.unbind H)
     exact⟨.T [],w1,h1,h2,h3⟩))
  | .map kt e,hd=>wMp l x λm hx=>some (.e (λK=>clM m>>=λ_=>K (.T [])) (λρ K n a w Q hE ⟨_,hc,H⟩=>⟨.T [],_,KTh hE hx hd hc,YM,H⟩))
  |_,_=>none
def KTr (b:Builtin) (args:Array Operand) (ts:Array TypeId):Option (OpS P l ⟨dst,.call {callee:=.builtin b,args:=args,argTypes:=ts},ty,pos,aft,g⟩):=match b,args,ts with
 | .len,⟨[x]⟩,⟨[t]⟩=>sLen P l dst ty pos aft g x t
 | .cap,⟨[x]⟩,⟨[t]⟩=>wU P t λd hd=>match d,hd with
  | .slice e,hd=>wL l x λs hx=>some (.v (.I .i64 (s.cap:Int)) (λn a w hE=>KZu hE hx e hd))
  |_,_=>none
 | .append,⟨[x,y]⟩,⟨[t,t2]⟩=>KWf P l dst ty pos aft g x y t t2
 | .copy,⟨[x,y]⟩,⟨[t,t2]⟩=>KZ9 P l dst ty pos aft g x y t t2
 | .clear,⟨[x]⟩,⟨[t]⟩=>KYi P l dst ty pos aft g x t
 | .max,⟨[x,y]⟩,_=>wI l x λk u hx=>wI l y λk' v hy=>some (.v (.I k (iMax u v)) (λn a w hE=>KZw hE hx hy))
 | .min,⟨[x,y]⟩,_=>wI l x λk u hx=>wI l y λk' v hy=>some (.v (.I k (iMin u v)) (λn a w hE=>KZt hE hx hy))
 | .unsafeSliceData,⟨[x]⟩,⟨[t]⟩=>wL l x λs hx=>some (.p (λK=>uSD s>>=λr=>K (.P r)) (Jk λr hr n a w hE=>KZ0 hE hx hr))
 | .unsafeString,⟨[x,y]⟩,⟨[pt,it]⟩=>wP l x λp hx=>wI l y λk m hy=>match k,hy with
  | .i64,hy=>wU P pt λd hd=>match d,hd with
   | .pointer e,hd=>match hc:Nat.beq (P.cellsOf e) 1 with
    |true=>some (.e (λK=>uStr e p m>>=λr=>K (.S r)) (λρ K n a w Q hE H=>by
      obtain⟨r,w1,h1,h2,h3⟩:=KTo (it:=it) hE hx hy hd (Eu hc) (M.unbind H)
      exact⟨.S r,w1,h1,h2,h3⟩))
    |false=>none
   |_,_=>none
  |_,_=>none
 |_,_,_=>none
def semO (C:List (CalleeS P)):(op:Op)->Option (OpS P l ⟨dst,op,ty,pos,aft,g⟩)
 | .move x=>wk l x λk hx=>some (.v k (λn a w hE=>VC hE hx))
 | .assign x=>wk l x λk hx=>some (.v k (λn a w hE=>zB hE hx))
 | .pick c x y=>wk l c λk hc=>match k,hc with
  | .C true,hc=>wk l x λv hx=>some (.v v (λn a w hE=>KTP hE hc hx))
  | .C false,hc=>wk l y λv hy=>some (.v v (λn a w hE=>KTQ hE hc hy))
  |_,_=>none
 | .makeInterface t x=>wk l x λk hx=>wb (niB P t) λht=>some (.v (.V (.iface t k.e)) (λn a w hE=>KHx hE hx ht))
 | .alloc t=>wZ P t λz hz=>some (.e (λK=>mkB t z.cells>>=λp=>K (.A p)) (λρ K n a w Q hE ⟨p,hp,H⟩=>⟨.A p,_,GR hz hp,YM,H⟩))
 | .box t x=>wk l x λv hx=>some (.e (λK=>mkB t v.e.cells>>=λp=>K (.A p)) (λρ K n a w Q hE ⟨p,hp,H⟩=>⟨.A p,_,KTR hE hx hp,YM,H⟩))
 | .load t x=>KZ7 P l dst ty pos aft g t x
 | .store t x y=>KYe P l dst ty pos aft g t x y
 | .nilCheck x=>KRT P l dst ty pos aft g x
 | .binOp op xt x y yt=>sBin P l dst ty pos aft g op xt x y yt
 | .unOp op t x=>sUn P l dst ty pos aft g op t x
 | .convert s d x=>KZ8 P l dst ty pos aft g s d x
 | .fieldAddr t x f=>wA l x λp hx=>wO (KHm P t f) λoff hf=>some (.v (.A (p.add off)) (λn a w hE=>WU hE hx hf))
 | .field t x f=>KYh P l dst ty pos aft g t x f
 | .indexAddr t x y=>KQT P l dst ty pos aft g t x y
 | .index t x y=>wU P t λd hd=>match d,hd with
  | .string,hd=>wS l x λs hx=>wI l y λk i hy=>some (.p (λK=>ixS s i>>=λr=>K (.I .u8 r)) (Jk λr hr n a w hE=>KTS hE hx hy hd hr))
  |_,_=>none
 | .slice t x lo hi mx=>KYf P l dst ty pos aft g t x lo hi mx
 | .build t ps=>KYg P l dst ty pos aft g t ps
 | .buildSlice t len ps=>KWe P l dst ty pos aft g t len ps
 | .makeSlice t x y=>KQU P l dst ty pos aft g t x y
 | .makeMap t none=>some (.e (λK=>KZc>>=λm=>K (.Mp m)) (λρ K n a w Q hE ⟨m,hm,H⟩=>⟨.Mp m,_,KRJ hm,YM,H⟩))
 | .lookup t x y ok=>KWc P l dst ty pos aft g t x y ok
 | .mapUpdate t x y z=>KWd P l dst ty pos aft g t x y z
 | .range t x=>wU P t λd hd=>match d,hd with
  | .map kt e,hd=>wMp l x λm hx=>some (.e (λK=>rgM m>>=λp=>K (.A p)) (λρ K n a w Q hE ⟨p,hp,H⟩=>⟨.A p,_,KWM hE hx hd hp,YM,H⟩))
  |_,_=>none
 | .next x false=>wA l x λp hx=>some (.e (λK=>nxM p>>=λr=>K (.N r)) (λρ K n a w Q hE H=>by
   obtain⟨r,w1,h1,h2,h3⟩:=KYP hE hx (M.unbind H)
   exact⟨.N r,w1,h1,h2,h3⟩))
 | .entry x=>wA l x λp hx=>some (.r (λK=>enM p>>=λr=>K (.T [.V r.1,.V r.2]) (λh=>p.off=0/\∃m since seen clock es stamp e,h[p.block]?=some (.mapIter (some m) since seen clock)/\seen.back?=some stamp/\h[m]?=some (.map es clock)/\es.find? (·.born==stamp)=some e/\r=(e.key,e.val))) (λρ K h Q ⟨r,hr,H⟩=>⟨_,_,H,hr,λn a w hE hf=>KWN hE hx hf⟩))
 | .extract x i=>KTq P l dst ty pos aft g x i
 | .makeFunc fn ⟨[]⟩ cs=>match fn with
  | .func f=>wks l cs λvs hx=>some (.v (.V (.func (.func f) #[] (vs.map Kd.e).toArray)) (λn a w hE=>KF9 hE hx))
  |_=>none
 | .call ⟨.builtin b,args,ts⟩=>KTr P l dst ty pos aft g b args ts
 | .call ⟨.value (.tmp t),args,ts⟩=>wk l (.tmp t) λk hx=>match k,hx with
  | .V v,hx=>wks l args λvs ha=>some (.cv (match kT P ty with| .T τ=>τ|τ=>[τ]) v (vs.map Kd.e) ⟨_,_,_,rfl,hx,ha⟩)
  |_,_=>none
 | .call ⟨.value (.func f),args,ts⟩=>match KYd f C with
  |some ⟨c,hc⟩=>c.sem l dst ty pos aft g args ts f hc
  |none=>none
 |_=>none
end
def KQV (P:Program) (C:List (CalleeS P)) (l:KEnv):(o:Oper)->Option (OpS P l o)
 |⟨dst,op,ty,pos,aft,g⟩=>semO P l dst ty pos aft g C op
end Gx
namespace Gx
open Go
abbrev EnvK (n:Frm) (a:Act) (l:KEnv):Prop:=Env n a (encL l)
def zKp (W:Nat->Bool) (l l':KEnv):Prop:=∀s v,W s=false->look (encL l') s=some v->look (encL l) s=some v
def Kq (W:Nat->Bool) (l l':KEnv):Prop:=∀s,W s=false->look (encL l') s=look (encL l) s
theorem Kq.kp {W:Nat->Bool} {l l':KEnv} (h:Kq W l l'):zKp W l l':=λs v hs hv=>by rw [<-h s hs];exact hv
theorem zKp.refl {W:Nat->Bool} {l:KEnv}:zKp W l l:=λ_ _ _ h=>h
theorem zKp.trans {W W1 W2:Nat->Bool} {l l' l'':KEnv} (h1:zKp W1 l l') (h2:zKp W2 l' l'') (e:∀s,W s=false->W1 s=false/\W2 s=false):zKp W l l'':=λs v hs hv=>h1 s v (e s hs).1 (h2 s v (e s hs).2 hv)
theorem zKp.wide {W W1:Nat->Bool} {l l':KEnv} (h1:zKp W1 l l') (e:∀s,W s=false->W1 s=false):zKp W l l':=λs v hs hv=>h1 s v (e s hs) hv
def KTs (ps:List Nat) (d:Nat):Kd->Kd
 | .A a=>bif ps.contains d then .P (some a)else .A a
 |k=>k
theorem KWg {ps:List Nat} {d:Nat} {k:Kd}:(KTs ps d k).e=k.e:=by
 cases k<;>first|rfl|(simp only [KTs];cases ps.contains d<;>rfl)
def putd (n:Nat) (ps:List Nat) (d:Option Nat) (kd:Kd) (l:KEnv):Option KEnv:=match d with
 |none=>some l
 |some d=>bif Nat.blt d n then some ((d,KTs ps d kd)::l)else none
theorem KKV {n:Frm} {ps:List Nat} {d:Option Nat} {kd:Kd} {l l':KEnv} {a:Act} (h:putd n.size ps d kd l=some l') (hE:EnvK n a l):EnvK n (a.put d kd.e) l'/\Kq (λs=>d==some s) l l':=by
 cases d with
 |none=>
  simp only [putd,Option.some.injEq]at h
  subst h
  exact⟨hE,λs _=>rfl⟩
 |some d=>
  simp only [putd]at h
  cases hb:Nat.blt d n.size with
  |false=>rw [hb]at h;cases h
  |true=>
   rw [hb]at h
   simp only [Fy,Option.some.injEq]at h
   subst h
   refine⟨?_,λs hs=>?_⟩
   ·show Env n _ ((d,(KTs ps d kd).e)::encL l)
    rw [KWg]
    exact hE.put d kd.e hb
   ·simp only [encL,Er,look]
    have:Nat.beq d s=false:=by
     cases hx:Nat.beq d s with
     |false=>rfl
     |true=>rw [Eu hx]at hs;simp at hs
    rw [this]
    rfl
structure Cx where
 P:Program
 C:List (CalleeS P)
 n:Nat
 ps:List Nat
def Cx.putK (c:Cx) {ρ:Type} (d:Option Nat) (l:KEnv) (K:KEnv->M ρ) (kd:Kd):M ρ:=match putd c.n c.ps d kd l with
 |some l'=>K l'
 |none=>M.fail
theorem Yh {c:Cx} {ρ:Type} {d:Option Nat} {l:KEnv} {K:KEnv->M ρ} {kd:Kd} {n:Frm} {a:Act} {h:Heap} {Q:ρ->Heap->Prop} (hn:n.size=c.n) (H:(c.putK d l K kd).wp h Q) (hE:EnvK n a l):
  ∃l',EnvK n (a.put d kd.e) l'/\Kq (λs=>d==some s) l l'/\(K l').wp h Q:=by
 unfold Cx.putK at H
 cases hp:putd c.n c.ps d kd l with
 |none=>rw [hp]at H;exact H.elim
 |some l'=>
  rw [hp]at H
  have:=KKV (hn▸hp) hE
  exact⟨l',this.1,this.2,H⟩
def Cx.stepS (c:Cx) {ρ:Type} (o:Oper) (l:KEnv) (K:KEnv->M ρ):M ρ:=match KQV c.P c.C l o with
 |none=>M.fail
 |some (.v kd _)=>c.putK o.dst l K kd
 |some (.p run _)=>run (c.putK o.dst l K)
 |some (.r run _)=>run λkd _=>c.putK o.dst l K kd
 |some (.e run _)=>run (c.putK o.dst l K)
 |some (.s run _)=>match o.dst with
  |none=>run (K l)
  |some _=>M.fail
 |some (.c run _)=>run (c.putK o.dst l K)
 |some (.cv τ v vs _)=>qq c.P (encR τ) v vs>>=λr=>c.putK o.dst l K (kdR τ r)
section steps
variable {c:Cx} {ro:Option Nat} {ops:Array Oper} {N:Act->World->Prop} {X:Nat->Act->World->Prop} {R:Act->World->Prop} {n:Frm} {w0:World}
theorem KTt {ρ:Type} {Q:ρ->Heap->Prop} {K:KEnv->M ρ} {o:Oper} {rest:List Oper} {l:KEnv} {a:Act} {w:World} (hn:n.size=c.n) (hg:o.guard=none) (hE:EnvK n a l) (hR:Rest w0 w) (H:(c.stepS o l K).wp w.heap Q)
  (h:∀l' a' w',EnvK n a' l'->Kq (λs=>o.dst==some s) l l'->Rest w0 w'->(K l').wp w'.heap Q->wpListIn (Fw ro) 1 c.P ops (Ps N X R) rest a' w'):
  wpListIn (Fw ro) 1 c.P ops (Ps N X R) (o::rest) a w:=by
 unfold Cx.stepS at H
 cases hs:KQV c.P c.C l o with
 |none=>rw [hs]at H;exact H.elim
 |some s=>
  rw [hs]at H
  cases s with
  |v kd ok=>
   obtain⟨l',h1,h2,h3⟩:=Yh hn H hE
   exact KNk hg (ok n a w hE) (h l' _ w h1 h2 hR h3)
  |p run ok=>
   obtain⟨kd,H,ok⟩:=ok ρ _ _ _ H
   obtain⟨l',h1,h2,h3⟩:=Yh hn H hE
   exact KNk hg (ok n a w hE) (h l' _ w h1 h2 hR h3)
  |r run ok=>
   obtain⟨kd,fact,H,hf,ok⟩:=ok ρ _ _ _ H
   obtain⟨l',h1,h2,h3⟩:=Yh hn H hE
   exact KNk hg (ok n a w hE hf) (h l' _ w h1 h2 hR h3)
  |e run ok=>
   obtain⟨kd,w1,hr,hw,H⟩:=ok ρ _ n a w _ hE H
   obtain⟨l',h1,h2,h3⟩:=Yh hn H hE
   exact KNk hg hr (h l' _ w1 h1 h2 (hR.trans hw) h3)
  |s run ok=>
   cases hd:o.dst with
   |some d=>simp only [hd]at H;exact H.elim
   |none=>
    simp only [hd]at H
    obtain⟨w1,hr,hw,H⟩:=ok ρ _ n a w _ hE H
    refine wpListIn_plain hg λK' hK=>⟨λ_ _=>trivial,?_⟩
    rw [KEY hr (λd h=>by cases h)]
    refine hK _ _ ?_
    rw [hd]
    exact h l a w1 hE (λs _=>rfl) (hR.trans hw) H
  |c run ok=>
   obtain⟨f,args,hr,hc⟩:=ok ρ _ n a w _ hE H
   refine wpListIn_plain hg λK' hK=>⟨λ_ _=>trivial,?_⟩
   rw [KEY hr (λd h=>by cases h),Oper.uponIn_enter]
   refine⟨λ_=>Ee 1,Gk (hc.mono ?_)⟩
   rintro e w' ⟨kd,rfl,H,hw⟩
   obtain⟨l',h1,h2,h3⟩:=Yh hn H hE
   exact hK _ _ (h l' _ w' h1 h2 (hR.trans hw) h3)
  |cv τ v vs ok=>
   obtain⟨x,args,ts,ho,hx,ha⟩:=ok
   obtain⟨dst,op,ty,pos,aft,g⟩:=o
   simp only at ho hg
   subst ho;subst hg
   refine KWR hE hR hx ha (M.unbind H) (λr a' w' ea hR' H=>?_)
   obtain⟨l',h1,h2,h3⟩:=Yh hn H hE
   subst ea
   exact h l' _ w' h1 h2 hR' h3
end steps
inductive Gs where
 |on|off|bad|split (t:Nat) (b:Bool)
def gst (ops:Array Oper) (l:KEnv) (o:Oper):Gs:=match o.guard with
 |none=>.on
 |some (j,c)=>match(ops[j]?).bind (·.dst)with
  |none=>.bad
  |some t=>match Xt l t with
   |some (.C x)=>bif x==c then .on else .off
   |some .U=>.off
   |some (.B b)=>.split t b
   |_=>.bad
def glen (gi:Nat) (gc:Bool):Nat->List Nat->List Oper->Nat
 |_,_,[]=>0
 |i,ins,o::r=>match o.guard with
  |some (j,c)=>bif (Nat.beq j gi&&c==gc)||ins.contains j then glen gi gc (i+1) (i::ins) r+1 else 0
  |none=>0
def gnum (i:Nat) (L:List Oper):Nat:=match L with
 | []=>0
 |o::_=>match o.guard with
  |some (gi,gc)=>glen gi gc i [] L+1
  |none=>0
def anyD (L:List Oper) (s:Nat):Bool:=L.any λo=>match o.dst with
 |some d=>Nat.beq d s
 |none=>false
def KTu (L:List Oper):Option Nat:=match L.getLast? with
 |some o=>o.dst
 |none=>none
def kend (d:Nat) (l:KEnv):M Bool:=match Xt l d with
 |some (.B b)=>M.pure b
 |some (.C b)=>M.pure b
 |_=>M.fail
def Cx.trN (c:Cx) (ops:Array Oper):Nat->{ρ:Type}->Nat->List Oper->KEnv->(KEnv->M ρ)->M ρ
 |0,_,_,_,_,_=>M.fail
 |f+1,_,i,L,l,K=>match L with
  | []=>K l
  |o::rest=>match gst ops l o with
   | .on=>c.stepS {o with guard:=none} l λl'=>c.trN ops f (i+1) rest l' K
   | .off=>c.putK o.dst l (λl'=>c.trN ops f (i+1) rest l' K) .U
   | .bad=>M.fail
   | .split t b=>match KTu (L.take (gnum i L))with
    |none=>M.fail
    |some d=>M.ite b (c.trN ops f i (L.take (gnum i L)) ((t,.C true)::l) (kend d)) (c.trN ops f i (L.take (gnum i L)) ((t,.C false)::l) (kend d))>>=λx=>
     c.trN ops f (i+gnum i L) (L.drop (gnum i L)) ((d,.B x)::l.filter λp=>!(anyD (L.take (gnum i L)) p.1)) K
theorem KVW {b:Bool} (h:¬b=true):b=false:=by cases b<;>first|rfl|exact absurd rfl h
theorem KC9 {p:Nat->Bool}:∀{l:KEnv} {s:Nat},p s=true->look (encL (l.filter λq=>p q.1)) s=look (encL l) s
 | [],s,h=>rfl
 |(d,v)::l,s,h=>by
  rw [Iv]
  by_cases hd:Nat.beq d s=true
  ·have e:=Eu hd
   subst e
   simp only [h,Oa,encL,Er,look,hd,Fy]
  ·have hd':Nat.beq d s=false:=KVW hd
   simp only
   cases hp:p d with
   |true=>simp only [Oa,encL,Er,look,hd',cond_false];exact KC9 h
   |false=>
    simp only [Im,IF]
    rw [KC9 h]
    simp only [encL,Er,look,hd',cond_false]
theorem KH0 {o:Oper} {L:List Oper} {s:Nat} (h:anyD (o::L) s=false):(o.dst==some s)=false/\anyD L s=false:=by
 unfold anyD at h⊢
 rw [Iz,Ff]at h
 refine⟨?_,h.2⟩
 cases hd:o.dst with
 |none=>rfl
 |some d=>
  rw [hd]at h
  have h1:Nat.beq d s=false:=h.1
  simp only [IZ,ne_eq,Option.some.injEq]
  intro e
  subst e
  rw [ID]at h1
  cases h1
theorem KJr {L:List Oper} {k s:Nat} (h:anyD L s=false):anyD (L.take k) s=false/\anyD (L.drop k) s=false:=by
 have e:anyD L s=(anyD (L.take k) s||anyD (L.drop k) s):=by
  unfold anyD
  rw [<-List.any_append,FR]
 rw [e]at h
 simpa using h
theorem KRU {L:List Oper} {d:Nat} (h:KTu L=some d):anyD L d=true:=by
 unfold KTu at h
 cases hl:L.getLast? with
 |none=>rw [hl]at h;cases h
 |some o=>
  rw [hl]at h
  simp only at h
  unfold anyD
  rw [Ig]
  exact⟨o,List.mem_of_getLast? hl,by rw [h];exact ID _⟩
section lists
variable {c:Cx} {ro:Option Nat} {ops:Array Oper} {X:Nat->Act->World->Prop} {R:Act->World->Prop} {n:Frm} {w0:World}
theorem KRV (hn:n.size=c.n):∀(f:Nat) {ρ:Type} {Q:ρ->Heap->Prop} {K:KEnv->M ρ} {N:Act->World->Prop} (i:Nat) (L:List Oper) (l:KEnv) (a:Act) (w:World),EnvK n a l->Rest w0 w->(c.trN ops f i L l K).wp w.heap Q->
  (∀l' a' w',EnvK n a' l'->Kq (anyD L) l l'->Rest w0 w'->(K l').wp w'.heap Q->N a' w')->wpListIn (Fw ro) 1 c.P ops (Ps N X R) L a w:=by
 intro f
 induction f with
 |zero=>intro ρ Q K N i L l a w hE hR H;exact H.elim
 |succ f ih=>
  intro ρ Q K N i L l a w hE hR H h
  unfold Cx.trN at H
  cases L with
  |nil=>exact h l a w hE (λs _=>rfl) hR H
  |cons o rest=>
   simp only at H
   cases hg:gst ops l o with
   |bad=>rw [hg]at H;exact H.elim
   |on=>
    rw [hg]at H
    have hwant:wpListIn (Fw ro) 1 c.P ops (Ps N X R) ({o with guard:=none}::rest) a w:=by
     refine KTt hn rfl hE hR H λl' a' w' hE' hk hR' H'=>?_
     refine ih (i+1) rest l' a' w' hE' hR' H' λl'' a'' w'' hE'' hk'' hR'' H''=>h l'' a'' w'' hE'' (λs hs=>?_) hR'' H''
     have:=KH0 hs
     rw [hk'' s this.2]
     exact hk s this.1
    cases hgd:o.guard with
    |none=>
     have e:o={o with guard:=none}:=by cases o;simp only at hgd;subst hgd;rfl
     rw [e]
     exact hwant
    |some p=>
     obtain⟨j,cc⟩:=p
     unfold gst at hg
     rw [hgd]at hg
     simp only at hg
     cases hd:(ops[j]?).bind (·.dst)with
     |none=>rw [hd]at hg;cases hg
     |some t=>
      rw [hd]at hg
      simp only at hg
      cases hl:Xt l t with
      |none=>rw [hl]at hg;cases hg
      |some k=>
       rw [hl]at hg
       cases k with
       |C x=>
        simp only at hg
        cases hx:(x==cc)with
        |true=>exact t_on hgd hE hd (Vw hl) hx hwant
        |false=>rw [hx]at hg;cases hg
       |_=>cases hg
   |off=>
    rw [hg]at H
    obtain⟨l',hE',hk,H⟩:=Yh hn H hE
    have hnext:wpListIn (Fw ro) 1 c.P ops (Ps N X R) rest (a.put o.dst undef) w:=by
     refine ih (i+1) rest l' _ w hE' hR H λl'' a'' w'' hE'' hk'' hR'' H''=>h l'' a'' w'' hE'' (λs hs=>?_) hR'' H''
     have:=KH0 hs
     rw [hk'' s this.2]
     exact hk s this.1
    cases hgd:o.guard with
    |none=>unfold gst at hg;rw [hgd]at hg;cases hg
    |some p=>
     obtain⟨j,cc⟩:=p
     unfold gst at hg
     rw [hgd]at hg
     simp only at hg
     cases hd:(ops[j]?).bind (·.dst)with
     |none=>rw [hd]at hg;cases hg
     |some t=>
      rw [hd]at hg
      simp only at hg
      cases hl:Xt l t with
      |none=>rw [hl]at hg;cases hg
      |some k=>
       rw [hl]at hg
       cases k with
       |C x=>
        simp only at hg
        cases hx:(x==cc)with
        |false=>exact KZm hgd hE hd (Vw hl) hx (λa' ea=>ea▸hnext)
        |true=>rw [hx]at hg;cases hg
       |U=>exact KX2 hgd hE hd (Vw hl) (λb hb=>by cases hb) (λa' ea=>ea▸hnext)
       |_=>cases hg
   |split t b=>
    rw [hg]at H
    simp only at H
    generalize hkk:gnum i (o::rest)=k at H
    cases hd:KTu ((o::rest).take k)with
    |none=>rw [hd]at H;exact H.elim
    |some d=>
     rw [hd]at H
     simp only at H
     have hlt:look (encL l) t=some (.bool b):=by
      unfold gst at hg
      cases hgd:o.guard with
      |none=>rw [hgd]at hg;cases hg
      |some p=>
       obtain⟨j,cc⟩:=p
       rw [hgd]at hg
       simp only at hg
       cases hdd:(ops[j]?).bind (·.dst)with
       |none=>rw [hdd]at hg;cases hg
       |some t'=>
        rw [hdd]at hg
        simp only at hg
        cases hl:Xt l t' with
        |none=>rw [hl]at hg;cases hg
        |some kk=>
         rw [hl]at hg
         cases kk with
         |B b'=>
          injection hg with h1 h2
          subst h1;subst h2
          exact Vw hl
         |C x=>simp only at hg;cases hx:(x==cc)<;>rw [hx]at hg<;>cases hg
         |_=>cases hg
     have hcut:∀(x:Bool),Kq (anyD ((o::rest).take k)) l ((d,.B x)::l.filter λp=>!(anyD ((o::rest).take k) p.1)):=by
      intro x s hs
      have hne:Nat.beq d s=false:=by
       cases hb:Nat.beq d s with
       |false=>rfl
       |true=>rw [<-Eu hb,KRU hd]at hs;cases hs
      simp only [encL,Er,look,hne,cond_false]
      exact KC9 (p:=λz=>!(anyD ((o::rest).take k) z)) (by simp [hs])
     refine KZn (n:=n) (w0:=w0) k (λx:Bool=>encL ((d,.B x)::l.filter λp=>!(anyD ((o::rest).take k) p.1))) (M.unbind H) ?_ ?_
     ·intro Kr hKr Hm
      have hfin:∀(bb:Bool),b=bb->∀(l':KEnv) (a':Act) (w':World),EnvK n a' l'->Kq (anyD ((o::rest).take k)) ((t,.C bb)::l) l'->Rest w0 w'->
        (kend d l').wp w'.heap (λr h'=>(c.trN ops f (i+k) ((o::rest).drop k) ((d,.B r)::l.filter λp=>!(anyD ((o::rest).take k) p.1)) K).wp h' Q)->Kr a' w':=by
       intro bb hbb l' a' w' hE' hk' hR' H'
       have hlook:∃r,look (encL l') d=some (.bool r)/\(M.pure r:M Bool).wp w'.heap (λr h'=>(c.trN ops f (i+k) ((o::rest).drop k) ((d,.B r)::l.filter λp=>!(anyD ((o::rest).take k) p.1)) K).wp h' Q):=by
        unfold kend at H'
        cases hl:Xt l' d with
        |none=>rw [hl]at H';exact H'.elim
        |some kk=>
         rw [hl]at H'
         cases kk with
         |B r=>exact⟨r,Vw hl,H'⟩
         |C r=>exact⟨r,Vw hl,H'⟩
         |_=>exact H'.elim
       obtain⟨r,hr,H'⟩:=hlook
       refine hKr r a' w' (hE'.sub _ λs v hv=>?_) hR' H'
       by_cases hsd:Nat.beq d s=true
       ·have e:=Eu hsd
        subst e
        simp only [encL,Er,look,hsd,Fy,Option.some.injEq]at hv
        rw [hr,<-hv]
        rfl
       ·have hsd':Nat.beq d s=false:=KVW hsd
        have hv0:=hv
        simp only [encL,Er,look,hsd',cond_false]at hv
        cases hany:anyD ((o::rest).take k) s with
        |true=>
         exfalso
         have hno:∀(L:KEnv),look (encL (L.filter λp=>!(anyD ((o::rest).take k) p.1))) s=none:=by
          intro L
          induction L with
          |nil=>rfl
          |cons q L ihL=>
           rw [Iv]
           split
           ·rename_i hq
            have hne:Nat.beq q.1 s=false:=by
             cases hb:Nat.beq q.1 s with
             |false=>rfl
             |true=>rw [Eu hb,hany]at hq;simp at hq
            simp only [encL,Er,look,hne,cond_false]
            exact ihL
           ·exact ihL
         have:=hno l
         simp only [encL]at this
         rw [this]at hv
         cases hv
        |false=>
         have e1:=hcut r s hany
         simp only [encL,Er,look,hsd',cond_false]at e1
         rw [e1]at hv
         rw [hk' s hany]
         simp only [encL,Er,look]
         cases hts:Nat.beq t s with
         |false=>exact hv
         |true=>
          have e:=Eu hts
          subst e
          have hlt':look (List.map (λp=>(p.fst,p.snd.e)) l) t=some (.bool b):=hlt
          rw [hlt']at hv
          rw [<-hv,hbb]
          rfl
      rcases KQ6 b with hb|hb
      ·have H1:=M.ite_t hb Hm
       exact ih i _ ((t,.C true)::l) a w (hE.reb t b true hb hlt) hR H1 (λl' a' w' h1 h2 h3 h4=>hfin true hb l' a' w' h1 h2 h3 h4)
      ·have H1:=M.ite_f hb Hm
       exact ih i _ ((t,.C false)::l) a w (hE.reb t b false hb hlt) hR H1 (λl' a' w' h1 h2 h3 h4=>hfin false hb l' a' w' h1 h2 h3 h4)
     ·intro x a' w' hE' hR' H'
      refine ih (i+k) _ _ a' w' hE' hR' H' λl'' a'' w'' hE'' hk'' hR'' H''=>h l'' a'' w'' hE'' (λs hs=>?_) hR'' H''
      have hsp:=KJr (k:=k) hs
      rw [hk'' s hsp.2]
      exact hcut x s hsp.1
end lists
end Gx
namespace Gx
open Go
structure Thr (ρ:Type):Type 1 where
 thr:{α:Type}->M (Value⊕α)->(α->M ρ)->M ρ
 inl:Value->(ρ->Heap->Prop)->Heap->Prop
 ok:∀{α:Type} (m:M (Value⊕α)) (k:α->M ρ) (h:Heap) (Q:ρ->Heap->Prop),(thr m k).wp h Q->m.wp h (λr h'=>match r with| .inl v=>inl v Q h'| .inr x=>(k x).wp h' Q)
def Thr.no (ρ:Type):Thr ρ:=⟨λ_ _=>M.fail,λ_ _ _=>False,λ_ _ _ _ H=>H.elim⟩
def Thr.sum (β:Type):Thr (Value⊕β):=⟨λm k=>Gx.thr m k,λv Q h=>Q (.inl v) h,λ_ _ _ _ H=>H⟩
structure SemX (P:Program) (f:FuncId) (l:KEnv) (args:Array Operand):Type 1 where
 rk:List Tk
 F:M (Value⊕Tup rk)
 vs:List Value
 cl:Callee? P f
 ha:opvs (encL l) args.toList=some vs
 S:Jx P f vs.toArray (encR rk) F
structure CalleeX (P:Program):Type 2 where
 f:FuncId
 sem:∀(l:KEnv) (args:Array Operand),Option (SemX P f l args)
def mkX {P:Program} (f:FuncId) (cl:Callee? P f) (ks rk:List Tk) (F:Tup ks->M (Value⊕Tup rk)) (S:∀t,Jx P f ((kdL ks t).map Kd.e).toArray (encR rk) (F t)):CalleeX P where
 f:=f
 sem l args:=match h:opks l args.toList with
  |none=>none
  |some kds=>match ht:tupL ks kds with
   |none=>none
   |some t=>some ⟨rk,F t,kds.map Kd.e,cl,KO2 h,by rw [KO3 ht];exact S t⟩
def KRW {P:Program} (f:FuncId):List (CalleeX P)->Option (CalleeX P)
 | []=>none
 |c::r=>match Nat.beq f c.f with
  |true=>some c
  |false=>KRW f r
theorem KNy {P:Program} {f:FuncId}:∀{l:List (CalleeX P)} {c:CalleeX P},KRW f l=some c->f=c.f
 |x::r,c,h=>by
  unfold KRW at h
  cases hb:Nat.beq f x.f with
  |true=>rw [hb]at h;cases h;exact Eu hb
  |false=>rw [hb]at h;exact KNy h
structure XC (P:Program) (ρ:Type):Type 2 where
 Th:Thr ρ
 CX:List (CalleeX P)
def XC.no (P:Program) (ρ:Type):XC P ρ:=⟨.no ρ,[]⟩
abbrev Ks:=List (Nat×Tk)
abbrev TupS (ks:Ks):Type:=Tup (ks.map Prod.snd)
def tupE (ks:Ks) (l:KEnv):Option (TupS ks):=match KC0 l (ks.map Prod.fst)with
 |some kds=>tupL (ks.map Prod.snd) kds
 |none=>none
def envT (ks:Ks) (t:TupS ks):KEnv:=(ks.map Prod.fst).zip (kdL (ks.map Prod.snd) t)
theorem KO4:∀{l:KEnv} {ts:List Nat} {ks:List Kd},KC0 l ts=some ks->∀s v,look (encL (ts.zip ks)) s=some v->look (encL l) s=some v
 |l,[],ks,h,s,v,hv=>by simp only [KC0,Option.some.injEq]at h;subst h;cases hv
 |l,t::ts,ks,h,s,v,hv=>by
  simp only [KC0]at h
  cases h1:Xt l t with
  |none=>rw [h1]at h;cases h
  |some k=>
   rw [h1]at h
   simp only at h
   cases h2:KC0 l ts with
   |none=>rw [h2]at h;cases h
   |some ks'=>
    rw [h2]at h
    simp only [Option.some.injEq]at h
    subst h
    simp only [II,encL,Er,look]at hv
    cases hb:Nat.beq t s with
    |true=>
     rw [hb]at hv
     have e:=Eu hb
     subst e
     simp only [Fy,Option.some.injEq]at hv
     rw [Vw h1,hv]
    |false=>
     rw [hb]at hv
     exact KO4 h2 s v hv
theorem KNz:∀{ts:List Nat} {ks ks':List Kd},ks.map Kd.e=ks'.map Kd.e->encL (ts.zip ks)=encL (ts.zip ks')
 | [],ks,ks',h=>rfl
 |t::ts,[],[],h=>rfl
 |t::ts,[],_::_,h=>by cases h
 |t::ts,_::_,[],h=>by cases h
 |t::ts,k::ks,k'::ks',h=>by
  simp only [Er,List.cons.injEq]at h
  have:=KNz (ts:=ts) h.2
  simp only [encL]at this
  simp only [II,encL,Er,h.1,this]
theorem KC1 {ks:Ks} {l:KEnv} {t:TupS ks} (h:tupE ks l=some t):∀s v,look (encL (envT ks t)) s=some v->look (encL l) s=some v:=by
 unfold tupE at h
 cases h1:KC0 l (ks.map Prod.fst)with
 |none=>rw [h1]at h;cases h
 |some kds=>
  rw [h1]at h
  simp only at h
  intro s v hv
  have h2:=KO3 h
  unfold envT at hv
  rw [<-KNz h2]at hv
  exact KO4 h1 s v hv
theorem KEg:∀{a b:KEnv} {s:Nat},look (encL (a++b)) s=match look (encL a) s with|some v=>some v|none=>look (encL b) s
 | [],b,s=>rfl
 |(d,k)::a,b,s=>by
  simp only [Ey,encL,Er,look]
  cases hb:Nat.beq d s with
  |true=>rfl
  |false=>exact KEg (a:=a) (b:=b) (s:=s)
theorem zR {ks:Ks} {t:TupS ks} {s:Nat} (h:(ks.any λq=>Nat.beq q.1 s)=false):look (encL (envT ks t)) s=none:=by
 unfold envT
 generalize kdL (ks.map Prod.snd) t=kds
 clear t
 induction ks generalizing kds with
 |nil=>rfl
 |cons p ks ih=>
  rw [Iz,Ff]at h
  cases kds with
  |nil=>rfl
  |cons k kds=>
   simp only [Er,II,encL,look,h.1,cond_false]
   exact ih h.2 kds
theorem KMA {ks:Ks} {t:TupS ks} {s:Nat} {v:Value} (h:look (encL (envT ks t)) s=some v):(ks.any λq=>Nat.beq q.1 s)=true:=by
 cases hb:(ks.any λq=>Nat.beq q.1 s)with
 |true=>rfl
 |false=>rw [zR hb]at h;cases h
theorem KRX {ks:Ks} {l:KEnv} {t:TupS ks} (h:tupE ks l=some t) {s:Nat} (hs:(ks.any λq=>Nat.beq q.1 s)=true):∃v,look (encL (envT ks t)) s=some v:=by
 unfold tupE at h
 cases h1:KC0 l (ks.map Prod.fst)with
 |none=>rw [h1]at h;cases h
 |some kds=>
  rw [h1]at h
  simp only at h
  have h2:=KO3 h
  unfold envT
  rw [<-KNz h2]
  clear h h2 t
  induction ks generalizing kds with
  |nil=>cases hs
  |cons p ks ih=>
   simp only [Er,KC0]at h1
   cases h3:Xt l p.1 with
   |none=>rw [h3]at h1;cases h1
   |some k=>
    rw [h3]at h1
    simp only at h1
    cases h4:KC0 l (ks.map Prod.fst)with
    |none=>rw [h4]at h1;cases h1
    |some ks'=>
     rw [h4]at h1
     simp only [Option.some.injEq]at h1
     subst h1
     simp only [Er,II,encL,look]
     cases hb:Nat.beq p.1 s with
     |true=>exact⟨_,rfl⟩
     |false=>
      rw [Iz,hb,F5]at hs
      simp only [cond_false]
      exact ih hs ks' h4
end Gx
namespace Gx
open Go Gx.Last
def cj:List (Heap->Prop)->Heap->Prop
 | [],_=>True
 | [f],h=>f h
 |f::g::r,h=>f h/\cj (g::r) h
theorem KKW {f:Heap->Prop} {h:Heap}:∀{fs:List (Heap->Prop)},cj (fs++[f]) h->cj fs h/\f h
 | [],H=>⟨trivial,H⟩
 | [g],H=>H
 |g::g'::r,H=>⟨⟨H.1,(KKW (fs:=g'::r) H.2).1⟩,(KKW (fs:=g'::r) H.2).2⟩
theorem KVX {f:Heap->Prop} {h:Heap}:∀{fs:List (Heap->Prop)},cj fs h->f h->cj (fs++[f]) h
 | [],_,H=>H
 | [g],H1,H=>⟨H1,H⟩
 |g::g'::r,H1,H=>⟨H1.1,KVX (fs:=g'::r) H1.2 H⟩
def chkK {ρ:Type} (p:Option (Heap->Prop)) (m:M ρ):M ρ:=match p with
 |none=>m
 |some p=>chk p>>=λ_=>m
def okS (p:Option (Heap->Prop)) (h:Heap):Prop:=match p with
 |none=>True
 |some p=>p h
theorem KMB {ρ:Type} {p:Option (Heap->Prop)} {m:M ρ} {h:Heap} {Q:ρ->Heap->Prop} (H:(chkK p m).wp h Q):okS p h/\m.wp h Q:=by
 cases p with
 |none=>exact⟨trivial,H⟩
 |some p=>obtain⟨_,h1,h2⟩:=H;exact⟨h1,h2⟩
def Cx.stepEX (c:Cx) {ρ:Type} (x:XC c.P ρ) (p:Option (Heap->Prop)) (K:KEnv->M ρ):Oper->KEnv->M ρ
 |⟨dst,.call ⟨.value (.func f),args,_⟩,_,_,_,_⟩,l=>match KRW f x.CX with
  |some e=>match e.sem l args with
   |some s=>x.Th.thr s.F λr=>chkK p (c.putK dst l K (kdR s.rk r))
   |none=>M.fail
  |none=>M.fail
 |_,_=>M.fail
def Cx.stepE (c:Cx) {ρ:Type} (x:XC c.P ρ) (o:Oper) (l:KEnv) (p:Option (Heap->Prop)) (v:Bool) (K:KEnv->M ρ):M ρ:=match KQV c.P c.C l o with
 |none=>c.stepEX x p K o l
 |some (.v kd _)=>bif v then c.putK o.dst l K kd else M.fail
 |some (.p run _)=>bif v then run (c.putK o.dst l K)else M.fail
 |some (.r run _)=>bif v then run λkd _=>c.putK o.dst l K kd else M.fail
 |some (.e run _)=>run λkd=>chkK p (c.putK o.dst l K kd)
 |some (.s run _)=>match o.dst with
  |none=>run (chkK p (K l))
  |some _=>M.fail
 |some (.c run _)=>run λkd=>chkK p (c.putK o.dst l K kd)
 |some (.cv τ f vs _)=>KZ1 c.P (encR τ) f vs>>=λr=>chkK p (c.putK o.dst l K (kdR τ r))
theorem KRY {c:Cx} {ops:Array Oper} {w0:World} {ρ:Type} {Q:ρ->Heap->Prop} {x:XC c.P ρ} {K:KEnv->M ρ} {o:Oper} {l:KEnv} {a:Act} {w:World} {p:Option (Heap->Prop)} {Np:Act->World->Prop} {X:Nat->Act->World->Prop} {R:Act->World->Prop} {KK:Act->World->Prop}
  (hw:Region.wanted o (yielded ops a.tmps)=true) (hE:EnvK ⟨c.n,[]⟩ a l) (hR:Rest w0 w) (H:(c.stepEX x p K o l).wp w.heap Q)
  (hp:∀v w,Rest w0 w->x.Th.inl v Q w.heap->X pid {tmps:=#[v],defers:=[]} w)
  (h:∀l' a' w',EnvK ⟨c.n,[]⟩ a' l'->Kq (λs=>o.dst==some s) l l'->Rest w0 w'->okS p w'.heap->(K l').wp w'.heap Q->KK a' w'):
  if Region.wanted o (yielded ops a.tmps)=true then Oper.wp c.P o a w KK (Ps Np X R)else KK (a.put o.dst undef) w:=by
 unfold Cx.stepEX at H
 split at H
 ·next dst f args ts ty pos aft g=>
  split at H
  ·next e he=>
   have hf:=KNy he
   split at H
   ·next s hs=>
    have H:=x.Th.ok _ _ _ _ H
    refine KYT f s.vs.toArray hw rfl (KJi hE (hf▸s.cl) s.ha) (((hf▸s.S:Jx c.P f s.vs.toArray (encR s.rk) s.F) w _ H).mono ?_)
    rintro e' w' ⟨r,he',hq,hr⟩
    cases r with
    |inl v=>
     subst he'
     exact .inr ⟨_,rfl,v,rfl,by rw [hE.defers];exact hp v w' (hR.trans hr) hq⟩
    |inr r=>
     subst he'
     obtain⟨hp',hq⟩:=KMB hq
     obtain⟨l',h1,h2,h3⟩:=Yh (n:=⟨c.n,[]⟩) rfl hq hE
     exact .inl ⟨_,rfl,h l' _ w' h1 h2 (hR.trans hr) hp' h3⟩
   ·exact H.elim
  ·exact H.elim
 ·exact H.elim
theorem KHT {c:Cx} {ops:Array Oper} {n:Frm} {w0:World} {ρ:Type} {Q:ρ->Heap->Prop} {x:XC c.P ρ} {K:KEnv->M ρ} {o:Oper} {l:KEnv} {a:Act} {w:World} {p:Option (Heap->Prop)} {v:Bool} {Np:Act->World->Prop} {X:Nat->Act->World->Prop} {R:Act->World->Prop} {KK:Act->World->Prop}
  (hn:n=⟨c.n,[]⟩) (hw:Region.wanted o (yielded ops a.tmps)=true) (hE:EnvK n a l) (hR:Rest w0 w) (hv:v=true->okS p w.heap) (H:(c.stepE x o l p v K).wp w.heap Q)
  (hp:∀v w,Rest w0 w->x.Th.inl v Q w.heap->X pid {tmps:=#[v],defers:=[]} w)
  (h:∀l' a' w',EnvK n a' l'->Kq (λs=>o.dst==some s) l l'->Rest w0 w'->okS p w'.heap->(K l').wp w'.heap Q->KK a' w'):
  if Region.wanted o (yielded ops a.tmps)=true then Oper.wp c.P o a w KK (Ps Np X R)else KK (a.put o.dst undef) w:=by
 unfold Cx.stepE at H
 have hn0:=hn
 have hn:n.size=c.n:=by rw [hn0]
 cases hs:KQV c.P c.C l o with
 |none=>rw [hs]at H;subst hn0;exact KRY hw hE hR H hp h
 |some s=>
  rw [hs]at H
  cases s with
  |v kd ok=>
   simp only at H
   cases v with
   |false=>exact H.elim
   |true=>
    obtain⟨l',h1,h2,h3⟩:=Yh hn H hE
    exact KOv hw rfl (ok n a w hE) (h l' _ w h1 h2 hR (hv rfl) h3)
  |p run ok=>
   simp only at H
   cases v with
   |false=>exact H.elim
   |true=>
    obtain⟨kd,H,ok⟩:=ok ρ _ _ _ H
    obtain⟨l',h1,h2,h3⟩:=Yh hn H hE
    exact KOv hw rfl (ok n a w hE) (h l' _ w h1 h2 hR (hv rfl) h3)
  |r run ok=>
   simp only at H
   cases v with
   |false=>exact H.elim
   |true=>
    obtain⟨kd,fact,H,hf,ok⟩:=ok ρ _ _ _ H
    obtain⟨l',h1,h2,h3⟩:=Yh hn H hE
    exact KOv hw rfl (ok n a w hE hf) (h l' _ w h1 h2 hR (hv rfl) h3)
  |e run ok=>
   obtain⟨kd,w1,hr,hw1,H⟩:=ok ρ _ n a w _ hE H
   obtain⟨hp,H⟩:=KMB H
   obtain⟨l',h1,h2,h3⟩:=Yh hn H hE
   exact KOv hw rfl hr (h l' _ w1 h1 h2 (hR.trans hw1) hp h3)
  |s run ok=>
   cases hd:o.dst with
   |some d=>simp only [hd]at H;exact H.elim
   |none=>
    simp only [hd]at H
    obtain⟨w1,hr,hw1,H⟩:=ok ρ _ n a w _ hE H
    obtain⟨hp,H⟩:=KMB H
    exact KWA hw hd hr (h l a w1 hE (λs _=>rfl) (hR.trans hw1) hp H)
  |c run ok=>
   obtain⟨f,args,hr,hc⟩:=ok ρ _ n a w _ hE H
   refine KX6 f args hw rfl hr (hc.mono ?_)
   rintro e w' ⟨kd,rfl,H,hw'⟩
   obtain⟨hp,H⟩:=KMB H
   obtain⟨l',h1,h2,h3⟩:=Yh hn H hE
   exact⟨_,rfl,h l' _ w' h1 h2 (hR.trans hw') hp h3⟩
  |cv τ f vs ok=>
   obtain⟨x,args,ts,ho,hx,ha⟩:=ok
   obtain⟨g,cap,rfl,hcl,hC⟩:=(M.unbind H) w rfl
   have hrun:(execOp a.eval o).run c.P w=.ok (.enter g (vs.toArray++cap)) w:=by
    have:=KKT (P:=c.P) (w:=w) (dst:=o.dst) (ty:=o.type) (pos:=o.pos) (aft:=o.after) (g:=o.guard) (ts:=ts) hE hx hcl ha
    rw [<-ho]at this
    exact this
   refine KX6 g (vs.toArray++cap) hw rfl hrun (hC.mono ?_)
   rintro e w' ⟨r,rfl,H,hw'⟩
   obtain⟨hp,H⟩:=KMB H
   obtain⟨l',h1,h2,h3⟩:=Yh hn H hE
   exact⟨_,rfl,h l' _ w' h1 h2 (hR.trans hw') hp h3⟩
theorem KMC {ops:Array Oper} {l:KEnv} {o:Oper} {n:Frm} {a:Act} (hE:EnvK n a l) (h:gst ops l o=.on):Region.wanted o (yielded ops a.tmps)=true:=by
 unfold gst at h
 cases hgd:o.guard with
 |none=>exact Kg hgd
 |some p=>
  obtain⟨j,cc⟩:=p
  rw [hgd]at h
  simp only at h
  cases hd:(ops[j]?).bind (·.dst)with
  |none=>rw [hd]at h;cases h
  |some t=>
   rw [hd]at h
   simp only at h
   cases hl:Xt l t with
   |none=>rw [hl]at h;cases h
   |some k=>
    rw [hl]at h
    cases k with
    |C x=>
     simp only at h
     cases hx:(x==cc)with
     |true=>exact KRC hgd hE hd (Vw hl) hx
     |false=>rw [hx]at h;cases h
    |_=>cases h
theorem KWh {ops:Array Oper} {l:KEnv} {o:Oper} {n:Frm} {a:Act} (hE:EnvK n a l) (h:gst ops l o=.off):Region.wanted o (yielded ops a.tmps)=false:=by
 unfold gst at h
 cases hgd:o.guard with
 |none=>rw [hgd]at h;cases h
 |some p=>
  obtain⟨j,cc⟩:=p
  rw [hgd]at h
  simp only at h
  cases hd:(ops[j]?).bind (·.dst)with
  |none=>rw [hd]at h;cases h
  |some t=>
   rw [hd]at h
   simp only at h
   cases hl:Xt l t with
   |none=>rw [hl]at h;cases h
   |some k=>
    rw [hl]at h
    cases k with
    |C x=>
     simp only at h
     cases hx:(x==cc)with
     |false=>exact KNn hgd hE hd (Vw hl) hx
     |true=>rw [hx]at h;cases h
    |U=>exact KL4 hgd hE hd (Vw hl) (λb hb=>by cases hb)
    |_=>cases h
inductive Sch where
 |pu (i:Nat) (k:Sch)
 |of (i:Nat) (k:Sch)
 |g (j:Nat) (kt kf:Sch)
 |st (ds:List Nat) (k:Sch)
 |nx (k:Sch)
 |on (i:Nat) (k:Sch)
 |dn
 |fk (rs:List Nat) (k:Sch)
 |bo (i:Nat) (a b:Sch)
 |la (i:Nat) (a:Sch)
 |jn (fx:Bool) (rs:Ks) (ws:List Nat) (f m:Nat) (a b:Sch)
 |je
abbrev OldS:=Option (Nat×List Nat×List (Heap->Prop)×Bool)
inductive Md where
 |S (old:OldS) (rd:List (Nat×Nat)) (fs:List (Heap->Prop))
 |P (ds:List Nat) (fs:List (Heap->Prop)) (v:Bool)
 |A (rs:List Nat) (ds:List Nat) (fs:List (Heap->Prop)) (v:Bool)
def Md.old:Md->Nat->OldS
 | .S o _ _,_=>o
 | .P ds fs v,m=>some (m,ds,fs,v)
 | .A _ _ _ _,_=>none
def Md.rd:Md->List (Nat×Nat)
 | .S _ r _=>r
 |_=>[]
def Md.fs:Md->List (Heap->Prop)
 | .S _ _ f=>f
 |_=>[]
def Md.nA:Md->Bool
 | .A _ _ _ _=>false
 |_=>true
abbrev Tg:=Option (Nat×Nat×List Nat)
def wrT (tg:Tg) (L:List Oper) (s:Nat):Bool:=match tg with
 |none=>anyD L s
 |some (_,_,sl)=>sl.contains s
def KEh (tg:Tg) (o:Oper):Bool:=match tg with
 |none=>true
 |some (_,_,sl)=>match o.dst with
  |none=>true
  |some d=>sl.contains d
structure Rg where
 ops:Array Oper
 em:List Nat
 cm:List Nat
 wm:List Nat
def rdok (n:Nat) (g:Rg) (ds:List Nat) (rd:List (Nat×Nat)):Bool:=rd.all λp=>KOx n g.em g.cm g.wm ds p.1 (p.1|||1<<<p.2) p.2
def swOk (n:Nat) (o:OldS):Bool:=match o with
 |none=>true
 |some (m0,ds,_,_)=>KF4 m0 ds n
def sopt (fs:List (Heap->Prop)):Option (Heap->Prop):=match fs with
 | []=>none
 |fs=>some (cj fs)
def nilB {α:Type}:List α->Bool
 | []=>true
 |_=>false
def KWi (l:KEnv) (ws:List Nat):Bool:=ws.all λd=>match Xt l d with
 |none=>true
 |some _=>false
def Cx.trD (c:Cx) (n:Nat) (g:Rg):Sch->Nat->Md->Nat->KEnv->{ρ:Type}->XC c.P ρ->Tg->(KEnv->M ρ)->M ρ
 | .pu i k,f+1,md,m,l,_,x,tg,K=>match g.ops[i]? with
  |none=>M.fail
  |some o=>match gst g.ops l o with
   | .on=>bif md.nA&&KEh tg o&&KNq n g.em g.cm m (m|||1<<<i) i then match KQV c.P c.C l o with
    |some (.v kd _)=>c.putK o.dst l (λl'=>c.trD n g k f (.S (md.old m) md.rd md.fs) (m|||1<<<i) l' x tg K) kd
    |some (.p run _)=>run (c.putK o.dst l λl'=>c.trD n g k f (.S (md.old m) md.rd md.fs) (m|||1<<<i) l' x tg K)
    |some (.r run _)=>run λkd fact=>c.putK o.dst l (λl'=>c.trD n g k f (.S (md.old m) (md.rd++[(m,i)]) (md.fs++[fact])) (m|||1<<<i) l' x tg K) kd
    |_=>M.fail
    else M.fail
   |_=>M.fail
 | .of i k,f+1,md,m,l,_,x,tg,K=>match g.ops[i]? with
  |none=>M.fail
  |some o=>match gst g.ops l o with
   | .off=>bif md.nA&&KEh tg o&&KNq n g.em g.cm m (m|||1<<<i) i then c.putK o.dst l (λl'=>c.trD n g k f (.S (md.old m) md.rd md.fs) (m|||1<<<i) l' x tg K) .U else M.fail
   |_=>M.fail
 | .g j kt kf,f,md,m,l,_,x,tg,K=>match(g.ops[j]?).bind (·.dst)with
  |none=>M.fail
  |some t=>match Xt l t with
   |some (.B b)=>bif md.nA then M.ite b (c.trD n g kt f (.S (md.old m) md.rd md.fs) m ((t,.C true)::l) x tg K) (c.trD n g kf f (.S (md.old m) md.rd md.fs) m ((t,.C false)::l) x tg K)else M.fail
   |_=>M.fail
 | .st ds k,f,md,m,l,_,x,none,K=>bif md.nA&&rdok n g ds md.rd&&swOk n (md.old m)then c.trD n g k f (.P ds md.fs true) m l x none K else M.fail
 | .nx k,f,md,m,l,_,x,tg,K=>bif md.nA&&nilB md.rd&&nilB md.fs then match md.old m with
   |some (_,ds,fs,v)=>c.trD n g k f (.P ds fs v) m l x tg K
   |none=>M.fail
  else M.fail
 | .on i k,f+1,.P ds fs v,m,l,_,x,tg,K=>match g.ops[i]? with
  |none=>M.fail
  |some o=>match gst g.ops l o with
   | .on=>bif KEh tg o&&KTZ n g.em m (m|||1<<<i) i then match ds.contains i with
    |true=>c.stepE x o l none true λl'=>c.trD n g k f (.P ds fs (nilB fs)) (m|||1<<<i) l' x tg K
    |false=>c.stepE x o l (sopt fs) v λl'=>c.trD n g k f (.P ds fs true) (m|||1<<<i) l' x tg K
    else M.fail
   |_=>M.fail
 | .dn,_,.P ds fs v,m,l,_,x,none,K=>bif KCz m [] g.em 0 then K l else M.fail
 | .fk rs k,f+1,.P ds fs v,m,l,_,x,tg,K=>bif KCz m rs g.em 0&&rs.any (λi=>Nat.blt i n)&&Nat.beq g.em.length n then c.trD n g k f (.A rs ds fs v) m l x tg K else M.fail
 | .bo i a b,f,.A (r::rs) ds fs v,m,l,_,x,tg,K=>match g.ops[i]? with
  |none=>M.fail
  |some o=>match gst g.ops l o with
   | .on=>bif Nat.beq r i&&KEh tg o&&Nat.blt i n then M.both (match ds.contains i with
    |true=>c.stepE x o l none true λl'=>c.trD n g a f (.P ds fs (nilB fs)) (m|||1<<<i) l' x tg K
    |false=>c.stepE x o l (sopt fs) v λl'=>c.trD n g a f (.P ds fs true) (m|||1<<<i) l' x tg K) (c.trD n g b f (.A rs ds fs v) m l x tg K)
    else M.fail
   |_=>M.fail
 | .la i a,f,.A [r] ds fs v,m,l,_,x,tg,K=>match g.ops[i]? with
  |none=>M.fail
  |some o=>match gst g.ops l o with
   | .on=>bif Nat.beq r i&&KEh tg o&&Nat.blt i n then match ds.contains i with
    |true=>c.stepE x o l none true λl'=>c.trD n g a f (.P ds fs (nilB fs)) (m|||1<<<i) l' x tg K
    |false=>c.stepE x o l (sopt fs) v λl'=>c.trD n g a f (.P ds fs true) (m|||1<<<i) l' x tg K
    else M.fail
   |_=>M.fail
 | .jn fx rs ws f' m' a b,f,.P ds fs v,m,l,_,x,none,K=>bif KWi l ws&&rs.all λp=>anyD g.ops.toList p.1 then match fx with
   |false=>c.trD n g a f (.P ds fs v) m l (XC.no c.P (TupS rs)) (some (f',m',rs.map Prod.fst++ws)) (λl'=>match tupE rs l' with
     |some t=>M.pure t
     |none=>M.fail)>>=λt=>c.trD n g b f' (.P ds fs (nilB fs)) m' (envT rs t++l) x none K
   |true=>x.Th.thr (c.trD n g a f (.P ds fs v) m l (⟨Thr.sum (TupS rs),x.CX⟩:XC c.P (Value⊕TupS rs)) (some (f',m',rs.map Prod.fst++ws)) λl'=>match tupE rs l' with
     |some t=>M.pure (.inr t)
     |none=>M.fail) λt=>c.trD n g b f' (.P ds fs (nilB fs)) m' (envT rs t++l) x none K
  else M.fail
 | .je,f,.P ds fs v,m,l,_,x,some (f',m',_),K=>bif Nat.beq f f'&&Nat.beq m m' then K l else M.fail
 |_,_,_,_,_,_,_,_,_=>M.fail
end Gx
