/- Own library: a small logic of Lean programs over the model's heap, with the laws that tie Go code to it. No condition. -/
import Derived.Test.YtpibdohdkfkcnaaGreatDoorP0
import Derived.RangeFuncRecord
import Derived.RangeFuncLeaves
import Derived.Lib.IfaceEq
import Derived.Lib.UnsafeStr
import Derived.Laws.StructEq
import Derived.Laws.Externs
import Derived.Lib.MakeNoZero
import Derived.KernelRfl
set_option linter.unusedVariables false
set_option linter.unusedSimpArgs false
namespace Gx
open Go
def KEZ (P:Program) (f:Field):Option (Nat×Nat):=match P.info? f.type with
 |some i=>some (f.offset,i.size)
 |none=>none
def KA5 (P:Program):List Field→Option (List (Nat×Nat))
 | []=>some []
 |f::r=>match KEZ P f,KA5 P r with
  |some p,some ps=>some (p::ps)
  |_,_=>none
def WA (P:Program) (t:TypeId):Option (List (Nat×Nat)):=match P.underlying t with
 |some (.struct fs)=>KA5 P fs.toList
 |_=>none
section
variable {P:Program} {w:World}
theorem KCV:∀{fs:List Field} {ps:List (Nat×Nat)},KA5 P fs=some ps→(fs.mapM (m:=Sem) fun f=>do pure (f.offset,←Go.sizeOf f.type)).run P w=.ok ps w
 | [],ps,h=>by simp [KA5]at h;subst h;rfl
 |f::r,ps,h=>by
  simp only [KA5]at h
  cases h1:KEZ P f with
  |none=>rw [h1]at h;simp at h
  |some p=>
   cases h2:KA5 P r with
   |none=>rw [h1,h2]at h;simp at h
   |some qs=>
    rw [h1,h2]at h
    simp only [Option.some.injEq]at h
    subst h
    unfold KEZ at h1
    cases hi:P.info? f.type with
    |none=>rw [hi]at h1;cases h1
    |some i=>
     rw [hi]at h1
     simp only [Option.some.injEq]at h1
     subst h1
     have hh:((do pure (f.offset,←Go.sizeOf f.type)):Sem (Nat×Nat)).run P w=.ok (f.offset,i.size) w:=by simp [Go.sizeOf,typeInfo,hi]
     rw [List.mapM_cons]
     simp only [Sem.run_bind]at hh⊢
     rw [hh]
     have:=KCV h2
     simp only [Result.andThen_ok,this,Sem.run_pure]
theorem KKG {t:Nat} {z:Value} {ps:List (Nat×Nat)} {parts:Array (Nat×Value)} {cells:Array Value} (hz:(P.info? t).bind (·.zero)=some z) (hp:WA P t=some ps) (hf:Instr.fill (ps[·]?) z.cells parts.toList=some cells):
  (Instr.build t parts).run P w=.ok (.agg cells) w:=by
 have hzv:(zeroValue t).run P w=.ok z w:=by
  cases hi:P.info? t with
  |none=>rw [hi]at hz;cases hz
  |some i=>rw [hi]at hz;simp at hz;simp [zeroValue,typeInfo,hi,hz]
 unfold WA at hp
 cases hu:P.underlying t with
 |none=>rw [hu]at hp;cases hp
 |some d=>
  rw [hu]at hp
  cases d with
  |struct fs=>
   simp only at hp
   have h1:=KCV (w:=w) hp
   have h2:(fs.mapM (m:=Sem) fun f=>do pure (f.offset,←Go.sizeOf f.type)).run P w=.ok ps.toArray w:=by
    have e:fs=fs.toList.toArray:=by simp
    rw [e,List.mapM_toArray]
    simp only [Sem.run_map,h1,Result.andThen_ok]
   unfold Instr.build
   simp only [Sem.run_bind,hzv,Result.andThen_ok,run_underlying hu,h2]
   have h3:(fun x:Nat=>ps.toArray[x]?)=(fun x:Nat=>ps[x]?):=by funext x;simp
   rw [h3,hf]
   rfl
  |_=>cases hp
end
def Xb (ps:List (Nat×Nat)) (z:Array Value) (parts:List (Nat×Value)):M (Array Value):=.get fun _ cs=>Instr.fill (ps[·]?) z parts=some cs
def bdL (e len:Nat) (cells:Array Value):M Sl:=⟨fun h Q=>∃r:Sl,r=⟨some ⟨h.size,0,none⟩,len,len⟩∧Q r (h.push (.cells cells e)),fun hq ⟨r,hp,h⟩=>⟨r,hp,hq _ _ h⟩⟩
def XI (size len:Nat) (z:Array Value) (parts:List (Nat×Value)):M (Array Value):=.get fun _ cs=>Instr.fill (fun i=>some (i*size,size)) (zRow z (len*size)) parts=some cs
def fdI (k:IntKind) (cs:Array Value) (i:Nat):M Int:=.get fun _ n=>cs[i]?=some (.int k n)
def fdB (cs:Array Value) (i:Nat):M Bool:=.get fun _ n=>cs[i]?=some (.bool n)
def fdS (cs:Array Value) (i:Nat):M ByteArray:=.get fun _ n=>cs[i]?=some (.string n)
def fdP (cs:Array Value) (i:Nat):M (Option Addr):=.get fun _ n=>cs[i]?=some (.pointer n)
def fdL (cs:Array Value) (i:Nat):M Sl:=.get fun _ n=>cs[i]?=some n.v
def fdMp (cs:Array Value) (i:Nat):M (Option Nat):=.get fun _ n=>cs[i]?=some (.map n)
def fdV (cs:Array Value) (i:Nat):M Value:=.get fun _ n=>cs[i]?=some n
def fdoB (P:Program) (s f:Nat):Option (Nat×Nat):=match P.underlying s with
 |some (.struct fs)=>match fs[f]? with
  |some fd=>some (fd.offset,fd.type)
  |none=>none
 |_=>none
def b2s (s:Sl):M ByteArray:=.get fun h r=>∃ns:List UInt8,ns.length=s.len∧Gq h s.base (ns.map fun b=>Value.int .u8 (b.toNat:Int))∧r=⟨ns.toArray⟩
def s2b (e:Nat) (s:ByteArray):M Sl:=
 ⟨fun h Q=>∀cap,s.size≤cap→∀mk:Nat×Nat,mk=(cap,cap+1)→Q ⟨some ⟨h.size,0,none⟩,s.size,cap⟩ (h.push (.cells ((UM s).toArray++Array.replicate (cap - s.size) (.int .u8 0)) e mk)),
  fun hq H cap hc mk hm=>hq _ _ (H cap hc mk hm)⟩
section ops
variable {P:Program} {n:Frm} {a:Act} {w:World} {l:List (Nat×Value)} {dst:Option Tmp} {ty:TypeId} {pos:String} {aft:Array Edge} {g:Option (Nat×Bool)}
def opps (l:List (Nat×Value)):List (Nat×Operand)→Option (List (Nat×Value))
 | []=>some []
 |(i,x)::r=>match opv l x,opps l r with
  |some v,some vs=>some ((i,v)::vs)
  |_,_=>none
theorem Env.opps (hE:Env n a l):∀{xs:List (Nat×Operand)} {vs:List (Nat×Value)},opps l xs=some vs→xs.map (fun(i,x)=>(i,a.eval x))=vs
 | [],vs,h=>by simp [Gx.opps]at h;subst h;rfl
 |(i,x)::r,vs,h=>by
  simp only [Gx.opps]at h
  cases h1:Gx.opv l x with
  |none=>rw [h1]at h;simp at h
  |some v=>
   cases h2:Gx.opps l r with
   |none=>rw [h1,h2]at h;simp at h
   |some vs'=>
    rw [h1,h2]at h
    simp only [Option.some.injEq]at h
    subst h
    simp [hE.opv h1,Env.opps hE h2]
theorem KML {parts:Array (Nat×Operand)} {vs:List (Nat×Value)} (hE:Env n a l) (ho:Gx.opps l parts.toList=some vs):(parts.map fun(i,x)=>(i,a.eval x)).toList=vs:=by
 rw [Array.toList_map]
 exact hE.opps ho
theorem Vs {t:Nat} {z:Value} {ps:List (Nat×Nat)} {parts:Array (Nat×Operand)} {vs:List (Nat×Value)} {cells:Array Value} (hE:Env n a l) (ho:Gx.opps l parts.toList=some vs) (hz:(P.info? t).bind (·.zero)=some z) (hp:WA P t=some ps) (hf:Instr.fill (ps[·]?) z.cells vs=some cells):
  (execOp a.eval ⟨dst,.build t parts,ty,pos,aft,g⟩).run P w=.ok (.value (.agg cells)) w:=by
 have:=KKG (P:=P) (w:=w) (parts:=parts.map fun(i,x)=>(i,a.eval x)) hz hp (by rw [KML hE ho];exact hf)
 simp [execOp,this]
theorem Gr {t:Nat} {v:Value} (h:∀w,(Instr.build t #[]).run P w=.ok v w):(execOp a.eval ⟨dst,.build t #[],ty,pos,aft,g⟩).run P w=.ok (.value v) w:=by
 simp [execOp,h]
theorem J4 {t e sz len:Nat} {z:Value} {parts:Array (Nat×Operand)} {vs:List (Nat×Value)} {cells:Array Value} {s:Sl} (hE:Env n a l) (ho:Gx.opps l parts.toList=some vs) (ht:P.underlying t=some (.slice e)) (hs:szB P e sz=true) (hz:(P.info? e).bind (·.zero)=some z) (hlim:Nat.ble (len*sz) 16777216=true)
  (hf:Instr.fill (fun i=>some (i*sz,sz)) (zRow z.cells (len*sz)) vs=some cells) (hq:s=⟨some ⟨w.heap.size,0,none⟩,len,len⟩):
  (execOp a.eval ⟨dst,.buildSlice t len parts,ty,pos,aft,g⟩).run P w=.ok (.value s.v) {w with heap:=w.heap.push (.cells cells e)}:=by
 subst hq
 have hzv:∀w,(zeroValue e).run P w=.ok z w:=fun w=>by
  cases hi:P.info? e with
  |none=>rw [hi]at hz;cases hz
  |some i=>rw [hi]at hz;simp at hz;simp [zeroValue,typeInfo,hi,hz]
 have h1:¬(16777216<len*sz):=by have:=Nat.le_of_ble_eq_true hlim;omega
 have h2:List.map (fun x:Nat×Operand=>(x.1,a.eval x.2)) parts.toList=vs:=hE.opps ho
 by_cases h0:len*sz=0
 ·rw [h0]at hf
  have e0:(Array.range 0)=#[]:=Array.eq_empty_of_size_eq_zero (by simp)
  simp [qw,e0]at hf
  simp [execOp,Instr.buildSlice,run_underlying ht,Jt hs,h0,h2,hf,newRow,Sl.v,e0]
 ·simp only [qw]at hf
  simp [execOp,Instr.buildSlice,run_underlying ht,Jt hs,h0,h1,hzv,h2,hf,newRow,Sl.v]
theorem Ng {s f off ft:Nat} {x:Operand} {cs:Array Value} {v:Value} (hE:Env n a l) (hx:opv l x=some (.agg cs)) (hf:fdoB P s f=some (off,ft)) (ht:scB P ft=true) (hv:cs[off]?=some v):
  (execOp a.eval ⟨dst,.field s x f,ty,pos,aft,g⟩).run P w=.ok (.value v) w:=by
 unfold fdoB at hf
 cases hu:P.underlying s with
 |none=>rw [hu]at hf;cases hf
 |some d=>
  rw [hu]at hf
  cases d with
  |struct fs=>
   simp only at hf
   cases hfd:fs[f]? with
   |none=>rw [hfd]at hf;cases hf
   |some fd=>
    rw [hfd]at hf
    simp only [Option.some.injEq,Prod.mk.injEq]at hf
    obtain⟨rfl,rfl⟩:=hf
    simp [execOp,hE.opv hx,Instr.field,run_underlying hu,hfd,asAgg,part,KHz ht,hv]
  |_=>cases hf
theorem KMM {s f off ft m:Nat} {x:Operand} {cs:Array Value} (hE:Env n a l) (hx:opv l x=some (.agg cs)) (hf:fdoB P s f=some (off,ft)) (ht:agB P ft m=true):
  (execOp a.eval ⟨dst,.field s x f,ty,pos,aft,g⟩).run P w=.ok (.value (.agg (cs.extract off (off+m)))) w:=by
 unfold fdoB at hf
 cases hu:P.underlying s with
 |none=>rw [hu]at hf;cases hf
 |some d=>
  rw [hu]at hf
  cases d with
  |struct fs=>
   simp only at hf
   cases hfd:fs[f]? with
   |none=>rw [hfd]at hf;cases hf
   |some fd=>
    rw [hfd]at hf
    simp only [Option.some.injEq,Prod.mk.injEq]at hf
    obtain⟨rfl,rfl⟩:=hf
    simp [execOp,hE.opv hx,Instr.field,run_underlying hu,hfd,asAgg,part,KH0 ht]
  |_=>cases hf
theorem KQH {t kt e ti:Nat} {x:Operand} {m:Option Nat} {r:Int} (hE:Env n a l) (hx:opv l x=some (.map m)) (ht:P.underlying t=some (.map kt e)) (hc:∃es,mget w.heap m=some es∧r=(es.size:Int)):
  (execOp a.eval ⟨dst,.call {callee:=.builtin .len,args:=#[x],argTypes:=#[t]},ti,pos,aft,g⟩).run P w=.ok (.value (.int .i64 r)) w:=by
 obtain⟨es,h1,rfl⟩:=hc
 cases m with
 |none=>simp [mget]at h1;subst h1;simp [execOp,resolve,invoke,builtin,Builtin.len_,hE.opv hx,run_underlying ht,goInt]
 |some b=>
  simp only [mget]at h1
  split at h1
  ·rename_i es' c hb
   simp only [Option.some.injEq]at h1
   subst h1
   simp [execOp,resolve,invoke,builtin,Builtin.len_,hE.opv hx,run_underlying ht,goInt,Uy hb]
  ·cases h1
theorem KFq {r:Nat} {o o':Obj} (h:w.heap[r]?=some o') (hn:∀c t f,o'≠.cells c t f):(setObj r o).run P w=.ok () {w with heap:=w.heap.set! r o}:=by
 simp only [setObj,Sem.run,h,Array.set!]
theorem KMN {t kt e ti:Nat} {x:Operand} {m:Option Nat} (hE:Env n a l) (hx:opv l x=some (.map m)) (ht:P.underlying t=some (.map kt e)) (hc:m=none∨∃r es clock,m=some r∧w.heap[r]?=some (.map es clock)):
  (execOp a.eval ⟨dst,.call {callee:=.builtin .clear,args:=#[x],argTypes:=#[t]},ti,pos,aft,g⟩).run P w=.ok (.value (.tuple #[])) {w with heap:=hcl m w.heap}:=by
 rcases hc with rfl|⟨r,es,clock,rfl,h⟩
 ·simp [execOp,resolve,invoke,builtin,Builtin.clear_,hE.opv hx,run_underlying ht,hcl]
 ·have hs:=KFq (P:=P) (w:=w) (r:=r) (o:=.map #[] clock) h (fun c t f hh=>by cases hh)
  simp only [hcl,h]
  simp [execOp,resolve,invoke,builtin,Builtin.clear_,hE.opv hx,run_underlying ht,Uy h,hs]
theorem KOZ {t kt e:Nat} {x:Operand} {m:Option Nat} {p:Addr} (hE:Env n a l) (hx:opv l x=some (.map m)) (ht:P.underlying t=some (.map kt e)) (hc:p=⟨w.heap.size,0,none⟩∧(m=none∨∃r es clock,m=some r∧w.heap[r]?=some (.map es clock))):
  (execOp a.eval ⟨dst,.range t x,ty,pos,aft,g⟩).run P w=.ok (.value (.pointer (some p))) {w with heap:=w.heap.push (hit m w.heap)}:=by
 obtain⟨rfl,hc⟩:=hc
 rcases hc with rfl|⟨r,es,clock,rfl,h⟩
 ·simp [execOp,hE.opv hx,Instr.range,run_underlying ht,hit]
 ·simp only [hit,h]
  simp [execOp,hE.opv hx,Instr.range,run_underlying ht,Uy h]
theorem KOa {x:Operand} {p:Addr} {r:Value×Value} (hE:Env n a l) (hx:opv l x=some (.pointer (some p)))
  (hc:p.off=0∧∃m since seen clock es stamp e,w.heap[p.block]?=some (.mapIter (some m) since seen clock)∧seen.back?=some stamp∧w.heap[m]?=some (.map es clock)∧es.find? (·.born==stamp)=some e∧r=(e.key,e.val)):
  (execOp a.eval ⟨dst,.entry x,ty,pos,aft,g⟩).run P w=.ok (.value (.tuple #[r.1,r.2])) w:=by
 obtain⟨h0,m,since,seen,clock,es,stamp,e,h1,h2,h3,h4,rfl⟩:=hc
 obtain⟨b,o,sp⟩:=p
 simp only at h0 h1
 subst h0
 have hg:(getObj b).run P w=.ok (.mapIter (some m) since seen clock) w:=by simp only [getObj,Sem.run,h1]
 simp [execOp,hE.opv hx,Instr.entry,hg,h2,Uy h3,h4]
theorem KQI {x:Operand} {p:Addr} {Q:Value→Heap→Prop} (hE:Env n a l) (hx:opv l x=some (.pointer (some p))) (H:(nxM p).wp w.heap Q):
  ∃r w1,(execOp a.eval ⟨dst,.next x false,ty,pos,aft,g⟩).run P w=.ok (.value r) w1∧Rest w w1∧Q r w1.heap:=by
 obtain⟨h0,H⟩:=H
 obtain⟨b,o,sp⟩:=p
 simp only at h0 H
 subst h0
 rcases H with⟨u,v,z,h1,h2⟩|⟨m,since,seen,last,es,clock,h1,h2,h3,h4,h5,h6⟩
 ·have hg:(getObj b).run P w=.ok (.mapIter none u v z) w:=by simp only [getObj,Sem.run,h1]
  exact⟨_,w,by simp [execOp,hE.opv hx,Instr.next,hg],⟨rfl,rfl,rfl,Nat.le_refl _⟩,h2⟩
 ·have hg:(getObj b).run P w=.ok (.mapIter (some m) since seen last) w:=by simp only [getObj,Sem.run,h1]
  have hlt:b<w.heap.size:=by
   rcases Nat.lt_or_ge b w.heap.size with h|h
   ·exact h
   ·rw [Array.getElem?_eq_none h]at h1;cases h1
  let left:=es.filter fun e=>!seen.contains e.born
  let old:=left.filter (·.born<since)
  let new:=left.filter (·.born≥since)
  let cand:=(if old.isEmpty then #[none]else #[])++(old++new).map some
  have hpos:0<cand.size:=by
   by_cases ho:old.isEmpty=true
   ·simp [cand,ho];omega
   ·have:0<old.size:=by
     rcases Nat.eq_zero_or_pos old.size with h|h
     ·exact absurd (by simpa using Array.eq_empty_of_size_eq_zero h) ho
     ·exact h
    simp [cand,ho];omega
  have hch:∃i w',(choose (.mapNext cand.size)).run P w=.ok i w'∧i<cand.size∧Rest w w'∧w'.heap=w.heap:=by
   by_cases hf:(Question.mapNext cand.size).forced=true
   ·exact⟨0,w,by simp [hf],hpos,⟨rfl,rfl,rfl,Nat.le_refl _⟩,rfl⟩
   ·refine⟨_,{w with drawn:=w.drawn+1},by rw [run_choose,if_neg hf],?_,⟨rfl,rfl,rfl,Nat.le_succ _⟩,rfl⟩
    simp only [Question.cut]
    exact Nat.mod_lt _ hpos
  obtain⟨i,w',hci,hi,hr',hh'⟩:=hch
  have hrun:(execOp a.eval ⟨dst,.next x false,ty,pos,aft,g⟩).run P w=(((match cand[i]? with
   |some (some e)=>do setObj b (.mapIter (some m) since (seen.push e.born) clock);pure (.tuple #[.bool true,e.key,e.val])
   |some none=>pure (.tuple #[.bool false])
   |none=>stuck "Next: no such candidate"):Sem Value).run P w').andThen fun v w''=>.ok (.value v) w'':=by
   have h3':¬((!seen.isEmpty&& !es.isEmpty&&es.all (·.born≥last))=true):=by rw [h3];simp
   simp only [execOp,hE.opv hx,Instr.next,Sem.run_bind,hg,Result.andThen_ok,Uy h2]
   rw [if_neg h3']
   simp only [Sem.run_bind,Sem.run_pure,Result.andThen_ok]
   show(((choose (.mapNext cand.size)).run P w).andThen _).andThen _=_
   rw [hci]
   rfl
  rw [hrun]
  have hget:cand[i]?=some cand[i]:=Array.getElem?_eq_getElem hi
  have hmem:cand[i]∈cand:=Array.getElem_mem hi
  rw [hget]
  cases hc:cand[i]with
  |none=>
   refine⟨_,w',rfl,hr',?_⟩
   rw [hh']
   refine h6 fun e he hs=>?_
   rw [hc]at hmem
   simp only [cand,Array.mem_append,Array.mem_map]at hmem
   rcases hmem with hmem|⟨e',_,he'⟩
   ·by_cases ho:old.isEmpty=true
    ·have hn:e∉old:=by
      have:old=#[]:=by simpa using ho
      rw [this];simp
     simp only [old,left,Array.mem_filter]at hn
     simp at hn
     exact hn he (by simpa using hs)
    ·simp [ho]at hmem
   ·cases he'
  |some e=>
   rw [hc]at hmem
   simp only [cand,Array.mem_append,Array.mem_map]at hmem
   have hme:e∈es∧seen.contains e.born=false:=by
    rcases hmem with hmem|⟨e',he',hee⟩
    ·by_cases ho:old.isEmpty=true
     ·simp [ho]at hmem
     ·simp [ho]at hmem
    ·simp only [Option.some.injEq]at hee
     subst hee
     rcases he' with he'|he'
     ·simp only [old,left,Array.mem_filter]at he'
      exact⟨he'.1.1,by simpa using he'.1.2⟩
     ·simp only [new,left,Array.mem_filter]at he'
      exact⟨he'.1.1,by simpa using he'.1.2⟩
   have hset:=KFq (P:=P) (w:=w') (r:=b) (o:=.mapIter (some m) since (seen.push e.born) clock) (by rw [hh'];exact h1) (fun c t f hh=>by cases hh)
   refine⟨.tuple #[.bool true,e.key,e.val],{w' with heap:=w'.heap.set! b (.mapIter (some m) since (seen.push e.born) clock)},?_,⟨hr'.os,hr'.output,hr'.tape,hr'.drawn⟩,?_⟩
   ·simp only [Sem.run_bind,hset,Result.andThen_ok,Sem.run_pure]
   ·show Q _ (w'.heap.set! _ _)
    rw [hh']
    exact h5 e hme.1 hme.2
theorem KKH {s d e:Nat} {x:Operand} {u:Sl} {r:ByteArray} (hE:Env n a l) (hx:opv l x=some u.v) (hs:P.underlying s=some (.slice e)) (hd:P.underlying d=some .string) (he:P.underlying e=some (.int .u8))
  (hc:∃ns:List UInt8,ns.length=u.len∧Gq w.heap u.base (ns.map fun b=>Value.int .u8 (b.toNat:Int))∧r=⟨ns.toArray⟩):
  (execOp a.eval ⟨dst,.convert s d x,ty,pos,aft,g⟩).run P w=.ok (.value (.string r)) w:=by
 obtain⟨ns,h1,h2,rfl⟩:=hc
 have key:(Conv.bytesToString u.v).run P w=.ok (.string ⟨ns.toArray⟩) w:=by
  unfold Sl.v
  cases hb:u.base with
  |none=>
   rw [hb]at h2
   rcases h2 with h2|⟨b,hb',_⟩
   ·have:ns=[]:=by simpa using h2
    subst this
    simp [Conv.bytesToString];rfl
   ·cases hb'
  |some b=>
   have hl:(loadCells b u.len).run P w=.ok ((ns.map fun b=>(b.toNat:Int)).map (Value.int .u8)).toArray w:=by
    rw [←h1]
    have e:(ns.map fun b=>(b.toNat:Int)).map (Value.int .u8)=ns.map fun b=>Value.int .u8 (b.toNat:Int):=by rw [List.map_map];rfl
    rw [e]
    have:=run_loadCells_list (P:=P) (w:=w) b (ns.map fun b=>Value.int .u8 (b.toNat:Int)) (fun j v hj=>by
     rcases h2 with h2|⟨b',hb',hc⟩
     ·rw [h2]at hj;simp at hj
     ·rw [hb]at hb';cases hb';exact hc j v hj)
    simpa using this
   rw [run_bytesToString w b u.len u.cap _ hl]
   congr 2
   have:∀(l:List UInt8) (acc:ByteArray),(l.map fun b=>(b.toNat:Int)).foldl (fun r n=>r.push (UInt8.ofNat n.toNat)) acc=⟨acc.data++l.toArray⟩:=by
    intro l
    induction l with
    |nil=>intro acc;simp
    |cons b r ih=>
     intro acc
     simp only [List.map_cons,List.foldl_cons,ih]
     congr 1
     simp [ByteArray.push]
   rw [this]
   simp
 simp [execOp,hE.opv hx,convert,run_underlying hs,run_underlying hd,Sl.v]at key⊢
 simp [run_underlying he,key]
end ops
end Gx
namespace Gx
open Go
section ops
variable {P:Program} {n:Frm} {a:Act} {w:World} {l:List (Nat×Value)} {dst:Option Tmp} {ty:TypeId} {pos:String} {aft:Array Edge} {g:Option (Nat×Bool)}
theorem YI {e sz bytes:Nat} {z:Array Value} (h:((P.info? e).bind fun i=>i.zero.map fun v=>(i.size,i.bytes,v.cells))=some (sz,bytes,z)):∃i,P.info? e=some i∧i.size=sz∧i.bytes=bytes∧∃v,i.zero=some v∧v.cells=z:=by
 cases hi:P.info? e with
 |none=>rw [hi]at h;cases h
 |some i=>
  rw [hi]at h
  simp only [Option.bind_some]at h
  cases hz:i.zero with
  |none=>rw [hz]at h;cases h
  |some v=>
   rw [hz]at h
   simp only [Option.map_some,Option.some.injEq,Prod.mk.injEq]at h
   exact⟨i,rfl,h.1,h.2.1,v,hz,h.2.2⟩
theorem KQJ {x:Operand} {v:Value} {i:Nat} {b:Bool} (hE:Env n a l) (hx:opv l x=some v) (hc:∃vs,v=.tuple vs∧vs[i]?=some (.bool b)):(execOp a.eval ⟨dst,.extract x i,ty,pos,aft,g⟩).run P w=.ok (.value (.bool b)) w:=by
 obtain⟨vs,rfl,h⟩:=hc
 exact JQ hE hx h
theorem KOb {s d:Nat} {x:Operand} {u:ByteArray} (hE:Env n a l) (hx:opv l x=some (.string u)) (hs:P.underlying s=some .string) (hd:P.underlying d=some .string):
  (execOp a.eval ⟨dst,.convert s d x,ty,pos,aft,g⟩).run P w=.ok (.value (.string u)) w:=by
 simp [execOp,hE.opv hx,convert,run_underlying hs,run_underlying hd]
theorem KQK {t ti q e:Nat} {x:Operand} {v:Value} (hE:Env n a l) (hx:opv l x=some v) (ht:P.underlying t=some (.array q e)):
  (execOp a.eval ⟨dst,.call {callee:=.builtin .len,args:=#[x],argTypes:=#[t]},ti,pos,aft,g⟩).run P w=.ok (.value (.int .i64 (q:Int))) w:=by
 simp [execOp,resolve,invoke,builtin,Builtin.len_,hE.opv hx,run_underlying ht,goInt]
theorem KRd {x y:Operand} {k k':IntKind} {u v:Int} {ts:Array TypeId} (hE:Env n a l) (hx:opv l x=some (.int k u)) (hy:opv l y=some (.int k' v)):
  (execOp a.eval ⟨dst,.call {callee:=.builtin .max,args:=#[x,y],argTypes:=ts},ty,pos,aft,g⟩).run P w=.ok (.value (.int k (iMax u v))) w:=by
 simp [execOp,resolve,invoke,builtin,Builtin.max_,Builtin.max2,hE.opv hx,hE.opv hy,iMax,List.foldlM]
theorem KOc {s d e:Nat} {x:Operand} {u:ByteArray} {Q:Sl→Heap→Prop} (hE:Env n a l) (hx:opv l x=some (.string u)) (hs:P.underlying s=some .string) (hd:P.underlying d=some (.slice e)) (he:P.underlying e=some (.int .u8)) (H:(s2b e u).wp w.heap Q):
  ∃r w1,(execOp a.eval ⟨dst,.convert s d x,ty,pos,aft,g⟩).run P w=.ok (.value (Sl.v r)) w1∧Rest w w1∧Q r w1.heap:=by
 let cap:=(Question.appendCap u.size 0 e).cut (w.tape w.drawn (.appendCap u.size 0 e))
 have hcap:u.size≤cap:=by simp only [cap,Question.cut];omega
 have hH:=H cap hcap (cap,cap+1) rfl
 refine⟨⟨some ⟨w.heap.size,0,none⟩,u.size,cap⟩,{w with drawn:=w.drawn+1,heap:=w.heap.push (.cells ((UM u).toArray++Array.replicate (cap - u.size) (.int .u8 0)) e (cap,cap+1))},?_,⟨rfl,rfl,rfl,Nat.le_succ _⟩,hH⟩
 have hl:(UM u).length=u.size:=by simp [UM]
 have e1:u.data.map (fun(b:UInt8)=>Value.int .u8 (b.toNat:Int))=(UM u).toArray:=by unfold UM;rw [←Array.toList_map,Array.toArray_toList]
 have hsz:u.size+(cap - u.size)=cap:=by omega
 have hrun:(Conv.stringToBytes e u).run P w=.ok (.slice (some ⟨w.heap.size,0,none⟩) u.size cap) {w with drawn:=w.drawn+1,heap:=w.heap.push (.cells ((UM u).toArray++Array.replicate (cap - u.size) (.int .u8 0)) e (cap,cap+1))}:=by
  have hf:(Question.appendCap u.size 0 e).forced=false:=rfl
  unfold Conv.stringToBytes
  simp only [Sem.run_bind,run_choose,hf,Bool.false_eq_true,if_false,Result.andThen_ok]
  show(((newRow e (u.data.map (fun(b:UInt8)=>Value.int .u8 (b.toNat:Int))++Array.replicate (cap - u.size) (.int .u8 0))).run P {w with drawn:=w.drawn+1}).andThen _)=_
  rw [e1]
  simp only [newRow,Sem.run_bind,run_newObj,Result.andThen_ok,Sem.run_pure,markStringish,run_shape,World.shape?,Array.getElem?_push_size]
  simp only [Array.size_append,List.size_toArray,hl,Array.size_replicate,hsz,run_freeze,Result.andThen_ok,Sem.run_pure]
  simp only [World.freeze,Nat.add_one_ne_zero,if_false]
  congr 1
  congr 1
  apply Array.ext
  ·simp
  ·intro i h1 h2
   simp only [Array.getElem_modify]
   split
   ·rename_i hi
    subst hi
    simp
   ·rename_i hne
    have hlt:i<w.heap.size:=by simp at h2;omega
    rw [Array.getElem_push_lt hlt,Array.getElem_push_lt hlt]
 simp [execOp,hE.opv hx,convert,run_underlying hs,run_underlying hd,he,run_underlying he,hrun,Sl.v]
def hmrk (s:Sl) (h:Heap):Heap:=match s.base with
 |some a=>match h[a.block]? with
  |some (.cells c _ _)=>h.modify a.block fun
   | .cells c' t (lo,hi)=>.cells c' t (if lo=hi then(c.size,c.size+1)else(min lo c.size,max hi (c.size+1)))
   |o=>o
  |_=>h
 |none=>h
def mrk (s:Sl):M Sl:=⟨fun h Q=>∃r:Sl,(r=s∧∃a c t f,s.base=some a∧h[a.block]?=some (.cells c t f))∧Q r (hmrk s h),fun hq ⟨r,hp,h⟩=>⟨r,hp,hq _ _ h⟩⟩
theorem KRe {t e:Nat} {x:Operand} {s r:Sl} (hE:Env n a l) (hx:opv l x=some s.v) (ht:P.underlying t=some (.slice e)) (he:P.underlying e=some (.int .u8)) (hc:r=s∧∃a c t f,s.base=some a∧w.heap[a.block]?=some (.cells c t f)):
  (execOp a.eval ⟨dst,.convert t t x,ty,pos,aft,g⟩).run P w=.ok (.value r.v) {w with heap:=hmrk s w.heap}:=by
 obtain⟨rfl,b,c,t',f,hb,hh⟩:=hc
 have hsh:w.shape? b.block=some (t',c.size):=by simp only [World.shape?,hh]
 simp only [hmrk,hb,hh]
 simp [execOp,hE.opv hx,convert,run_underlying ht,run_underlying he,Sl.v,hb,markStringish,hsh,World.freeze]
 rfl
theorem KQL {x:Operand} {v r:Value} (hE:Env n a l) (hx:opv l x=some r) (hc:r=v∧v≠.nilFunc∧v≠.nilIface∧v≠.pointer none∧∀n x y,v≠.func (.method n) x y):(execOp a.eval ⟨dst,.nilCheck x,ty,pos,aft,g⟩).run P w=.ok (.value r) w:=by
 obtain⟨rfl,h1,h2,h3,h4⟩:=hc
 cases r with
 |func fn x y=>cases fn<;>first|exact absurd rfl (h4 _ _ _)|simp [execOp,hE.opv hx]
 |pointer p=>cases p<;>first|exact absurd rfl h3|simp [execOp,hE.opv hx]
 |nilFunc=>exact absurd rfl h1
 |nilIface=>exact absurd rfl h2
 |_=>simp [execOp,hE.opv hx]
theorem GU {fn:Fn} {cs:Array Operand} {vs:List Value} (hE:Env n a l) (h:opvs l cs.toList=some vs):(execOp a.eval ⟨dst,.makeFunc fn #[] cs,ty,pos,aft,g⟩).run P w=.ok (.value (.func fn #[] vs.toArray)) w:=by
 have h1:cs.map a.eval=vs.toArray:=by
  have:=hE.opvs h
  rw [←this,←Array.toList_map,Array.toArray_toList]
 simp [execOp,Instr.makeFunc,h1]
def Inv (P:Program) (v:Value) (args:List Value) (w:World) (R:Ending→World→Prop):Prop:=
 (∃(f:FuncId) (cap:Array Value),v=.func (.func f) #[] cap∧Callee? P f∧Calls P f (args.toArray++cap) w R)∨
 (∃(l:Nat) (r:Loop),v=.func (.yield l) #[] #[]∧w.heap[l]?=some (.loop r)∧args.length=r.params.size∧
  RoundIn (Fw none) 1 P l r.fn ((r.params.zip args.toArray).foldl (fun tmps (t,a)=>tmps.setIfInBounds t a) r.tmps) r.assign r.body w R)
theorem Inv.mono {P:Program} {v:Value} {args:List Value} {w:World} {R R':Ending→World→Prop} (h:Inv P v args w R) (hr:∀e w',R e w'→R' e w'):Inv P v args w R':=by
 rcases h with⟨f,cap,h1,h2,h3⟩|⟨l,r,h1,h2,h3,h4⟩
 ·exact .inl ⟨f,cap,h1,h2,h3.mono hr⟩
 ·exact .inr ⟨l,r,h1,h2,h3,h4.mono hr⟩
def X4 (P:Program) {ρ:Type} (enc:ρ→Value) (v:Value) (args:List Value):M ρ:=
 ⟨fun h Q=>∀w:World,w.heap=h→Inv P v args w (fun e w'=>∃r,e=.returned (enc r)∧Q r w'.heap∧Rest w w'),
  fun hq h w hw=>(h w hw).mono fun _ _ ⟨r,h1,h2,h3⟩=>⟨r,h1,hq _ _ h2,h3⟩⟩
theorem KEa {P:Program} {ρ:Type} {enc:ρ→Value} {f:FuncId} {cap:Array Value} {args:List Value} {F:M ρ} {h:Heap} {Q:ρ→Heap→Prop} (hc:Callee? P f) (hS:ZG P f (args.toArray++cap) enc F) (H:F.wp h Q):
  (X4 P enc (.func (.func f) #[] cap) args).wp h Q:=fun w hw=>.inl ⟨f,cap,rfl,hc,hS w Q (hw▸H)⟩
end ops
section steps
variable {ro:Option Nat} {P:Program} {ops:Array Oper} {K:Act→World→Prop} {X:Nat→Act→World→Prop} {R:Act→World→Prop} {n:Frm} {a:Act} {w w0:World} {l:List (Nat×Value)} {rest:List Oper}
theorem KEb {dst:Option Tmp} {f:FuncId} {cap:Array Value} {x:Operand} {as:Array Operand} {ts:Array TypeId} {ty:TypeId} {pos:String} {aft:Array Edge} {g:Option (Nat×Bool)} {vs:List Value} (hE:Env n a l) (hx:opv l x=some (.func (.func f) #[] cap)) (hc:Callee? P f) (ha:opvs l as.toList=some vs):
  (execOp a.eval ⟨dst,.call {callee:=.value x,args:=as,argTypes:=ts},ty,pos,aft,g⟩).run P w=.ok (.enter f (vs.toArray++cap)) w:=by
 have h1:as.map a.eval=vs.toArray:=by
  have:=hE.opvs ha
  rw [←this,←Array.toList_map,Array.toArray_toList]
 have h2:=hc (vs.toArray++cap) w
 simp [execOp,resolve,Deferred.ofValue,invoke,hE.opv hx,h1,h2]
theorem KMO {dst:Option Tmp} {lp:Nat} {r:Loop} {x:Operand} {as:Array Operand} {ts:Array TypeId} {ty:TypeId} {pos:String} {aft:Array Edge} {g:Option (Nat×Bool)} {vs:List Value} (hE:Env n a l) (hx:opv l x=some (.func (.yield lp) #[] #[])) (hl:w.heap[lp]?=some (.loop r)) (hs:vs.length=r.params.size) (ha:opvs l as.toList=some vs):
  (execOp a.eval ⟨dst,.call {callee:=.value x,args:=as,argTypes:=ts},ty,pos,aft,g⟩).run P w=.ok (.round lp r.fn ((r.params.zip vs.toArray).foldl (fun tmps (t,a)=>tmps.setIfInBounds t a) r.tmps) r.assign r.body) w:=by
 have h1:as.map a.eval=vs.toArray:=by
  have:=hE.opvs ha
  rw [←this,←Array.toList_map,Array.toArray_toList]
 have h2:=run_yield (P:=P) (args:=vs.toArray) hl (by simpa using hs)
 simp [execOp,resolve,Deferred.ofValue,invoke,hE.opv hx,h1,h2]
theorem KOd {d:Option Nat} {x:Operand} {as:Array Operand} {ts:Array TypeId} {ty:TypeId} {pos:String} {aft:Array Edge} {v:Value} {vs:List Value} {ρ:Type} {enc:ρ→Value} {Q:ρ→Heap→Prop}
  (hE:Env n a l) (hR:Rest w0 w) (hx:opv l x=some v) (ha:opvs l as.toList=some vs) (H:(X4 P enc v vs).wp w.heap Q)
  (h:∀r a' w',a'=a.put d (enc r)→Rest w0 w'→Q r w'.heap→wpListIn (Fw ro) 1 P ops (Ps K X R) rest a' w'):
  wpListIn (Fw ro) 1 P ops (Ps K X R) (⟨d,.call {callee:=.value x,args:=as,argTypes:=ts},ty,pos,aft,none⟩::rest) a w:=by
 rcases H w rfl with⟨f,cap,rfl,hc,hC⟩|⟨lp,r,rfl,hl,hs,hC⟩
 ·refine wpListIn_plain rfl fun K' hK=>⟨fun _ _=>trivial,?_⟩
  rw [zo (KEb hE hx hc ha) (fun d h=>by cases h),Oper.uponIn_enter]
  refine⟨fun _=>Nat.le_refl 1,YY (hC.mono ?_)⟩
  rintro e w' ⟨r,rfl,hq,hr⟩
  exact hK _ _ (h r _ w' rfl (hR.trans hr) hq)
 ·refine wpListIn_plain rfl fun K' hK=>⟨fun _ _=>trivial,?_⟩
  rw [zo (KMO hE hx hl hs ha) (fun d h=>by cases h),Oper.uponIn_round]
  have hC':RoundIn (Fw ro) (1 - 1) P lp r.fn ((r.params.zip vs.toArray).foldl (fun tmps (t,a)=>tmps.setIfInBounds t a) r.tmps) r.assign r.body w _:=⟨trivial,fun c cs _=>hC.2 c cs (KHx _)⟩
  refine⟨fun _=>Nat.le_refl 1,hC'.mono ?_⟩
  rintro e w' ⟨r,rfl,hq,hr⟩
  exact hK _ _ (h r _ w' rfl (hR.trans hr) hq)
end steps
end Gx
namespace Gx
open Go
def slL3 (s:Sl) (lo hi mx:Int) (sz:Nat):M Sl:=.get fun _ r=>0≤lo∧lo≤hi∧hi≤mx∧mx≤s.cap∧r=⟨if mx.toNat=lo.toNat then s.base else s.base.map (·.add (lo.toNat*sz)),hi.toNat - lo.toNat,mx.toNat - lo.toNat⟩
def apM (e sz bytes:Nat) (z:Array Value) (s:Sl) (n:Int):M Sl:=
 ⟨fun h Q=>0≤n∧n*bytes≤140737488355328∧n≤9223372036854775807∧∃news:List Value,news=(zRow z (n.toNat*z.size)).toList∧apGo e sz bytes z s n.toNat news h Q,
  fun hq ⟨h1,h2,h3,news,h4,h5⟩=>⟨h1,h2,h3,news,h4,KCT hq h5⟩⟩
section
variable {P:Program} {n:Frm} {a:Act} {w:World} {l:List (Nat×Value)} {dst:Option Tmp} {ty:TypeId} {pos:String} {aft:Array Edge} {g:Option (Nat×Bool)}
theorem KOe {b:Bool} {len cap:Nat} {k k' k'':IntKind} {lo hi mx:Int} (h0:0≤lo) (h1:lo≤hi) (h2:hi≤mx) (h3:mx≤cap):(Instr.sliceBounds b len cap (some (.int k lo)) (some (.int k' hi)) (some (.int k'' mx))).run P w=.ok (lo.toNat,hi.toNat,mx.toNat) w:=by
 have e:lo≤((hi.toNat:Nat):Int):=by omega
 have e2:hi≤((mx.toNat:Nat):Int):=by omega
 simp [Instr.sliceBounds,KEY rfl (by omega:0≤mx) h3,KEY rfl (by omega:0≤hi) e2,KEY rfl h0 e]
theorem KKI {t e m:Nat} {x y z u:Operand} {s:Sl} {k k' k'':IntKind} {lo hi mx:Int} {r:Sl} (hE:Env n a l) (hx:opv l x=some s.v) (hy:opv l y=some (.int k lo)) (hz:opv l z=some (.int k' hi)) (hu:opv l u=some (.int k'' mx)) (ht:P.underlying t=some (.slice e)) (hm:szB P e m=true)
  (hc:0≤lo∧lo≤hi∧hi≤mx∧mx≤s.cap∧r=⟨if mx.toNat=lo.toNat then s.base else s.base.map (·.add (lo.toNat*m)),hi.toNat - lo.toNat,mx.toNat - lo.toNat⟩):
  (execOp a.eval ⟨dst,.slice t x (some y) (some z) (some u),ty,pos,aft,g⟩).run P w=.ok (.value r.v) w:=by
 obtain⟨h0,h1,h2,h3,rfl⟩:=hc
 simp [execOp,hE.opv hx,hE.opv hy,hE.opv hz,hE.opv hu,Instr.sliceAt,Instr.slice,run_underlying ht,KOe h0 h1 h2 h3,Jt hm,Sl.v]
theorem KOf {t ti e sz bytes:Nat} {z:Array Value} {x y:Operand} {s:Sl} {m:Int} {Q:Sl→Heap→Prop} (hE:Env n a l) (hx:opv l x=some s.v) (hy:opv l y=some (.int .i64 m)) (hP:apB P t e sz bytes z) (hti:P.underlying ti=some (.int .i64)) (hzs:z.size=sz) (H:(apM e sz bytes z s m).wp w.heap Q):
  ∃r w1,(execOp a.eval ⟨dst,.call {callee:=.builtin .append,args:=#[x,y],argTypes:=#[t,ti]},ty,pos,aft,g⟩).run P w=.ok (.value (Sl.v r)) w1∧Rest w w1∧Q r w1.heap:=by
 obtain⟨hm0,hm1,hm2,news,hnews,H⟩:=H
 obtain⟨ht,i,hi,rfl,rfl,v,hv,rfl⟩:=hP
 have hwr:IntKind.i64.wrap m=m:=by simp [IntKind.wrap,IntKind.bits,IntKind.signed];omega
 have hl0:¬m<0:=by omega
 have hl1:¬(m*(i.bytes:Int)>2^48):=by
  have e:(2:Int)^48=281474976710656:=by decide
  rw [e];omega
 have hl1':¬((281474976710656:Int)<m*(i.bytes:Int)):=by omega
 have hzv:∀w':World,(zeroValue e).run P w'=.ok v w':=fun w'=>by simp [zeroValue,typeInfo,hi,hv]
 have hzc:Builtin.zeroCells v.cells m.toNat=news.toArray:=by
  subst hnews
  simp only [Builtin.zeroCells,zRow]
  apply Array.ext';simp
 have hn0:m.toNat*i.size=0→news=[]:=fun h0=>by
  subst hnews
  rw [hzs,h0]
  rfl
 suffices hh:∃r w1,(Builtin.append_ #[t,ti] ty #[s.v,.int .i64 m]).run P w=.ok (Sl.v r) w1∧Rest w w1∧Q r w1.heap by
  obtain⟨r,w1,hr,hrest,hq⟩:=hh
  exact⟨r,w1,by simp [execOp,resolve,invoke,builtin,hE.opv hx,hE.opv hy,hr],hrest,hq⟩
 unfold apGo at H
 split at H
 ·rename_i hc
  obtain⟨h1,h2,h3⟩:=H
  refine⟨⟨s.base,s.len+m.toNat,s.cap⟩,{w with heap:=GT w.heap s.base (s.len*i.size) news},?_,⟨rfl,rfl,rfl,Nat.le_refl _⟩,h3⟩
  simp only [Builtin.append_,Sl.v]
  cases hb:s.base with
  |none=>
   by_cases h0:m.toNat*i.size=0
   ·have:=hn0 h0
    subst this
    simp [run_underlying ht,run_underlying hti,Go.sizeOf,typeInfo,hi,hc,asInt,hwr,hl0,hl1',GT,asIntOf,h0]
   ·simp [run_underlying ht,run_underlying hti,Go.sizeOf,typeInfo,hi,hc,asInt,hwr,hl0,hl1',GT,asIntOf,h0,hzv,hzc]
  |some b=>
   have hp:(storeCells (b.add (s.len*i.size)) news).run P w=.ok () {w with heap:=GT w.heap (some b) (s.len*i.size) news}:=by
    rw [hb]at h1
    exact KH7 (b:=some b) h1 h2
   by_cases h0:m.toNat*i.size=0
   ·have:=hn0 h0
    subst this
    simp [run_underlying ht,run_underlying hti,Go.sizeOf,typeInfo,hi,hc,asInt,asIntOf,hwr,hl0,hl1',h0,hp]
   ·simp [run_underlying ht,run_underlying hti,Go.sizeOf,typeInfo,hi,hc,asInt,asIntOf,hwr,hl0,hl1',h0,hp,hzv,hzc]
 ·rename_i hc
  obtain⟨h1,h2,olds,h3,h4,h5⟩:=H
  have hlt:s.cap<s.len+m.toNat:=by omega
  have hfit:=growslice_fits hlt h1
  have h48':¬(281474976710656<Builtin.nextslicecap (s.len+m.toNat) s.cap*i.bytes):=by omega
  have hcap:s.len+m.toNat≤grownCap w (s.len+m.toNat) s.cap e:=by unfold grownCap;simp only [Question.cut];omega
  refine⟨⟨some ⟨w.heap.size,0,none⟩,s.len+m.toNat,grownCap w (s.len+m.toNat) s.cap e⟩,{w with drawn:=w.drawn+1,heap:=w.heap.push (.cells (olds.toArray++news.toArray++zRow v.cells ((grownCap w (s.len+m.toNat) s.cap e - (s.len+m.toNat))*v.cells.size)) e)},?_,⟨rfl,rfl,rfl,Nat.le_succ _⟩,h5 _ hcap⟩
  have ho:=zz (P:=P) (w:=w.drew) (sz:=i.size) (k:=s.len) (s:=s) h3 h4
  have hd':({w with drawn:=w.drawn+1}:World)=w.drew:=rfl
  have hmax:¬((9223372036854775807:Int)<(s.len:Int)+(m.toNat:Int)):=by omega
  have hmax':¬((9223372036854775807:Int)<(s.len:Int)+max m 0):=by omega
  simp only [Builtin.append_,Sl.v]at ho⊢
  by_cases h0:m.toNat*i.size=0
  ·have:=hn0 h0
   subst this
   simp [run_underlying ht,run_underlying hti,Go.sizeOf,typeInfo,hi,hc,hmax,hmax',h48',Question.forced,hd',ho,hzv,hzc,h0,hv,newRow,grownCap,asInt,asIntOf,hwr,hl0,hl1']
   simp [Builtin.zeroCells,qw]
   rfl
  ·simp [run_underlying ht,run_underlying hti,Go.sizeOf,typeInfo,hi,hc,hmax,hmax',h48',Question.forced,hd',ho,hzv,hzc,h0,hv,newRow,grownCap,asInt,asIntOf,hwr,hl0,hl1']
   simp [Builtin.zeroCells,qw]
   rw [←Array.append_assoc,show olds.toArray++news.toArray=(olds++news).toArray from by simp]
   rfl
end
def Gt (r:Loop) (s:LoopState) (p:Option Code):Obj:=.loop {r with state:=s,pending:=p}
def jat (js:List Code):Nat→Option Code
 |0=>none
 |k+1=>js[k]?
def beg (l:Nat):M Unit:=⟨fun h Q=>∃r:Loop,h[l]?=some (.loop r)∧r.state=.ready∧Q () (h.setIfInBounds l (.loop {r with state:=.busy})),fun hq ⟨r,h1,h2,h3⟩=>⟨r,h1,h2,hq _ _ h3⟩⟩
def yV (l:Nat):Value:=.func (.yield l) #[] #[]
def KMP (r:Loop) (l:Nat) (js:List Code) (Q:Bool→Heap→Prop) (j:Nat) (h:Heap):Prop:=
 ∃s p,h[l]?=some (Gt r s p)∧Q (jat js j).isNone (h.setIfInBounds l (Gt r (if(jat js j).isNone then .ready else .done) (jat js j)))
def KOg (r:Loop) (l:Nat) (js:List Code) (Q:Nat→Heap→Prop) (h:Heap):Prop:=
 ∃s j,s≠LoopState.busy∧h[l]?=some (Gt r s (jat js j))∧Q j (h.setIfInBounds l (Gt r .exhausted (jat js j)))
def KH8 (P:Program) {α:Type} (enc:α→List Value) (js:List Code) (Y:Nat→α→M Nat) (r:Loop) (l:Nat):Prop:=
 ∀x h (Q:Bool→Heap→Prop) s p,h[l]?=some (Gt r s p)→(Y l x).wp h (KMP r l js Q)→(X4 P (fun b:Bool=>.bool b) (yV l) (enc x)).wp h Q
def rgF (P:Program) {α:Type} (enc:α→List Value) (js:List Code) (Y:Nat→α→M Nat) (g:Value):M (Nat×Nat):=
 ⟨fun h Q=>(∀l,g≠.func (.yield l) #[] #[])∧∀r:Loop,KH8 P enc js Y r (h.size+1)→
   (X4 P (fun _:Unit=>.tuple #[]) g [yV (h.size+1)]).wp ((h.push (.deferred (some []))).push (Gt r .ready none)) (fun _ h3=>KOg r (h.size+1) js (fun j h4=>Q (j,h.size) h4) h3),
  fun hq H=>⟨H.1,fun r hr=>(X4 P _ _ _).mono (fun _ h3 ⟨s,j,h1,h2,h3⟩=>⟨s,j,h1,h2,hq _ _ h3⟩) (H.2 r hr)⟩⟩
def shut:List Nat→M Unit
 | []=>M.pure ()
 |b::r=>⟨fun h Q=>h[b]?=some (.deferred (some []))∧(shut r).wp (h.setIfInBounds b (.deferred none)) Q,fun hq H=>⟨H.1,(shut r).mono hq H.2⟩⟩
section
variable {ro:Option Nat} {P:Program} {K:Act→World→Prop} {X:Nat→Act→World→Prop} {R:Act→World→Prop} {n:Frm} {a:Act} {w w0:World} {l:List (Nat×Value)}
theorem KRf {β:Type} {lp:Nat} {f:Unit→M β} {Q:β→Heap→Prop} {B:World→Prop} (hR:Rest w0 w) (H:(beg lp>>=f).wp w.heap Q) (h:∀w',Rest w0 w'→(f ()).wp w'.heap Q→B w'):
  ∃w2,(Instr.beginRound lp).run P w=.ok () w2∧B w2:=by
 obtain⟨r,h1,h2,h3⟩:=H
 exact⟨_,run_beginRound h1 h2,h _ (hR.trans ⟨rfl,rfl,rfl,Nat.le_refl _⟩) h3⟩
def jgo (ro:Option Nat) (P:Program) (N:Act→World→Prop) (Z:Exit→Act→World→Prop):List Code→Nat→Act→World→Prop
 | [],_,a,w=>N a w
 |c::cs,j,a,w=>if j=1 then c.wpIn (Fw ro) 1 P Z a w else jgo ro P N Z cs (j - 1) a w
theorem KMQ {N:Act→World→Prop} {Z:Exit→Act→World→Prop} {c:Code} {cs:List Code} {j:Nat} (h1:j=1→c.wpIn (Fw ro) 1 P Z a w) (h2:¬j=1→jgo ro P N Z cs (j - 1) a w):jgo ro P N Z (c::cs) j a w:=by
 unfold jgo
 split
 ·exact h1 ‹_›
 ·exact h2 ‹_›
theorem KOh {N:Act→World→Prop} {Z:Exit→Act→World→Prop} {j:Nat} (h:N a w):jgo ro P N Z [] j a w:=h
theorem KNq {N:Act→World→Prop} {Z:Exit→Act→World→Prop}:∀{js:List Code} {j:Nat},jgo ro P N Z js j a w→match jat js j with|none=>N a w|some c=>c.wpIn (Fw ro) 1 P Z a w
 |js,0,h=>by
  show N a w
  induction js with
  |nil=>exact h
  |cons c cs ih=>exact ih (by unfold jgo at h;simpa using h)
 | [],j+1,h=>by simpa [jat,jgo] using h
 |c::cs,1,h=>by
  have:c.wpIn (Fw ro) 1 P Z a w:=by unfold jgo at h;simpa using h
  simpa [jat] using this
 |c::cs,j+2,h=>by
  have h':jgo ro P N Z cs (j+1) a w:=by unfold jgo at h;simpa using h
  have:=KNq h'
  simpa [jat] using this
def zipl:List Tmp→List Value→List (Nat×Value)→List (Nat×Value)
 |t::ts,v::vs,l=>zipl ts vs ((t,v)::l)
 |_,_,l=>l
theorem KKJ:∀(ps:List Tmp) (vs:List Value) {a:Act} {l:List (Nat×Value)},Env n a l→(ps.all fun t=>Nat.blt t n.size)=true→Env n {a with tmps:=(ps.zip vs).foldl (fun t p=>t.setIfInBounds p.1 p.2) a.tmps} (zipl ps vs l)
 | [],vs,a,l,hE,_=>by simpa [zipl] using hE
 |t::ts,[],a,l,hE,_=>by simpa [zipl] using hE
 |t::ts,v::vs,a,l,hE,h=>by
  simp only [List.all_cons,Bool.and_eq_true]at h
  have:=KKJ ts vs (hE.put t v h.1) h.2
  simpa [zipl,Act.put] using this
abbrev Xr (js:List Code) (Rr:Nat→Act→World→Prop):Nat→Act→World→Prop:=fun id a w=>bif Nat.beq pid id then False else ∃k,js[k]?=some (.exit id)∧Rr (k+1) a w
abbrev Rr' (js:List Code) (Rr:Nat→Act→World→Prop):Act→World→Prop:=fun a w=>∃k,js[k]?=some .ret∧Rr (k+1) a w
theorem KMR {lp:Nat} {fn:FuncId} {tmps:Array Value} {ps:Array Tmp} {assign body:Code} {D:Nat} {js:List Code} {α:Type} {enc:α→List Value} {Y:Nat→α→M Nat}
  (hps:∀x,(enc x).length=ps.size)
  (hround:∀(lp:Nat) (x:α) (Q:Nat→Heap→Prop) (w0:World) (Rr:Nat→Act→World→Prop) (hfin:∀j a w,Rest w0 w→Q j w.heap→Rr j a w),(Y lp x).wp w0.heap Q→
   assign.wpIn (Fw (some lp)) 1 P (Ps (fun a1 w1=>∃w2,(Instr.beginRound lp).run P w1=.ok () w2∧body.wpIn (Fw (some lp)) 1 P (Ps (Rr 0) (Xr js Rr) (Rr' js Rr)) a1 w2) X0 (fun _ _=>False))
    {tmps:=(ps.zip (enc x).toArray).foldl (fun t p=>t.setIfInBounds p.1 p.2) tmps,defers:=[]} w0):
  KH8 P enc js Y {state:=.ready,pending:=none,fn:=fn,tmps:=tmps,params:=ps,assign:=assign,body:=body,defers:=D} lp:=by
 intro x h Q s p hl hY w hw
 subst hw
 refine .inr ⟨lp,_,rfl,hl,hps x,roundIn_of_wpIn trivial ?_⟩
 refine wpIn_mono (hround lp x _ w (fun j a w'=>∃v w'',(Instr.endRound lp (jat js j)).run P w'=.ok v w''∧∃r,Ending.returned v=.returned (.bool r)∧Q r w''.heap∧Rest w w'') ?_ hY) ?_
 ·rintro j a w' hR ⟨s,p,h1,h2⟩
  exact⟨_,_,run_endRound _ h1,_,rfl,h2,hR.trans ⟨rfl,rfl,rfl,Nat.le_refl _⟩⟩
 ·intro e a w' hh
  cases e with
  |normal=>
   obtain⟨w2,h1,h2⟩:=hh
   refine⟨w2,h1,wpIn_mono h2 ?_⟩
   intro e a w' hh
   cases e with
   |normal=>exact hh
   |ret=>
    obtain⟨k,hk,hh⟩:=hh
    have:jat js (k+1)=some .ret:=hk
    rw [this]at hh
    exact hh
   |exit id=>
    obtain⟨h0,hh⟩:=hh
    unfold Xr at hh
    rw [h0]at hh
    dsimp only [cond_false]at hh
    obtain⟨k,hk,hh⟩:=hh
    have:jat js (k+1)=some (.exit id):=hk
    rw [this]at hh
    exact hh
   |goto t=>exact False.elim hh
   |panic c=>obtain⟨_,_,hh⟩:=hh;exact False.elim hh
   |outgrown=>exact hh
  |panic c=>obtain⟨_,_,hh⟩:=hh;exact False.elim hh
  |exit id=>exact False.elim hh.2
  |_=>exact hh
theorem KHB {lp:Nat} {g:Value} {w:World} {Q:Unit→Heap→Prop} (hg:∀l,g≠.func (.yield l) #[] #[]) (H:(X4 P (fun _:Unit=>.tuple #[]) g [yV lp]).wp w.heap Q):
  ∃f cap,g=.func (.func f) #[] cap∧Callee? P f∧Calls P f (#[yV lp]++cap) w (fun e w'=>∃r,e=.returned (.tuple #[])∧Q r w'.heap∧Rest w w'):=by
 rcases H w rfl with⟨f,cap,h1,h2,h3⟩|⟨l,r,h1,_⟩
 ·exact⟨f,cap,h1,h2,h3⟩
 ·exact absurd h1 (hg l)
theorem KMS {gv:Value} {g:Operand} {ps:Array Tmp} {assign body:Code} {js:List Code} {α:Type} {enc:α→List Value} {Y:Nat→α→M Nat} {Q:Nat×Nat→Heap→Prop}
  (hE:Env n a l) (hR:Rest w0 w) (hg:opv l g=some gv) (hps:∀x,(enc x).length=ps.size) (hpl:(ps.toList.all fun t=>Nat.blt t n.size)=true) (H:(rgF P enc js Y gv).wp w.heap Q)
  (hround:∀(lp:Nat) (x:α) (Q:Nat→Heap→Prop) (w0:World) (Rr:Nat→Act→World→Prop) (hfin:∀j a w,Rest w0 w→Q j w.heap→Rr j a w) (a:Act) (w:World),Env ⟨n.size,[]⟩ a (zipl ps.toList (enc x) l)→Rest w0 w→(Y lp x).wp w.heap Q→
   assign.wpIn (Fw (some lp)) 1 P (Ps (fun a1 w1=>∃w2,(Instr.beginRound lp).run P w1=.ok () w2∧body.wpIn (Fw (some lp)) 1 P (Ps (Rr 0) (Xr js Rr) (Rr' js Rr)) a1 w2) X0 (fun _ _=>False)) a w)
  (h:∀(x:Nat×Nat) a w,Env ⟨n.size,x.2::n.marks⟩ a l→Rest w0 w→Q x w.heap→jgo none P K (Ps K X R) js x.1 a w):
  (Code.rangeFunc g ps assign body).wpIn (Fw none) 1 P (Ps K X R) a w:=by
 refine wpIn_rangeFunc ?_
 intro fn hfn
 let r0:Loop:={state:=.ready,pending:=none,fn:=fn,tmps:=a.tmps,params:=ps,assign:=assign,body:=body,defers:=w.heap.size}
 have hRo:KH8 P enc js Y r0 (w.heap.size+1):=KMR hps (fun lp x Q w1 Rr hfin hY=>by
  have hE0:Env ⟨n.size,[]⟩ {tmps:=a.tmps,defers:=[]} l:=⟨hE.size,rfl,hE.at_⟩
  have:=hround lp x Q w1 Rr hfin _ w1 (KKJ ps.toList (enc x) hE0 hpl) (Rest.refl _) hY
  have e:(ps.zip (enc x).toArray).foldl (fun t p=>t.setIfInBounds p.1 p.2) a.tmps=(ps.toList.zip (enc x)).foldl (fun t p=>t.setIfInBounds p.1 p.2) a.tmps:=by
   rw [←Array.foldl_toList];simp
  rw [e]
  exact this)
 obtain⟨f,cap,rfl,hc,hC⟩:=KHB (w:=(w.alloc (.deferred (some []))).alloc (.loop r0)) H.1 (H.2 r0 hRo)
 refine⟨w.heap.size+1,[KL6 w.heap.size],(w.alloc (.deferred (some []))).alloc (.loop r0),{target:=.fn (.func f) cap,args:=#[yV (w.heap.size+1)]},(w.alloc (.deferred (some []))).alloc (.loop r0),f,#[yV (w.heap.size+1)]++cap,(w.alloc (.deferred (some []))).alloc (.loop r0),?_,?_,?_,?_,fun _=>Nat.le_refl 1,?_⟩
 ·exact run_enterLoop_outer _ _ _ _ _
 ·simp only [resolve,hE.opv hg]
  simp [Deferred.ofValue,yV,Act.eval]
 ·intro f' _;trivial
 ·have:=hc (#[yV (w.heap.size+1)]++cap) ((w.alloc (.deferred (some []))).alloc (.loop r0))
  simp [invoke,this]
 ·refine YY (hC.mono ?_)
  rintro e w' ⟨_,rfl,⟨s,j,h1,h2,h3⟩,hr⟩
  have hend:=run_endLoop (P:=P) h2 (by simpa using h1)
  have hj:=KNq (h (j,w.heap.size) {a with defers:=KL6 w.heap.size::a.defers} (w'.putObj (w.heap.size+1) (Gt r0 .exhausted (jat js j))) ⟨hE.size,by simp [hE.defers],hE.at_⟩ (hR.trans ⟨hr.os,hr.output,hr.tape,hr.drawn⟩) h3)
  exact⟨_,_,hend,hj⟩
end
theorem KCW {P:Program} {fn:Func} {tmps:Array Value} {Q:Heap→Prop} {w0:World} {R:Ending→World→Prop}:∀(m:List Nat) {w:World},
  Rest w0 w→(shut m).wp w.heap (fun _ h=>Q h)→(∀w,Rest w0 w→Q w.heap→∃v,(results fn tmps).run P w=.ok v w∧R (.returned v) w)→LeavesInM (Fw none) 1 P fn tmps R (m.map KL6) .returning w
 | [],w,hR,hs,h=>h w hR hs
 |b::r,w,hR,hs,h=>⟨by simp,.inl ⟨b,_,rfl,run_takeDeferred hs.1,KCW (w:=w.putObj b (.deferred none)) r (hR.trans ⟨rfl,rfl,rfl,Nat.le_refl _⟩) hs.2 h⟩⟩
theorem KKK {P:Program} {f:FuncId} {fn:Func} {c:Code} {args:Array Value} {ρ:Type} {enc:ρ→Value} {F:M ρ} {n:Nat} (l:List (Nat×Value))
  (hf:P.funcs[f]?=some fn) (hb:fn.body=some c) (hn:fn.ntmps=n) (hs:args.size≤n) (hl:∀d v,look l d=some v→args[d]?=some v)
  (h:∀(w0 w:World) (Q:ρ→Heap→Prop) (R:Act→World→Prop) (a:Act),
   (∀(m:List Nat) a w l (Q1:Heap→Prop),Env ⟨n,m⟩ a l→Rest w0 w→(shut m).wp w.heap (fun _ h=>Q1 h)→
    (∀w,Rest w0 w→Q1 w.heap→∃r v,(results fn a.tmps).run P w=.ok v w∧v=enc r∧Q r w.heap)→R a w)→
   Env ⟨n,[]⟩ a l→Rest w0 w→F.wp w.heap Q→c.wpIn (Fw none) 1 P (Ps R X0 R) a w):ZG P f args enc F:=by
 intro w Q hF
 refine(callsIn_wide (n:=1)).1 (callsIn_of_wp_marks hf hb trivial ?_)
 refine wpIn_mono (h w w Q (fun a w'=>LeavesInM (Fw none) 1 P fn a.tmps (fun e w'=>∃r,e=.returned (enc r)∧Q r w'.heap∧Rest w w') a.defers .returning w') _ ?_ (hn▸Env.enter args l (hn▸hs) hl) (Rest.refl w) hF) ?_
 ·intro m a w' l Q1 hE hR hsh hret
  rw [hE.defers]
  refine KCW m hR hsh (fun w2 hR2 hQ2=>?_)
  obtain⟨r,v,h1,rfl,h3⟩:=hret w2 hR2 hQ2
  exact⟨_,h1,r,rfl,h3,hR2⟩
 ·intro e a w' hh
  cases e with
  |normal=>exact hh
  |ret=>exact hh
  |exit i=>exact hh.2.elim
  |goto l=>exact hh.elim
  |panic c=>obtain⟨_,_,hh⟩:=hh;exact hh.elim
  |outgrown=>exact hh.elim
end Gx
namespace Gx
open Go Gx.Last
def niB (P:Program) (t:TypeId):Bool:=match P.underlying t with
 |some (.interface _)=>false
 |some _=>true
 |none=>false
section
variable {ro:Option Nat} {P:Program} {ops:Array Oper} {K:Act→World→Prop} {X:Nat→Act→World→Prop} {R:Act→World→Prop} {n:Frm} {a:Act} {w w0:World} {l:List (Nat×Value)} {rest:List Oper} {S:World→Prop} {ds:List Nat} {fuel:Nat} {b b':Array Bool} {i:Nat} {E C W:List (List Nat)}
theorem KCX {t:TypeId} {x:Operand} {v:Value} {dst:Option Tmp} {ty:TypeId} {pos:String} {aft:Array Edge} {g:Option (Nat×Bool)} (hE:Env n a l) (hx:opv l x=some v) (ht:niB P t=true):(execOp a.eval ⟨dst,.makeInterface t x,ty,pos,aft,g⟩).run P w=.ok (.value (.iface t v)) w:=by
 unfold niB at ht
 cases hu:P.underlying t with
 |none=>rw [hu]at ht;cases ht
 |some d=>
  rw [hu]at ht
  cases d<;>first|(cases ht;done)|simp [execOp,Instr.makeInterface,run_underlying hu,hE.opv hx]
theorem KOi {t:TypeId} {x:Operand} {v:Value} {dst:Option Tmp} {ty:TypeId} {pos:String} {aft:Array Edge} {g:Option (Nat×Bool)} (hE:Env n a l) (hx:opv l x=some (.iface t v)):(execOp a.eval ⟨dst,.panic x,ty,pos,aft,g⟩).run P w=.halt (.panic (.iface t v)) w:=by
 simp [execOp,Instr.panic,hE.opv hx,goPanic]
theorem KKL {d:Option Nat} {x:Operand} {ty:TypeId} {pos:String} {aft:Array Edge} {t:TypeId} {v:Value} {m:Nat} (hE:Env ⟨m,[]⟩ a l) (hx:opv l x=some (.iface t v)) (h:X pid {tmps:=#[.iface t v],defers:=[]} w):
  wpListIn (Fw ro) 1 P ops (Ps K X R) (⟨d,.panic x,ty,pos,aft,none⟩::rest) a w:=by
 refine wpListIn_plain rfl fun K' hK=>⟨fun _ _=>trivial,?_⟩
 rw [show(Fw ro).round=ro from rfl,Oper.semAt_eq _ _ _ (fun c hc=>by cases hc),KOi hE hx,Oper.uponIn_panic]
 exact⟨_,rfl,by rw [hE.defers];exact h⟩
theorem KZ {d:Option Nat} {f:FuncId} {as:Array Operand} {ts:Array TypeId} {ty:TypeId} {pos:String} {aft:Array Edge} {vs:List Value} {ρ β:Type} {enc:ρ→Value} {F:M (Value⊕ρ)} {f':ρ→M (Value⊕β)} {Q:Value⊕β→Heap→Prop} {m:Nat}
  (hE:Env ⟨m,[]⟩ a l) (hR:Rest w0 w) (hc:Callee? P f) (ha:opvs l as.toList=some vs) (hS:J3 P f vs.toArray enc F) (H:(thr F f').wp w.heap Q)
  (hp:∀v w,Rest w0 w→Q (.inl v) w.heap→X pid {tmps:=#[v],defers:=[]} w)
  (h:∀r a' w',a'=a.put d (enc r)→Rest w0 w'→(f' r).wp w'.heap Q→wpListIn (Fw ro) 1 P ops (Ps K X R) rest a' w'):
  wpListIn (Fw ro) 1 P ops (Ps K X R) (⟨d,.call {callee:=.value (.func f),args:=as,argTypes:=ts},ty,pos,aft,none⟩::rest) a w:=by
 refine wpListIn_plain rfl fun K' hK=>⟨fun _ _=>trivial,?_⟩
 rw [zo (Nb hE hc ha) (fun d h=>by cases h),Oper.uponIn_enter]
 refine⟨fun _=>Nat.le_refl 1,YY ((hS w _ H).mono ?_)⟩
 rintro e w' ⟨r,he,hq,hr⟩
 cases r with
 |inl v=>
  subst he
  exact⟨v,rfl,by rw [hE.defers];exact hp v w' (hR.trans hr) hq⟩
 |inr r=>
  subst he
  exact hK _ _ (h r _ w' rfl (hR.trans hr) hq)
theorem KKM {Q:Exit→Act→World→Prop} {oi:Oper} {N:Option Tmp} {a:Act} {w:World} {K:Act→World→Prop} (f:FuncId) (args:Array Value) (hw:Region.wanted oi (yielded ops a.tmps)=true) (hN:oi.dst=N) (hrun:(execOp a.eval oi).run P w=.ok (.enter f args) w)
  (h:Calls P f args w fun e w'=>(∃v,e=.returned v∧K (a.put N v) w')∨∃c,e=.panicked c∧Q (.panic c) a w'):if Region.wanted oi (yielded ops a.tmps)=true then Oper.wp P oi a w K Q else K (a.put N undef) w:=by
 rw [if_pos hw]
 subst hN
 unfold Oper.wp
 rw [hrun,Oper.upon_enter]
 refine h.mono fun e w'' hh=>?_
 rcases hh with⟨v,rfl,hk⟩|⟨c,rfl,hk⟩
 ·exact hk
 ·exact hk
theorem KA6 {o:Oper} {N:Option Nat} {f:FuncId} {as:Array Operand} {ts:Array TypeId} {vs:List Value} {ρ β:Type} {enc:ρ→Value} {F:M (Value⊕ρ)} {f':ρ→M (Value⊕β)} {Q:Value⊕β→Heap→Prop} {m:Nat} (b':Array Bool)
  (hi:ops[i]?=some o) (hd:o.dst=N) (hop:o.op=.call {callee:=.value (.func f),args:=as,argTypes:=ts}) (hT:Tab ops E C W) (hc:oneT E b b' i=true) (hds:ds.contains i=false) (hE:Env ⟨m,[]⟩ a l) (hR:Rest w0 w)
  (hw:Region.wanted o (yielded ops a.tmps)=true) (hcl:Callee? P f) (ha:opvs l as.toList=some vs) (hS:J3 P f vs.toArray enc F) (H:(thr F f').wp w.heap Q) (hSS:∀r h,(f' r).wp h Q→∀w':World,w'.heap=h→S w')
  (hp:∀v w,Rest w0 w→Q (.inl v) w.heap→X pid {tmps:=#[v],defers:=[]} w)
  (h:∀r a' w',a'=a.put N (enc r)→Rest w0 w'→(f' r).wp w'.heap Q→S w'→JR P ops K X R S ds fuel b' a' w'):JR P ops K X R S ds (fuel+1) b a w:=by
 refine one_ b' hi hd (hT.one hc) (by simpa using hds) fun KK hK=>?_
 have hrun:(execOp a.eval o).run P w=.ok (.enter f vs.toArray) w:=by
  have:=Nb (dst:=o.dst) (ty:=o.type) (pos:=o.pos) (aft:=o.after) (g:=o.guard) (ts:=ts) (w:=w) hE hcl ha
  rw [←hop]at this
  exact this
 refine KKM f vs.toArray hw hd hrun ((hS w _ H).mono ?_)
 rintro e w' ⟨r,he,hq,hr⟩
 cases r with
 |inl v=>subst he;exact .inr ⟨_,rfl,v,rfl,by rw [hE.defers];exact hp v w' (hR.trans hr) hq⟩
 |inr r=>subst he;exact .inl ⟨_,rfl,hK _ _ (hSS r _ hq w' rfl) fun hs=>h r _ w' rfl (hR.trans hr) hq hs⟩
theorem KMT {o:Oper} {N:Option Nat} {f:FuncId} {as:Array Operand} {ts:Array TypeId} {vs:List Value} {ρ β:Type} {enc:ρ→Value} {F:M (Value⊕ρ)} {f':ρ→M (Value⊕β)} {Q:Value⊕β→Heap→Prop} {m:Nat} (b':Array Bool)
  (hi:ops[i]?=some o) (hd:o.dst=N) (hop:o.op=.call {callee:=.value (.func f),args:=as,argTypes:=ts}) (hT:Tab ops E C W) (hc:oneT E b b' i=true) (hds:ds.contains i=true) (hE:Env ⟨m,[]⟩ a l) (hR:Rest w0 w)
  (hw:Region.wanted o (yielded ops a.tmps)=true) (hcl:Callee? P f) (ha:opvs l as.toList=some vs) (hS:J3 P f vs.toArray enc F) (H:(thr F f').wp w.heap Q)
  (hp:∀v w,Rest w0 w→Q (.inl v) w.heap→X pid {tmps:=#[v],defers:=[]} w)
  (h:∀r a' w',a'=a.put N (enc r)→Rest w0 w'→(f' r).wp w'.heap Q→JR P ops K X R S ds fuel b' a' w'):JR P ops K X R S ds (fuel+1) b a w:=by
 refine KJv b' hi hd (hT.one hc) (by simpa using hds) fun KK hK=>?_
 have hrun:(execOp a.eval o).run P w=.ok (.enter f vs.toArray) w:=by
  have:=Nb (dst:=o.dst) (ty:=o.type) (pos:=o.pos) (aft:=o.after) (g:=o.guard) (ts:=ts) (w:=w) hE hcl ha
  rw [←hop]at this
  exact this
 refine KKM f vs.toArray hw hd hrun ((hS w _ H).mono ?_)
 rintro e w' ⟨r,he,hq,hr⟩
 cases r with
 |inl v=>subst he;exact .inr ⟨_,rfl,v,rfl,by rw [hE.defers];exact hp v w' (hR.trans hr) hq⟩
 |inr r=>subst he;exact .inl ⟨_,rfl,hK _ _ (h r _ w' rfl (hR.trans hr) hq)⟩
theorem KKN {o:Oper} {N:Option Nat} {f:FuncId} {as:Array Operand} {ts:Array TypeId} {vs:List Value} {ρ β:Type} {enc:ρ→Value} {F:M (Value⊕ρ)} {f':ρ→M (Value⊕β)} {Q:Value⊕β→Heap→Prop} {m:Nat} (b':Array Bool)
  (hi:ops[i]?=some o) (hd:o.dst=N) (hop:o.op=.call {callee:=.value (.func f),args:=as,argTypes:=ts}) (hb:(b.setIfInBounds i true==b')=true) (hE:Env ⟨m,[]⟩ a l) (hR:Rest w0 w)
  (hw:Region.wanted o (yielded ops a.tmps)=true) (hcl:Callee? P f) (ha:opvs l as.toList=some vs) (hS:J3 P f vs.toArray enc F) (H:(thr F f').wp w.heap Q) (hSS:∀r h,(f' r).wp h Q→∀w':World,w'.heap=h→S w')
  (hp:∀v w,Rest w0 w→Q (.inl v) w.heap→X pid {tmps:=#[v],defers:=[]} w)
  (h:∀r a' w',a'=a.put N (enc r)→Rest w0 w'→(f' r).wp w'.heap Q→S w'→JR P ops K X R S ds fuel b' a' w'):
  wpOp P ops (Ps K X R) i (fun a' w'=>(i∉ds→S w→S w')∧JR P ops K X R S ds fuel (b.setIfInBounds i true) a' w') a w:=by
 have hb':=eq_of_beq hb
 rw [hb']
 refine wpOp_step hi fun K' hK=>?_
 rw [hd]
 have hrun:(execOp a.eval o).run P w=.ok (.enter f vs.toArray) w:=by
  have:=Nb (dst:=o.dst) (ty:=o.type) (pos:=o.pos) (aft:=o.after) (g:=o.guard) (ts:=ts) (w:=w) hE hcl ha
  rw [←hop]at this
  exact this
 refine KKM f vs.toArray hw hd hrun ((hS w _ H).mono ?_)
 rintro e w' ⟨r,he,hq,hr⟩
 cases r with
 |inl v=>subst he;exact .inr ⟨_,rfl,v,rfl,by rw [hE.defers];exact hp v w' (hR.trans hr) hq⟩
 |inr r=>subst he;exact .inl ⟨_,rfl,hK _ _ ⟨fun _ _=>hSS r _ hq w' rfl,h r _ w' rfl (hR.trans hr) hq (hSS r _ hq w' rfl)⟩⟩
theorem KB7 {α β:Type} {f':α→M (Value⊕β)} {Q:Value⊕β→Heap→Prop} {v:α} {h:Heap} (H:(M.pure (.inr v):M (Value⊕α)).wp h (fun r h'=>match r with| .inl v=>Q (.inl v) h'| .inr x=>(f' x).wp h' Q)):(f' v).wp h Q:=H
theorem KKO {α β:Type} {m:M (Value⊕α)} {f':α→M (Value⊕β)} {Q:Value⊕β→Heap→Prop} (Lx:α→List (Nat×Value)) (fuel':Nat) (b':Array Bool) (H:(thr m f').wp w.heap Q)
  (hj:∀x a w,Env n a (Lx x)→Rest w0 w→(f' x).wp w.heap Q→JR P ops K X R S ds fuel' b' a w)
  (hg:(∀x a w,Env n a (Lx x)→Rest w0 w→(f' x).wp w.heap Q→JR P ops K X R S ds fuel' b' a w)→m.wp w.heap (fun r h'=>match r with| .inl v=>Q (.inl v) h'| .inr x=>(f' x).wp h' Q)→JR P ops K X R S ds fuel b a w):JR P ops K X R S ds fuel b a w:=hg hj H
def KCY (P:Program) {ρ:Type} (enc:ρ→Value) (v:Value) (args:List Value):M (Value⊕ρ):=
 ⟨fun h Q=>∀w:World,w.heap=h→∃f cap,v=.func (.func f) #[] cap∧Callee? P f∧Calls P f (args.toArray++cap) w (fun e w'=>∃r,(match r with| .inl v=>e=.panicked [{v:=v,recovered:=false}]| .inr r=>e=.returned (enc r))∧Q r w'.heap∧Rest w w'),
  fun hq h w hw=>let⟨f,cap,h1,h2,h3⟩:=h w hw;⟨f,cap,h1,h2,h3.mono fun _ _ ⟨r,a,b,c⟩=>⟨r,a,hq _ _ b,c⟩⟩⟩
theorem KB8 {P:Program} {ρ:Type} {enc:ρ→Value} {f:FuncId} {cap:Array Value} {args:List Value} {F:M (Value⊕ρ)} {h:Heap} {Q:Value⊕ρ→Heap→Prop} (hc:Callee? P f) (hS:J3 P f (args.toArray++cap) enc F) (H:F.wp h Q):
  (KCY P enc (.func (.func f) #[] cap) args).wp h Q:=fun w hw=>⟨f,cap,rfl,hc,hS w Q (hw▸H)⟩
theorem KMU {d:Option Nat} {x:Operand} {as:Array Operand} {ts:Array TypeId} {ty:TypeId} {pos:String} {aft:Array Edge} {v:Value} {vs:List Value} {ρ β:Type} {enc:ρ→Value} {f':ρ→M (Value⊕β)} {Q:Value⊕β→Heap→Prop} {m:Nat}
  (hE:Env ⟨m,[]⟩ a l) (hR:Rest w0 w) (hx:opv l x=some v) (ha:opvs l as.toList=some vs) (H:(thr (KCY P enc v vs) f').wp w.heap Q)
  (hp:∀v w,Rest w0 w→Q (.inl v) w.heap→X pid {tmps:=#[v],defers:=[]} w)
  (h:∀r a' w',a'=a.put d (enc r)→Rest w0 w'→(f' r).wp w'.heap Q→wpListIn (Fw ro) 1 P ops (Ps K X R) rest a' w'):
  wpListIn (Fw ro) 1 P ops (Ps K X R) (⟨d,.call {callee:=.value x,args:=as,argTypes:=ts},ty,pos,aft,none⟩::rest) a w:=by
 obtain⟨f,cap,rfl,hc,hC⟩:=H w rfl
 refine wpListIn_plain rfl fun K' hK=>⟨fun _ _=>trivial,?_⟩
 rw [zo (KEb hE hx hc ha) (fun d h=>by cases h),Oper.uponIn_enter]
 refine⟨fun _=>Nat.le_refl 1,YY (hC.mono ?_)⟩
 rintro e w' ⟨r,he,hq,hr⟩
 cases r with
 |inl v=>
  subst he
  exact⟨v,rfl,by rw [hE.defers];exact hp v w' (hR.trans hr) hq⟩
 |inr r=>
  subst he
  exact hK _ _ (h r _ w' rfl (hR.trans hr) hq)
end
end Gx
namespace Gx
open Go Gx.Last
inductive FK where
 |I (k:IntKind)
 |S
 |B
def FK.is:FK→Value→Bool
 | .I k,.int k' _=>decide (k=k')
 | .S,.string _=>true
 | .B,.bool _=>true
 |_,_=>false
def vEq:Value→Value→Bool
 | .int _ a,.int _ b=>a==b
 | .string a,.string b=>a.toList==b.toList
 | .bool a,.bool b=>a==b
 |_,_=>false
def cEq:List FK→Nat→Array Value→Array Value→Bool
 | [],_,_,_=>true
 |_::ks,i,xs,ys=>(match xs[i]?,ys[i]? with|some x,some y=>vEq x y|_,_=>false)&&cEq ks (i+1) xs ys
def Fits:List FK→Nat→Array Value→Prop
 | [],_,_=>True
 |k::ks,i,xs=>(∃v,xs[i]?=some v∧k.is v=true)∧Fits ks (i+1) xs
def eqS (ks:List FK) (xs ys:Array Value):M Bool:=.get fun _ b=>Fits ks 0 xs∧Fits ks 0 ys∧b=cEq ks 0 xs ys
def fkB (P:Program) (t:TypeId):FK→Bool
 | .I k=>match P.underlying t with|some (.int k')=>decide (k=k')|_=>false
 | .S=>match P.underlying t with|some .string=>true|_=>false
 | .B=>match P.underlying t with|some .bool=>true|_=>false
def flL (P:Program):List Field→List FK→Nat→Bool
 | [],[],_=>true
 |f::fs,k::ks,i=>(f.name != "_")&&Nat.beq f.offset i&&fkB P f.type k&&flL P fs ks (i+1)
 |_,_,_=>false
def flB (P:Program) (t:TypeId) (ks:List FK):Bool:=(match P.underlying t with|some (.struct _)=>true|_=>false)&& !P.stoodInHeld t&&flL P (P.fieldsOf t).toList ks 0
section
variable {P:Program} {w:World}
theorem KKP {t:TypeId} {k:FK} {xs:Array Value} {i:Nat} {v:Value} (ht:fkB P t k=true) (hx:xs[i]?=some v):(part t xs i).run P w=.ok v w:=by
 cases k<;>(unfold fkB at ht;cases hu:P.underlying t with
  |none=>rw [hu]at ht;cases ht
  |some d=>rw [hu]at ht;cases d<;>first|(cases ht;done)|simp [part,isAgg,run_underlying hu,hx])
theorem KRg {t:TypeId} {k:FK} {a b:Value} (d:Nat) (ht:fkB P t k=true) (ha:k.is a=true) (hb:k.is b=true):(Op.equalIn (d+1) t a b).run P w=.ok (vEq a b) w:=by
 cases k with
 |I k=>
  unfold fkB at ht
  cases hu:P.underlying t with
  |none=>rw [hu]at ht;cases ht
  |some u=>
   rw [hu]at ht
   cases u<;>first|(cases ht;done)|skip
   cases a<;>first|(cases ha;done)|skip
   cases b<;>first|(cases hb;done)|skip
   have h1:=of_decide_eq_true ha
   have h2:=of_decide_eq_true hb
   subst h1;subst h2
   exact run_equalIn_int w d t _ _ _ _ hu
 |S=>
  unfold fkB at ht
  cases hu:P.underlying t with
  |none=>rw [hu]at ht;cases ht
  |some u=>
   rw [hu]at ht
   cases u<;>first|(cases ht;done)|skip
   cases a<;>first|(cases ha;done)|skip
   cases b<;>first|(cases hb;done)|skip
   exact run_equalIn_string w d t _ _ hu
 |B=>
  unfold fkB at ht
  cases hu:P.underlying t with
  |none=>rw [hu]at ht;cases ht
  |some u=>
   rw [hu]at ht
   cases u<;>first|(cases ht;done)|skip
   cases a<;>first|(cases ha;done)|skip
   cases b<;>first|(cases hb;done)|skip
   exact run_equalIn_bool' w d t _ _ hu
theorem KFr (d:Nat) {xs ys:Array Value}:∀{fs:List Field} {ks:List FK} {i:Nat},flL P fs ks i=true→Fits ks i xs→Fits ks i ys→(Op.eqFields (d+1) xs ys fs).run P w=.ok (cEq ks i xs ys) w
 | [],[],_,_,_,_=>rfl
 | [],_::_,_,h,_,_=>by cases h
 |_::_,[],_,h,_,_=>by cases h
 |f::fs,k::ks,i,h,hx,hy=>by
  simp only [flL,Bool.and_eq_true]at h
  obtain⟨⟨⟨h1,h2⟩,h3⟩,h4⟩:=h
  obtain⟨⟨a,ha,hka⟩,hx⟩:=hx
  obtain⟨⟨b,hb,hkb⟩,hy⟩:=hy
  have h2:f.offset=i:=Nat.eq_of_beq_eq_true h2
  have h1:f.name≠"_":=by simpa using h1
  have ih:=KFr d h4 hx hy
  simp only [Op.eqFields,if_pos h1,Sem.run_bind,h2,KKP h3 ha,KKP h3 hb,Result.andThen_ok,KRg d h3 hka hkb,Sem.run_ite,cEq,ha,hb]
  cases vEq a b with
  |true=>simpa using ih
  |false=>simp
theorem e_st {t:TypeId} {ks:List FK} {xs ys:Array Value} (ht:flB P t ks=true) (hx:Fits ks 0 xs) (hy:Fits ks 0 ys) (d:Nat):(Op.equalIn (d+2) t (.agg xs) (.agg ys)).run P w=.ok (cEq ks 0 xs ys) w:=by
 unfold flB at ht
 simp only [Bool.and_eq_true,Bool.not_eq_true']at ht
 obtain⟨⟨h1,h2⟩,h3⟩:=ht
 have hu:P.underlying t=some (.struct (P.fieldsOf t)):=by
  unfold Program.fieldsOf
  cases hu:P.underlying t with
  |none=>rw [hu]at h1;cases h1
  |some u=>rw [hu]at h1;cases u<;>first|(cases h1;done)|rfl
 rw [run_equalIn_struct w (d+1) t xs ys hu h2]
 exact KFr d h3 hx hy
theorem KQM {t:TypeId} {ks:List FK} {xs ys:Array Value} {b:Bool} (ht:flB P t ks=true) (h:Fits ks 0 xs∧Fits ks 0 ys∧b=cEq ks 0 xs ys):(binOp .eql t (.agg xs) (.agg ys)).run P w=.ok (.bool b) w:=by
 obtain⟨hx,hy,rfl⟩:=h
 have e1:binOp .eql t (.agg xs) (.agg ys)=(do pure (.bool (←Op.equal t (.agg xs) (.agg ys)))):=rfl
 rw [e1,Sem.run_bind,show(Op.equal t (.agg xs) (.agg ys)).run P w=_ from e_st ht hx hy 9998]
 rfl
theorem KQN {t:TypeId} {ks:List FK} {xs ys:Array Value} {b:Bool} (ht:flB P t ks=true) (h:Fits ks 0 xs∧Fits ks 0 ys∧b=cEq ks 0 xs ys):(binOp .neq t (.agg xs) (.agg ys)).run P w=.ok (.bool !b) w:=by
 obtain⟨hx,hy,rfl⟩:=h
 have e1:binOp .neq t (.agg xs) (.agg ys)=(do pure (.bool (!(←Op.equal t (.agg xs) (.agg ys))))):=rfl
 rw [e1,Sem.run_bind,show(Op.equal t (.agg xs) (.agg ys)).run P w=_ from e_st ht hx hy 9998]
 rfl
def isNF (v:Value):M Bool:=.get fun _ b=>(v=.nilFunc∧b=true)∨((∃f x y,v=.func f x y)∧b=false)
def fnB (P:Program) (t:TypeId):Bool:=match P.underlying t with|some (.func _ _ _)=>true|_=>false
theorem e_fn {t:TypeId} {v:Value} {b:Bool} (ht:fnB P t=true) (h:(v=.nilFunc∧b=true)∨((∃f x y,v=.func f x y)∧b=false)) (d:Nat):(Op.equalIn (d+1) t v .nilFunc).run P w=.ok b w:=by
 unfold fnB at ht
 cases hu:P.underlying t with
 |none=>rw [hu]at ht;cases ht
 |some u=>
  rw [hu]at ht
  cases u<;>first|(cases ht;done)|skip
  rcases h with⟨rfl,rfl⟩|⟨⟨f,x,y,rfl⟩,rfl⟩<;>simp [Op.equalIn,run_underlying hu]
theorem g_fn {op:BinOp} {t:Nat} {x y:Operand} {u:Value} {b:Bool} (h:(u=.nilFunc∧b=true)∨((∃f x y,u=.func f x y)∧b=false)):(eqGuard op t x y u .nilFunc).run P w=.ok () w:=by
 rcases h with⟨rfl,rfl⟩|⟨⟨f,x,y,rfl⟩,rfl⟩<;>cases op<;>simp [eqGuard]
theorem KQO {t:TypeId} {v:Value} {b:Bool} (ht:fnB P t=true) (h:(v=.nilFunc∧b=true)∨((∃f x y,v=.func f x y)∧b=false)):(binOp .eql t v .nilFunc).run P w=.ok (.bool b) w:=by
 refine KA3 ?_ (e_fn ht h)
 rcases h with⟨rfl,rfl⟩|⟨⟨f,x,y,rfl⟩,rfl⟩<;>rfl
theorem KQP {t:TypeId} {v:Value} {b:Bool} (ht:fnB P t=true) (h:(v=.nilFunc∧b=true)∨((∃f x y,v=.func f x y)∧b=false)):(binOp .neq t v .nilFunc).run P w=.ok (.bool !b) w:=by
 refine KA4 ?_ (e_fn ht h)
 rcases h with⟨rfl,rfl⟩|⟨⟨f,x,y,rfl⟩,rfl⟩<;>rfl
end
def isNI (v:Value):M Bool:=.get fun _ b=>(v=.nilIface∧b=true)∨((∃u x,v=.iface u x)∧b=false)
def ifB (P:Program) (t:TypeId):Bool:=match P.underlying t with|some (.interface _)=>true|_=>false
section
variable {P:Program} {w:World}
theorem e_ni {t:TypeId} {v:Value} {b:Bool} (ht:ifB P t=true) (h:(v=.nilIface∧b=true)∨((∃u x,v=.iface u x)∧b=false)) (d:Nat):(Op.equalIn (d+1) t v .nilIface).run P w=.ok b w:=by
 unfold ifB at ht
 cases hu:P.underlying t with
 |none=>rw [hu]at ht;cases ht
 |some u=>
  rw [hu]at ht
  cases u<;>first|(cases ht;done)|skip
  rcases h with⟨rfl,rfl⟩|⟨⟨f,x,rfl⟩,rfl⟩<;>simp [Op.equalIn,run_underlying hu]
theorem g_ni {op:BinOp} {t:Nat} {x:Operand} {u c:Value} {b:Bool} (h:(u=.nilIface∧b=true)∨((∃f x,u=.iface f x)∧b=false)):(eqGuard op t x (.const c) u .nilIface).run P w=.ok () w:=by
 rcases h with⟨rfl,rfl⟩|⟨⟨f,x,rfl⟩,rfl⟩<;>cases op<;>simp [eqGuard]
theorem KFs {t:TypeId} {v:Value} {b:Bool} (ht:ifB P t=true) (h:(v=.nilIface∧b=true)∨((∃u x,v=.iface u x)∧b=false)):(binOp .eql t v .nilIface).run P w=.ok (.bool b) w:=by
 refine KA3 ?_ (e_ni ht h)
 rcases h with⟨rfl,rfl⟩|⟨⟨f,x,rfl⟩,rfl⟩<;>rfl
theorem KQQ {t:TypeId} {v:Value} {b:Bool} (ht:ifB P t=true) (h:(v=.nilIface∧b=true)∨((∃u x,v=.iface u x)∧b=false)):(binOp .neq t v .nilIface).run P w=.ok (.bool !b) w:=by
 refine KA4 ?_ (e_ni ht h)
 rcases h with⟨rfl,rfl⟩|⟨⟨f,x,rfl⟩,rfl⟩<;>rfl
end
def eqII (te:TypeId) (x y:Value):M Bool:=.get fun _ b=>∃k m n,x=.iface te (.int k m)∧y=.iface te (.int k n)∧b=(m==n)
def cmB (P:Program) (t:TypeId):Bool:=(match P.underlying t with|some (.int _)=>true|_=>false)&&(match P.info? t with|some i=>i.comparable|none=>false)
def cpSt (d:Sl) (u:ByteArray):M Int:=
 ⟨fun h Q=>u.size≤d.len∧(∀a,d.base=some a→Open h a u.size)∧Q (u.size:Int) (GT h d.base 0 (UM u)),
  fun hq ⟨h1,h2,h3⟩=>⟨h1,h2,hq _ _ h3⟩⟩
section
variable {P:Program} {n:Frm} {a:Act} {w:World} {l:List (Nat×Value)} {dst:Option Tmp} {ty:TypeId} {pos:String} {aft:Array Edge} {g:Option (Nat×Bool)}
theorem g_ii {op:BinOp} {t te:Nat} {x y:Operand} {u v:Value} {b:Bool} (h:∃k m n,u=.iface te (.int k m)∧v=.iface te (.int k n)∧b=(m==n)):(eqGuard op t x y u v).run P w=.ok () w:=by
 obtain⟨k,m,n,rfl,rfl,_⟩:=h
 cases op<;>simp [eqGuard]
theorem KQR {t te:TypeId} {u v:Value} {b:Bool} (ht:ifB P t=true) (hc:cmB P te=true) (h:∃k m n,u=.iface te (.int k m)∧v=.iface te (.int k n)∧b=(m==n)):(binOp .eql t u v).run P w=.ok (.bool b) w:=by
 obtain⟨k,m,n,rfl,rfl,rfl⟩:=h
 unfold ifB at ht
 unfold cmB at hc
 rw [Bool.and_eq_true]at hc
 obtain⟨h1,h2⟩:=hc
 cases hu:P.underlying t with
 |none=>rw [hu]at ht;cases ht
 |some d=>
  rw [hu]at ht
  cases d<;>first|(cases ht;done)|skip
  cases hv:P.underlying te with
  |none=>rw [hv]at h1;cases h1
  |some e=>
   rw [hv]at h1
   cases e<;>first|(cases h1;done)|skip
   refine Lib.run_eql_iface_int w m n hu ?_ hv
   cases hi:P.info? te with
   |none=>rw [hi]at h2;cases h2
   |some i=>rw [hi]at h2;simpa using h2
theorem KMV {t e su:Nat} {x y:Operand} {d:Sl} {u:ByteArray} {Q:Int→Heap→Prop} (hE:Env n a l) (hx:opv l x=some d.v) (hy:opv l y=some (.string u)) (ht:P.underlying t=some (.slice e)) (hs:szB P e 1=true) (H:(cpSt d u).wp w.heap Q):
  ∃r w1,(execOp a.eval ⟨dst,.call {callee:=.builtin .copy,args:=#[x,y],argTypes:=#[t,su]},ty,pos,aft,g⟩).run P w=.ok (.value (.int .i64 r)) w1∧Rest w w1∧Q r w1.heap:=by
 obtain⟨h1,h3,h5⟩:=H
 have hlen:(UM u).length=u.size:=by unfold UM;rw [List.length_map,Array.length_toList];rfl
 have h4:∀v∈UM u,one v=true:=by
  intro v hv
  unfold UM at hv
  obtain⟨c,_,rfl⟩:=List.mem_map.1 hv
  rfl
 refine⟨_,{w with heap:=GT w.heap d.base 0 (UM u)},?_,⟨rfl,rfl,rfl,Nat.le_refl _⟩,h5⟩
 have hf:(Builtin.firstCells 1 u.size (.string u)).run P w=.ok (UM u).toArray w:=by
  have e2:(UM u).toArray=u.data.map fun(b:UInt8)=>Value.int .u8 (b.toNat:Int):=by unfold UM;rw [←Array.toList_map,Array.toArray_toList]
  rw [e2]
  simp [Builtin.firstCells]
 have e1:Nat.min u.size d.len=u.size:=Nat.min_eq_left h1
 cases hb:d.base with
 |none=>
  simp [execOp,resolve,invoke,builtin,hE.opv hx,hE.opv hy,Builtin.copy_,run_underlying ht,Sl.v,Builtin.lenOf,Jt hs,hb,goInt,GT,hf,e1]
 |some b=>
  have hp:=UX (P:=P) (a:=b) (UM u) 0 w (fun j hj=>by rw [Nat.zero_add];exact h3 b hb j (by omega)) h4
  simp [execOp,resolve,invoke,builtin,hE.opv hx,hE.opv hy,Builtin.copy_,run_underlying ht,Sl.v,Builtin.lenOf,Jt hs,hb,goInt,GT,add_zero,hf,hp,e1]
end
def uSD (x:Sl):M (Option Addr):=.get fun _ r=>(x.base=none∧r=none)∨(x.cap≠0∧x.base=r)
def uStr (e:TypeId) (p:Option Addr) (n:Int):M ByteArray:=
 ⟨fun h Q=>(n=0∧Q .empty h)∨∃g cells fz,∃l:List UInt8,p=some ⟨g,0,none⟩∧n=(l.length:Int)∧l≠[]∧l.length≤cells.size∧l.length≤9223372036854775807∧h[g]?=some (.cells cells e fz)∧(∀(j:Nat) x,l[j]?=some x→cells[j]?=some (.int .u8 (x.toNat:Int)))∧
   ∀h':Heap,h'.size=h.size→(∀i,i≠g→h'[i]?=h[i]?)→Q ⟨l.toArray⟩ h',
  fun hq H=>H.imp (fun⟨a,b⟩=>⟨a,hq _ _ b⟩) (fun⟨g,c,f,l,h1,h2,h3,h4,h5,h6,h7,h8⟩=>⟨g,c,f,l,h1,h2,h3,h4,h5,h6,h7,fun h' a b=>hq _ _ (h8 h' a b)⟩)⟩
section
variable {P:Program} {n:Frm} {a:Act} {w:World} {l:List (Nat×Value)} {dst:Option Tmp} {ty:TypeId} {pos:String} {aft:Array Edge} {g:Option (Nat×Bool)}
theorem KRh {t:TypeId} {x:Operand} {s:Sl} {r:Option Addr} (hE:Env n a l) (hx:opv l x=some s.v) (h:(s.base=none∧r=none)∨(s.cap≠0∧s.base=r)):
  (execOp a.eval ⟨dst,.call {callee:=.builtin .unsafeSliceData,args:=#[x],argTypes:=#[t]},ty,pos,aft,g⟩).run P w=.ok (.value (.pointer r)) w:=by
 obtain⟨base,len,cap⟩:=s
 have hr:(Builtin.unsafeSliceData_ #[t] ty #[.slice base len cap]).run P w=.ok (.pointer r) w:=by
  rcases h with⟨h1,rfl⟩|⟨h1,h2⟩
  ·have h1:base=none:=h1
   subst h1
   rfl
  ·have h2:base=r:=h2
   subst h2
   have h1:cap≠0:=h1
   cases base with
   |none=>rfl
   |some b=>exact Lib.run_unsafeSliceData_row _ _ _ _ _ _ h1
 simp [execOp,resolve,invoke,builtin,hE.opv hx,Sl.v,hr]
theorem KMW {pt it e:TypeId} {x y:Operand} {p:Option Addr} {m:Int} {Q:ByteArray→Heap→Prop} (hE:Env n a l) (hx:opv l x=some (.pointer p)) (hy:opv l y=some (.int .i64 m)) (hp:P.underlying pt=some (.pointer e)) (hc:P.cellsOf e=1) (H:(uStr e p m).wp w.heap Q):
  ∃r w1,(execOp a.eval ⟨dst,.call {callee:=.builtin .unsafeString,args:=#[x,y],argTypes:=#[pt,it]},ty,pos,aft,g⟩).run P w=.ok (.value (.string r)) w1∧Rest w w1∧Q r w1.heap:=by
 rcases H with⟨rfl,H⟩|⟨b,cells,fz,ls,rfl,rfl,h3,h4,h5,h6,h7,h8⟩
 ·refine⟨.empty,w,?_,Rest.refl w,H⟩
  have hr:=Lib.run_unsafeString_none (P:=P) w pt it ty p
  simp [execOp,resolve,invoke,builtin,hE.opv hx,hE.opv hy,hr]
 ·have hr:=Lib.run_unsafeString_row (P:=P) w pt it ty e hp hc b cells.size (by simp [World.shape?,h6]) ls h3 h4 h5 (fun j x hj=>by
   have:=h7 j x hj
   rw [KDy,show((⟨b,0,none⟩:Addr).add j)=⟨b,0+j,none⟩ by unfold Addr.add;split<;>simp_all]
   simp only [KM,h6,Nat.zero_add,this]
   rfl)
  refine⟨⟨ls.toArray⟩,w.freeze ⟨b,0,none⟩ ls.length,?_,⟨by unfold World.freeze;split<;>rfl,by unfold World.freeze;split<;>rfl,by unfold World.freeze;split<;>rfl,by unfold World.freeze;split<;>exact Nat.le_refl _⟩,h8 _ ?_ ?_⟩
  ·simp [execOp,resolve,invoke,builtin,hE.opv hx,hE.opv hy,hr]
  ·unfold World.freeze
   split
   ·rfl
   ·simp
  ·intro i hi
   unfold World.freeze
   split
   ·rfl
   ·simp only [Array.getElem?_modify]
    rw [if_neg (fun h=>hi h.symm)]
end
def KRi (P:Program) {ρ:Type} (enc:ρ→Value) (v:Value) (args:List Value):M ρ:=
 ⟨fun h Q=>∀w:World,w.heap=h→∃f cap,v=.func (.func f) #[] cap∧Callee? P f∧Calls P f (args.toArray++cap) w (fun e w'=>∃r,e=.returned (enc r)∧Q r w'.heap∧Rest w w'),
  fun hq h w hw=>let⟨f,cap,h1,h2,h3⟩:=h w hw;⟨f,cap,h1,h2,h3.mono fun _ _ ⟨r,a,b,c⟩=>⟨r,a,hq _ _ b,c⟩⟩⟩
section
variable {P:Program} {ops:Array Oper} {K:Act→World→Prop} {X:Nat→Act→World→Prop} {R:Act→World→Prop} {n:Frm} {a:Act} {w w0:World} {l:List (Nat×Value)} {S:World→Prop} {ds:List Nat} {fuel:Nat} {b b':Array Bool} {i:Nat} {E C W:List (List Nat)}
theorem KMX {o:Oper} {h1:Heap} (b':Array Bool) (hi:ops[i]?=some o) (hd:o.dst=none) (hb:(b.setIfInBounds i true==b')=true) (hE:Env n a l) (hR:Rest w0 w) (hw:Region.wanted o (yielded ops a.tmps)=true)
  (hrun:(execOp a.eval o).run P w=.ok .skip {w with heap:=h1}) (hS:∀w':World,w'.heap=h1→S w')
  (h:∀a' w',Env n a' l→Rest w0 w'→w'.heap=h1→S w'→JR P ops K X R S ds fuel b' a' w'):
  wpOp P ops (Ps K X R) i (fun a' w'=>(i∉ds→S w→S w')∧JR P ops K X R S ds fuel (b.setIfInBounds i true) a' w') a w:=by
 have hb':=eq_of_beq hb
 rw [hb']
 refine wpOp_step hi fun K' hK=>?_
 rw [hd]
 refine KMD hw hd hrun ?_
 exact hK _ _ ⟨fun _ _=>hS _ rfl,h _ _ hE (hR.trans ⟨rfl,rfl,rfl,Nat.le_refl _⟩) rfl (hS _ rfl)⟩
end
def clL (z:Array Value) (s:Sl):M Unit:=
 ⟨fun h Q=>(s.base=none∨s.len=0)∧Q () h∨∃a,s.base=some a∧s.len≠0∧Open h a (s.len*z.size)∧(∀v∈z.toList,one v=true)∧Q () (hsetL h a (zRow z (s.len*z.size)).toList 0),
  fun hq H=>H.imp (fun⟨a,b⟩=>⟨a,hq _ _ b⟩) (fun⟨a,h1,h2,h3,h4,h5⟩=>⟨a,h1,h2,h3,h4,hq _ _ h5⟩)⟩
theorem KOj {P:Program} {n:Frm} {a:Act} {w:World} {l:List (Nat×Value)} {dst:Option Tmp} {ty:TypeId} {pos:String} {aft:Array Edge} {g:Option (Nat×Bool)} {t e sz bytes:Nat} {z:Array Value} {x:Operand} {s:Sl} {Q:Unit→Heap→Prop} (hE:Env n a l) (hx:opv l x=some s.v) (hP:apB P t e sz bytes z) (H:(clL z s).wp w.heap Q):
  ∃(r:Unit) (w1:World),(execOp a.eval ⟨dst,.call {callee:=.builtin .clear,args:=#[x],argTypes:=#[t]},ty,pos,aft,g⟩).run P w=.ok (.value (.tuple #[])) w1∧Rest w w1∧Q r w1.heap:=by
 obtain⟨ht,i,hi,rfl,rfl,v,hv,rfl⟩:=hP
 obtain⟨base,len,cap⟩:=s
 rcases H with⟨h1,H⟩|⟨b,h1,h2,h3,h4,H⟩
 ·refine⟨(),w,?_,Rest.refl w,H⟩
  have hr:(Builtin.clear_ #[t] ty #[.slice base len cap]).run P w=.ok (.tuple #[]) w:=by
   cases base with
   |none=>simp [Builtin.clear_,run_underlying ht]
   |some b=>
    rcases h1 with h1|h1
    ·cases h1
    ·have h1:len=0:=h1
     subst h1
     simp [Builtin.clear_,run_underlying ht]
  simp [execOp,resolve,invoke,builtin,hE.opv hx,Sl.v,hr]
 ·have h1:base=some b:=h1
  subst h1
  have h2:len≠0:=h2
  have hzv:(zeroValue e).run P w=.ok v w:=by simp [zeroValue,typeInfo,hi,hv]
  have hzc:Builtin.zeroCells v.cells len=zRow v.cells (len*v.cells.size):=by
   simp only [Builtin.zeroCells,zRow]
   apply Array.ext';simp
  have hl:(zRow v.cells (len*v.cells.size)).toList.length=len*v.cells.size:=by simp [zRow]
  have hone:∀u∈(zRow v.cells (len*v.cells.size)).toList,one u=true:=by
   intro u hu
   simp only [zRow,List.mem_map,List.mem_range]at hu
   obtain⟨j,hj,rfl⟩:=hu
   have hpos:0<v.cells.size:=by
    rcases Nat.eq_zero_or_pos v.cells.size with h|h
    ·rw [h]at hj;simp at hj
    ·exact h
   have hlt:=Nat.mod_lt j hpos
   rw [getElem!_pos v.cells _ hlt]
   exact h4 _ (by simp)
  have hs:=UX (P:=P) (a:=b) (zRow v.cells (len*v.cells.size)).toList 0 w (fun j hj=>by rw [Nat.zero_add];exact h3 j (by rw [hl]at hj;exact hj)) hone
  refine⟨(),{w with heap:=hsetL w.heap b (zRow v.cells (len*v.cells.size)).toList 0},?_,⟨rfl,rfl,rfl,Nat.le_refl _⟩,H⟩
  obtain⟨m,rfl⟩:∃m,len=m+1:=⟨len - 1,by omega⟩
  simp [execOp,resolve,invoke,builtin,hE.opv hx,Sl.v,Builtin.clear_,run_underlying ht,hzv,hzc,hs]
end Gx
namespace Gx
open Go
section b
variable {α β:Type} {h:Heap} {Q:β→Heap→Prop}
theorem KL {m:M α} {f:α→M β} (H:m.wp h (fun r h'=>(f r).wp h' Q)):(m>>=f).wp h Q:=H
theorem KI {a:β} (H:Q a h):(M.pure a:M β).wp h Q:=H
theorem ZM {a:α} {f:α→M β} (H:(f a).wp h Q):(M.pure a>>=f).wp h Q:=H
theorem Zt {p:Prop} {f:Unit→M β} (hp:p) (H:(f ()).wp h Q):(M.need p>>=f).wp h Q:=⟨hp,H⟩
theorem X5 {p:Heap→Prop} {f:Unit→M β} (hp:p h) (H:(f ()).wp h Q):(chk p>>=f).wp h Q:=⟨(),hp,H⟩
theorem KY {b:Bool} {m n:M β} (ht:b=true→m.wp h Q) (hf:b=false→n.wp h Q):(M.ite b m n).wp h Q:=by cases b;exact hf rfl;exact ht rfl
theorem KKQ {b:Bool} {m n:M α} {f:α→M β} (ht:b=true→(m>>=f).wp h Q) (hf:b=false→(n>>=f).wp h Q):(M.ite b m n>>=f).wp h Q:=by cases b;exact hf rfl;exact ht rfl
theorem iteT {b:Bool} {m n:M β} (hb:b=true) (H:m.wp h Q):(M.ite b m n).wp h Q:=by subst hb;exact H
theorem iteF {b:Bool} {m n:M β} (hb:b=false) (H:n.wp h Q):(M.ite b m n).wp h Q:=by subst hb;exact H
theorem Y9 {b:Bool} {m n:M α} {f:α→M β} (hb:b=true) (H:(m>>=f).wp h Q):(M.ite b m n>>=f).wp h Q:=by subst hb;exact H
theorem NQ {b:Bool} {m n:M α} {f:α→M β} (hb:b=false) (H:(n>>=f).wp h Q):(M.ite b m n>>=f).wp h Q:=by subst hb;exact H
theorem Kf {γ:Type} {m:M γ} {g:γ→M α} {f:α→M β} (H:(m>>=fun x=>g x>>=f).wp h Q):((m>>=g)>>=f).wp h Q:=H
theorem KD3 {m n:M β} (h1:m.wp h Q) (h2:n.wp h Q):(M.both m n).wp h Q:=⟨h1,h2⟩
theorem KNr {m n:M α} {f:α→M β} (h1:(m>>=f).wp h Q) (h2:(n>>=f).wp h Q):(M.both m n>>=f).wp h Q:=⟨h1,h2⟩
theorem ZC {k:IntKind} {a:Addr} {n:Int} {f:Int→M β} (hc:KM h a=some (.int k n)) (H:(f n).wp h Q):(ldI k a>>=f).wp h Q:=⟨n,hc,H⟩
theorem KQS {a:Addr} {n:Bool} {f:Bool→M β} (hc:KM h a=some (.bool n)) (H:(f n).wp h Q):(ldB a>>=f).wp h Q:=⟨n,hc,H⟩
theorem Yh {a:Addr} {n:ByteArray} {f:ByteArray→M β} (hc:KM h a=some (.string n)) (H:(f n).wp h Q):(ldS a>>=f).wp h Q:=⟨n,hc,H⟩
theorem GV {a:Addr} {n:Option Addr} {f:Option Addr→M β} (hc:KM h a=some (.pointer n)) (H:(f n).wp h Q):(ldP a>>=f).wp h Q:=⟨n,hc,H⟩
theorem Jm {a:Addr} {n:Sl} {f:Sl→M β} (hc:KM h a=some n.v) (H:(f n).wp h Q):(ldL a>>=f).wp h Q:=⟨n,hc,H⟩
theorem Xc {n:Nat} {a:Addr} {cs:Array Value} {f:Array Value→M β} (hs:cs.size=n) (hc:∀i,i<n→KM h (a.add i)=cs[i]?) (H:(f cs).wp h Q):(ldG n a>>=f).wp h Q:=⟨cs,⟨hs,hc⟩,H⟩
theorem Gu {a:Addr} {v x:Value} {f:Unit→M β} (hc:KM h a=some x) (hf:WH h a=false) (h1:one v=true) (H:(f ()).wp (hset h a v) Q):(stV a v>>=f).wp h Q:=⟨(),⟨⟨x,hc⟩,hf,h1⟩,H⟩
theorem KRj {a:Addr} {cs:Array Value} {f:Unit→M β} (hc:∀i,i<cs.size→(∃x,KM h (a.add i)=some x)∧WH h (a.add i)=false) (h1:∀v∈cs.toList,one v=true) (H:(f ()).wp (hsetL h a cs.toList 0) Q):(stG a cs>>=f).wp h Q:=⟨(),⟨hc,h1⟩,H⟩
theorem KQT {t:TypeId} {cs:Array Value} {f:Addr→M β} (H:(f ⟨h.size,0,none⟩).wp (h.push (.cells cs t)) Q):(mkB t cs>>=f).wp h Q:=⟨_,rfl,H⟩
theorem Zi {a:Addr} {f:Addr→M β} (H:(f a).wp h Q):(nilP (some a)>>=f).wp h Q:=⟨a,rfl,H⟩
theorem X6 {s:Sl} {i:Int} {sz:Nat} {b:Addr} {f:Addr→M β} (h0:0≤i) (h1:i<s.len) (hb:s.base=some b) (H:(f (b.add (i.toNat*sz))).wp h Q):(ixL s i sz>>=f).wp h Q:=⟨_,⟨h0,h1,b,hb,rfl⟩,H⟩
theorem KQU {s:Sl} {lo hi:Int} {sz:Nat} {f:Sl→M β} (h0:0≤lo) (h1:lo≤hi) (h2:hi≤s.cap) (H:(f ⟨if s.cap=lo.toNat then s.base else s.base.map (·.add (lo.toNat*sz)),hi.toNat - lo.toNat,s.cap - lo.toNat⟩).wp h Q):(slL s lo hi sz>>=f).wp h Q:=⟨_,⟨h0,h1,h2,rfl⟩,H⟩
theorem Nh {e len:Nat} {cells:Array Value} {f:Sl→M β} (H:(f ⟨some ⟨h.size,0,none⟩,len,len⟩).wp (h.push (.cells cells e)) Q):(bdL e len cells>>=f).wp h Q:=⟨_,rfl,H⟩
theorem KOk {s:Sl} {ns:List UInt8} {f:ByteArray→M β} (hl:ns.length=s.len) (hr:Gq h s.base (ns.map fun b=>Value.int .u8 (b.toNat:Int))) (H:(f ⟨ns.toArray⟩).wp h Q):(b2s s>>=f).wp h Q:=⟨_,⟨ns,hl,hr,rfl⟩,H⟩
end b
theorem Ke (b o n:Nat):(⟨b,o,none⟩:Addr).add n=⟨b,o+n,none⟩:=by
 cases n with
 |zero=>rfl
 |succ n=>simp [Addr.add]
theorem KP {h:Heap} {b o:Nat} {cs:Array Value} {t:TypeId} {z:Nat×Nat} (hb:h[b]?=some (.cells cs t z)):KM h ⟨b,o,none⟩=cs[o]?:=by
 simp [KM,hb]
theorem ZL {h:Heap} {b o:Nat} {cs:Array Value} {t:TypeId} (hb:h[b]?=some (.cells cs t (0,0))):WH h ⟨b,o,none⟩=false:=by
 simp [WH,hb]
theorem Xd {h:Heap} {o:Obj} {i:Nat} (hi:i<h.size):(h.push o)[i]?=h[i]?:=by
 rw [Array.getElem?_push]
 rw [if_neg (by omega)]
theorem ZH {h:Heap} {o:Obj}:(h.push o)[h.size]?=some o:=by simp
theorem KCZ {h:Heap} {a:Addr} {v:Value}:(hset h a v).size=h.size:=by simp [hset]
theorem KHC {h:Heap} {a:Addr} {v:Value} {i:Nat} (hi:i≠a.block):(hset h a v)[i]?=h[i]?:=by
 simp only [hset,Array.getElem?_modify]
 rw [if_neg (fun e=>hi e.symm)]
theorem Ul {h:Heap} {b o:Nat} {v:Value} {cs:Array Value} {t:TypeId} {z:Nat×Nat} (hb:h[b]?=some (.cells cs t z)):(hset h ⟨b,o,none⟩ v)[b]?=some (.cells (cs.setIfInBounds o v) t z):=by
 simp only [hset,Array.getElem?_modify,if_true,hb,Option.map_some]
 rfl
theorem GW {a:Addr}:∀(vs:List Value) (h:Heap) (i:Nat),(hsetL h a vs i).size=h.size
 | [],_,_=>rfl
 |v::r,h,i=>by simp only [hsetL];rw [GW r,KCZ]
theorem JS (a:Addr) (n:Nat):(a.add n).block=a.block:=by
 cases n<;>rfl
theorem KB9 {a:Addr} {j:Nat} (hj:j≠a.block):∀(vs:List Value) (h:Heap) (i:Nat),(hsetL h a vs i)[j]?=h[j]?
 | [],_,_=>rfl
 |v::r,h,i=>by simp only [hsetL];rw [KB9 hj r,KHC (by rw [JS];exact hj)]
def lay (cs:Array Value) (o:Nat):List Value→Array Value
 | []=>cs
 |v::r=>lay (cs.setIfInBounds o v) (o+1) r
theorem KCA {b o:Nat} {t:TypeId} {z:Nat×Nat}:∀(vs:List Value) (h:Heap) (i:Nat) (cs:Array Value),h[b]?=some (.cells cs t z)→(hsetL h ⟨b,o,none⟩ vs i)[b]?=some (.cells (lay cs (o+i) vs) t z)
 | [],h,i,cs,hb=>hb
 |v::r,h,i,cs,hb=>by
  simp only [hsetL,lay]
  rw [Ke]
  exact KCA r _ (i+1) _ (Ul hb)
theorem Gv:∀(vs:List Value) (cs:Array Value) (o:Nat),(lay cs o vs).size=cs.size
 | [],_,_=>rfl
 |v::r,cs,o=>by simp only [lay];rw [Gv r];simp
theorem N6:∀(vs:List Value) (cs:Array Value) (o:Nat),o+vs.length≤cs.size→(lay cs o vs).toList=cs.toList.take o++vs++cs.toList.drop (o+vs.length)
 | [],cs,o,_=>by simp [lay]
 |v::r,cs,o,h=>by
  simp only [List.length_cons]at h
  simp only [lay]
  rw [N6 r _ _ (by simp;omega)]
  simp only [Array.toList_setIfInBounds,List.length_cons]
  have h1:(cs.toList.set o v).take (o+1)=cs.toList.take o++[v]:=by
   rw [List.take_succ_eq_append_getElem (by simp;omega),List.take_set_of_le (Nat.le_refl _)]
   simp
  rw [h1,List.drop_set_of_lt (by omega)]
  simp [Nat.add_assoc,Nat.add_comm 1]
structure Ext (h h':Heap):Prop where
 size:h.size≤h'.size
 same:∀i,i<h.size→h'[i]?=h[i]?
theorem Ext.refl (h:Heap):Ext h h:=⟨Nat.le_refl _,fun _ _=>rfl⟩
theorem Ext.trans {h h' h'':Heap} (a:Ext h h') (b:Ext h' h''):Ext h h'':=⟨Nat.le_trans a.size b.size,fun i hi=>(b.same i (Nat.lt_of_lt_of_le hi a.size)).trans (a.same i hi)⟩
theorem Ext.push (h:Heap) (o:Obj):Ext h (h.push o):=⟨by simp,fun i hi=>Xd hi⟩
theorem Ext.pushed {h h':Heap} (a:Ext h h') (o:Obj):Ext h (h'.push o):=a.trans (Ext.push _ _)
theorem Ext.hset {h h':Heap} (a:Ext h h') {p:Addr} {v:Value} (hp:h.size≤p.block):Ext h (hset h' p v):=
 ⟨by rw [KCZ];exact a.size,fun i hi=>by rw [KHC (by omega)];exact a.same i hi⟩
theorem Ext.hsetL {h h':Heap} (a:Ext h h') {p:Addr} {vs:List Value} {j:Nat} (hp:h.size≤p.block):Ext h (hsetL h' p vs j):=
 ⟨by rw [GW];exact a.size,fun i hi=>by rw [KB9 (by omega)];exact a.same i hi⟩
theorem Ext.cell {h h':Heap} (a:Ext h h') {p:Addr} {v:Value} (hc:KM h p=some v):KM h' p=some v:=by
 have hlt:p.block<h.size:=by
  rcases Nat.lt_or_ge p.block h.size with h1|h1
  ·exact h1
  ·simp [KM,Array.getElem?_eq_none h1]at hc
 simp only [KM,a.same _ hlt]at hc⊢
 exact hc
theorem Ext.blk {h h':Heap} (a:Ext h h') {b:Nat} {o:Obj} (hb:h[b]?=some o):h'[b]?=some o:=by
 have hlt:b<h.size:=by
  rcases Nat.lt_or_ge b h.size with h1|h1
  ·exact h1
  ·rw [Array.getElem?_eq_none h1]at hb;cases hb
 rw [a.same _ hlt];exact hb
theorem Ext.reads {h h':Heap} (a:Ext h h') {b:Option Addr} {cs:List Value} (hr:Gq h b cs):Gq h' b cs:=by
 rcases hr with h1|⟨p,hp,hc⟩
 ·exact .inl h1
 ·exact .inr ⟨p,hp,fun j v hj=>a.cell (hc j v hj)⟩
theorem JT {h:Heap} {b:Nat} {o:Obj} (hb:h[b]?=some o):b<h.size:=by
 rcases Nat.lt_or_ge b h.size with h1|h1
 ·exact h1
 ·rw [Array.getElem?_eq_none h1]at hb;cases hb
def bv (b:UInt8):Value:=.int .u8 (b.toNat:Int)
def KD4 (l:List UInt8):Array Value:=(l.map bv).toArray
theorem KJK (l:List UInt8) (i:Nat):(KD4 l)[i]?=(l[i]?).map bv:=by simp [KD4]
theorem KJL (l:List UInt8) (i:Nat) (b:UInt8):(KD4 l).setIfInBounds i (bv b)=KD4 (l.set i b):=by
 apply Array.ext'
 simp [KD4,List.map_set]
structure Bys (h:Heap) (s:Sl) (l:List UInt8):Prop where
 len:s.len=l.length
 at_:Gq h s.base (l.map bv)
theorem Bys.ext {h h':Heap} {s:Sl} {l:List UInt8} (hb:Bys h s l) (he:Ext h h'):Bys h' s l:=⟨hb.len,he.reads hb.at_⟩
theorem Bys.get {h:Heap} {s:Sl} {l:List UInt8} (hb:Bys h s l) {i:Nat} (hi:i<l.length):∃a,s.base=some a∧KM h (a.add i)=some (bv l[i]):=by
 rcases hb.at_ with h1|⟨a,ha,hc⟩
 ·simp at h1;subst h1;simp at hi
 ·exact⟨a,ha,hc i _ (by simp [List.getElem?_eq_getElem hi])⟩
theorem Bys.nil (h:Heap):Bys h Sl.nil []:=⟨rfl,.inl rfl⟩
def u8 (n:Int):UInt8:=UInt8.ofNat (n%256).toNat
theorem wrap_u8 (n:Int):IntKind.wrap .u8 n=((u8 n).toNat:Int):=by
 have e:IntKind.wrap .u8 n=n%256:=by simp [IntKind.wrap,IntKind.signed,IntKind.bits]
 rw [e]
 simp [u8,UInt8.toNat_ofNat']
 omega
end Gx
namespace Gx
open Go
theorem w64 {n:Int} (h0:-9223372036854775808≤n) (h1:n≤9223372036854775807):IntKind.wrap .i64 n=n:=by
 rw [IntKind.wrap_i64];omega
theorem KKR {l:List UInt8} {j:Nat} (h:j<l.length):l.take (j+1)=l.take j++[l[j]]:=by
 rw [List.take_succ_eq_append_getElem h]
structure Upd (b:Nat) (h h':Heap):Prop where
 size:h'.size=h.size
 ne:∀i,i≠b→h'[i]?=h[i]?
theorem Upd.refl (b:Nat) (h:Heap):Upd b h h:=⟨rfl,fun _ _=>rfl⟩
theorem Upd.trans {b:Nat} {h h' h'':Heap} (a:Upd b h h') (c:Upd b h' h''):Upd b h h'':=⟨c.size.trans a.size,fun i hi=>(c.ne i hi).trans (a.ne i hi)⟩
theorem Upd.hset (h:Heap) (b o:Nat) (v:Value):Upd b h (hset h ⟨b,o,none⟩ v):=⟨KCZ,fun i hi=>KHC hi⟩
theorem Upd.hsetL (h:Heap) (b o:Nat) (vs:List Value) (j:Nat):Upd b h (hsetL h ⟨b,o,none⟩ vs j):=⟨GW _ _ _,fun i hi=>KB9 hi _ _ _⟩
theorem Ext.upd {h h' h'':Heap} {b:Nat} (e:Ext h h') (u:Upd b h' h'') (hb:h.size≤b):Ext h h'':=⟨by rw [u.size];exact e.size,fun i hi=>by rw [u.ne i (by omega)];exact e.same i hi⟩
def BB (h:Heap) (b:Nat) (t:TypeId) (l:List UInt8):Prop:=h[b]?=some (.cells (KD4 l) t (0,0))
theorem BB.cell {h:Heap} {b:Nat} {t:TypeId} {l:List UInt8} (hb:BB h b t l) {i:Nat} (hi:i<l.length):KM h ⟨b,i,none⟩=some (bv l[i]):=by
 rw [KP hb,KJK,List.getElem?_eq_getElem hi];rfl
theorem BB.set {h:Heap} {b:Nat} {t:TypeId} {l:List UInt8} (hb:BB h b t l) (i:Nat) (x:UInt8):BB (hset h ⟨b,i,none⟩ (bv x)) b t (l.set i x):=by
 unfold BB
 rw [Ul hb,KJL]
theorem BB.upd {h h':Heap} {b c:Nat} {t:TypeId} {l:List UInt8} (hb:BB h b t l) (u:Upd c h h') (hne:b≠c):BB h' b t l:=by
 unfold BB
 rw [u.ne b hne];exact hb
theorem BB.bys {h:Heap} {b:Nat} {t:TypeId} {l:List UInt8} (hb:BB h b t l) (o n cap:Nat) (hl:o+n≤l.length):Bys h ⟨some ⟨b,o,none⟩,n,cap⟩ ((l.drop o).take n):=by
 refine⟨by simp;omega,.inr ⟨_,rfl,fun j v hj=>?_⟩⟩
 rw [Ke]
 have hlt:j<((l.drop o).take n).length:=by
  rcases Nat.lt_or_ge j ((l.drop o).take n).length with h'|h'
  ·exact h'
  ·rw [List.getElem?_eq_none (by simpa using h')]at hj;cases hj
 have hlt':j<n∧o+j<l.length:=by simp at hlt;omega
 rw [hb.cell hlt'.2]
 rw [List.getElem?_map,List.getElem?_eq_getElem hlt]at hj
 simp at hj
 rw [←hj]
theorem KOl (c:List Value):∀(cs:Array Value) (off k:Nat),(c.zipIdx k).foldl (fun cs (x:Value×Nat)=>cs.setIfInBounds (off+x.2) x.1) cs=lay cs (off+k) c:=by
 induction c with
 |nil=>intro cs off k;rfl
 |cons v r ih=>
  intro cs off k
  rw [List.zipIdx_cons,List.foldl_cons,ih]
  rfl
theorem GX {place:Nat→Option (Nat×Nat)} {cells:Array Value} {i off size:Nat} {v:Value} {rest:List (Nat×Value)} (hp:place i=some (off,size)) (hs:v.cells.size=size) (hl:off+size≤cells.size):
  Instr.fill place cells ((i,v)::rest)=Instr.fill place (lay cells off v.cells.toList) rest:=by
 conv=>lhs;unfold Instr.fill
 simp only [hp]
 rw [if_neg (by rw [hs];simp;omega)]
 congr 1
 rw [←Array.foldl_toList,Array.toList_zipIdx]
 exact KOl _ _ _ 0
theorem Kp {cs:Array Value} {vs:List Value} (h:vs.length=cs.size):lay cs 0 vs=vs.toArray:=by
 apply Array.ext'
 rw [N6 _ _ _ (by omega)]
 simp [h]
theorem GB {β:Type} {h:Heap} {Q:β→Heap→Prop} {sz:Nat} {z c:Array Value} {f:Array Value→M β} (hc:c.size=sz) (H:(f c).wp h Q):(XI sz 1 z [(0,.agg c)]>>=f).wp h Q:=by
 refine⟨c,?_,H⟩
 have hz:(zRow z (1*sz)).size=sz:=by simp [zRow]
 show Instr.fill (fun i=>some (i*sz,sz)) (zRow z (1*sz)) [(0,Value.agg c)]=some c
 rw [GX (off:=0) (size:=sz) (v:=Value.agg c) (by simp) hc (by omega)]
 show some _=some c
 rw [show(Value.agg c).cells=c from rfl,Kp (by rw [Array.length_toList];omega)]
structure Row (lo:Nat) (h:Heap) (r:Sl) (sz b:Nat) (ty:TypeId) (cells:Array Value) (vs:List Value):Prop where
 base:r.base=some ⟨b,0,none⟩
 lo:lo≤b
 blk:h[b]?=some (.cells cells ty (0,0))
 size:cells.size=r.cap*sz
 cap:r.len≤r.cap
 len:vs.length=r.len*sz
 get:∀(j:Nat) v,vs[j]?=some v→cells[j]?=some v
def Gw (lo:Nat) (h:Heap) (r:Sl) (sz:Nat) (vs:List Value):Prop:=(r=Sl.nil∧vs=[])∨∃b ty cells,Row lo h r sz b ty cells vs
theorem Gw.nil (lo:Nat) (h:Heap) (sz:Nat):Gw lo h Sl.nil sz []:=.inl ⟨rfl,rfl⟩
def Sl.on (r:Sl) (i:Nat):Prop:=∃a,r.base=some a∧a.block=i
theorem Gw.same {lo:Nat} {h h':Heap} {r:Sl} {sz:Nat} {vs:List Value} (H:Gw lo h r sz vs) (e:∀i,Sl.on r i→h'[i]?=h[i]?):Gw lo h' r sz vs:=by
 rcases H with H|⟨b,ty,cells,H⟩
 ·exact .inl H
 ·exact .inr ⟨b,ty,cells,H.base,H.lo,(e b ⟨_,H.base,rfl⟩).trans H.blk,H.size,H.cap,H.len,H.get⟩
theorem Gw.lt {lo:Nat} {h:Heap} {r:Sl} {sz:Nat} {vs:List Value} (H:Gw lo h r sz vs) {i:Nat} (hi:Sl.on r i):i<h.size∧lo≤i:=by
 obtain⟨a,ha,rfl⟩:=hi
 rcases H with⟨rfl,_⟩|⟨b,ty,cells,H⟩
 ·cases ha
 ·rw [H.base]at ha
  cases ha
  exact⟨JT H.blk,H.lo⟩
theorem Gw.reads {lo:Nat} {h:Heap} {r:Sl} {sz:Nat} {vs:List Value} (H:Gw lo h r sz vs):Gq h r.base vs:=by
 rcases H with⟨_,rfl⟩|⟨b,ty,cells,H⟩
 ·exact .inl rfl
 ·refine .inr ⟨_,H.base,fun j v hj=>?_⟩
  rw [Ke,Nat.zero_add,KP H.blk]
  exact H.get j v hj
theorem Gw.cell {lo:Nat} {h:Heap} {r:Sl} {sz:Nat} {vs:List Value} (H:Gw lo h r sz vs) {j:Nat} {v:Value} (hj:vs[j]?=some v):∃b,r.base=some ⟨b,0,none⟩∧KM h ⟨b,j,none⟩=some v:=by
 rcases H with⟨_,rfl⟩|⟨b,ty,cells,H⟩
 ·cases hj
 ·exact⟨b,H.base,by rw [KP H.blk];exact H.get j v hj⟩
theorem Gw.len {lo:Nat} {h:Heap} {r:Sl} {sz:Nat} {vs:List Value} (H:Gw lo h r sz vs):vs.length=r.len*sz:=by
 rcases H with⟨rfl,rfl⟩|⟨b,ty,cells,H⟩
 ·simp [Sl.nil]
 ·exact H.len
theorem KFt (z:Array Value) (n:Nat):(zRow z n).size=n:=by simp [zRow]
theorem KA7 {lo:Nat} {h:Heap} {Q:Sl→Heap→Prop} {e sz bytes:Nat} {z:Array Value} {r x:Sl} {vs news:List Value} (hz:z.size=sz) (H:Gw lo h r sz vs) (hn:news.length=x.len*sz) (hr:Gq h x.base news) (h1:∀v∈news,one v=true)
  (hb:(r.len+x.len)*bytes≤140737488355328) (hm:r.len+x.len≤9223372036854775807) (hlo:lo≤h.size)
  (hq:∀h' r',Gw lo h' r' sz (vs++news)→r'.len=r.len+x.len→h.size≤h'.size→(∀i,i<h.size→¬Sl.on r i→h'[i]?=h[i]?)→(∀i,Sl.on r' i→Sl.on r i∨h.size≤i)→Q r' h'):(apL e sz bytes z r x).wp h Q:=by
 refine⟨news,hn,hr,?_⟩
 unfold apGo
 split
 ·rename_i hc
  rcases H with⟨rfl,rfl⟩|⟨b,ty,cells,H⟩
  ·have h0:x.len=0:=by simp [Sl.nil]at hc;exact hc
   have:news=[]:=List.length_eq_zero_iff.1 (by rw [hn,h0];simp)
   subst this
   refine⟨fun a ha=>(by cases ha),by simp,?_⟩
   rw [h0]
   exact hq h _ (.inl ⟨rfl,rfl⟩) (by rw [h0]) (Nat.le_refl _) (fun i _ _=>rfl) (fun i hi=>.inl hi)
  ·have hsz:r.len*sz+news.length≤cells.size:=by
    rw [hn,H.size,←Nat.add_mul]
    exact Nat.mul_le_mul_right _ hc
   have hblk:(GT h r.base (r.len*sz) news)[b]?=some (.cells (lay cells (r.len*sz) news) ty (0,0)):=by
    rw [H.base]
    show(hsetL h ((⟨b,0,none⟩:Addr).add (r.len*sz)) news 0)[b]?=_
    rw [Ke,Nat.zero_add,KCA _ _ _ _ H.blk,Nat.add_zero]
   have hne:∀i,i≠b→(GT h r.base (r.len*sz) news)[i]?=h[i]?:=fun i hi=>by
    rw [H.base]
    show(hsetL h ((⟨b,0,none⟩:Addr).add (r.len*sz)) news 0)[i]?=_
    rw [Ke,KB9 hi]
   have hsize:(GT h r.base (r.len*sz) news).size=h.size:=by
    rw [H.base]
    exact GW _ _ _
   refine⟨fun a ha j hj=>?_,h1,hq _ _ (.inr ⟨b,ty,_,H.base,H.lo,hblk,?_,hc,?_,fun j v hj=>?_⟩) rfl (by rw [hsize];exact Nat.le_refl _) (fun i hi hno=>hne i (fun e=>hno ⟨_,H.base,e.symm⟩)) (fun i hi=>.inl hi)⟩
   ·rw [H.base]at ha;cases ha
    rw [Ke,Ke,Nat.zero_add,KP H.blk,ZL H.blk]
    exact⟨⟨_,Array.getElem?_eq_getElem (by omega)⟩,rfl⟩
   ·rw [Gv];exact H.size
   ·rw [List.length_append,H.len,hn,Nat.add_mul]
   ·rw [←Array.getElem?_toList,N6 _ _ _ hsz]
    have hlen:(cells.toList.take (r.len*sz)).length=r.len*sz:=by rw [List.length_take,Array.length_toList];omega
    by_cases hj1:j<vs.length
    ·rw [List.getElem?_append_left hj1]at hj
     have:=H.get j v hj
     rw [List.append_assoc,List.getElem?_append_left (by rw [hlen,←H.len];exact hj1),List.getElem?_take,if_pos (by rw [←H.len];exact hj1),Array.getElem?_toList]
     exact this
    ·rw [List.getElem?_append_right (by omega)]at hj
     have hjn:j - vs.length<news.length:=(List.getElem?_eq_some_iff.1 hj).1
     rw [List.append_assoc,List.getElem?_append_right (by rw [hlen,←H.len];omega),hlen,List.getElem?_append_left (by rw [←H.len];exact hjn),←H.len]
     exact hj
 ·rename_i hc
  refine⟨hb,hm,vs,H.len,H.reads,fun cap hcap=>?_⟩
  have hl:=H.len
  refine hq _ _ (.inr ⟨h.size,e,_,rfl,hlo,ZH,?_,hcap,?_,fun j v hj=>?_⟩) rfl (by simp) (fun i hi _=>Xd hi) (fun i hi=>.inr ?_)
  ·rw [Array.size_append,Array.size_append,KFt,List.size_toArray,List.size_toArray,hl,hn,hz]
   show r.len*sz+x.len*sz+(cap - (r.len+x.len))*sz=cap*sz
   rw [←Nat.add_mul,←Nat.add_mul]
   congr 1
   omega
  ·rw [List.length_append,hl,hn,Nat.add_mul]
  ·have hlt:j<(vs++news).length:=(List.getElem?_eq_some_iff.1 hj).1
   rw [Array.getElem?_append_left (by simpa using hlt)]
   rw [←hj]
   simp
  ·obtain⟨a,ha,rfl⟩:=hi
   cases ha
   exact Nat.le_refl _
structure Km (S:Nat→Prop) (h h':Heap):Prop where
 size:h.size≤h'.size
 same:∀i,i<h.size→¬S i→h'[i]?=h[i]?
theorem Km.refl (S:Nat→Prop) (h:Heap):Km S h h:=⟨Nat.le_refl _,fun _ _ _=>rfl⟩
theorem Km.trans {S:Nat→Prop} {h h' h'':Heap} (a:Km S h h') (b:Km S h' h''):Km S h h'':=
 ⟨Nat.le_trans a.size b.size,fun i hi hn=>(b.same i (Nat.lt_of_lt_of_le hi a.size) hn).trans (a.same i hi hn)⟩
theorem Km.ext {S:Nat→Prop} {h h':Heap} (a:Ext h h'):Km S h h':=⟨a.size,fun i hi _=>a.same i hi⟩
theorem Km.upd {S:Nat→Prop} {h h':Heap} {b:Nat} (u:Upd b h h') (hb:S b):Km S h h':=⟨by rw [u.size];exact Nat.le_refl _,fun i hi hn=>u.ne i (fun e=>hn (e▸hb))⟩
theorem Km.own {S:Nat→Prop} {h h' h'':Heap} {b:Nat} (K:Km S h h') (u:Upd b h' h'') (hb:h.size≤b):Km S h h'':=
 ⟨by rw [u.size];exact K.size,fun i hi hn=>(u.ne i (by omega)).trans (K.same i hi hn)⟩
theorem Km.blk {S:Nat→Prop} {h h':Heap} (k:Km S h h') {b:Nat} {o:Obj} (hb:h[b]?=some o) (hn:¬S b):h'[b]?=some o:=(k.same b (JT hb) hn).trans hb
theorem Ext.km {S:Nat→Prop} {h h' h'':Heap} (e:Ext h h') (k:Km S h' h'') (hF:∀i,S i→h.size≤i):Ext h h'':=
 ⟨Nat.le_trans e.size k.size,fun i hi=>(k.same i (Nat.lt_of_lt_of_le hi e.size) (fun ho=>by have:=hF i ho;omega)).trans (e.same i hi)⟩
theorem Gw.bys {lo:Nat} {h:Heap} {r:Sl} {l:List UInt8} (H:Gw lo h r 1 (l.map bv)):Bys h r l:=⟨by have:=H.len;simp at this;exact this.symm,H.reads⟩
theorem Gw.cap {lo:Nat} {h:Heap} {r:Sl} {sz:Nat} {vs:List Value} (H:Gw lo h r sz vs):r.len≤r.cap:=by
 rcases H with⟨rfl,_⟩|⟨b,ty,cells,H⟩
 ·exact Nat.le_refl _
 ·exact H.cap
theorem Gw.ext {lo:Nat} {h h':Heap} {r:Sl} {sz:Nat} {vs:List Value} (H:Gw lo h r sz vs) (e:Ext h h'):Gw lo h' r sz vs:=H.same fun i hi=>e.same i (H.lt hi).1
theorem qy (s:Sl):one s.v=true:=by cases s;rfl
theorem stR {β:Type} {h:Heap} {Q:β→Heap→Prop} {b off:Nat} {cs vs:Array Value} {ty:TypeId} {f:Unit→M β} (hb:h[b]?=some (.cells cs ty (0,0))) (hl:off+vs.size≤cs.size) (h1:∀v∈vs.toList,one v=true)
  (H:∀h',Upd b h h'→h'[b]?=some (.cells (lay cs off vs.toList) ty (0,0))→(f ()).wp h' Q):(stG ⟨b,off,none⟩ vs>>=f).wp h Q:=by
 refine KRj (fun i hi=>?_) h1 (H _ (Upd.hsetL _ _ _ _ _) (by rw [KCA _ _ _ _ hb,Nat.add_zero]))
 rw [Ke,KP hb]
 exact⟨⟨_,Array.getElem?_eq_getElem (by omega)⟩,ZL hb⟩
theorem ldR {β:Type} {h:Heap} {Q:β→Heap→Prop} {b n:Nat} {cs:Array Value} {ty:TypeId} {f:Array Value→M β} (hb:h[b]?=some (.cells cs ty (0,0))) (hn:cs.size=n) (H:(f cs).wp h Q):(ldG n ⟨b,0,none⟩>>=f).wp h Q:=
 Xc hn (fun i hi=>by rw [Ke,Nat.zero_add,KP hb]) H
theorem Ext.modify {h h':Heap} {b:Nat} {f:Obj→Obj} (e:Ext h h') (hb:h.size≤b):Ext h (h'.modify b f):=
 ⟨by rw [Array.size_modify];exact e.size,fun i hi=>by
  rw [Array.getElem?_modify,if_neg (by omega)];exact e.same i hi⟩
end Gx
namespace Gx
open Go
section
variable {P:Program} {n:Frm} {a:Act} {w:World} {l:List (Nat×Value)} {dst:Option Tmp} {ty:TypeId} {pos:String} {aft:Array Edge} {g:Option (Nat×Bool)}
theorem KOm {b:Bool} {len cap:Nat} {k' k'':IntKind} {hi mx:Int} (h1:0≤hi) (h2:hi≤mx) (h3:mx≤cap):(Instr.sliceBounds b len cap none (some (.int k' hi)) (some (.int k'' mx))).run P w=.ok (0,hi.toNat,mx.toNat) w:=by
 have e2:hi≤((mx.toNat:Nat):Int):=by omega
 simp [Instr.sliceBounds,KEY rfl (by omega:0≤mx) h3,KEY rfl h1 e2]
theorem KHD {t e m:Nat} {x z u:Operand} {s:Sl} {k' k'':IntKind} {hi mx:Int} {r:Sl} (hE:Env n a l) (hx:opv l x=some s.v) (hz:opv l z=some (.int k' hi)) (hu:opv l u=some (.int k'' mx)) (ht:P.underlying t=some (.slice e)) (hm:szB P e m=true)
  (hc:0≤(0:Int)∧(0:Int)≤hi∧hi≤mx∧mx≤s.cap∧r=⟨if mx.toNat=(0:Int).toNat then s.base else s.base.map (·.add ((0:Int).toNat*m)),hi.toNat - (0:Int).toNat,mx.toNat - (0:Int).toNat⟩):
  (execOp a.eval ⟨dst,.slice t x none (some z) (some u),ty,pos,aft,g⟩).run P w=.ok (.value r.v) w:=by
 obtain⟨h0,h1,h2,h3,rfl⟩:=hc
 simp [execOp,hE.opv hx,hE.opv hz,hE.opv hu,Instr.sliceAt,Instr.slice,run_underlying ht,KOm h1 h2 h3,Jt hm,Sl.v]
end
end Gx
namespace Gx
open Go
inductive Kd where
 |I (k:IntKind) (x:Int)|B (b:Bool)|C (b:Bool)|S (s:ByteArray)|A (a:Addr)|P (p:Option Addr)|L (s:Sl)|Mp (m:Option Nat)|G (c:Array Value)|V (v:Value)|N (v:Value)|U
 |T (l:List Kd)
def Kd.e0:Kd→Value
 | .I k x=>.int k x
 | .B b=>.bool b
 | .C b=>.bool b
 | .S s=>.string s
 | .A a=>.pointer (some a)
 | .P p=>.pointer p
 | .L s=>s.v
 | .Mp m=>.map m
 | .G c=>.agg c
 | .V v=>v
 | .N v=>v
 | .U=>undef
 | .T _=>undef
def Kd.flat:Kd→Bool
 | .T _=>false
 |_=>true
def Kd.e:Kd→Value
 | .T l=>.tuple (l.map Kd.e0).toArray
 |k=>k.e0
theorem Kd.e_flat {k:Kd} (h:k.flat=true):k.e=k.e0:=by cases k<;>first|rfl|cases h
abbrev KEnv:=List (Nat×Kd)
def encL (l:KEnv):List (Nat×Value):=l.map fun p=>(p.1,p.2.e)
def XJ:KEnv→Nat→Option Kd
 | [],_=>none
 |(k,v)::l,d=>bif Nat.beq k d then some v else XJ l d
theorem VH:∀{l:KEnv} {t:Nat} {k:Kd},XJ l t=some k→look (encL l) t=some k.e
 | [],t,k,h=>by cases h
 |(d,v)::l,t,k,h=>by
  simp only [XJ]at h
  simp only [encL,List.map_cons,look]
  cases hb:Nat.beq d t with
  |true=>rw [hb]at h;simp only [cond_true,Option.some.injEq]at h⊢;rw [h]
  |false=>rw [hb]at h;exact VH h
def zkOf:Value→Option Kd
 | .int k x=>some (.I k x)
 | .bool b=>some (.C b)
 | .string s=>some (.S s)
 | .pointer p=>some (.P p)
 | .slice b n c=>some (.L ⟨b,n,c⟩)
 | .map m=>some (.Mp m)
 | .nilFunc=>some (.V .nilFunc)
 | .nilIface=>some (.V .nilIface)
 | .agg cs=>some (.G cs)
 |_=>none
theorem KRk {v:Value} {k:Kd} (h:zkOf v=some k):k.e=v:=by
 cases v<;>simp [zkOf]at h<;>subst h<;>rfl
def opk (l:KEnv):Operand→Option Kd
 | .tmp t=>XJ l t
 | .const v=>zkOf v
 | .global g=>some (.A ⟨g,0,none⟩)
 | .func f=>some (.V (.func (.func f) #[] #[]))
theorem KOn {l:KEnv} {x:Operand} {k:Kd} (h:opk l x=some k):opv (encL l) x=some k.e:=by
 cases x with
 |tmp t=>exact VH h
 |const v=>simp only [opk]at h;simp only [opv,KRk h]
 |global g=>simp only [opk,Option.some.injEq]at h;subst h;rfl
 |func f=>simp only [opk,Option.some.injEq]at h;subst h;rfl
def opks (l:KEnv):List Operand→Option (List Kd)
 | []=>some []
 |x::r=>match opk l x with
  |some k=>match opks l r with
   |some ks=>some (k::ks)
   |none=>none
  |none=>none
theorem KNs {l:KEnv}:∀{xs:List Operand} {ks:List Kd},opks l xs=some ks→opvs (encL l) xs=some (ks.map Kd.e)
 | [],ks,h=>by simp only [opks,Option.some.injEq]at h;subst h;rfl
 |x::r,ks,h=>by
  simp only [opks]at h
  cases h1:opk l x with
  |none=>rw [h1]at h;cases h
  |some k=>
   rw [h1]at h
   simp only at h
   cases h2:opks l r with
   |none=>rw [h2]at h;cases h
   |some ks'=>
    rw [h2]at h
    simp only [Option.some.injEq]at h
    subst h
    simp only [opvs,KOn h1,KNs h2,List.map_cons]
def oppk (l:KEnv):List (Nat×Operand)→Option (List (Nat×Value))
 | []=>some []
 |(i,x)::r=>match opk l x with
  |some k=>match oppk l r with
   |some ks=>some ((i,k.e)::ks)
   |none=>none
  |none=>none
theorem KNt {l:KEnv}:∀{xs:List (Nat×Operand)} {ks:List (Nat×Value)},oppk l xs=some ks→opps (encL l) xs=some ks
 | [],ks,h=>by simp only [oppk,Option.some.injEq]at h;subst h;rfl
 |(i,x)::r,ks,h=>by
  simp only [oppk]at h
  cases h1:opk l x with
  |none=>rw [h1]at h;cases h
  |some k=>
   rw [h1]at h
   simp only at h
   cases h2:oppk l r with
   |none=>rw [h2]at h;cases h
   |some ks'=>
    rw [h2]at h
    simp only [Option.some.injEq]at h
    subst h
    simp only [opps,KOn h1,KNt h2]
inductive Tk where
 |I (k:IntKind)|B|S|A|P|L|Mp|G|V|N|T (l:List Tk)
def Tk.t0:Tk→Type
 | .I _=>Int
 | .B=>Bool
 | .S=>ByteArray
 | .A=>Addr
 | .P=>Option Addr
 | .L=>Sl
 | .Mp=>Option Nat
 | .G=>Array Value
 | .V=>Value
 | .N=>Value
 | .T _=>Unit
def Tup:List Tk→Type
 | []=>Unit
 | [k]=>k.t0
 |k::k'::r=>k.t0×Tup (k'::r)
def Tk.kd:(τ:Tk)→τ.t0→Kd
 | .I k,x=>.I k x
 | .B,x=>.B x
 | .S,x=>.S x
 | .A,x=>.A x
 | .P,x=>.P x
 | .L,x=>.L x
 | .Mp,x=>.Mp x
 | .G,x=>.G x
 | .V,x=>.V x
 | .N,x=>.N x
 | .T _,_=>.T []
def KD5 (a b:IntKind):Bool:=match a,b with
 | .i8,.i8| .i16,.i16| .i32,.i32| .i64,.i64| .u8,.u8| .u16,.u16| .u32,.u32| .u64,.u64=>true
 |_,_=>false
theorem N7 {a b:IntKind} (h:KD5 a b=true):a=b:=by cases a<;>cases b<;>first|rfl|cases h
def Tk.of:(τ:Tk)→(k:Kd)→Option τ.t0
 | .I k,.I k' x=>bif KD5 k' k then some x else none
 | .B,.B b=>some b
 | .B,.C b=>some b
 | .S,.S s=>some s
 | .A,.A a=>some a
 | .P,.P p=>some p
 | .P,.A a=>some (some a)
 | .L,.L s=>some s
 | .Mp,.Mp m=>some m
 | .G,.G c=>some c
 | .V,.U=>none
 | .V,.T _=>none
 | .V,.N _=>none
 | .V,k=>some k.e0
 | .N,.N v=>some v
 |_,_=>none
theorem Tk.of_e {τ:Tk} {k:Kd} {x:τ.t0} (h:τ.of k=some x):(τ.kd x).e=k.e:=by
 cases τ with
 |I kk=>
  cases k with
  |I k' y=>
   simp only [Tk.of]at h
   cases hb:KD5 k' kk with
   |false=>rw [hb]at h;cases h
   |true=>
    rw [hb]at h
    have:=N7 hb
    subst this
    have h:=Option.some.inj h
    cases h
    rfl
  |_=>cases h
 |T l=>cases k<;>cases h
 |_=>cases k<;>first|(cases h;done)|(have h:=Option.some.inj h;cases h;rfl)
def kT (P:Program) (t:TypeId):Tk:=match P.underlying t with
 |some (.int k)=>.I k
 |some .bool=>.B
 |some .string=>.S
 |some (.pointer _)=>.P
 |some (.slice _)=>.L
 |some (.map _ _)=>.Mp
 |some (.struct _)=>.G
 |some (.array _ _)=>.G
 |some (.tuple ts)=>.T (ts.toList.map fun t=>match P.underlying t with
  |some (.int k)=>.I k
  |some .bool=>.B
  |some .string=>.S
  |some (.pointer _)=>.P
  |some (.slice _)=>.L
  |some (.map _ _)=>.Mp
  |some (.struct _)=>.G
  |some (.array _ _)=>.G
  |_=>.V)
 |_=>.V
def tupL:(ks:List Tk)→List Kd→Option (Tup ks)
 | [],[]=>some ()
 | [k],[x]=>k.of x
 |k::k'::r,x::xs=>match k.of x with
  |some v=>match tupL (k'::r) xs with
   |some t=>some (v,t)
   |none=>none
  |none=>none
 |_,_=>none
def kdL:(ks:List Tk)→Tup ks→List Kd
 | [],_=>[]
 | [k],x=>[k.kd x]
 |k::k'::r,x=>k.kd x.1::kdL (k'::r) x.2
theorem KKS {ks:List Tk}:∀{xs:List Kd} {t:Tup ks},tupL ks xs=some t→xs.map Kd.e=(kdL ks t).map Kd.e:=by
 induction ks with
 |nil=>
  intro xs t h
  cases xs with
  |nil=>rfl
  |cons x xs=>cases h
 |cons k ks ih=>
  intro xs t h
  cases ks with
  |nil=>
   cases xs with
   |nil=>cases h
   |cons x xs=>
    cases xs with
    |nil=>
     have h1:k.of x=some t:=h
     show [x.e]=[(k.kd t).e]
     rw [Tk.of_e h1]
    |cons y ys=>cases h
  |cons k' r=>
   cases xs with
   |nil=>cases h
   |cons x xs=>
    have h0:(match k.of x with|some v=>(match tupL (k'::r) xs with|some t=>some (v,t)|none=>none)|none=>none)=some t:=h
    cases h1:k.of x with
    |none=>rw [h1]at h0;cases h0
    |some v=>
     rw [h1]at h0
     cases h2:tupL (k'::r) xs with
     |none=>rw [h2]at h0;cases h0
     |some t'=>
      rw [h2]at h0
      have h3:(v,t')=t:=Option.some.inj h0
      show x.e::xs.map Kd.e=(k.kd (Prod.fst t)).e::(kdL (k'::r) (Prod.snd t)).map Kd.e
      rw [←h3,Tk.of_e h1,ih h2]
def ql (l:KEnv):List Nat→Option (List Kd)
 | []=>some []
 |t::r=>match XJ l t with
  |some k=>match ql l r with
   |some ks=>some (k::ks)
   |none=>none
  |none=>none
def kdR:(τ:List Tk)→Tup τ→Kd
 | [],_=>.T []
 | [k],x=>k.kd x
 |k::k'::r,x=>.T (kdL (k::k'::r) x)
def encR (τ:List Tk) (x:Tup τ):Value:=(kdR τ x).e
def ldT:(τ:Tk)→Addr→M τ.t0
 | .I k,a=>ldI k a
 | .B,a=>ldB a
 | .S,a=>ldS a
 | .P,a=>ldP a
 | .L,a=>ldL a
 | .Mp,a=>ldMp a
 | .V,a=>ldV a
 |_,_=>M.fail
theorem KQV {τ:Tk} {a:Addr} {ρ:Type} {f:τ.t0→M ρ} {h:Heap} {Q:ρ→Heap→Prop} (H:(ldT τ a>>=f).wp h Q):∃x,KM h a=some (τ.kd x).e∧(f x).wp h Q:=by
 cases τ<;>first|exact H.elim|(obtain⟨x,hx,H⟩:=H;exact⟨x,hx,H⟩)
def fdT:(τ:Tk)→Array Value→Nat→M τ.t0
 | .I k,c,i=>fdI k c i
 | .B,c,i=>fdB c i
 | .S,c,i=>fdS c i
 | .P,c,i=>fdP c i
 | .L,c,i=>fdL c i
 | .Mp,c,i=>fdMp c i
 | .V,c,i=>fdV c i
 |_,_,_=>M.fail
theorem KRl {τ:Tk} {c:Array Value} {i:Nat} {ρ:Type} {f:τ.t0→M ρ} {h:Heap} {Q:ρ→Heap→Prop} (H:(fdT τ c i>>=f).wp h Q):∃x,c[i]?=some (τ.kd x).e∧(f x).wp h Q:=by
 cases τ<;>first|exact H.elim|(obtain⟨x,hx,H⟩:=H;exact⟨x,hx,H⟩)
def KD6 (P:Program) (l:KEnv) (o:Oper) (v:Value):Prop:=∀(n:Frm) (a:Act) (w:World),Env n a (encL l)→(execOp a.eval o).run P w=.ok (.value v) w
inductive OpS (P:Program) (l:KEnv) (o:Oper):Type 1 where
 |v (kd:Kd) (ok:KD6 P l o kd.e)
 |p (run:∀{ρ:Type},(Kd→M ρ)→M ρ) (ok:∀(ρ:Type) (K:Kd→M ρ) h Q,(run K).wp h Q→∃kd,(K kd).wp h Q∧KD6 P l o kd.e)
 |r (run:∀{ρ:Type},(Kd→(Heap→Prop)→M ρ)→M ρ) (ok:∀(ρ:Type) (K:Kd→(Heap→Prop)→M ρ) h Q,(run K).wp h Q→∃kd fact,(K kd fact).wp h Q∧fact h∧∀(n:Frm) (a:Act) (w:World),Env n a (encL l)→fact w.heap→(execOp a.eval o).run P w=.ok (.value kd.e) w)
 |e (run:∀{ρ:Type},(Kd→M ρ)→M ρ) (ok:∀(ρ:Type) (K:Kd→M ρ) (n:Frm) (a:Act) (w:World) Q,Env n a (encL l)→(run K).wp w.heap Q→∃kd w1,(execOp a.eval o).run P w=.ok (.value kd.e) w1∧Rest w w1∧(K kd).wp w1.heap Q)
 |s (run:∀{ρ:Type},M ρ→M ρ) (ok:∀(ρ:Type) (K:M ρ) (n:Frm) (a:Act) (w:World) Q,Env n a (encL l)→(run K).wp w.heap Q→∃w1,(execOp a.eval o).run P w=.ok .skip w1∧Rest w w1∧K.wp w1.heap Q)
 |c (run:∀{ρ:Type},(Kd→M ρ)→M ρ) (ok:∀(ρ:Type) (K:Kd→M ρ) (n:Frm) (a:Act) (w:World) Q,Env n a (encL l)→(run K).wp w.heap Q→∃f args,(execOp a.eval o).run P w=.ok (.enter f args) w∧Calls P f args w fun e w'=>∃kd:Kd,e=.returned kd.e∧(K kd).wp w'.heap Q∧Rest w w')
 |cv (τ:List Tk) (v:Value) (vs:List Value) (ok:∃(x:Operand) (args:Array Operand) (ts:Array TypeId),o.op=.call {callee:=.value x,args:=args,argTypes:=ts}∧opv (encL l) x=some v∧opvs (encL l) args.toList=some vs)
section find
variable {β:Type 1} (P:Program) (l:KEnv)
def wk (x:Operand) (f:(k:Kd)→opv (encL l) x=some k.e→Option β):Option β:=match h:opk l x with
 |some k=>f k (KOn h)
 |none=>none
def wI (x:Operand) (f:(k:IntKind)→(i:Int)→opv (encL l) x=some (.int k i)→Option β):Option β:=wk l x fun kd h=>match kd,h with
 | .I k i,h=>f k i h
 |_,_=>none
def wB (x:Operand) (f:(b:Bool)→opv (encL l) x=some (.bool b)→Option β):Option β:=wk l x fun kd h=>match kd,h with
 | .B b,h=>f b h
 | .C b,h=>f b h
 |_,_=>none
def wS (x:Operand) (f:(s:ByteArray)→opv (encL l) x=some (.string s)→Option β):Option β:=wk l x fun kd h=>match kd,h with
 | .S b,h=>f b h
 |_,_=>none
def wA (x:Operand) (f:(a:Addr)→opv (encL l) x=some (.pointer (some a))→Option β):Option β:=wk l x fun kd h=>match kd,h with
 | .A b,h=>f b h
 |_,_=>none
def wP (x:Operand) (f:(a:Option Addr)→opv (encL l) x=some (.pointer a)→Option β):Option β:=wk l x fun kd h=>match kd,h with
 | .A b,h=>f (some b) h
 | .P b,h=>f b h
 |_,_=>none
def wL (x:Operand) (f:(s:Sl)→opv (encL l) x=some s.v→Option β):Option β:=wk l x fun kd h=>match kd,h with
 | .L b,h=>f b h
 |_,_=>none
def wMp (x:Operand) (f:(s:Option Nat)→opv (encL l) x=some (.map s)→Option β):Option β:=wk l x fun kd h=>match kd,h with
 | .Mp b,h=>f b h
 |_,_=>none
def wG (x:Operand) (f:(s:Array Value)→opv (encL l) x=some (.agg s)→Option β):Option β:=wk l x fun kd h=>match kd,h with
 | .G b,h=>f b h
 |_,_=>none
def wks (xs:Array Operand) (f:(ks:List Kd)→opvs (encL l) xs.toList=some (ks.map Kd.e)→Option β):Option β:=match h:opks l xs.toList with
 |some k=>f k (KNs h)
 |none=>none
def wps (xs:Array (Nat×Operand)) (f:(ks:List (Nat×Value))→opps (encL l) xs.toList=some ks→Option β):Option β:=match h:oppk l xs.toList with
 |some k=>f k (KNt h)
 |none=>none
def wb (b:Bool) (f:b=true→Option β):Option β:=match h:b with
 |true=>f rfl
 |false=>none
def wU (t:TypeId) (f:(d:TypeDesc)→P.underlying t=some d→Option β):Option β:=match h:P.underlying t with
 |some d=>f d h
 |none=>none
def wZ (t:TypeId) (f:(z:Value)→(P.info? t).bind (·.zero)=some z→Option β):Option β:=match h:(P.info? t).bind (·.zero)with
 |some d=>f d h
 |none=>none
def wSz (t:TypeId) (f:(m:Nat)→szB P t m=true→Option β):Option β:=match h:P.info? t with
 |some i=>f i.size (by unfold szB;rw [h];exact Nat.beq_refl _)
 |none=>none
def wO {α:Type} (x:Option α) (f:(y:α)→x=some y→Option β):Option β:=match h:x with
 |some y=>f y rfl
 |none=>none
end find
def apOf (P:Program) (t e:TypeId):Option (Nat×Nat×Array Value):=(P.info? e).bind fun i=>i.zero.map fun v=>(i.size,i.bytes,v.cells)
theorem Vt {w:World} {h:Heap}:Rest w {w with heap:=h}:=⟨rfl,rfl,rfl,Nat.le_refl _⟩
end Gx
namespace Gx
open Go
structure CalleeS (P:Program):Type 1 where
 f:FuncId
 sem:∀(l:KEnv) (dst:Option Tmp) (ty:TypeId) (pos:String) (aft:Array Edge) (g:Option (Nat×Bool)) (args:Array Operand) (ts:Array TypeId) (f':FuncId),f'=f→
  Option (OpS P l ⟨dst,.call {callee:=.value (.func f'),args:=args,argTypes:=ts},ty,pos,aft,g⟩)
def mkC {P:Program} (f:FuncId) (cl:Callee? P f) (ks rk:List Tk) (F:Tup ks→M (Tup rk)) (S:∀t,ZG P f ((kdL ks t).map Kd.e).toArray (encR rk) (F t)):CalleeS P where
 f:=f
 sem l dst ty pos aft g args ts f' hf:=wks l args fun kds h=>match ht:tupL ks kds with
  |none=>none
  |some t=>some (.c (fun K=>F t>>=fun r=>K (kdR rk r)) (by
   subst hf
   intro ρ K n a w Q hE H
   rw [KKS ht]at h
   exact⟨f',_,Nb hE cl h,((S t) w _ H).mono fun e w' ⟨r,h1,h2,h3⟩=>⟨_,h1,h2,h3⟩⟩))
def KQW {P:Program} (f:FuncId):List (CalleeS P)→Option {c:CalleeS P // f=c.f}
 | []=>none
 |c::r=>match h:Nat.beq f c.f with
  |true=>some ⟨c,Nat.eq_of_beq_eq_true h⟩
  |false=>KQW f r
section
variable (P:Program) (l:KEnv) (dst:Option Tmp) (ty:TypeId) (pos:String) (aft:Array Edge) (g:Option (Nat×Bool))
section bin
variable {P l dst ty pos aft g}
theorem Jk {op:BinOp} {xt yt:TypeId} {x y:Operand} {u v r:Value} (hx:opv (encL l) x=some u) (hy:opv (encL l) y=some v) (hg:∀w:World,(eqGuard op xt x y u v).run P w=.ok () w) (hr:∀w:World,(binOp op xt u v).run P w=.ok r w):
  KD6 P l ⟨dst,.binOp op xt x y yt,ty,pos,aft,g⟩ r:=fun n a w hE=>Kk hE hx hy (hg w) (hr w)
theorem Js {α:Type} {p:α→Prop} {o:Oper} {kd:α→Kd} (h:∀x,p x→KD6 P l o (kd x).e):∀(ρ:Type) (K:Kd→M ρ) (hh:Heap) Q,((M.get fun _ x=>p x)>>=fun x=>K (kd x)).wp hh Q→∃kd,(K kd).wp hh Q∧KD6 P l o kd.e:=
 fun ρ K hh Q ⟨x,hx,H⟩=>⟨kd x,H,h x hx⟩
end bin
def KRm (op:BinOp) (xt:TypeId) (x y:Operand) (yt:TypeId) (k:IntKind) (u:Int) (hx:opv (encL l) x=some (.int k u)) (k':IntKind) (v:Int) (hy:opv (encL l) y=some (.int k' v)):Option (OpS P l ⟨dst,.binOp op xt x y yt,ty,pos,aft,g⟩):=
 let go (r:Kd) (h:k'=k→∀w:World,(binOp op xt (.int k u) (.int k' v)).run P w=.ok r.e w):Option (OpS P l ⟨dst,.binOp op xt x y yt,ty,pos,aft,g⟩):=match hk:KD5 k' k with
  |true=>some (.v r (Jk hx hy (fun _=>Ki) (h (N7 hk))))
  |false=>none
 let isC (o:Operand):Bool:=match o with| .const _=>true|_=>false
 match op,go with
 | .add,go=>go (.I k (k.wrap (u+v))) (fun e w=>by subst e;exact Vp)
 | .sub,go=>go (.I k (k.wrap (u - v))) (fun e w=>by subst e;exact KRQ)
 | .mul,go=>go (.I k (k.wrap (u*v))) (fun e w=>by subst e;exact KRR)
 | .and,go=>go (.I k (iAnd k u v)) (fun e w=>by subst e;exact KRS)
 | .or,go=>go (.I k (iOr k u v)) (fun e w=>by subst e;exact b_or)
 | .xor,go=>go (.I k (iXor k u v)) (fun e w=>by subst e;exact KRT)
 | .andNot,go=>go (.I k (KG4 k u v)) (fun e w=>by subst e;exact KL9)
 | .eql,go=>go (.B (u==v)) (fun e w=>by subst e;exact W9)
 | .neq,go=>go (.B (u !=v)) (fun e w=>by subst e;exact KDZ)
 | .lss,go=>go (.B (decide (u<v))) (fun e w=>by subst e;exact NU)
 | .leq,go=>go (.B (decide (u≤v))) (fun e w=>by subst e;exact KRU)
 | .gtr,go=>go (.B (decide (u>v))) (fun e w=>by subst e;exact qv)
 | .geq,go=>go (.B (decide (u≥v))) (fun e w=>by subst e;exact KBm)
 | .shl,_=>match isC y with
  |true=>match hv:decide (0≤v)with
   |true=>some (.v (.I k (iShl k u v)) (Jk hx hy (fun _=>Ki) (fun w=>KOM ⟨of_decide_eq_true hv,rfl⟩)))
   |false=>none
  |false=>some (.p (fun K=>pShl k u v>>=fun z=>K (.I k z)) (Js fun z hz=>Jk hx hy (fun _=>Ki) (fun w=>KOM hz)))
 | .shr,_=>match isC y with
  |true=>match hv:decide (0≤v)with
   |true=>some (.v (.I k (iShr k u v)) (Jk hx hy (fun _=>Ki) (fun w=>KPv ⟨of_decide_eq_true hv,rfl⟩)))
   |false=>none
  |false=>some (.p (fun K=>pShr k u v>>=fun z=>K (.I k z)) (Js fun z hz=>Jk hx hy (fun _=>Ki) (fun w=>KPv hz)))
 | .quo,_=>match hk:KD5 k' k with
  |false=>none
  |true=>match isC y with
   |true=>match hv:decide (v≠0)with
    |true=>some (.v (.I k (k.wrap (Int.tdiv u v))) (Jk hx hy (fun _=>Ki) (fun w=>by have e:=N7 hk;subst e;exact KPw ⟨of_decide_eq_true hv,rfl⟩)))
    |false=>none
   |false=>some (.p (fun K=>pQuo k u v>>=fun z=>K (.I k z)) (Js fun z hz=>Jk hx hy (fun _=>Ki) (fun w=>by have e:=N7 hk;subst e;exact KPw hz)))
 | .rem,_=>match hk:KD5 k' k with
  |false=>none
  |true=>match isC y with
   |true=>match hv:decide (v≠0)with
    |true=>some (.v (.I k (Int.tmod u v)) (Jk hx hy (fun _=>Ki) (fun w=>by have e:=N7 hk;subst e;exact KPx ⟨of_decide_eq_true hv,rfl⟩)))
    |false=>none
   |false=>some (.p (fun K=>pRem u v>>=fun z=>K (.I k z)) (Js fun z hz=>Jk hx hy (fun _=>Ki) (fun w=>by have e:=N7 hk;subst e;exact KPx hz)))
def fkOf (P:Program) (t:TypeId):List FK:=(P.fieldsOf t).toList.map fun f=>match P.underlying f.type with
 |some (.int k)=>.I k
 |some .bool=>.B
 |_=>.S
def KRn (op:BinOp) (xt:TypeId) (x y:Operand) (yt:TypeId) (k1:Kd) (hx:opv (encL l) x=some k1.e) (k2:Kd) (hy:opv (encL l) y=some k2.e):Option (OpS P l ⟨dst,.binOp op xt x y yt,ty,pos,aft,g⟩):=
 match op with
 | .eql=>match k1,hx,k2,hy with
  | .A p,hx,.P none,hy=>wU P xt fun d hd=>match d,hd with
   | .pointer e,hd=>some (.v (.B (some p).isNone) (Jk hx hy (fun _=>KMI) (fun w=>KNj hd)))
   |_,_=>none
  | .P p,hx,.P none,hy=>wU P xt fun d hd=>match d,hd with
   | .pointer e,hd=>some (.v (.B p.isNone) (Jk hx hy (fun _=>KMI) (fun w=>KNj hd)))
   |_,_=>none
  | .L s,hx,.L ⟨none,0,0⟩,hy=>wU P xt fun d hd=>match d,hd with
   | .slice e,hd=>some (.v (.B s.base.isNone) (Jk hx hy (fun _=>g_sl (v:=Sl.nil)) (fun w=>KP4 hd)))
   |_,_=>none
  | .Mp m,hx,.Mp none,hy=>wU P xt fun d hd=>match d,hd with
   | .map k e,hd=>some (.v (.B m.isNone) (Jk hx hy (fun _=>g_mp) (fun w=>KP6 hd)))
   |_,_=>none
  | .B u,hx,.B v,hy=>wU P xt fun d hd=>match d,hd with
   | .bool,hd=>some (.v (.B (u==v)) (Jk hx hy (fun _=>KH5) (fun w=>KNm hd)))
   |_,_=>none
  | .B u,hx,.C v,hy=>wU P xt fun d hd=>match d,hd with
   | .bool,hd=>some (.v (.B (u==v)) (Jk hx hy (fun _=>KH5) (fun w=>KNm hd)))
   |_,_=>none
  | .S u,hx,.S v,hy=>some (.v (.B (sEq u v)) (Jk hx hy (fun _=>KFo) (fun w=>KNo)))
  | .V v,hx,.V .nilFunc,hy=>wb (fnB P xt) fun ht=>some (.p (fun K=>isNF v>>=fun b=>K (.B b)) (Js fun b hb=>Jk hx hy (fun _=>g_fn hb) (fun w=>KQO ht hb)))
  | .V v,hx,.V .nilIface,hy=>match y,hy with
   | .const c,hy=>wb (ifB P xt) fun ht=>some (.p (fun K=>isNI v>>=fun b=>K (.B b)) (Js fun b hb=>Jk hx hy (fun _=>g_ni hb) (fun w=>KFs ht hb)))
   |_,_=>none
  | .V v,hx,.V (.iface te (.int kk n)),hy=>wb (ifB P xt) fun ht=>wb (cmB P te) fun hc=>some (.p (fun K=>eqII te v (.iface te (.int kk n))>>=fun b=>K (.B b)) (Js fun b hb=>Jk hx hy (fun _=>g_ii hb) (fun w=>KQR ht hc hb)))
  | .G u,hx,.G v,hy=>wU P xt fun d hd=>match d,hd with
   | .struct _,_=>wb (!P.eqGuardType P.depth xt) fun he=>wb (flB P xt (fkOf P xt)) fun hf=>some (.p (fun K=>eqS (fkOf P xt) u v>>=fun b=>K (.B b)) (Js fun b hb=>Jk hx hy (fun _=>KMJ (by simpa using he)) (fun w=>KQM hf hb)))
   | .array q e,hd=>wU P e fun d2 hd2=>match d2,hd2 with
    | .int k,hd2=>wb (!P.eqGuardType P.depth xt) fun he=>wb (szB P e 1) fun hs=>some (.p (fun K=>eqA k q u v>>=fun b=>K (.B b)) (Js fun b hb=>Jk hx hy (fun _=>KMJ (by simpa using he)) (fun w=>KQE hd hd2 hs hb)))
    |_,_=>none
   |_,_=>none
  |_,_,_,_=>none
 | .neq=>match k1,hx,k2,hy with
  | .A p,hx,.P none,hy=>wU P xt fun d hd=>match d,hd with
   | .pointer e,hd=>some (.v (.B !(some p).isNone) (Jk hx hy (fun _=>KMI) (fun w=>KNk hd)))
   |_,_=>none
  | .P p,hx,.P none,hy=>wU P xt fun d hd=>match d,hd with
   | .pointer e,hd=>some (.v (.B !p.isNone) (Jk hx hy (fun _=>KMI) (fun w=>KNk hd)))
   |_,_=>none
  | .L s,hx,.L ⟨none,0,0⟩,hy=>wU P xt fun d hd=>match d,hd with
   | .slice e,hd=>some (.v (.B !s.base.isNone) (Jk hx hy (fun _=>g_sl (v:=Sl.nil)) (fun w=>KP5 hd)))
   |_,_=>none
  | .Mp m,hx,.Mp none,hy=>wU P xt fun d hd=>match d,hd with
   | .map k e,hd=>some (.v (.B !m.isNone) (Jk hx hy (fun _=>g_mp) (fun w=>KP7 hd)))
   |_,_=>none
  | .B u,hx,.B v,hy=>wU P xt fun d hd=>match d,hd with
   | .bool,hd=>some (.v (.B (u !=v)) (Jk hx hy (fun _=>KH5) (fun w=>KNn hd)))
   |_,_=>none
  | .B u,hx,.C v,hy=>wU P xt fun d hd=>match d,hd with
   | .bool,hd=>some (.v (.B (u !=v)) (Jk hx hy (fun _=>KH5) (fun w=>KNn hd)))
   |_,_=>none
  | .S u,hx,.S v,hy=>some (.v (.B !(sEq u v)) (Jk hx hy (fun _=>KFo) (fun w=>KP8)))
  | .V v,hx,.V .nilFunc,hy=>wb (fnB P xt) fun ht=>some (.p (fun K=>isNF v>>=fun b=>K (.B !b)) (Js fun b hb=>Jk hx hy (fun _=>g_fn hb) (fun w=>KQP ht hb)))
  | .V v,hx,.V .nilIface,hy=>match y,hy with
   | .const c,hy=>wb (ifB P xt) fun ht=>some (.p (fun K=>isNI v>>=fun b=>K (.B !b)) (Js fun b hb=>Jk hx hy (fun _=>g_ni hb) (fun w=>KQQ ht hb)))
   |_,_=>none
  | .G u,hx,.G v,hy=>wU P xt fun d hd=>match d,hd with
   | .struct _,_=>wb (!P.eqGuardType P.depth xt) fun he=>wb (flB P xt (fkOf P xt)) fun hf=>some (.p (fun K=>eqS (fkOf P xt) u v>>=fun b=>K (.B !b)) (Js fun b hb=>Jk hx hy (fun _=>KMJ (by simpa using he)) (fun w=>KQN hf hb)))
   | .array q e,hd=>wU P e fun d2 hd2=>match d2,hd2 with
    | .int k,hd2=>wb (!P.eqGuardType P.depth xt) fun he=>wb (szB P e 1) fun hs=>some (.p (fun K=>eqA k q u v>>=fun b=>K (.B !b)) (Js fun b hb=>Jk hx hy (fun _=>KMJ (by simpa using he)) (fun w=>KQF hd hd2 hs hb)))
    |_,_=>none
   |_,_=>none
  |_,_,_,_=>none
 | .add=>match k1,hx,k2,hy with
  | .S u,hx,.S v,hy=>some (.p (fun K=>sCat u v>>=fun r=>K (.S r)) (Js fun r hr=>Jk hx hy (fun _=>KFo) (fun w=>KQD hr)))
  |_,_,_,_=>none
 | .lss=>match k1,hx,k2,hy with
  | .S u,hx,.S v,hy=>some (.v (.B (sLt u v)) (Jk hx hy (fun _=>KFo) (fun w=>KP9)))
  |_,_,_,_=>none
 | .leq=>match k1,hx,k2,hy with
  | .S u,hx,.S v,hy=>some (.v (.B (sLt u v||sEq u v)) (Jk hx hy (fun _=>KFo) (fun w=>KQA)))
  |_,_,_,_=>none
 | .gtr=>match k1,hx,k2,hy with
  | .S u,hx,.S v,hy=>some (.v (.B !(sLt u v||sEq u v)) (Jk hx hy (fun _=>KFo) (fun w=>KQB)))
  |_,_,_,_=>none
 | .geq=>match k1,hx,k2,hy with
  | .S u,hx,.S v,hy=>some (.v (.B !(sLt u v)) (Jk hx hy (fun _=>KFo) (fun w=>KQC)))
  |_,_,_,_=>none
 |_=>none
def sBin (op:BinOp) (xt:TypeId) (x y:Operand) (yt:TypeId):Option (OpS P l ⟨dst,.binOp op xt x y yt,ty,pos,aft,g⟩):=
 wk l x fun k1 hx=>wk l y fun k2 hy=>match k1,hx,k2,hy with
  | .I k u,hx,.I k' v,hy=>KRm P l dst ty pos aft g op xt x y yt k u hx k' v hy
  |k1,hx,k2,hy=>KRn P l dst ty pos aft g op xt x y yt k1 hx k2 hy
def KRo (t:TypeId) (x:Operand):Option (OpS P l ⟨dst,.load t x,ty,pos,aft,g⟩):=
 wA l x fun p hx=>match kT P t with
  | .G=>wSz P t fun m _=>wb (agB P t m) fun ha=>some (.r (fun K=>ldG m p>>=fun c=>K (.G c) (fun h=>c.size=m∧∀i,i<m→KM h (Addr.add p i)=c[i]?))
    (fun ρ K h Q ⟨c,hc,H⟩=>⟨_,_,H,hc,fun n a w hE hf=>Ui hE hx ha hf⟩))
  |τ=>wb (scB P t) fun hs=>some (.r (fun K=>ldT τ p>>=fun c=>K (τ.kd c) (fun h=>KM h p=some (τ.kd c).e))
    (fun ρ K h Q H=>by
     obtain⟨c,hc,H⟩:=KQV H
     exact⟨_,_,H,hc,fun n a w hE hf=>KS hE hx hs hf⟩))
def KQX (t:TypeId) (x y:Operand):Option (OpS P l ⟨dst,.store t x y,ty,pos,aft,g⟩):=
 wA l x fun p hx=>match kT P t with
  | .G=>wG l y fun c hy=>wSz P t fun m hm=>some (.s (fun K=>M.need (c.size=m)>>=fun _=>stG p c>>=fun _=>K)
    (fun ρ K n a w Q hE H=>by
     obtain⟨hz,_,hc,H⟩:=H
     exact⟨_,Kh hE hx hy hm hz hc,Vt,H⟩))
  |_=>wk l y fun v hy=>wb (szB P t 1) fun hm=>some (.s (fun K=>stV p v.e>>=fun _=>K)
    (fun ρ K n a w Q hE H=>by
     obtain⟨_,hc,H⟩:=H
     exact⟨_,ZB hE hx hy hm hc,Vt,H⟩))
end
end Gx
namespace Gx
open Go
section
variable (P:Program) (l:KEnv) (dst:Option Tmp) (ty:TypeId) (pos:String) (aft:Array Edge) (g:Option (Nat×Bool))
def KQY (t:TypeId) (x:Operand) (lo hi mx:Option Operand):Option (OpS P l ⟨dst,.slice t x lo hi mx,ty,pos,aft,g⟩):=
 wU P t fun d hd=>match d,hd with
  | .array q e,hd=>wA l x fun p hx=>wSz P e fun m hm=>match lo,hi,mx with
   |some y,some z,none=>wI l y fun k u hy=>wI l z fun k' v hz=>some (.p (fun K=>slA p q u v m>>=fun r=>K (.L r)) (Js fun r hr n a w hE=>KG9 hE hx hy hz hd hm hr))
   |some y,none,none=>wI l y fun k u hy=>some (.p (fun K=>slA p q u q m>>=fun r=>K (.L r)) (Js fun r hr n a w hE=>KJH hE hx hy hd hm hr))
   |none,some z,none=>wI l z fun k' v hz=>some (.p (fun K=>slA p q 0 v m>>=fun r=>K (.L r)) (Js fun r hr n a w hE=>KJG hE hx hz hd hm hr))
   |none,none,none=>some (.p (fun K=>slA p q 0 q m>>=fun r=>K (.L r)) (Js fun r hr n a w hE=>KKB hE hx hd hm hr))
   |_,_,_=>none
  | .slice e,hd=>wL l x fun s hx=>wSz P e fun m hm=>match lo,hi,mx with
   |some y,some z,none=>wI l y fun k u hy=>wI l z fun k' v hz=>some (.p (fun K=>slL s u v m>>=fun r=>K (.L r)) (Js fun r hr n a w hE=>KHA hE hx hy hz hd hm hr))
   |some y,none,none=>wI l y fun k u hy=>some (.p (fun K=>slL s u s.len m>>=fun r=>K (.L r)) (Js fun r hr n a w hE=>KA2 hE hx hy hd hm hr))
   |none,some z,none=>wI l z fun k' v hz=>some (.p (fun K=>slL s 0 v m>>=fun r=>K (.L r)) (Js fun r hr n a w hE=>KJI hE hx hz hd hm hr))
   |none,none,none=>some (.p (fun K=>slL s 0 s.len m>>=fun r=>K (.L r)) (Js fun r hr n a w hE=>KKC hE hx hd hm hr))
   |some y,some z,some u=>wI l y fun k lo hy=>wI l z fun k' hi hz=>wI l u fun k'' mx hu=>some (.p (fun K=>slL3 s lo hi mx m>>=fun r=>K (.L r)) (Js fun r hr n a w hE=>KKI hE hx hy hz hu hd hm hr))
   |none,some z,some u=>wI l z fun k' hi hz=>wI l u fun k'' mx hu=>some (.p (fun K=>slL3 s 0 hi mx m>>=fun r=>K (.L r)) (Js fun r hr n a w hE=>KHD hE hx hz hu hd hm hr))
   |_,_,_=>none
  | .string,hd=>wS l x fun s hx=>match lo,hi,mx with
   |some y,some z,none=>wI l y fun k u hy=>wI l z fun k' v hz=>some (.p (fun K=>slS s u v>>=fun r=>K (.S r)) (Js fun r hr n a w hE=>KCS hE hx hy hz hd hr))
   |some y,none,none=>wI l y fun k u hy=>some (.p (fun K=>slS s u s.size>>=fun r=>K (.S r)) (Js fun r hr n a w hE=>KD1 hE hx hy hd hr))
   |none,some z,none=>wI l z fun k' v hz=>some (.p (fun K=>slS s 0 v>>=fun r=>K (.S r)) (Js fun r hr n a w hE=>KJJ hE hx hz hd hr))
   |_,_,_=>none
  |_,_=>none
def KRp (s d:TypeId) (x:Operand):Option (OpS P l ⟨dst,.convert s d x,ty,pos,aft,g⟩):=
 wU P s fun ds hs=>wU P d fun dd hd=>match ds,hs,dd,hd with
  | .int _,hs,.int k',hd=>wI l x fun k i hx=>some (.v (.I k' (k'.wrap i)) (fun n a w hE=>KJt hE hx hs hd))
  | .string,hs,.string,hd=>wS l x fun u hx=>some (.v (.S u) (fun n a w hE=>KOb hE hx hs hd))
  | .slice e,hs,.string,hd=>wL l x fun u hx=>wU P e fun de he=>match de,he with
   | .int .u8,he=>some (.r (fun K=>b2s u>>=fun r=>K (.S r) (fun h=>∃ns:List UInt8,ns.length=u.len∧Gq h u.base (ns.map fun b=>Value.int .u8 (b.toNat:Int))∧r=⟨ns.toArray⟩)) (fun ρ K h Q ⟨r,hr,H⟩=>⟨_,_,H,hr,fun n a w hE hf=>KKH hE hx hs hd he hf⟩))
   |_,_=>none
  | .string,hs,.slice e,hd=>wS l x fun u hx=>wU P e fun de he=>match de,he with
   | .int .u8,he=>some (.e (fun K=>s2b e u>>=fun r=>K (.L r)) (fun ρ K n a w Q hE H=>by
     obtain⟨r,w1,h1,h2,h3⟩:=KOc hE hx hs hd he (M.unbind H)
     exact⟨.L r,w1,h1,h2,h3⟩))
   |_,_=>none
  | .slice e,hs,.slice _,hd=>wL l x fun u hx=>wU P e fun de he=>match de,he with
   | .int .u8,he=>match h:Nat.beq s d with
    |true=>some (.e (fun K=>mrk u>>=fun r=>K (.L r)) (fun ρ K n a w Q hE ⟨r,hr,H⟩=>by
      have e:=Nat.eq_of_beq_eq_true h
      subst e
      exact⟨.L r,_,KRe hE hx hs he hr,Vt,H⟩))
    |false=>none
   |_,_=>none
  |_,_,_,_=>none
def Tk.flat:Tk→Bool
 | .T _=>false
 |_=>true
theorem Tk.flat_e {τ:Tk} (h:τ.flat=true) (x:τ.t0):(τ.kd x).flat=true:=by cases τ<;>first|rfl|cases h
def KOo (t:TypeId) (x y:Operand) (ok:Bool):Option (OpS P l ⟨dst,.lookup t x y ok,ty,pos,aft,g⟩):=
 wU P t fun d hd=>match d,hd with
  | .map kt e,hd=>wMp l x fun m hx=>wk l y fun kk hy=>wU P kt fun kd hk=>wb (keyB kd) fun hb=>wZ P e fun z hz=>wb (kT P e).flat fun hfl=>
   let dec:=fun v:(kT P e).t0=>((kT P e).kd v).e
   match ok with
   |true=>some (.r (fun K=>lkM dec kd kk.e z m>>=fun r=>K (.T [(kT P e).kd r.1,.B r.2]) (fun h=>∃es res,mget h m=some es∧Instr.findNow kd kk.e es.toList 0=some res∧dec r.1=(match res with|some p=>p.2|none=>z)∧r.2=res.isSome))
     (fun ρ K h Q ⟨r,hr,H⟩=>⟨_,_,H,hr,fun n a w hE hf=>by
      have:=KKE (dec:=dec) (dst:=dst) (ty:=ty) (pos:=pos) (aft:=aft) (g:=g) hE hx hy hd hk hb hz hf
      rw [this]
      show _=Result.ok (Next.value (.tuple #[((kT P e).kd r.1).e0,.bool r.2])) w
      rw [←Kd.e_flat (Tk.flat_e hfl r.1)]⟩))
   |false=>some (.r (fun K=>lkM dec kd kk.e z m>>=fun r=>K ((kT P e).kd r.1) (fun h=>∃es res,mget h m=some es∧Instr.findNow kd kk.e es.toList 0=some res∧dec r.1=(match res with|some p=>p.2|none=>z)∧r.2=res.isSome))
     (fun ρ K h Q ⟨r,hr,H⟩=>⟨_,_,H,hr,fun n a w hE hf=>KKF (dec:=dec) hE hx hy hd hk hb hz hf⟩))
  |_,_=>none
def KOp (t:TypeId) (x y z:Operand):Option (OpS P l ⟨dst,.mapUpdate t x y z,ty,pos,aft,g⟩):=
 wU P t fun d hd=>match d,hd with
  | .map kt e,hd=>wMp l x fun m hx=>wk l y fun kk hy=>wk l z fun v hz=>wU P kt fun kd hk=>wb (keyB kd) fun hb=>
   some (.s (fun K=>upM kd kk.e v.e m>>=fun _=>K) (fun ρ K n a w Q hE ⟨_,hr,H⟩=>⟨_,KMK hE hx hy hz hd hk hb hr,Vt,H⟩))
  |_,_=>none
def KQZ (t:TypeId) (ps:Array (Nat×Operand)):Option (OpS P l ⟨dst,.build t ps,ty,pos,aft,g⟩):=
 wps l ps fun vs ho=>wZ P t fun z hz=>match ps with
  |⟨[]⟩=>wO (WA P t) fun pl hp=>match h:Instr.fill (pl[·]?) z.cells vs with
   |some cs=>some (.v (.G z.cells) (fun n a w hE=>by
     have h1:vs=[]:=by simpa [opps] using ho.symm
     subst h1
     have h2:cs=z.cells:=by simpa [Instr.fill] using h.symm
     subst h2
     exact Vs hE ho hz hp h))
   |none=>none
  |_=>wO (WA P t) fun pl hp=>
   bif ps.all (fun p=>match(P.fieldsOf t)[p.1]? with
    |some f=>(match kT P f.type with| .G=>false| .V=>false|_=>true)
    |none=>false)then match h:Instr.fill (pl[·]?) z.cells vs with
    |some cs=>some (.v (.G cs) (fun n a w hE=>Vs hE ho hz hp h))
    |none=>none
   else some (.p (fun K=>Xb pl z.cells vs>>=fun c=>K (.G c)) (Js fun c hc n a w hE=>Vs hE ho hz hp hc))
def KOq (t:TypeId) (len:Nat) (ps:Array (Nat×Operand)):Option (OpS P l ⟨dst,.buildSlice t len ps,ty,pos,aft,g⟩):=
 wU P t fun d hd=>match d,hd with
  | .slice e,hd=>wps l ps fun vs ho=>wSz P e fun m hm=>wZ P e fun z hz=>wb (Nat.ble (len*m) 16777216) fun hl=>
   bif Nat.beq m 1 then match h:Instr.fill (fun i=>some (i*m,m)) (zRow z.cells (len*m)) vs with
    |some cs=>some (.e (fun K=>bdL e len cs>>=fun r=>K (.L r)) (fun ρ K n a w Q hE ⟨r,hr,H⟩=>⟨.L r,_,J4 hE ho hd hm hz hl h hr,Vt,H⟩))
    |none=>none
   else some (.e (fun K=>XI m len z.cells vs>>=fun cs=>bdL e len cs>>=fun r=>K (.L r)) (fun ρ K n a w Q hE ⟨cs,hc,r,hr,H⟩=>⟨.L r,_,J4 hE ho hd hm hz hl hc hr,Vt,H⟩))
  |_,_=>none
def KQa (t:TypeId) (x:Operand) (f:Nat):Option (OpS P l ⟨dst,.field t x f,ty,pos,aft,g⟩):=
 wG l x fun c hx=>wO (fdoB P t f) fun of hf=>match of,hf with
  |(off,ft),hf=>match kT P ft with
   | .G=>wSz P ft fun m _=>wb (agB P ft m) fun ha=>some (.v (.G (c.extract off (off+m))) (fun n a w hE=>KMM hE hx hf ha))
   |τ=>wb (scB P ft) fun hs=>some (.p (fun K=>fdT τ c off>>=fun v=>K (τ.kd v)) (fun ρ K h Q H=>by
     obtain⟨v,hv,H⟩:=KRl H
     exact⟨_,H,fun n a w hE=>Ng hE hx hf hs hv⟩))
def KMY (x:Operand) (i:Nat):Option (OpS P l ⟨dst,.extract x i,ty,pos,aft,g⟩):=
 wk l x fun k hx=>match k,hx with
  | .N v,hx=>match i,hx with
   |0,hx=>some (.p (fun K=>exB v 0>>=fun b=>K (.B b)) (Js fun b hb n a w hE=>KQJ hE hx hb))
   |_,_=>none
  | .T ks,hx=>match hi:ks[i]? with
   |none=>none
   |some q=>wb q.flat fun hq=>
    have hv:((ks.map Kd.e0).toArray)[i]?=some q.e:=by
     rw [Kd.e_flat hq]
     simp [hi]
    match q,hv with
    | .V v,hv=>match kT P ty with
     | .I k=>some (.p (fun K=>exI k v>>=fun n=>K (.I k n)) (Js fun r hr n a w hE=>JQ hE hx (hv.trans (congrArg some hr))))
     |_=>some (.v (.V v) (fun n a w hE=>JQ hE hx hv))
    |q,hv=>some (.v q (fun n a w hE=>JQ hE hx hv))
  |_,_=>none
def sUn (op:UnOp) (t:TypeId) (x:Operand):Option (OpS P l ⟨dst,.unOp op t x,ty,pos,aft,g⟩):=match op with
 | .not=>wB l x fun b hx=>some (.v (.B !b) (fun n a w hE=>r_un hE hx KJA))
 | .xor=>wI l x fun k i hx=>some (.v (.I k (iNot k i)) (fun n a w hE=>r_un hE hx KRV))
 | .neg=>wI l x fun k i hx=>some (.v (.I k (k.wrap (0 - i))) (fun n a w hE=>r_un hE hx KRW))
 |_=>none
def KJM (t:TypeId) (x y:Operand):Option (OpS P l ⟨dst,.indexAddr t x y,ty,pos,aft,g⟩):=
 wU P t fun d hd=>match d,hd with
  | .slice e,hd=>wL l x fun s hx=>wI l y fun k i hy=>wSz P e fun m hm=>some (.p (fun K=>ixL s i m>>=fun a=>K (.A a)) (Js fun r hr n a w hE=>Ua hE hx hy hd hm hr))
  | .array q e,hd=>wA l x fun s hx=>wI l y fun k i hy=>wSz P e fun m hm=>some (.p (fun K=>ixA s q i m>>=fun a=>K (.A a)) (Js fun r hr n a w hE=>KFk hE hx hy hd hm hr))
  |_,_=>none
def KKT (x:Operand):Option (OpS P l ⟨dst,.nilCheck x,ty,pos,aft,g⟩):=
 wk l x fun k hx=>match k,hx with
  | .A p,hx=>some (.v (.A p) (fun n a w hE=>KO hE hx))
  | .P p,hx=>some (.p (fun K=>nilP p>>=fun a=>K (.A a)) (Js fun r hr n a w hE=>KO hE (Zu hx (congrArg Value.pointer hr))))
  | .V v,hx=>some (.p (fun K=>nilV v>>=fun a=>K (.V a)) (Js fun r hr n a w hE=>KQL hE (Zu hx hr.1.symm) hr))
  |_,_=>none
def KJN (t:TypeId) (x y:Operand):Option (OpS P l ⟨dst,.makeSlice t x y,ty,pos,aft,g⟩):=
 wU P t fun d hd=>match d,hd with
  | .slice e,hd=>wI l x fun k u hx=>wI l y fun k' v hy=>wO (apOf P t e) fun q hq=>match q,hq with
   |(sz,bytes,z),hq=>some (.e (fun K=>mkS e sz bytes z u v>>=fun r=>K (.L r)) (fun ρ K n a w Q hE H=>by
     obtain⟨r,w1,h1,h2,h3⟩:=KOY hE hx hy ⟨hd,YI hq⟩ (M.unbind H)
     exact⟨.L r,w1,h1,h2,h3⟩))
  |_,_=>none
def KOr (x y:Operand) (t t2:TypeId):Option (OpS P l ⟨dst,.call {callee:=.builtin .append,args:=#[x,y],argTypes:=#[t,t2]},ty,pos,aft,g⟩):=
 wU P t fun d hd=>match d,hd with
  | .slice e,hd=>wL l x fun s hx=>wO (apOf P t e) fun q hq=>match q,hq with
   |(sz,bytes,z),hq=>wk l y fun k hy=>match k,hy with
    | .L u,hy=>match ht:Nat.beq t t2 with
     |true=>some (.e (fun K=>apL e sz bytes z s u>>=fun r=>K (.L r)) (fun ρ K n a w Q hE H=>by
       have e2:=Nat.eq_of_beq_eq_true ht
       subst e2
       obtain⟨r,w1,h1,h2,h3⟩:=GA hE hx hy ⟨hd,YI hq⟩ (M.unbind H)
       exact⟨.L r,w1,h1,h2,h3⟩))
     |false=>none
    | .I .i64 m,hy=>wU P t2 fun d2 hd2=>match d2,hd2 with
     | .int .i64,hd2=>match hz:Nat.beq z.size sz with
      |true=>some (.e (fun K=>apM e sz bytes z s m>>=fun r=>K (.L r)) (fun ρ K n a w Q hE H=>by
       obtain⟨r,w1,h1,h2,h3⟩:=KOf hE hx hy ⟨hd,YI hq⟩ hd2 (Nat.eq_of_beq_eq_true hz) (M.unbind H)
       exact⟨.L r,w1,h1,h2,h3⟩))
      |false=>none
     |_,_=>none
    | .S u,hy=>wU P t2 fun d2 hd2=>match d2,hd2 with
     | .string,hd2=>match sz,bytes,z,hq with
      |1,1,⟨[.int .u8 0]⟩,hq=>some (.e (fun K=>apS e s u>>=fun r=>K (.L r)) (fun ρ K n a w Q hE H=>by
       obtain⟨r,w1,h1,h2,h3⟩:=KOX hE hx hy ⟨hd,YI hq⟩ hd2 (M.unbind H)
       exact⟨.L r,w1,h1,h2,h3⟩))
      |_,_,_,_=>none
     |_,_=>none
    |_,_=>none
  |_,_=>none
def KRq (x y:Operand) (t t2:TypeId):Option (OpS P l ⟨dst,.call {callee:=.builtin .copy,args:=#[x,y],argTypes:=#[t,t2]},ty,pos,aft,g⟩):=
 wU P t fun d hd=>match d,hd with
  | .slice e,hd=>wL l x fun s hx=>wk l y fun k hy=>match k,hy with
   | .L u,hy=>wSz P e fun m hm=>some (.e (fun K=>cpL m s u>>=fun r=>K (.I .i64 r)) (fun ρ K n a w Q hE H=>by
     obtain⟨r,w1,h1,h2,h3⟩:=KQG (u:=t2) hE hx hy hd hm (M.unbind H)
     exact⟨.I .i64 r,w1,h1,h2,h3⟩))
   | .S u,hy=>wb (szB P e 1) fun hm=>some (.e (fun K=>cpSt s u>>=fun r=>K (.I .i64 r)) (fun ρ K n a w Q hE H=>by
     obtain⟨r,w1,h1,h2,h3⟩:=KMV (su:=t2) hE hx hy hd hm (M.unbind H)
     exact⟨.I .i64 r,w1,h1,h2,h3⟩))
   |_,_=>none
  |_,_=>none
def sLen (x:Operand) (t:TypeId):Option (OpS P l ⟨dst,.call {callee:=.builtin .len,args:=#[x],argTypes:=#[t]},ty,pos,aft,g⟩):=
 wU P t fun d hd=>match d,hd with
  | .slice e,hd=>wL l x fun s hx=>some (.v (.I .i64 (s.len:Int)) (fun n a w hE=>KAy hE hx e hd))
  | .string,hd=>wS l x fun s hx=>some (.v (.I .i64 (s.size:Int)) (fun n a w hE=>Yg hE hx hd))
  | .array q e,hd=>wk l x fun k hx=>some (.v (.I .i64 (q:Int)) (fun n a w hE=>KQK hE hx hd))
  | .map kt e,hd=>wMp l x fun m hx=>some (.r (fun K=>lenM m>>=fun r=>K (.I .i64 r) (fun h=>∃es,mget h m=some es∧r=(es.size:Int)))
    (fun ρ K h Q ⟨r,hr,H⟩=>⟨_,_,H,hr,fun n a w hE hf=>KQH hE hx hd hf⟩))
  |_,_=>none
def KQb (x:Operand) (t:TypeId):Option (OpS P l ⟨dst,.call {callee:=.builtin .clear,args:=#[x],argTypes:=#[t]},ty,pos,aft,g⟩):=
 wU P t fun d hd=>match d,hd with
  | .slice e,hd=>wL l x fun s hx=>wO (apOf P t e) fun q hq=>match q,hq with
   |(sz,bytes,z),hq=>some (.e (fun K=>clL z s>>=fun _=>K (.T [])) (fun ρ K n a w Q hE H=>by
     obtain⟨r,w1,h1,h2,h3⟩:=KOj hE hx ⟨hd,YI hq⟩ (M.unbind H)
     exact⟨.T [],w1,h1,h2,h3⟩))
  | .map kt e,hd=>wMp l x fun m hx=>some (.e (fun K=>clM m>>=fun _=>K (.T [])) (fun ρ K n a w Q hE ⟨_,hc,H⟩=>⟨.T [],_,KMN hE hx hd hc,Vt,H⟩))
  |_,_=>none
def KMZ (b:Builtin) (args:Array Operand) (ts:Array TypeId):Option (OpS P l ⟨dst,.call {callee:=.builtin b,args:=args,argTypes:=ts},ty,pos,aft,g⟩):=match b,args,ts with
 | .len,⟨[x]⟩,⟨[t]⟩=>sLen P l dst ty pos aft g x t
 | .cap,⟨[x]⟩,⟨[t]⟩=>wU P t fun d hd=>match d,hd with
  | .slice e,hd=>wL l x fun s hx=>some (.v (.I .i64 (s.cap:Int)) (fun n a w hE=>KRb hE hx e hd))
  |_,_=>none
 | .append,⟨[x,y]⟩,⟨[t,t2]⟩=>KOr P l dst ty pos aft g x y t t2
 | .copy,⟨[x,y]⟩,⟨[t,t2]⟩=>KRq P l dst ty pos aft g x y t t2
 | .clear,⟨[x]⟩,⟨[t]⟩=>KQb P l dst ty pos aft g x t
 | .max,⟨[x,y]⟩,_=>wI l x fun k u hx=>wI l y fun k' v hy=>some (.v (.I k (iMax u v)) (fun n a w hE=>KRd hE hx hy))
 | .min,⟨[x,y]⟩,_=>wI l x fun k u hx=>wI l y fun k' v hy=>some (.v (.I k (iMin u v)) (fun n a w hE=>KRa hE hx hy))
 | .unsafeSliceData,⟨[x]⟩,⟨[t]⟩=>wL l x fun s hx=>some (.p (fun K=>uSD s>>=fun r=>K (.P r)) (Js fun r hr n a w hE=>KRh hE hx hr))
 | .unsafeString,⟨[x,y]⟩,⟨[pt,it]⟩=>wP l x fun p hx=>wI l y fun k m hy=>match k,hy with
  | .i64,hy=>wU P pt fun d hd=>match d,hd with
   | .pointer e,hd=>match hc:Nat.beq (P.cellsOf e) 1 with
    |true=>some (.e (fun K=>uStr e p m>>=fun r=>K (.S r)) (fun ρ K n a w Q hE H=>by
      obtain⟨r,w1,h1,h2,h3⟩:=KMW (it:=it) hE hx hy hd (Nat.eq_of_beq_eq_true hc) (M.unbind H)
      exact⟨.S r,w1,h1,h2,h3⟩))
    |false=>none
   |_,_=>none
  |_,_=>none
 |_,_,_=>none
def semO (C:List (CalleeS P)):(op:Op)→Option (OpS P l ⟨dst,op,ty,pos,aft,g⟩)
 | .move x=>wk l x fun k hx=>some (.v k (fun n a w hE=>KF hE hx))
 | .assign x=>wk l x fun k hx=>some (.v k (fun n a w hE=>KQ hE hx))
 | .pick c x y=>wk l c fun k hc=>match k,hc with
  | .C true,hc=>wk l x fun v hx=>some (.v v (fun n a w hE=>Jj hE hc hx))
  | .C false,hc=>wk l y fun v hy=>some (.v v (fun n a w hE=>Z3 hE hc hy))
  |_,_=>none
 | .makeInterface t x=>wk l x fun k hx=>wb (niB P t) fun ht=>some (.v (.V (.iface t k.e)) (fun n a w hE=>KCX hE hx ht))
 | .alloc t=>wZ P t fun z hz=>some (.e (fun K=>mkB t z.cells>>=fun p=>K (.A p)) (fun ρ K n a w Q hE ⟨p,hp,H⟩=>⟨.A p,_,Z0 hz hp,Vt,H⟩))
 | .box t x=>wk l x fun v hx=>some (.e (fun K=>mkB t v.e.cells>>=fun p=>K (.A p)) (fun ρ K n a w Q hE ⟨p,hp,H⟩=>⟨.A p,_,KFj hE hx hp,Vt,H⟩))
 | .load t x=>KRo P l dst ty pos aft g t x
 | .store t x y=>KQX P l dst ty pos aft g t x y
 | .nilCheck x=>KKT P l dst ty pos aft g x
 | .binOp op xt x y yt=>sBin P l dst ty pos aft g op xt x y yt
 | .unOp op t x=>sUn P l dst ty pos aft g op t x
 | .convert s d x=>KRp P l dst ty pos aft g s d x
 | .fieldAddr t x f=>wA l x fun p hx=>wO (Wl P t f) fun off hf=>some (.v (.A (p.add off)) (fun n a w hE=>KD hE hx hf))
 | .field t x f=>KQa P l dst ty pos aft g t x f
 | .indexAddr t x y=>KJM P l dst ty pos aft g t x y
 | .index t x y=>wU P t fun d hd=>match d,hd with
  | .string,hd=>wS l x fun s hx=>wI l y fun k i hy=>some (.p (fun K=>ixS s i>>=fun r=>K (.I .u8 r)) (Js fun r hr n a w hE=>KES hE hx hy hd hr))
  |_,_=>none
 | .slice t x lo hi mx=>KQY P l dst ty pos aft g t x lo hi mx
 | .build t ps=>KQZ P l dst ty pos aft g t ps
 | .buildSlice t len ps=>KOq P l dst ty pos aft g t len ps
 | .makeSlice t x y=>KJN P l dst ty pos aft g t x y
 | .makeMap t none=>some (.e (fun K=>KRP>>=fun m=>K (.Mp m)) (fun ρ K n a w Q hE ⟨m,hm,H⟩=>⟨.Mp m,_,KKD hm,Vt,H⟩))
 | .lookup t x y ok=>KOo P l dst ty pos aft g t x y ok
 | .mapUpdate t x y z=>KOp P l dst ty pos aft g t x y z
 | .range t x=>wU P t fun d hd=>match d,hd with
  | .map kt e,hd=>wMp l x fun m hx=>some (.e (fun K=>rgM m>>=fun p=>K (.A p)) (fun ρ K n a w Q hE ⟨p,hp,H⟩=>⟨.A p,_,KOZ hE hx hd hp,Vt,H⟩))
  |_,_=>none
 | .next x false=>wA l x fun p hx=>some (.e (fun K=>nxM p>>=fun r=>K (.N r)) (fun ρ K n a w Q hE H=>by
   obtain⟨r,w1,h1,h2,h3⟩:=KQI hE hx (M.unbind H)
   exact⟨.N r,w1,h1,h2,h3⟩))
 | .entry x=>wA l x fun p hx=>some (.r (fun K=>enM p>>=fun r=>K (.T [.V r.1,.V r.2]) (fun h=>p.off=0∧∃m since seen clock es stamp e,h[p.block]?=some (.mapIter (some m) since seen clock)∧seen.back?=some stamp∧h[m]?=some (.map es clock)∧es.find? (·.born==stamp)=some e∧r=(e.key,e.val))) (fun ρ K h Q ⟨r,hr,H⟩=>⟨_,_,H,hr,fun n a w hE hf=>KOa hE hx hf⟩))
 | .extract x i=>KMY P l dst ty pos aft g x i
 | .makeFunc fn ⟨[]⟩ cs=>match fn with
  | .func f=>wks l cs fun vs hx=>some (.v (.V (.func (.func f) #[] (vs.map Kd.e).toArray)) (fun n a w hE=>GU hE hx))
  |_=>none
 | .call ⟨.builtin b,args,ts⟩=>KMZ P l dst ty pos aft g b args ts
 | .call ⟨.value (.tmp t),args,ts⟩=>wk l (.tmp t) fun k hx=>match k,hx with
  | .V v,hx=>wks l args fun vs ha=>some (.cv (match kT P ty with| .T τ=>τ|τ=>[τ]) v (vs.map Kd.e) ⟨_,_,_,rfl,hx,ha⟩)
  |_,_=>none
 | .call ⟨.value (.func f),args,ts⟩=>match KQW f C with
  |some ⟨c,hc⟩=>c.sem l dst ty pos aft g args ts f hc
  |none=>none
 |_=>none
end
def KJO (P:Program) (C:List (CalleeS P)) (l:KEnv):(o:Oper)→Option (OpS P l o)
 |⟨dst,op,ty,pos,aft,g⟩=>semO P l dst ty pos aft g C op
end Gx
