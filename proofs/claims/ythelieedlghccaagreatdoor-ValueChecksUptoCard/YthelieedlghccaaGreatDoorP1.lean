/- Own library: a small logic of Lean programs over the model's heap, with the laws that tie Go code to it. No condition. -/
import Derived.Test.YthelieedlghccaaGreatDoorP0
import Derived.RangeFuncLeaves
import Derived.Lib.IfaceEq
import Derived.Lib.UnsafeStr
import Derived.Laws.StructEq
import Derived.Laws.Externs
import Derived.Lib.MakeNoZero
import Derived.Recover
set_option linter.unusedVariables false
set_option linter.unusedSimpArgs false
namespace Gx
open Go
def slL3 (s:Sl) (lo hi mx:Int) (sz:Nat):M Sl:=.get fun _ r=>0≤lo∧lo≤hi∧hi≤mx∧mx≤s.cap∧r=⟨if mx.toNat=lo.toNat then s.base else s.base.map (·.add (lo.toNat * sz)),hi.toNat - lo.toNat,mx.toNat - lo.toNat⟩
def apM (e sz bytes:Nat) (z:Array Value) (s:Sl) (n:Int):M Sl :=
 ⟨fun h Q=>0≤n∧n * bytes≤140737488355328∧n≤9223372036854775807∧∃ news:List Value,news=(zRow z (n.toNat * z.size)).toList∧apGo e sz bytes z s n.toNat news h Q,
  fun hq ⟨h1,h2,h3,news,h4,h5⟩=>⟨h1,h2,h3,news,h4,zc hq h5⟩⟩
section
variable {P:Program} {n:Frm} {a:Act} {w:World} {l:List (Nat × Value)} {dst:Option Tmp} {ty:TypeId} {pos:String} {aft:Array Edge} {g:Option (Nat × Bool)}
theorem KHX {b:Bool} {len cap:Nat} {k k' k'':IntKind} {lo hi mx:Int} (h0:0≤lo) (h1:lo≤hi) (h2:hi≤mx) (h3:mx≤cap):(Instr.sliceBounds b len cap (some (.int k lo)) (some (.int k' hi)) (some (.int k'' mx))).run P w=.ok (lo.toNat,hi.toNat,mx.toNat) w:=by
 have e:lo≤((hi.toNat:Nat):Int):=by omega
 have e2:hi≤((mx.toNat:Nat):Int):=by omega
 simp [Instr.sliceBounds,KA1 rfl (by omega:0≤mx) h3,KA1 rfl (by omega:0≤hi) e2,KA1 rfl h0 e]
theorem KEJ {t e m:Nat} {x y z u:Operand} {s:Sl} {k k' k'':IntKind} {lo hi mx:Int} {r:Sl} (hE:Env n a l) (hx:opv l x=some s.v) (hy:opv l y=some (.int k lo)) (hz:opv l z=some (.int k' hi)) (hu:opv l u=some (.int k'' mx)) (ht:P.underlying t=some (.slice e)) (hm:szB P e m=true)
  (hc:0≤lo∧lo≤hi∧hi≤mx∧mx≤s.cap∧r=⟨if mx.toNat=lo.toNat then s.base else s.base.map (·.add (lo.toNat * m)),hi.toNat - lo.toNat,mx.toNat - lo.toNat⟩) :
  (execOp a.eval ⟨dst,.slice t x (some y) (some z) (some u),ty,pos,aft,g⟩).run P w=.ok (.value r.v) w:=by
 obtain ⟨h0,h1,h2,h3,rfl⟩:=hc
 simp [execOp,hE.opv hx,hE.opv hy,hE.opv hz,hE.opv hu,Instr.sliceAt,Instr.slice,run_underlying ht,KHX h0 h1 h2 h3,Us hm,Sl.v]
theorem KHY {t ti e sz bytes:Nat} {z:Array Value} {x y:Operand} {s:Sl} {m:Int} {Q:Sl→Heap→Prop} (hE:Env n a l) (hx:opv l x=some s.v) (hy:opv l y=some (.int .i64 m)) (hP:apB P t e sz bytes z) (hti:P.underlying ti=some (.int .i64)) (hzs:z.size=sz) (H:(apM e sz bytes z s m).wp w.heap Q) :
  ∃ r w1,(execOp a.eval ⟨dst,.call { callee:=.builtin .append,args:=#[x,y],argTypes:=#[t,ti] },ty,pos,aft,g⟩).run P w=.ok (.value (Sl.v r)) w1∧Rest w w1∧Q r w1.heap:=by
 obtain ⟨hm0,hm1,hm2,news,hnews,H⟩:=H
 obtain ⟨ht,i,hi,rfl,rfl,v,hv,rfl⟩:=hP
 have hwr:IntKind.i64.wrap m=m:=by simp [IntKind.wrap,IntKind.bits,IntKind.signed]; omega
 have hl0:¬ m < 0:=by omega
 have hl1:¬ (m * (i.bytes:Int) > 2 ^ 48):=by
  have e:(2:Int) ^ 48=281474976710656:=by decide
  rw [e]; omega
 have hl1':¬ ((281474976710656:Int) < m * (i.bytes:Int)):=by omega
 have hzv:∀ w':World,(zeroValue e).run P w'=.ok v w':=fun w'=>by simp [zeroValue,typeInfo,hi,hv]
 have hzc:Builtin.zeroCells v.cells m.toNat=news.toArray:=by
  subst hnews
  simp only [Builtin.zeroCells,zRow]
  apply Array.ext'; simp
 have hn0:m.toNat * i.size=0→news=[]:=fun h0=>by
  subst hnews
  rw [hzs,h0]
  rfl
 suffices hh:∃ r w1,(Builtin.append_ #[t,ti] ty #[s.v,.int .i64 m]).run P w=.ok (Sl.v r) w1∧Rest w w1∧Q r w1.heap by
  obtain ⟨r,w1,hr,hrest,hq⟩:=hh
  exact ⟨r,w1,by simp [execOp,resolve,invoke,builtin,hE.opv hx,hE.opv hy,hr],hrest,hq⟩
 unfold apGo at H
 split at H
 ·rename_i hc
  obtain ⟨h1,h2,h3⟩:=H
  refine ⟨⟨s.base,s.len+m.toNat,s.cap⟩,{ w with heap:=Yj w.heap s.base (s.len * i.size) news },?_,⟨rfl,rfl,rfl,Nat.le_refl _⟩,h3⟩
  simp only [Builtin.append_,Sl.v]
  cases hb:s.base with
  | none =>
   by_cases h0:m.toNat * i.size=0
   ·have:=hn0 h0
    subst this
    simp [run_underlying ht,run_underlying hti,Go.sizeOf,typeInfo,hi,hc,asInt,hwr,hl0,hl1',Yj,asIntOf,h0]
   ·simp [run_underlying ht,run_underlying hti,Go.sizeOf,typeInfo,hi,hc,asInt,hwr,hl0,hl1',Yj,asIntOf,h0,hzv,hzc]
  | some b =>
   have hp:(storeCells (b.add (s.len * i.size)) news).run P w=.ok () { w with heap:=Yj w.heap (some b) (s.len * i.size) news }:=by
    rw [hb] at h1
    exact KCn (b:=some b) h1 h2
   by_cases h0:m.toNat * i.size=0
   ·have:=hn0 h0
    subst this
    simp [run_underlying ht,run_underlying hti,Go.sizeOf,typeInfo,hi,hc,asInt,asIntOf,hwr,hl0,hl1',h0,hp]
   ·simp [run_underlying ht,run_underlying hti,Go.sizeOf,typeInfo,hi,hc,asInt,asIntOf,hwr,hl0,hl1',h0,hp,hzv,hzc]
 ·rename_i hc
  obtain ⟨h1,h2,olds,h3,h4,h5⟩:=H
  have hlt:s.cap < s.len+m.toNat:=by omega
  have hfit:=growslice_fits hlt h1
  have h48':¬ (281474976710656 < Builtin.nextslicecap (s.len+m.toNat) s.cap * i.bytes):=by omega
  have hcap:s.len+m.toNat≤grownCap w (s.len+m.toNat) s.cap e:=by unfold grownCap; simp only [Question.cut]; omega
  refine ⟨⟨some ⟨w.heap.size,0,none⟩,s.len+m.toNat,grownCap w (s.len+m.toNat) s.cap e⟩,{ w with drawn:=w.drawn+1,heap:=w.heap.push (.cells (olds.toArray++news.toArray++zRow v.cells ((grownCap w (s.len+m.toNat) s.cap e - (s.len+m.toNat)) * v.cells.size)) e) },?_,⟨rfl,rfl,rfl,Nat.le_succ _⟩,h5 _ hcap⟩
  have ho:=N5 (P:=P) (w:=w.drew) (sz:=i.size) (k:=s.len) (s:=s) h3 h4
  have hd':({ w with drawn:=w.drawn+1 }:World)=w.drew:=rfl
  have hmax:¬ ((9223372036854775807:Int) < (s.len:Int)+(m.toNat:Int)):=by omega
  have hmax':¬ ((9223372036854775807:Int) < (s.len:Int)+max m 0):=by omega
  simp only [Builtin.append_,Sl.v] at ho ⊢
  by_cases h0:m.toNat * i.size=0
  ·have:=hn0 h0
   subst this
   simp [run_underlying ht,run_underlying hti,Go.sizeOf,typeInfo,hi,hc,hmax,hmax',h48',Question.forced,hd',ho,hzv,hzc,h0,hv,newRow,grownCap,asInt,asIntOf,hwr,hl0,hl1']
   simp [Builtin.zeroCells,Nb]
   rfl
  ·simp [run_underlying ht,run_underlying hti,Go.sizeOf,typeInfo,hi,hc,hmax,hmax',h48',Question.forced,hd',ho,hzv,hzc,h0,hv,newRow,grownCap,asInt,asIntOf,hwr,hl0,hl1']
   simp [Builtin.zeroCells,Nb]
   rw [← Array.append_assoc,show olds.toArray++news.toArray=(olds++news).toArray from by simp]
   rfl
end
def NJ (r:Loop) (s:LoopState) (p:Option Code):Obj:=.loop { r with state:=s,pending:=p }
def jat (js:List Code):Nat→Option Code
 | 0=>none
 | k+1=>js[k]?
def beg (l:Nat):M Unit:=⟨fun h Q=>∃ r:Loop,h[l]?=some (.loop r)∧r.state=.ready∧Q () (h.setIfInBounds l (.loop { r with state:=.busy })),fun hq ⟨r,h1,h2,h3⟩=>⟨r,h1,h2,hq _ _ h3⟩⟩
def yV (l:Nat):Value:=.func (.yield l) #[] #[]
def KF2 (r:Loop) (l:Nat) (js:List Code) (Q:Bool→Heap→Prop) (j:Nat) (h:Heap):Prop :=
 ∃ s p,h[l]?=some (NJ r s p)∧Q (jat js j).isNone (h.setIfInBounds l (NJ r (if (jat js j).isNone then .ready else .done) (jat js j)))
def KHZ (r:Loop) (l:Nat) (js:List Code) (Q:Nat→Heap→Prop) (h:Heap):Prop :=
 ∃ s j,s≠LoopState.busy∧h[l]?=some (NJ r s (jat js j))∧Q j (h.setIfInBounds l (NJ r .exhausted (jat js j)))
def KCo (P:Program) {α:Type} (enc:α→List Value) (js:List Code) (Y:Nat→α→M Nat) (r:Loop) (l:Nat):Prop :=
 ∀ x h (Q:Bool→Heap→Prop) s p,h[l]?=some (NJ r s p)→(Y l x).wp h (KF2 r l js Q)→(GV P (fun b:Bool=>.bool b) (yV l) (enc x)).wp h Q
def rgF (P:Program) {α:Type} (enc:α→List Value) (js:List Code) (Y:Nat→α→M Nat) (g:Value):M (Nat × Nat) :=
 ⟨fun h Q=>(∀ l,g≠.func (.yield l) #[] #[])∧∀ r:Loop,KCo P enc js Y r (h.size+1) →
   (GV P (fun _:Unit=>.tuple #[]) g [yV (h.size+1)]).wp ((h.push (.deferred (some []))).push (NJ r .ready none)) (fun _ h3=>KHZ r (h.size+1) js (fun j h4=>Q (j,h.size) h4) h3),
  fun hq H=>⟨H.1,fun r hr=>(GV P _ _ _).mono (fun _ h3 ⟨s,j,h1,h2,h3⟩=>⟨s,j,h1,h2,hq _ _ h3⟩) (H.2 r hr)⟩⟩
def shut:List Nat→M Unit
 | []=>M.pure ()
 | b::r=>⟨fun h Q=>h[b]?=some (.deferred (some []))∧(shut r).wp (h.setIfInBounds b (.deferred none)) Q,fun hq H=>⟨H.1,(shut r).mono hq H.2⟩⟩
section
variable {ro:Option Nat} {P:Program} {K:Act→World→Prop} {X:Nat→Act→World→Prop} {R:Act→World→Prop} {n:Frm} {a:Act} {w w0:World} {l:List (Nat × Value)}
theorem KJN {β:Type} {lp:Nat} {f:Unit→M β} {Q:β→Heap→Prop} {B:World→Prop} (hR:Rest w0 w) (H:(beg lp>>=f).wp w.heap Q) (h:∀ w',Rest w0 w'→(f ()).wp w'.heap Q→B w') :
  ∃ w2,(Instr.beginRound lp).run P w=.ok () w2∧B w2:=by
 obtain ⟨r,h1,h2,h3⟩:=H
 exact ⟨_,run_beginRound h1 h2,h _ (hR.trans ⟨rfl,rfl,rfl,Nat.le_refl _⟩) h3⟩
def jgo (ro:Option Nat) (P:Program) (N:Act→World→Prop) (Z:Exit→Act→World→Prop):List Code→Nat→Act→World→Prop
 | [],_,a,w=>N a w
 | c::cs,j,a,w=>if j=1 then c.wpIn (Fw ro) 1 P Z a w else jgo ro P N Z cs (j - 1) a w
theorem KHa {N:Act→World→Prop} {Z:Exit→Act→World→Prop} {j:Nat} (h:N a w):jgo ro P N Z [] j a w:=h
theorem KGw {N:Act→World→Prop} {Z:Exit→Act→World→Prop}:∀ {js:List Code} {j:Nat},jgo ro P N Z js j a w→match jat js j with | none=>N a w | some c=>c.wpIn (Fw ro) 1 P Z a w
 | js,0,h=>by
  show N a w
  induction js with
  | nil=>exact h
  | cons c cs ih=>exact ih (by unfold jgo at h; simpa using h)
 | [],j+1,h=>by simpa [jat,jgo] using h
 | c::cs,1,h=>by
  have:c.wpIn (Fw ro) 1 P Z a w:=by unfold jgo at h; simpa using h
  simpa [jat] using this
 | c::cs,j+2,h=>by
  have h':jgo ro P N Z cs (j+1) a w:=by unfold jgo at h; simpa using h
  have:=KGw h'
  simpa [jat] using this
def zipl:List Tmp→List Value→List (Nat × Value)→List (Nat × Value)
 | t::ts,v::vs,l=>zipl ts vs ((t,v)::l)
 | _,_,l=>l
theorem KEK:∀ (ps:List Tmp) (vs:List Value) {a:Act} {l:List (Nat × Value)},Env n a l→(ps.all fun t=>Nat.blt t n.size)=true→Env n { a with tmps:=(ps.zip vs).foldl (fun t p=>t.setIfInBounds p.1 p.2) a.tmps } (zipl ps vs l)
 | [],vs,a,l,hE,_=>by simpa [zipl] using hE
 | t::ts,[],a,l,hE,_=>by simpa [zipl] using hE
 | t::ts,v::vs,a,l,hE,h=>by
  simp only [List.all_cons,Bool.and_eq_true] at h
  have:=KEK ts vs (hE.put t v h.1) h.2
  simpa [zipl,Act.put] using this
abbrev Xr (js:List Code) (Rr:Nat→Act→World→Prop):Nat→Act→World→Prop:=fun id a w=>bif Nat.beq pid id then False else ∃ k,js[k]?=some (.exit id)∧Rr (k+1) a w
abbrev Rr' (js:List Code) (Rr:Nat→Act→World→Prop):Act→World→Prop:=fun a w=>∃ k,js[k]?=some .ret∧Rr (k+1) a w
theorem KF3 {lp:Nat} {fn:FuncId} {tmps:Array Value} {ps:Array Tmp} {assign body:Code} {D:Nat} {js:List Code} {α:Type} {enc:α→List Value} {Y:Nat→α→M Nat}
  (hps:∀ x,(enc x).length=ps.size)
  (hround:∀ (lp:Nat) (x:α) (Q:Nat→Heap→Prop) (w0:World) (Rr:Nat→Act→World→Prop) (hfin:∀ j a w,Rest w0 w→Q j w.heap→Rr j a w),(Y lp x).wp w0.heap Q →
   assign.wpIn (Fw (some lp)) 1 P (Ps (fun a1 w1=>∃ w2,(Instr.beginRound lp).run P w1=.ok () w2∧body.wpIn (Fw (some lp)) 1 P (Ps (Rr 0) (Xr js Rr) (Rr' js Rr)) a1 w2) X0 (fun _ _=>False))
    { tmps:=(ps.zip (enc x).toArray).foldl (fun t p=>t.setIfInBounds p.1 p.2) tmps,defers:=[] } w0) :
  KCo P enc js Y { state:=.ready,pending:=none,fn:=fn,tmps:=tmps,params:=ps,assign:=assign,body:=body,defers:=D } lp:=by
 intro x h Q s p hl hY w hw
 subst hw
 refine .inr ⟨lp,_,rfl,hl,hps x,roundIn_of_wpIn trivial ?_⟩
 refine wpIn_mono (hround lp x _ w (fun j a w'=>∃ v w'',(Instr.endRound lp (jat js j)).run P w'=.ok v w''∧∃ r,Ending.returned v=.returned (.bool r)∧Q r w''.heap∧Rest w w'') ?_ hY) ?_
 ·rintro j a w' hR ⟨s,p,h1,h2⟩
  exact ⟨_,_,run_endRound _ h1,_,rfl,h2,hR.trans ⟨rfl,rfl,rfl,Nat.le_refl _⟩⟩
 ·intro e a w' hh
  cases e with
  | normal =>
   obtain ⟨w2,h1,h2⟩:=hh
   refine ⟨w2,h1,wpIn_mono h2 ?_⟩
   intro e a w' hh
   cases e with
   | normal=>exact hh
   | ret =>
    obtain ⟨k,hk,hh⟩:=hh
    have:jat js (k+1)=some .ret:=hk
    rw [this] at hh
    exact hh
   | exit id =>
    obtain ⟨h0,hh⟩:=hh
    unfold Xr at hh
    rw [h0] at hh
    dsimp only [cond_false] at hh
    obtain ⟨k,hk,hh⟩:=hh
    have:jat js (k+1)=some (.exit id):=hk
    rw [this] at hh
    exact hh
   | goto t=>exact False.elim hh
   | panic c=>obtain ⟨_,_,hh⟩:=hh; exact False.elim hh
   | outgrown=>exact hh
  | panic c=>obtain ⟨_,_,hh⟩:=hh; exact False.elim hh
  | exit id=>exact False.elim hh.2
  | _=>exact hh
theorem KCG {lp:Nat} {g:Value} {w:World} {Q:Unit→Heap→Prop} (hg:∀ l,g≠.func (.yield l) #[] #[]) (H:(GV P (fun _:Unit=>.tuple #[]) g [yV lp]).wp w.heap Q) :
  ∃ f cap,g=.func (.func f) #[] cap∧Callee? P f∧Calls P f (#[yV lp]++cap) w (fun e w'=>∃ r,e=.returned (.tuple #[])∧Q r w'.heap∧Rest w w'):=by
 rcases H w rfl with ⟨f,cap,h1,h2,h3⟩ | ⟨l,r,h1,_⟩
 ·exact ⟨f,cap,h1,h2,h3⟩
 ·exact absurd h1 (hg l)
theorem KF4 {gv:Value} {g:Operand} {ps:Array Tmp} {assign body:Code} {js:List Code} {α:Type} {enc:α→List Value} {Y:Nat→α→M Nat} {Q:Nat × Nat→Heap→Prop}
  (hE:Env n a l) (hR:Rest w0 w) (hg:opv l g=some gv) (hps:∀ x,(enc x).length=ps.size) (hpl:(ps.toList.all fun t=>Nat.blt t n.size)=true) (H:(rgF P enc js Y gv).wp w.heap Q)
  (hround:∀ (lp:Nat) (x:α) (Q:Nat→Heap→Prop) (w0:World) (Rr:Nat→Act→World→Prop) (hfin:∀ j a w,Rest w0 w→Q j w.heap→Rr j a w) (a:Act) (w:World),Env ⟨n.size,[]⟩ a (zipl ps.toList (enc x) l)→Rest w0 w→(Y lp x).wp w.heap Q →
   assign.wpIn (Fw (some lp)) 1 P (Ps (fun a1 w1=>∃ w2,(Instr.beginRound lp).run P w1=.ok () w2∧body.wpIn (Fw (some lp)) 1 P (Ps (Rr 0) (Xr js Rr) (Rr' js Rr)) a1 w2) X0 (fun _ _=>False)) a w)
  (h:∀ (x:Nat × Nat) a w,Env ⟨n.size,x.2::n.marks⟩ a l→Rest w0 w→Q x w.heap→jgo none P K (Ps K X R) js x.1 a w) :
  (Code.rangeFunc g ps assign body).wpIn (Fw none) 1 P (Ps K X R) a w:=by
 refine wpIn_rangeFunc ?_
 intro fn hfn
 let r0:Loop:={ state:=.ready,pending:=none,fn:=fn,tmps:=a.tmps,params:=ps,assign:=assign,body:=body,defers:=w.heap.size }
 have hRo:KCo P enc js Y r0 (w.heap.size+1):=KF3 hps (fun lp x Q w1 Rr hfin hY=>by
  have hE0:Env ⟨n.size,[]⟩ { tmps:=a.tmps,defers:=[] } l:=⟨hE.size,rfl,hE.at_⟩
  have:=hround lp x Q w1 Rr hfin _ w1 (KEK ps.toList (enc x) hE0 hpl) (Rest.refl _) hY
  have e:(ps.zip (enc x).toArray).foldl (fun t p=>t.setIfInBounds p.1 p.2) a.tmps=(ps.toList.zip (enc x)).foldl (fun t p=>t.setIfInBounds p.1 p.2) a.tmps:=by
   rw [← Array.foldl_toList]; simp
  rw [e]
  exact this)
 obtain ⟨f,cap,rfl,hc,hC⟩:=KCG (w:=(w.alloc (.deferred (some []))).alloc (.loop r0)) H.1 (H.2 r0 hRo)
 refine ⟨w.heap.size+1,[KFm w.heap.size],(w.alloc (.deferred (some []))).alloc (.loop r0),{ target:=.fn (.func f) cap,args:=#[yV (w.heap.size+1)] },(w.alloc (.deferred (some []))).alloc (.loop r0),f,#[yV (w.heap.size+1)]++cap,(w.alloc (.deferred (some []))).alloc (.loop r0),?_,?_,?_,?_,fun _=>Nat.le_refl 1,?_⟩
 ·exact run_enterLoop_outer _ _ _ _ _
 ·simp only [resolve,hE.opv hg]
  simp [Deferred.ofValue,yV,Act.eval]
 ·intro f' _; trivial
 ·have:=hc (#[yV (w.heap.size+1)]++cap) ((w.alloc (.deferred (some []))).alloc (.loop r0))
  simp [invoke,this]
 ·refine NB (hC.mono ?_)
  rintro e w' ⟨_,rfl,⟨s,j,h1,h2,h3⟩,hr⟩
  have hend:=run_endLoop (P:=P) h2 (by simpa using h1)
  have hj:=KGw (h (j,w.heap.size) { a with defers:=KFm w.heap.size::a.defers } (w'.putObj (w.heap.size+1) (NJ r0 .exhausted (jat js j))) ⟨hE.size,by simp [hE.defers],hE.at_⟩ (hR.trans ⟨hr.os,hr.output,hr.tape,hr.drawn⟩) h3)
  exact ⟨_,_,hend,hj⟩
end
theorem ze {P:Program} {fn:Func} {tmps:Array Value} {Q:Heap→Prop} {w0:World} {R:Ending→World→Prop}:∀ (m:List Nat) {w:World},
  Rest w0 w→(shut m).wp w.heap (fun _ h=>Q h)→(∀ w,Rest w0 w→Q w.heap→∃ v,(results fn tmps).run P w=.ok v w∧R (.returned v) w)→LeavesInM (Fw none) 1 P fn tmps R (m.map KFm) .returning w
 | [],w,hR,hs,h=>h w hR hs
 | b::r,w,hR,hs,h=>⟨by simp,.inl ⟨b,_,rfl,run_takeDeferred hs.1,ze (w:=w.putObj b (.deferred none)) r (hR.trans ⟨rfl,rfl,rfl,Nat.le_refl _⟩) hs.2 h⟩⟩
theorem KEL {P:Program} {f:FuncId} {fn:Func} {c:Code} {args:Array Value} {ρ:Type} {enc:ρ→Value} {F:M ρ} {n:Nat} (l:List (Nat × Value))
  (hf:P.funcs[f]?=some fn) (hb:fn.body=some c) (hn:fn.ntmps=n) (hs:args.size≤n) (hl:∀ d v,look l d=some v→args[d]?=some v)
  (h:∀ (w0 w:World) (Q:ρ→Heap→Prop) (R:Act→World→Prop) (a:Act),
   (∀ (m:List Nat) a w l (Q1:Heap→Prop),Env ⟨n,m⟩ a l→Rest w0 w→(shut m).wp w.heap (fun _ h=>Q1 h) →
    (∀ w,Rest w0 w→Q1 w.heap→∃ r v,(results fn a.tmps).run P w=.ok v w∧v=enc r∧Q r w.heap)→R a w) →
   Env ⟨n,[]⟩ a l→Rest w0 w→F.wp w.heap Q→c.wpIn (Fw none) 1 P (Ps R X0 R) a w):ZK P f args enc F:=by
 intro w Q hF
 refine (callsIn_wide (n:=1)).1 (callsIn_of_wp_marks hf hb trivial ?_)
 refine wpIn_mono (h w w Q (fun a w'=>LeavesInM (Fw none) 1 P fn a.tmps (fun e w'=>∃ r,e=.returned (enc r)∧Q r w'.heap∧Rest w w') a.defers .returning w') _ ?_ (hn ▸ Env.enter args l (hn ▸ hs) hl) (Rest.refl w) hF) ?_
 ·intro m a w' l Q1 hE hR hsh hret
  rw [hE.defers]
  refine ze m hR hsh (fun w2 hR2 hQ2=>?_)
  obtain ⟨r,v,h1,rfl,h3⟩:=hret w2 hR2 hQ2
  exact ⟨_,h1,r,rfl,h3,hR2⟩
 ·intro e a w' hh
  cases e with
  | normal=>exact hh
  | ret=>exact hh
  | exit i=>exact hh.2.elim
  | goto l=>exact hh.elim
  | panic c=>obtain ⟨_,_,hh⟩:=hh; exact hh.elim
  | outgrown=>exact hh.elim
end Gx
namespace Gx
open Go Gx.Last
def niB (P:Program) (t:TypeId):Bool:=match P.underlying t with
 | some (.interface _)=>false
 | some _=>true
 | none=>false
section
variable {ro:Option Nat} {P:Program} {ops:Array Oper} {K:Act→World→Prop} {X:Nat→Act→World→Prop} {R:Act→World→Prop} {n:Frm} {a:Act} {w w0:World} {l:List (Nat × Value)} {rest:List Oper} {S:World→Prop} {ds:List Nat} {fuel:Nat} {b b':Array Bool} {i:Nat} {E C W:List (List Nat)}
theorem We {t:TypeId} {x:Operand} {v:Value} {dst:Option Tmp} {ty:TypeId} {pos:String} {aft:Array Edge} {g:Option (Nat × Bool)} (hE:Env n a l) (hx:opv l x=some v) (ht:niB P t=true):(execOp a.eval ⟨dst,.makeInterface t x,ty,pos,aft,g⟩).run P w=.ok (.value (.iface t v)) w:=by
 unfold niB at ht
 cases hu:P.underlying t with
 | none=>rw [hu] at ht; cases ht
 | some d =>
  rw [hu] at ht
  cases d <;> first | (cases ht; done) | simp [execOp,Instr.makeInterface,run_underlying hu,hE.opv hx]
theorem KHb {t:TypeId} {x:Operand} {v:Value} {dst:Option Tmp} {ty:TypeId} {pos:String} {aft:Array Edge} {g:Option (Nat × Bool)} (hE:Env n a l) (hx:opv l x=some (.iface t v)):(execOp a.eval ⟨dst,.panic x,ty,pos,aft,g⟩).run P w=.halt (.panic (.iface t v)) w:=by
 simp [execOp,Instr.panic,hE.opv hx,goPanic]
theorem KHc {d:Option Nat} {x:Operand} {ty:TypeId} {pos:String} {aft:Array Edge} {t:TypeId} {v:Value} {m:Nat} (hE:Env ⟨m,[]⟩ a l) (hx:opv l x=some (.iface t v)) (h:X pid { tmps:=#[.iface t v],defers:=[] } w) :
  wpListIn (Fw ro) 1 P ops (Ps K X R) (⟨d,.panic x,ty,pos,aft,none⟩::rest) a w:=by
 refine wpListIn_plain rfl fun K' hK=>⟨fun _ _=>trivial,?_⟩
 rw [show (Fw ro).round=ro from rfl,Oper.semAt_eq _ _ _ (fun c hc=>by cases hc),KHb hE hx,Oper.uponIn_panic]
 exact ⟨_,rfl,by rw [hE.defers]; exact h⟩
theorem UF {d:Option Nat} {f:FuncId} {as:Array Operand} {ts:Array TypeId} {ty:TypeId} {pos:String} {aft:Array Edge} {vs:List Value} {ρ β:Type} {enc:ρ→Value} {F:M (Value ⊕ ρ)} {f':ρ→M (Value ⊕ β)} {Q:Value ⊕ β→Heap→Prop} {m:Nat}
  (hE:Env ⟨m,[]⟩ a l) (hR:Rest w0 w) (hc:Callee? P f) (ha:opvs l as.toList=some vs) (hS:Xl P f vs.toArray enc F) (H:(thr F f').wp w.heap Q)
  (hp:∀ v w,Rest w0 w→Q (.inl v) w.heap→X pid { tmps:=#[v],defers:=[] } w)
  (h:∀ r a' w',a'=a.put d (enc r)→Rest w0 w'→(f' r).wp w'.heap Q→wpListIn (Fw ro) 1 P ops (Ps K X R) rest a' w') :
  wpListIn (Fw ro) 1 P ops (Ps K X R) (⟨d,.call { callee:=.value (.func f),args:=as,argTypes:=ts },ty,pos,aft,none⟩::rest) a w:=by
 refine wpListIn_plain rfl fun K' hK=>⟨fun _ _=>trivial,?_⟩
 rw [KAt (KBh hE hc ha) (fun d h=>by cases h),Oper.uponIn_enter]
 refine ⟨fun _=>Nat.le_refl 1,NB ((hS w _ H).mono ?_)⟩
 rintro e w' ⟨r,he,hq,hr⟩
 cases r with
 | inl v =>
  subst he
  exact ⟨v,rfl,by rw [hE.defers]; exact hp v w' (hR.trans hr) hq⟩
 | inr r =>
  subst he
  exact hK _ _ (h r _ w' rfl (hR.trans hr) hq)
end
end Gx
namespace Gx
open Go Gx.Last
section
variable {P:Program} {w:World}
end
def isNI (v:Value):M Bool:=.get fun _ b=>(v=.nilIface∧b=true)∨((∃ u x,v=.iface u x)∧b=false)
def ifB (P:Program) (t:TypeId):Bool:=match P.underlying t with | some (.interface _)=>true | _=>false
section
variable {P:Program} {w:World}
theorem e_ni {t:TypeId} {v:Value} {b:Bool} (ht:ifB P t=true) (h:(v=.nilIface∧b=true)∨((∃ u x,v=.iface u x)∧b=false)) (d:Nat):(Op.equalIn (d+1) t v .nilIface).run P w=.ok b w:=by
 unfold ifB at ht
 cases hu:P.underlying t with
 | none=>rw [hu] at ht; cases ht
 | some u =>
  rw [hu] at ht
  cases u <;> first | (cases ht; done) | skip
  rcases h with ⟨rfl,rfl⟩ | ⟨⟨f,x,rfl⟩,rfl⟩ <;> simp [Op.equalIn,run_underlying hu]
theorem g_ni {op:BinOp} {t:Nat} {x:Operand} {u c:Value} {b:Bool} (h:(u=.nilIface∧b=true)∨((∃ f x,u=.iface f x)∧b=false)):(eqGuard op t x (.const c) u .nilIface).run P w=.ok () w:=by
 rcases h with ⟨rfl,rfl⟩ | ⟨⟨f,x,rfl⟩,rfl⟩ <;> cases op <;> simp [eqGuard]
theorem KEM {t:TypeId} {v:Value} {b:Bool} (ht:ifB P t=true) (h:(v=.nilIface∧b=true)∨((∃ u x,v=.iface u x)∧b=false)):(binOp .eql t v .nilIface).run P w=.ok (.bool b) w:=by
 refine KEF ?_ (e_ni ht h)
 rcases h with ⟨rfl,rfl⟩ | ⟨⟨f,x,rfl⟩,rfl⟩ <;> rfl
theorem KIX {t:TypeId} {v:Value} {b:Bool} (ht:ifB P t=true) (h:(v=.nilIface∧b=true)∨((∃ u x,v=.iface u x)∧b=false)):(binOp .neq t v .nilIface).run P w=.ok (.bool !b) w:=by
 refine KHU ?_ (e_ni ht h)
 rcases h with ⟨rfl,rfl⟩ | ⟨⟨f,x,rfl⟩,rfl⟩ <;> rfl
end
def eqII (te:TypeId) (x y:Value):M Bool:=.get fun _ b=>∃ k m n,x=.iface te (.int k m)∧y=.iface te (.int k n)∧b=(m == n)
def cmB (P:Program) (t:TypeId):Bool:=(match P.underlying t with | some (.int _)=>true | _=>false) && (match P.info? t with | some i=>i.comparable | none=>false)
def cpSt (d:Sl) (u:ByteArray):M Int :=
 ⟨fun h Q=>u.size≤d.len∧(∀ a,d.base=some a→Open h a u.size)∧Q (u.size:Int) (Yj h d.base 0 (Jt u)),
  fun hq ⟨h1,h2,h3⟩=>⟨h1,h2,hq _ _ h3⟩⟩
section
variable {P:Program} {n:Frm} {a:Act} {w:World} {l:List (Nat × Value)} {dst:Option Tmp} {ty:TypeId} {pos:String} {aft:Array Edge} {g:Option (Nat × Bool)}
theorem g_ii {op:BinOp} {t te:Nat} {x y:Operand} {u v:Value} {b:Bool} (h:∃ k m n,u=.iface te (.int k m)∧v=.iface te (.int k n)∧b=(m == n)):(eqGuard op t x y u v).run P w=.ok () w:=by
 obtain ⟨k,m,n,rfl,rfl,_⟩:=h
 cases op <;> simp [eqGuard]
theorem KCp {t te:TypeId} {u v:Value} {b:Bool} (ht:ifB P t=true) (hc:cmB P te=true) (h:∃ k m n,u=.iface te (.int k m)∧v=.iface te (.int k n)∧b=(m == n)):(binOp .eql t u v).run P w=.ok (.bool b) w:=by
 obtain ⟨k,m,n,rfl,rfl,rfl⟩:=h
 unfold ifB at ht
 unfold cmB at hc
 rw [Bool.and_eq_true] at hc
 obtain ⟨h1,h2⟩:=hc
 cases hu:P.underlying t with
 | none=>rw [hu] at ht; cases ht
 | some d =>
  rw [hu] at ht
  cases d <;> first | (cases ht; done) | skip
  cases hv:P.underlying te with
  | none=>rw [hv] at h1; cases h1
  | some e =>
   rw [hv] at h1
   cases e <;> first | (cases h1; done) | skip
   refine Lib.run_eql_iface_int w m n hu ?_ hv
   cases hi:P.info? te with
   | none=>rw [hi] at h2; cases h2
   | some i=>rw [hi] at h2; simpa using h2
theorem KF5 {t e su:Nat} {x y:Operand} {d:Sl} {u:ByteArray} {Q:Int→Heap→Prop} (hE:Env n a l) (hx:opv l x=some d.v) (hy:opv l y=some (.string u)) (ht:P.underlying t=some (.slice e)) (hs:szB P e 1=true) (H:(cpSt d u).wp w.heap Q) :
  ∃ r w1,(execOp a.eval ⟨dst,.call { callee:=.builtin .copy,args:=#[x,y],argTypes:=#[t,su] },ty,pos,aft,g⟩).run P w=.ok (.value (.int .i64 r)) w1∧Rest w w1∧Q r w1.heap:=by
 obtain ⟨h1,h3,h5⟩:=H
 have hlen:(Jt u).length=u.size:=by unfold Jt; rw [List.length_map,Array.length_toList]; rfl
 have h4:∀ v ∈ Jt u,one v=true:=by
  intro v hv
  unfold Jt at hv
  obtain ⟨c,_,rfl⟩:=List.mem_map.1 hv
  rfl
 refine ⟨_,{ w with heap:=Yj w.heap d.base 0 (Jt u) },?_,⟨rfl,rfl,rfl,Nat.le_refl _⟩,h5⟩
 have hf:(Builtin.firstCells 1 u.size (.string u)).run P w=.ok (Jt u).toArray w:=by
  have e2:(Jt u).toArray=u.data.map fun (b:UInt8)=>Value.int .u8 (b.toNat:Int):=by unfold Jt; rw [← Array.toList_map,Array.toArray_toList]
  rw [e2]
  simp [Builtin.firstCells]
 have e1:Nat.min u.size d.len=u.size:=Nat.min_eq_left h1
 cases hb:d.base with
 | none =>
  simp [execOp,resolve,invoke,builtin,hE.opv hx,hE.opv hy,Builtin.copy_,run_underlying ht,Sl.v,Builtin.lenOf,Us hs,hb,goInt,Yj,hf,e1]
 | some b =>
  have hp:=VJ (P:=P) (a:=b) (Jt u) 0 w (fun j hj=>by rw [Nat.zero_add]; exact h3 b hb j (by omega)) h4
  simp [execOp,resolve,invoke,builtin,hE.opv hx,hE.opv hy,Builtin.copy_,run_underlying ht,Sl.v,Builtin.lenOf,Us hs,hb,goInt,Yj,add_zero,hf,hp,e1]
end
def uSD (x:Sl):M (Option Addr):=.get fun _ r=>(x.base=none∧r=none)∨(x.cap≠0∧x.base=r)
def uStr (e:TypeId) (p:Option Addr) (n:Int):M ByteArray :=
 ⟨fun h Q=>(n=0∧Q .empty h)∨∃ g cells fz,∃ l:List UInt8,p=some ⟨g,0,none⟩∧n=(l.length:Int)∧l≠[]∧l.length≤cells.size∧l.length≤9223372036854775807∧h[g]?=some (.cells cells e fz)∧(∀ (j:Nat) x,l[j]?=some x→cells[j]?=some (.int .u8 (x.toNat:Int))) ∧
   ∀ h':Heap,h'.size=h.size→(∀ i,i≠g→h'[i]?=h[i]?)→Q ⟨l.toArray⟩ h',
  fun hq H=>H.imp (fun ⟨a,b⟩=>⟨a,hq _ _ b⟩) (fun ⟨g,c,f,l,h1,h2,h3,h4,h5,h6,h7,h8⟩=>⟨g,c,f,l,h1,h2,h3,h4,h5,h6,h7,fun h' a b=>hq _ _ (h8 h' a b)⟩)⟩
section
variable {P:Program} {n:Frm} {a:Act} {w:World} {l:List (Nat × Value)} {dst:Option Tmp} {ty:TypeId} {pos:String} {aft:Array Edge} {g:Option (Nat × Bool)}
theorem KJO {t:TypeId} {x:Operand} {s:Sl} {r:Option Addr} (hE:Env n a l) (hx:opv l x=some s.v) (h:(s.base=none∧r=none)∨(s.cap≠0∧s.base=r)) :
  (execOp a.eval ⟨dst,.call { callee:=.builtin .unsafeSliceData,args:=#[x],argTypes:=#[t] },ty,pos,aft,g⟩).run P w=.ok (.value (.pointer r)) w:=by
 obtain ⟨base,len,cap⟩:=s
 have hr:(Builtin.unsafeSliceData_ #[t] ty #[.slice base len cap]).run P w=.ok (.pointer r) w:=by
  rcases h with ⟨h1,rfl⟩ | ⟨h1,h2⟩
  ·have h1:base=none:=h1
   subst h1
   rfl
  ·have h2:base=r:=h2
   subst h2
   have h1:cap≠0:=h1
   cases base with
   | none=>rfl
   | some b=>exact Lib.run_unsafeSliceData_row _ _ _ _ _ _ h1
 simp [execOp,resolve,invoke,builtin,hE.opv hx,Sl.v,hr]
theorem KCq {pt it e:TypeId} {x y:Operand} {p:Option Addr} {m:Int} {Q:ByteArray→Heap→Prop} (hE:Env n a l) (hx:opv l x=some (.pointer p)) (hy:opv l y=some (.int .i64 m)) (hp:P.underlying pt=some (.pointer e)) (hc:P.cellsOf e=1) (H:(uStr e p m).wp w.heap Q) :
  ∃ r w1,(execOp a.eval ⟨dst,.call { callee:=.builtin .unsafeString,args:=#[x,y],argTypes:=#[pt,it] },ty,pos,aft,g⟩).run P w=.ok (.value (.string r)) w1∧Rest w w1∧Q r w1.heap:=by
 rcases H with ⟨rfl,H⟩ | ⟨b,cells,fz,ls,rfl,rfl,h3,h4,h5,h6,h7,h8⟩
 ·refine ⟨.empty,w,?_,Rest.refl w,H⟩
  have hr:=Lib.run_unsafeString_none (P:=P) w pt it ty p
  simp [execOp,resolve,invoke,builtin,hE.opv hx,hE.opv hy,hr]
 ·have hr:=Lib.run_unsafeString_row (P:=P) w pt it ty e hp hc b cells.size (by simp [World.shape?,h6]) ls h3 h4 h5 (fun j x hj=>by
   have:=h7 j x hj
   rw [KAU,show ((⟨b,0,none⟩:Addr).add j)=⟨b,0+j,none⟩ by unfold Addr.add; split <;> simp_all]
   simp only [KV,h6,Nat.zero_add,this]
   rfl)
  refine ⟨⟨ls.toArray⟩,w.freeze ⟨b,0,none⟩ ls.length,?_,⟨by unfold World.freeze; split <;> rfl,by unfold World.freeze; split <;> rfl,by unfold World.freeze; split <;> rfl,by unfold World.freeze; split <;> exact Nat.le_refl _⟩,h8 _ ?_ ?_⟩
  ·simp [execOp,resolve,invoke,builtin,hE.opv hx,hE.opv hy,hr]
  ·unfold World.freeze
   split
   ·rfl
   ·simp
  ·intro i hi
   unfold World.freeze
   split
   ·rfl
   ·simp only [Array.getElem?_modify]
    rw [if_neg (fun h=>hi h.symm)]
end
def mnz (e:TypeId) (n:Int):M Sl :=
 ⟨fun h Q=>0≤n∧n≤281474976710656∧∀ cs:Array Value,n≤cs.size→cs.size≤9223372036854775807→Q ⟨some ⟨h.size,0,none⟩,n.toNat,cs.size⟩ (h.push (.cells cs e)),
  fun hq ⟨h1,h2,h3⟩=>⟨h1,h2,fun cs a b=>hq _ _ (h3 cs a b)⟩⟩
theorem KHd {P:Program} {n:Frm} {a:Act} {w:World} {l:List (Nat × Value)} {dst:Option Tmp} {ty:TypeId} {pos:String} {aft:Array Edge} {g:Option (Nat × Bool)} {f:FuncId} {fn:Func} {ps:Array TypeId} {t e:TypeId} {ts:Array TypeId} {x:Operand} {m:Int} {Q:Sl→Heap→Prop}
  (hE:Env n a l) (hx:opv l x=some (.int .i64 m)) (hf:P.funcs[f]?=some fn) (hname:(fn.name == "runtime.NumGoroutine")=false) (hb:fn.body.isNone=true) (hn:Extern.findNext fn=none) (he:Extern.find fn=some (Extern.BytealgMakeNoZero.makeNoZero ps #[t])) (ht:P.underlying t=some (.slice e)) (H:(mnz e m).wp w.heap Q) :
  ∃ r w1,(execOp a.eval ⟨dst,.call { callee:=.value (.func f),args:=#[x],argTypes:=ts },ty,pos,aft,g⟩).run P w=.ok (.value (Sl.v r)) w1∧Rest w w1∧Q r w1.heap:=by
 obtain ⟨h1,h2,h3⟩:=H
 obtain ⟨k,rfl⟩:∃ k:Nat,m=(k:Int):=⟨m.toNat,by omega⟩
 obtain ⟨cs,hrun,hle,hmax⟩:=Lib.run_makeNoZero (P:=P) w ps t e ht k (by omega)
 refine ⟨⟨some ⟨w.heap.size,0,none⟩,k,cs.size⟩,w.drew.drew.alloc (.cells cs e),?_,Rest.draws rfl rfl rfl 2 rfl,?_⟩
 ·have hc:=run_callFunc_extern hf hname hb hn he #[.int .i64 (k:Int)] w
  rw [hrun] at hc
  have he:=hE.opv hx
  have he':(#[x]:Array Operand).map a.eval=#[.int .i64 (k:Int)]:=by simp [he]
  simp [execOp,resolve,Deferred.ofValue,invoke,Act.eval,he,he',hc,Sl.v]
 ·have:=h3 cs (by omega) (hmax (by unfold maxLen; omega))
  rw [Int.toNat_natCast] at this
  exact this
def KBj (P:Program) {ρ:Type} (enc:ρ→Value) (v:Value) (args:List Value):M ρ :=
 ⟨fun h Q=>∀ w:World,w.heap=h→∃ f cap,v=.func (.func f) #[] cap∧Callee? P f∧Calls P f (args.toArray++cap) w (fun e w'=>∃ r,e=.returned (enc r)∧Q r w'.heap∧Rest w w'),
  fun hq h w hw=>let ⟨f,cap,h1,h2,h3⟩:=h w hw; ⟨f,cap,h1,h2,h3.mono fun _ _ ⟨r,a,b,c⟩=>⟨r,a,hq _ _ b,c⟩⟩⟩
theorem KHe {P:Program} {ρ:Type} {enc:ρ→Value} {f:FuncId} {cap:Array Value} {args:List Value} {F:M ρ} {h:Heap} {Q:ρ→Heap→Prop} (hc:Callee? P f) (hS:ZK P f (args.toArray++cap) enc F) (H:F.wp h Q) :
  (KBj P enc (.func (.func f) #[] cap) args).wp h Q:=fun w hw=>⟨f,cap,rfl,hc,hS w Q (hw ▸ H)⟩
section
variable {P:Program} {ops:Array Oper} {K:Act→World→Prop} {X:Nat→Act→World→Prop} {R:Act→World→Prop} {n:Frm} {a:Act} {w w0:World} {l:List (Nat × Value)} {S:World→Prop} {ds:List Nat} {fuel:Nat} {b b':Array Bool} {i:Nat} {E C W:List (List Nat)}
theorem zL {o:Oper} {N:Option Nat} {x:Operand} {as:Array Operand} {ts:Array TypeId} {v:Value} {vs:List Value} {ρ:Type} {enc:ρ→Value} {Q:ρ→Heap→Prop} (b':Array Bool)
  (hi:ops[i]?=some o) (hd:o.dst=N) (hop:o.op=.call { callee:=.value x,args:=as,argTypes:=ts }) (hT:Tab ops E C W) (hc:oneT E b b' i=true) (hds:ds.contains i=true) (hE:Env n a l) (hR:Rest w0 w)
  (hw:Region.wanted o (yielded ops a.tmps)=true) (hx:opv l x=some v) (ha:opvs l as.toList=some vs) (H:(KBj P enc v vs).wp w.heap Q)
  (h:∀ r a' w',a'=a.put N (enc r)→Rest w0 w'→Q r w'.heap→VK P ops K X R S ds fuel b' a' w'):VK P ops K X R S ds (fuel+1) b a w:=by
 obtain ⟨f,cap,rfl,hcl,hC⟩:=H w rfl
 refine KD4 b' hi hd (hT.one hc) (by simpa using hds) fun KK hK=>?_
 have hrun:(execOp a.eval o).run P w=.ok (.enter f (vs.toArray++cap)) w:=by
  have:=KEI (P:=P) (w:=w) (dst:=o.dst) (ty:=o.type) (pos:=o.pos) (aft:=o.after) (g:=o.guard) (ts:=ts) hE hx hcl ha
  rw [← hop] at this
  exact this
 refine KHI f (vs.toArray++cap) hw hd hrun (hC.mono ?_)
 rintro e w' ⟨r,rfl,hq,hr⟩
 exact ⟨_,rfl,hK _ _ (h r _ w' rfl (hR.trans hr) hq)⟩
end
end Gx
namespace Gx
open Go
section b
variable {α β:Type} {h:Heap} {Q:β→Heap→Prop}
theorem KX {m:M α} {f:α→M β} (H:m.wp h (fun r h'=>(f r).wp h' Q)):(m>>=f).wp h Q:=H
theorem KQ {a:β} (H:Q a h):(M.pure a:M β).wp h Q:=H
theorem UP {a:α} {f:α→M β} (H:(f a).wp h Q):(M.pure a>>=f).wp h Q:=H
theorem Ju {p:Prop} {f:Unit→M β} (hp:p) (H:(f ()).wp h Q):(M.need p>>=f).wp h Q:=⟨hp,H⟩
theorem KBk {p:Heap→Prop} {f:Unit→M β} (hp:p h) (H:(f ()).wp h Q):(chk p>>=f).wp h Q:=⟨(),hp,H⟩
theorem Kx {b:Bool} {m n:M β} (ht:b=true→m.wp h Q) (hf:b=false→n.wp h Q):(M.ite b m n).wp h Q:=by cases b; exact hf rfl; exact ht rfl
theorem KF6 {b:Bool} {m n:M α} {f:α→M β} (ht:b=true→(m>>=f).wp h Q) (hf:b=false→(n>>=f).wp h Q):(M.ite b m n>>=f).wp h Q:=by cases b; exact hf rfl; exact ht rfl
theorem iteT {b:Bool} {m n:M β} (hb:b=true) (H:m.wp h Q):(M.ite b m n).wp h Q:=by subst hb; exact H
theorem iteF {b:Bool} {m n:M β} (hb:b=false) (H:n.wp h Q):(M.ite b m n).wp h Q:=by subst hb; exact H
theorem zA {b:Bool} {m n:M α} {f:α→M β} (hb:b=true) (H:(m>>=f).wp h Q):(M.ite b m n>>=f).wp h Q:=by subst hb; exact H
theorem KCr {b:Bool} {m n:M α} {f:α→M β} (hb:b=false) (H:(n>>=f).wp h Q):(M.ite b m n>>=f).wp h Q:=by subst hb; exact H
theorem Jv {γ:Type} {m:M γ} {g:γ→M α} {f:α→M β} (H:(m>>=fun x=>g x>>=f).wp h Q):((m>>=g)>>=f).wp h Q:=H
theorem Ux {k:IntKind} {a:Addr} {n:Int} {f:Int→M β} (hc:KV h a=some (.int k n)) (H:(f n).wp h Q):(ldI k a>>=f).wp h Q:=⟨n,hc,H⟩
theorem KIY {a:Addr} {n:Bool} {f:Bool→M β} (hc:KV h a=some (.bool n)) (H:(f n).wp h Q):(ldB a>>=f).wp h Q:=⟨n,hc,H⟩
theorem Gj {a:Addr} {n:ByteArray} {f:ByteArray→M β} (hc:KV h a=some (.string n)) (H:(f n).wp h Q):(ldS a>>=f).wp h Q:=⟨n,hc,H⟩
theorem UG {a:Addr} {n:Sl} {f:Sl→M β} (hc:KV h a=some n.v) (H:(f n).wp h Q):(ldL a>>=f).wp h Q:=⟨n,hc,H⟩
theorem Wu {n:Nat} {a:Addr} {cs:Array Value} {f:Array Value→M β} (hs:cs.size=n) (hc:∀ i,i < n→KV h (a.add i)=cs[i]?) (H:(f cs).wp h Q):(ldG n a>>=f).wp h Q:=⟨cs,⟨hs,hc⟩,H⟩
theorem Gk {a:Addr} {v x:Value} {f:Unit→M β} (hc:KV h a=some x) (hf:VE h a=false) (h1:one v=true) (H:(f ()).wp (hset h a v) Q):(stV a v>>=f).wp h Q:=⟨(),⟨⟨x,hc⟩,hf,h1⟩,H⟩
theorem KJP {a:Addr} {cs:Array Value} {f:Unit→M β} (hc:∀ i,i < cs.size→(∃ x,KV h (a.add i)=some x)∧VE h (a.add i)=false) (h1:∀ v ∈ cs.toList,one v=true) (H:(f ()).wp (hsetL h a cs.toList 0) Q):(stG a cs>>=f).wp h Q:=⟨(),⟨hc,h1⟩,H⟩
theorem KHf {t:TypeId} {cs:Array Value} {f:Addr→M β} (H:(f ⟨h.size,0,none⟩).wp (h.push (.cells cs t)) Q):(mkB t cs>>=f).wp h Q:=⟨_,rfl,H⟩
theorem Uf {a:Addr} {f:Addr→M β} (H:(f a).wp h Q):(nilP (some a)>>=f).wp h Q:=⟨a,rfl,H⟩
theorem GW {s:Sl} {i:Int} {sz:Nat} {b:Addr} {f:Addr→M β} (h0:0≤i) (h1:i < s.len) (hb:s.base=some b) (H:(f (b.add (i.toNat * sz))).wp h Q):(ixL s i sz>>=f).wp h Q:=⟨_,⟨h0,h1,b,hb,rfl⟩,H⟩
theorem KIZ {b:Addr} {n:Nat} {i:Int} {sz:Nat} {f:Addr→M β} (h0:0≤i) (h1:i < n) (H:(f (b.add (i.toNat * sz))).wp h Q):(ixA b n i sz>>=f).wp h Q:=⟨_,⟨h0,h1,rfl⟩,H⟩
theorem KDW {s:Sl} {lo hi:Int} {sz:Nat} {f:Sl→M β} (h0:0≤lo) (h1:lo≤hi) (h2:hi≤s.cap) (H:(f ⟨if s.cap=lo.toNat then s.base else s.base.map (·.add (lo.toNat * sz)),hi.toNat - lo.toNat,s.cap - lo.toNat⟩).wp h Q):(slL s lo hi sz>>=f).wp h Q:=⟨_,⟨h0,h1,h2,rfl⟩,H⟩
theorem KJQ {a:Addr} {n:Nat} {lo hi:Int} {sz:Nat} {f:Sl→M β} (h0:0≤lo) (h1:lo≤hi) (h2:hi≤n) (H:(f ⟨some (if n=lo.toNat then a else a.add (lo.toNat * sz)),hi.toNat - lo.toNat,n - lo.toNat⟩).wp h Q):(slA a n lo hi sz>>=f).wp h Q:=⟨_,⟨h0,h1,h2,rfl⟩,H⟩
theorem KA8 {e len:Nat} {cells:Array Value} {f:Sl→M β} (H:(f ⟨some ⟨h.size,0,none⟩,len,len⟩).wp (h.push (.cells cells e)) Q):(bdL e len cells>>=f).wp h Q:=⟨_,rfl,H⟩
theorem KIa {s:Sl} {ns:List UInt8} {f:ByteArray→M β} (hl:ns.length=s.len) (hr:Y2 h s.base (ns.map fun b=>Value.int .u8 (b.toNat:Int))) (H:(f ⟨ns.toArray⟩).wp h Q):(b2s s>>=f).wp h Q:=⟨_,⟨ns,hl,hr,rfl⟩,H⟩
end b
theorem Zn (b o n:Nat):(⟨b,o,none⟩:Addr).add n=⟨b,o+n,none⟩:=by
 cases n with
 | zero=>rfl
 | succ n=>simp [Addr.add]
theorem Ks {h:Heap} {b o:Nat} {cs:Array Value} {t:TypeId} {z:Nat × Nat} (hb:h[b]?=some (.cells cs t z)):KV h ⟨b,o,none⟩=cs[o]?:=by
 simp [KV,hb]
theorem JH {h:Heap} {b o:Nat} {cs:Array Value} {t:TypeId} (hb:h[b]?=some (.cells cs t (0,0))):VE h ⟨b,o,none⟩=false:=by
 simp [VE,hb]
theorem Nc {h:Heap} {o:Obj} {i:Nat} (hi:i < h.size):(h.push o)[i]?=h[i]?:=by
 rw [Array.getElem?_push]
 rw [if_neg (by omega)]
theorem Zj {h:Heap} {o:Obj}:(h.push o)[h.size]?=some o:=by simp
theorem Gl {h:Heap} {a:Addr} {v:Value}:(hset h a v).size=h.size:=by simp [hset]
theorem GD {h:Heap} {a:Addr} {v:Value} {i:Nat} (hi:i≠a.block):(hset h a v)[i]?=h[i]?:=by
 simp only [hset,Array.getElem?_modify]
 rw [if_neg (fun e=>hi e.symm)]
theorem Wf {h:Heap} {b o:Nat} {v:Value} {cs:Array Value} {t:TypeId} {z:Nat × Nat} (hb:h[b]?=some (.cells cs t z)):(hset h ⟨b,o,none⟩ v)[b]?=some (.cells (cs.setIfInBounds o v) t z):=by
 simp only [hset,Array.getElem?_modify,if_true,hb,Option.map_some]
 rfl
theorem Yx {a:Addr}:∀ (vs:List Value) (h:Heap) (i:Nat),(hsetL h a vs i).size=h.size
 | [],_,_=>rfl
 | v::r,h,i=>by simp only [hsetL]; rw [Yx r,Gl]
theorem Y3 (a:Addr) (n:Nat):(a.add n).block=a.block:=by
 cases n <;> rfl
theorem N6 {a:Addr} {j:Nat} (hj:j≠a.block):∀ (vs:List Value) (h:Heap) (i:Nat),(hsetL h a vs i)[j]?=h[j]?
 | [],_,_=>rfl
 | v::r,h,i=>by simp only [hsetL]; rw [N6 hj r,GD (by rw [Y3]; exact hj)]
def lay (cs:Array Value) (o:Nat):List Value→Array Value
 | []=>cs
 | v::r=>lay (cs.setIfInBounds o v) (o+1) r
theorem N7 {b o:Nat} {t:TypeId} {z:Nat × Nat}:∀ (vs:List Value) (h:Heap) (i:Nat) (cs:Array Value),h[b]?=some (.cells cs t z)→(hsetL h ⟨b,o,none⟩ vs i)[b]?=some (.cells (lay cs (o+i) vs) t z)
 | [],h,i,cs,hb=>hb
 | v::r,h,i,cs,hb=>by
  simp only [hsetL,lay]
  rw [Zn]
  exact N7 r _ (i+1) _ (Wf hb)
theorem ND:∀ (vs:List Value) (cs:Array Value) (o:Nat),(lay cs o vs).size=cs.size
 | [],_,_=>rfl
 | v::r,cs,o=>by simp only [lay]; rw [ND r]; simp
theorem W2:∀ (vs:List Value) (cs:Array Value) (o:Nat),o+vs.length≤cs.size→(lay cs o vs).toList=cs.toList.take o++vs++cs.toList.drop (o+vs.length)
 | [],cs,o,_=>by simp [lay]
 | v::r,cs,o,h=>by
  simp only [List.length_cons] at h
  simp only [lay]
  rw [W2 r _ _ (by simp; omega)]
  simp only [Array.toList_setIfInBounds,List.length_cons]
  have h1:(cs.toList.set o v).take (o+1)=cs.toList.take o++[v]:=by
   rw [List.take_succ_eq_append_getElem (by simp; omega),List.take_set_of_le (Nat.le_refl _)]
   simp
  rw [h1,List.drop_set_of_lt (by omega)]
  simp [Nat.add_assoc,Nat.add_comm 1]
structure Ext (h h':Heap):Prop where
 size:h.size≤h'.size
 same:∀ i,i < h.size→h'[i]?=h[i]?
theorem Ext.refl (h:Heap):Ext h h:=⟨Nat.le_refl _,fun _ _=>rfl⟩
theorem Ext.trans {h h' h'':Heap} (a:Ext h h') (b:Ext h' h''):Ext h h'':=⟨Nat.le_trans a.size b.size,fun i hi=>(b.same i (Nat.lt_of_lt_of_le hi a.size)).trans (a.same i hi)⟩
theorem Ext.push (h:Heap) (o:Obj):Ext h (h.push o):=⟨by simp,fun i hi=>Nc hi⟩
theorem Ext.pushed {h h':Heap} (a:Ext h h') (o:Obj):Ext h (h'.push o):=a.trans (Ext.push _ _)
theorem Ext.hset {h h':Heap} (a:Ext h h') {p:Addr} {v:Value} (hp:h.size≤p.block):Ext h (hset h' p v) :=
 ⟨by rw [Gl]; exact a.size,fun i hi=>by rw [GD (by omega)]; exact a.same i hi⟩
theorem Ext.hsetL {h h':Heap} (a:Ext h h') {p:Addr} {vs:List Value} {j:Nat} (hp:h.size≤p.block):Ext h (hsetL h' p vs j) :=
 ⟨by rw [Yx]; exact a.size,fun i hi=>by rw [N6 (by omega)]; exact a.same i hi⟩
theorem Ext.cell {h h':Heap} (a:Ext h h') {p:Addr} {v:Value} (hc:KV h p=some v):KV h' p=some v:=by
 have hlt:p.block < h.size:=by
  rcases Nat.lt_or_ge p.block h.size with h1 | h1
  ·exact h1
  ·simp [KV,Array.getElem?_eq_none h1] at hc
 simp only [KV,a.same _ hlt] at hc ⊢
 exact hc
theorem Ext.blk {h h':Heap} (a:Ext h h') {b:Nat} {o:Obj} (hb:h[b]?=some o):h'[b]?=some o:=by
 have hlt:b < h.size:=by
  rcases Nat.lt_or_ge b h.size with h1 | h1
  ·exact h1
  ·rw [Array.getElem?_eq_none h1] at hb; cases hb
 rw [a.same _ hlt]; exact hb
theorem Ext.reads {h h':Heap} (a:Ext h h') {b:Option Addr} {cs:List Value} (hr:Y2 h b cs):Y2 h' b cs:=by
 rcases hr with h1 | ⟨p,hp,hc⟩
 ·exact .inl h1
 ·exact .inr ⟨p,hp,fun j v hj=>a.cell (hc j v hj)⟩
theorem GR {h:Heap} {b:Nat} {o:Obj} (hb:h[b]?=some o):b < h.size:=by
 rcases Nat.lt_or_ge b h.size with h1 | h1
 ·exact h1
 ·rw [Array.getElem?_eq_none h1] at hb; cases hb
def bv (b:UInt8):Value:=.int .u8 (b.toNat:Int)
def KAb (l:List UInt8):Array Value:=(l.map bv).toArray
theorem KDX (l:List UInt8) (i:Nat):(KAb l)[i]?=(l[i]?).map bv:=by simp [KAb]
theorem KIb (b:UInt8):one (bv b)=true:=rfl
theorem KDY (l:List UInt8) (i:Nat) (b:UInt8):(KAb l).setIfInBounds i (bv b)=KAb (l.set i b):=by
 apply Array.ext'
 simp [KAb,List.map_set]
structure Bys (h:Heap) (s:Sl) (l:List UInt8):Prop where
 len:s.len=l.length
 at_:Y2 h s.base (l.map bv)
theorem Bys.ext {h h':Heap} {s:Sl} {l:List UInt8} (hb:Bys h s l) (he:Ext h h'):Bys h' s l:=⟨hb.len,he.reads hb.at_⟩
theorem Bys.get {h:Heap} {s:Sl} {l:List UInt8} (hb:Bys h s l) {i:Nat} (hi:i < l.length):∃ a,s.base=some a∧KV h (a.add i)=some (bv l[i]):=by
 rcases hb.at_ with h1 | ⟨a,ha,hc⟩
 ·simp at h1; subst h1; simp at hi
 ·exact ⟨a,ha,hc i _ (by simp [List.getElem?_eq_getElem hi])⟩
theorem Bys.nil (h:Heap):Bys h Sl.nil []:=⟨rfl,.inl rfl⟩
def u8 (n:Int):UInt8:=UInt8.ofNat (n % 256).toNat
end Gx
namespace Gx
open Go
set_option linter.unusedVariables false
set_option linter.unusedSimpArgs false
theorem w64 {n:Int} (h0:-9223372036854775808≤n) (h1:n≤9223372036854775807):IntKind.wrap .i64 n=n:=by
 rw [IntKind.wrap_i64]; omega
theorem KEN {l:List UInt8} {j:Nat} (h:j < l.length):l.take (j+1)=l.take j++[l[j]]:=by
 rw [List.take_succ_eq_append_getElem h]
structure Upd (b:Nat) (h h':Heap):Prop where
 size:h'.size=h.size
 ne:∀ i,i≠b→h'[i]?=h[i]?
theorem Upd.refl (b:Nat) (h:Heap):Upd b h h:=⟨rfl,fun _ _=>rfl⟩
theorem Upd.trans {b:Nat} {h h' h'':Heap} (a:Upd b h h') (c:Upd b h' h''):Upd b h h'':=⟨c.size.trans a.size,fun i hi=>(c.ne i hi).trans (a.ne i hi)⟩
theorem Upd.hset (h:Heap) (b o:Nat) (v:Value):Upd b h (hset h ⟨b,o,none⟩ v):=⟨Gl,fun i hi=>GD hi⟩
theorem Upd.hsetL (h:Heap) (b o:Nat) (vs:List Value) (j:Nat):Upd b h (hsetL h ⟨b,o,none⟩ vs j):=⟨Yx _ _ _,fun i hi=>N6 hi _ _ _⟩
theorem Ext.upd {h h' h'':Heap} {b:Nat} (e:Ext h h') (u:Upd b h' h'') (hb:h.size≤b):Ext h h'':=⟨by rw [u.size]; exact e.size,fun i hi=>by rw [u.ne i (by omega)]; exact e.same i hi⟩
def BB (h:Heap) (b:Nat) (t:TypeId) (l:List UInt8):Prop:=h[b]?=some (.cells (KAb l) t (0,0))
theorem BB.cell {h:Heap} {b:Nat} {t:TypeId} {l:List UInt8} (hb:BB h b t l) {i:Nat} (hi:i < l.length):KV h ⟨b,i,none⟩=some (bv l[i]):=by
 rw [Ks hb,KDX,List.getElem?_eq_getElem hi]; rfl
theorem BB.frozen {h:Heap} {b:Nat} {t:TypeId} {l:List UInt8} (hb:BB h b t l) (i:Nat):VE h ⟨b,i,none⟩=false:=JH hb
theorem BB.set {h:Heap} {b:Nat} {t:TypeId} {l:List UInt8} (hb:BB h b t l) (i:Nat) (x:UInt8):BB (hset h ⟨b,i,none⟩ (bv x)) b t (l.set i x):=by
 unfold BB
 rw [Wf hb,KDY]
theorem BB.upd {h h':Heap} {b c:Nat} {t:TypeId} {l:List UInt8} (hb:BB h b t l) (u:Upd c h h') (hne:b≠c):BB h' b t l:=by
 unfold BB
 rw [u.ne b hne]; exact hb
theorem BB.bys {h:Heap} {b:Nat} {t:TypeId} {l:List UInt8} (hb:BB h b t l) (o n cap:Nat) (hl:o+n≤l.length):Bys h ⟨some ⟨b,o,none⟩,n,cap⟩ ((l.drop o).take n):=by
 refine ⟨by simp; omega,.inr ⟨_,rfl,fun j v hj=>?_⟩⟩
 rw [Zn]
 have hlt:j < ((l.drop o).take n).length:=by
  rcases Nat.lt_or_ge j ((l.drop o).take n).length with h' | h'
  ·exact h'
  ·rw [List.getElem?_eq_none (by simpa using h')] at hj; cases hj
 have hlt':j < n∧o+j < l.length:=by simp at hlt; omega
 rw [hb.cell hlt'.2]
 rw [List.getElem?_map,List.getElem?_eq_getElem hlt] at hj
 simp at hj
 rw [← hj]
theorem w64n {n:Nat} (h:n≤9223372036854775807):IntKind.wrap .i64 (n:Int)=(n:Int):=w64 (by omega) (by omega)
theorem XP {α:Type} {a b:List α} {x y:α} {o:Nat} (h:a.length=o):(a++x::b).set o y=a++y::b:=by
 subst h; simp
theorem KHg (c:List Value):∀ (cs:Array Value) (off k:Nat),(c.zipIdx k).foldl (fun cs (x:Value × Nat)=>cs.setIfInBounds (off+x.2) x.1) cs=lay cs (off+k) c:=by
 induction c with
 | nil=>intro cs off k; rfl
 | cons v r ih =>
  intro cs off k
  rw [List.zipIdx_cons,List.foldl_cons,ih]
  rfl
theorem zf {place:Nat→Option (Nat × Nat)} {cells:Array Value} {i off size:Nat} {v:Value} {rest:List (Nat × Value)} (hp:place i=some (off,size)) (hs:v.cells.size=size) (hl:off+size≤cells.size) :
  Instr.fill place cells ((i,v)::rest)=Instr.fill place (lay cells off v.cells.toList) rest:=by
 conv=>lhs; unfold Instr.fill
 simp only [hp]
 rw [if_neg (by rw [hs]; simp; omega)]
 congr 1
 rw [← Array.foldl_toList,Array.toList_zipIdx]
 exact KHg _ _ _ 0
theorem ZV {cs:Array Value} {vs:List Value} (h:vs.length=cs.size):lay cs 0 vs=vs.toArray:=by
 apply Array.ext'
 rw [W2 _ _ _ (by omega)]
 simp [h]
theorem KF7 {β:Type} {h:Heap} {Q:β→Heap→Prop} {sz:Nat} {z c:Array Value} {f:Array Value→M β} (hc:c.size=sz) (H:(f c).wp h Q):(KA3 sz 1 z [(0,.agg c)]>>=f).wp h Q:=by
 refine ⟨c,?_,H⟩
 have hz:(zRow z (1 * sz)).size=sz:=by simp [zRow]
 show Instr.fill (fun i=>some (i * sz,sz)) (zRow z (1 * sz)) [(0,Value.agg c)]=some c
 rw [zf (off:=0) (size:=sz) (v:=Value.agg c) (by simp) hc (by omega)]
 show some _=some c
 rw [show (Value.agg c).cells=c from rfl,ZV (by rw [Array.length_toList]; omega)]
structure Row (lo:Nat) (h:Heap) (r:Sl) (sz b:Nat) (ty:TypeId) (cells:Array Value) (vs:List Value):Prop where
 base:r.base=some ⟨b,0,none⟩
 lo:lo≤b
 blk:h[b]?=some (.cells cells ty (0,0))
 size:cells.size=r.cap * sz
 cap:r.len≤r.cap
 len:vs.length=r.len * sz
 get:∀ (j:Nat) v,vs[j]?=some v→cells[j]?=some v
def Gw (lo:Nat) (h:Heap) (r:Sl) (sz:Nat) (vs:List Value):Prop:=(r=Sl.nil∧vs=[])∨∃ b ty cells,Row lo h r sz b ty cells vs
theorem Gw.nil (lo:Nat) (h:Heap) (sz:Nat):Gw lo h Sl.nil sz []:=.inl ⟨rfl,rfl⟩
def Sl.on (r:Sl) (i:Nat):Prop:=∃ a,r.base=some a∧a.block=i
theorem Gw.same {lo:Nat} {h h':Heap} {r:Sl} {sz:Nat} {vs:List Value} (H:Gw lo h r sz vs) (e:∀ i,Sl.on r i→h'[i]?=h[i]?):Gw lo h' r sz vs:=by
 rcases H with H | ⟨b,ty,cells,H⟩
 ·exact .inl H
 ·exact .inr ⟨b,ty,cells,H.base,H.lo,(e b ⟨_,H.base,rfl⟩).trans H.blk,H.size,H.cap,H.len,H.get⟩
theorem Gw.lt {lo:Nat} {h:Heap} {r:Sl} {sz:Nat} {vs:List Value} (H:Gw lo h r sz vs) {i:Nat} (hi:Sl.on r i):i < h.size∧lo≤i:=by
 obtain ⟨a,ha,rfl⟩:=hi
 rcases H with ⟨rfl,_⟩ | ⟨b,ty,cells,H⟩
 ·cases ha
 ·rw [H.base] at ha
  cases ha
  exact ⟨GR H.blk,H.lo⟩
theorem Gw.reads {lo:Nat} {h:Heap} {r:Sl} {sz:Nat} {vs:List Value} (H:Gw lo h r sz vs):Y2 h r.base vs:=by
 rcases H with ⟨_,rfl⟩ | ⟨b,ty,cells,H⟩
 ·exact .inl rfl
 ·refine .inr ⟨_,H.base,fun j v hj=>?_⟩
  rw [Zn,Nat.zero_add,Ks H.blk]
  exact H.get j v hj
theorem Gw.cell {lo:Nat} {h:Heap} {r:Sl} {sz:Nat} {vs:List Value} (H:Gw lo h r sz vs) {j:Nat} {v:Value} (hj:vs[j]?=some v):∃ b,r.base=some ⟨b,0,none⟩∧KV h ⟨b,j,none⟩=some v:=by
 rcases H with ⟨_,rfl⟩ | ⟨b,ty,cells,H⟩
 ·cases hj
 ·exact ⟨b,H.base,by rw [Ks H.blk]; exact H.get j v hj⟩
theorem Gw.len {lo:Nat} {h:Heap} {r:Sl} {sz:Nat} {vs:List Value} (H:Gw lo h r sz vs):vs.length=r.len * sz:=by
 rcases H with ⟨rfl,rfl⟩ | ⟨b,ty,cells,H⟩
 ·simp [Sl.nil]
 ·exact H.len
theorem Xn (z:Array Value) (n:Nat):(zRow z n).size=n:=by simp [zRow]
theorem KA9 {lo:Nat} {h:Heap} {Q:Sl→Heap→Prop} {e sz bytes:Nat} {z:Array Value} {r x:Sl} {vs news:List Value} (hz:z.size=sz) (H:Gw lo h r sz vs) (hn:news.length=x.len * sz) (hr:Y2 h x.base news) (h1:∀ v ∈ news,one v=true)
  (hb:(r.len+x.len) * bytes≤140737488355328) (hm:r.len+x.len≤9223372036854775807) (hlo:lo≤h.size)
  (hq:∀ h' r',Gw lo h' r' sz (vs++news)→r'.len=r.len+x.len→h.size≤h'.size→(∀ i,i < h.size→¬ Sl.on r i→h'[i]?=h[i]?)→(∀ i,Sl.on r' i→Sl.on r i∨h.size≤i)→Q r' h'):(apL e sz bytes z r x).wp h Q:=by
 refine ⟨news,hn,hr,?_⟩
 unfold apGo
 split
 ·rename_i hc
  rcases H with ⟨rfl,rfl⟩ | ⟨b,ty,cells,H⟩
  ·have h0:x.len=0:=by simp [Sl.nil] at hc; exact hc
   have:news=[]:=List.length_eq_zero_iff.1 (by rw [hn,h0]; simp)
   subst this
   refine ⟨fun a ha=>(by cases ha),by simp,?_⟩
   rw [h0]
   exact hq h _ (.inl ⟨rfl,rfl⟩) (by rw [h0]) (Nat.le_refl _) (fun i _ _=>rfl) (fun i hi=>.inl hi)
  ·have hsz:r.len * sz+news.length≤cells.size:=by
    rw [hn,H.size,← Nat.add_mul]
    exact Nat.mul_le_mul_right _ hc
   have hblk:(Yj h r.base (r.len * sz) news)[b]?=some (.cells (lay cells (r.len * sz) news) ty (0,0)):=by
    rw [H.base]
    show (hsetL h ((⟨b,0,none⟩:Addr).add (r.len * sz)) news 0)[b]?=_
    rw [Zn,Nat.zero_add,N7 _ _ _ _ H.blk,Nat.add_zero]
   have hne:∀ i,i≠b→(Yj h r.base (r.len * sz) news)[i]?=h[i]?:=fun i hi=>by
    rw [H.base]
    show (hsetL h ((⟨b,0,none⟩:Addr).add (r.len * sz)) news 0)[i]?=_
    rw [Zn,N6 hi]
   have hsize:(Yj h r.base (r.len * sz) news).size=h.size:=by
    rw [H.base]
    exact Yx _ _ _
   refine ⟨fun a ha j hj=>?_,h1,hq _ _ (.inr ⟨b,ty,_,H.base,H.lo,hblk,?_,hc,?_,fun j v hj=>?_⟩) rfl (by rw [hsize]; exact Nat.le_refl _) (fun i hi hno=>hne i (fun e=>hno ⟨_,H.base,e.symm⟩)) (fun i hi=>.inl hi)⟩
   ·rw [H.base] at ha; cases ha
    rw [Zn,Zn,Nat.zero_add,Ks H.blk,JH H.blk]
    exact ⟨⟨_,Array.getElem?_eq_getElem (by omega)⟩,rfl⟩
   ·rw [ND]; exact H.size
   ·rw [List.length_append,H.len,hn,Nat.add_mul]
   ·rw [← Array.getElem?_toList,W2 _ _ _ hsz]
    have hlen:(cells.toList.take (r.len * sz)).length=r.len * sz:=by rw [List.length_take,Array.length_toList]; omega
    by_cases hj1:j < vs.length
    ·rw [List.getElem?_append_left hj1] at hj
     have:=H.get j v hj
     rw [List.append_assoc,List.getElem?_append_left (by rw [hlen,← H.len]; exact hj1),List.getElem?_take,if_pos (by rw [← H.len]; exact hj1),Array.getElem?_toList]
     exact this
    ·rw [List.getElem?_append_right (by omega)] at hj
     have hjn:j - vs.length < news.length:=(List.getElem?_eq_some_iff.1 hj).1
     rw [List.append_assoc,List.getElem?_append_right (by rw [hlen,← H.len]; omega),hlen,List.getElem?_append_left (by rw [← H.len]; exact hjn),← H.len]
     exact hj
 ·rename_i hc
  refine ⟨hb,hm,vs,H.len,H.reads,fun cap hcap=>?_⟩
  have hl:=H.len
  refine hq _ _ (.inr ⟨h.size,e,_,rfl,hlo,Zj,?_,hcap,?_,fun j v hj=>?_⟩) rfl (by simp) (fun i hi _=>Nc hi) (fun i hi=>.inr ?_)
  ·rw [Array.size_append,Array.size_append,Xn,List.size_toArray,List.size_toArray,hl,hn,hz]
   show r.len * sz+x.len * sz+(cap - (r.len+x.len)) * sz=cap * sz
   rw [← Nat.add_mul,← Nat.add_mul]
   congr 1
   omega
  ·rw [List.length_append,hl,hn,Nat.add_mul]
  ·have hlt:j < (vs++news).length:=(List.getElem?_eq_some_iff.1 hj).1
   rw [Array.getElem?_append_left (by simpa using hlt)]
   rw [← hj]
   simp
  ·obtain ⟨a,ha,rfl⟩:=hi
   cases ha
   exact Nat.le_refl _
structure Km (S:Nat→Prop) (h h':Heap):Prop where
 size:h.size≤h'.size
 same:∀ i,i < h.size→¬ S i→h'[i]?=h[i]?
theorem Km.refl (S:Nat→Prop) (h:Heap):Km S h h:=⟨Nat.le_refl _,fun _ _ _=>rfl⟩
theorem Km.trans {S:Nat→Prop} {h h' h'':Heap} (a:Km S h h') (b:Km S h' h''):Km S h h'' :=
 ⟨Nat.le_trans a.size b.size,fun i hi hn=>(b.same i (Nat.lt_of_lt_of_le hi a.size) hn).trans (a.same i hi hn)⟩
theorem Km.ext {S:Nat→Prop} {h h':Heap} (a:Ext h h'):Km S h h':=⟨a.size,fun i hi _=>a.same i hi⟩
theorem Km.upd {S:Nat→Prop} {h h':Heap} {b:Nat} (u:Upd b h h') (hb:S b):Km S h h':=⟨by rw [u.size]; exact Nat.le_refl _,fun i hi hn=>u.ne i (fun e=>hn (e ▸ hb))⟩
theorem Km.blk {S:Nat→Prop} {h h':Heap} (k:Km S h h') {b:Nat} {o:Obj} (hb:h[b]?=some o) (hn:¬ S b):h'[b]?=some o:=(k.same b (GR hb) hn).trans hb
theorem Ext.km {S:Nat→Prop} {h h' h'':Heap} (e:Ext h h') (k:Km S h' h'') (hF:∀ i,S i→h.size≤i):Ext h h'' :=
 ⟨Nat.le_trans e.size k.size,fun i hi=>(k.same i (Nat.lt_of_lt_of_le hi e.size) (fun ho=>by have:=hF i ho; omega)).trans (e.same i hi)⟩
theorem Gw.bys {lo:Nat} {h:Heap} {r:Sl} {l:List UInt8} (H:Gw lo h r 1 (l.map bv)):Bys h r l:=⟨by have:=H.len; simp at this; exact this.symm,H.reads⟩
theorem Gw.cap {lo:Nat} {h:Heap} {r:Sl} {sz:Nat} {vs:List Value} (H:Gw lo h r sz vs):r.len≤r.cap:=by
 rcases H with ⟨rfl,_⟩ | ⟨b,ty,cells,H⟩
 ·exact Nat.le_refl _
 ·exact H.cap
theorem Gw.ext {lo:Nat} {h h':Heap} {r:Sl} {sz:Nat} {vs:List Value} (H:Gw lo h r sz vs) (e:Ext h h'):Gw lo h' r sz vs:=H.same fun i hi=>e.same i (H.lt hi).1
theorem Gw.weak {lo lo':Nat} {h:Heap} {r:Sl} {sz:Nat} {vs:List Value} (H:Gw lo h r sz vs) (hl:lo'≤lo):Gw lo' h r sz vs:=by
 rcases H with H | ⟨b,ty,cells,H⟩
 ·exact .inl H
 ·exact .inr ⟨b,ty,cells,H.base,Nat.le_trans hl H.lo,H.blk,H.size,H.cap,H.len,H.get⟩
theorem zH (s:Sl):one s.v=true:=by cases s; rfl
theorem stR {β:Type} {h:Heap} {Q:β→Heap→Prop} {b off:Nat} {cs vs:Array Value} {ty:TypeId} {f:Unit→M β} (hb:h[b]?=some (.cells cs ty (0,0))) (hl:off+vs.size≤cs.size) (h1:∀ v ∈ vs.toList,one v=true)
  (H:∀ h',Upd b h h'→h'[b]?=some (.cells (lay cs off vs.toList) ty (0,0))→(f ()).wp h' Q):(stG ⟨b,off,none⟩ vs>>=f).wp h Q:=by
 refine KJP (fun i hi=>?_) h1 (H _ (Upd.hsetL _ _ _ _ _) (by rw [N7 _ _ _ _ hb,Nat.add_zero]))
 rw [Zn,Ks hb]
 exact ⟨⟨_,Array.getElem?_eq_getElem (by omega)⟩,JH hb⟩
theorem ldR {β:Type} {h:Heap} {Q:β→Heap→Prop} {b n:Nat} {cs:Array Value} {ty:TypeId} {f:Array Value→M β} (hb:h[b]?=some (.cells cs ty (0,0))) (hn:cs.size=n) (H:(f cs).wp h Q):(ldG n ⟨b,0,none⟩>>=f).wp h Q :=
 Wu hn (fun i hi=>by rw [Zn,Nat.zero_add,Ks hb]) H
theorem Ext.modify {h h':Heap} {b:Nat} {f:Obj→Obj} (e:Ext h h') (hb:h.size≤b):Ext h (h'.modify b f) :=
 ⟨by rw [Array.size_modify]; exact e.size,fun i hi=>by
  rw [Array.getElem?_modify,if_neg (by omega)]; exact e.same i hi⟩
end Gx
namespace Gx
open Go
section
variable {P:Program} {n:Frm} {a:Act} {w:World} {l:List (Nat × Value)} {dst:Option Tmp} {ty:TypeId} {pos:String} {aft:Array Edge} {g:Option (Nat × Bool)}
theorem KHh {b:Bool} {len cap:Nat} {k' k'':IntKind} {hi mx:Int} (h1:0≤hi) (h2:hi≤mx) (h3:mx≤cap):(Instr.sliceBounds b len cap none (some (.int k' hi)) (some (.int k'' mx))).run P w=.ok (0,hi.toNat,mx.toNat) w:=by
 have e2:hi≤((mx.toNat:Nat):Int):=by omega
 simp [Instr.sliceBounds,KA1 rfl (by omega:0≤mx) h3,KA1 rfl h1 e2]
theorem KCH {t e m:Nat} {x z u:Operand} {s:Sl} {k' k'':IntKind} {hi mx:Int} {r:Sl} (hE:Env n a l) (hx:opv l x=some s.v) (hz:opv l z=some (.int k' hi)) (hu:opv l u=some (.int k'' mx)) (ht:P.underlying t=some (.slice e)) (hm:szB P e m=true)
  (hc:0≤(0:Int)∧(0:Int)≤hi∧hi≤mx∧mx≤s.cap∧r=⟨if mx.toNat=(0:Int).toNat then s.base else s.base.map (·.add ((0:Int).toNat * m)),hi.toNat - (0:Int).toNat,mx.toNat - (0:Int).toNat⟩) :
  (execOp a.eval ⟨dst,.slice t x none (some z) (some u),ty,pos,aft,g⟩).run P w=.ok (.value r.v) w:=by
 obtain ⟨h0,h1,h2,h3,rfl⟩:=hc
 simp [execOp,hE.opv hx,hE.opv hz,hE.opv hu,Instr.sliceAt,Instr.slice,run_underlying ht,KHh h1 h2 h3,Us hm,Sl.v]
end
end Gx
namespace Gx
open Go
set_option linter.unusedVariables false
set_option linter.unusedSimpArgs false
theorem Upd.set_ (h:Heap) (l:Nat) (o:Obj):Upd l h (h.setIfInBounds l o):=⟨by simp,fun i hi=>by rw [Array.getElem?_setIfInBounds,if_neg (fun e=>hi e.symm)]⟩
theorem KCs {h:Heap} {l:Nat} {o o':Obj} (hb:h[l]?=some o):(h.setIfInBounds l o')[l]?=some o':=by
 rw [Array.getElem?_setIfInBounds,if_pos rfl,if_pos (GR hb)]
def SeqW (P:Program) {α:Type} (enc:α→List Value) (xs:List α) (g:Value) (J:Nat→Heap→Prop):Prop :=
 ∀ (l:Nat) (Inv:Nat→Heap→Prop) (Stop:Heap→Prop) (h:Heap),(∀ i h1,Inv i h1→J i h1)→Inv 0 h →
  (∀ i (hi:i < xs.length) h1,Inv i h1→(GV P (fun b:Bool=>.bool b) (yV l) (enc xs[i])).wp h1 (fun b h2=>if b=true then Inv (i+1) h2 else Stop h2)) →
  (GV P (fun _:Unit=>.tuple #[]) g [yV l]).wp h (fun _ h1=>Inv xs.length h1∨Stop h1)
end Gx
namespace Gx
open Go Gx.Last
set_option linter.unusedVariables false
structure EnvD (ds:List Deferred) (m:Nat) (a:Act) (l:List (Nat × Value)):Prop where
 env:Env ⟨m,[]⟩ { tmps:=a.tmps,defers:=[] } l
 def_:a.defers=ds
section
variable {P:Program} {ops:Array Oper} {Q:Exit→Act→World→Prop} {a:Act} {w w0:World} {l:List (Nat × Value)} {rest:List Oper} {o:Oper} {ds:List Deferred} {m:Nat}
theorem EnvD.put (hE:EnvD ds m a l) (d:Nat) (v:Value) (hd:Nat.blt d m=true):EnvD ds m (a.put (some d) v) ((d,v)::l):=⟨hE.env.put d v hd,hE.def_⟩
theorem KDZ (h:Q .normal a w):wpListIn (Fw none) 1 P ops Q [] a w:=h
theorem KIc {v:Value} {w1:World} (hg:o.guard=none) (hrun:(execOp a.eval o).run P w=.ok (.value v) w1) (h:wpListIn (Fw none) 1 P ops Q rest (a.put o.dst v) w1):wpListIn (Fw none) 1 P ops Q (o::rest) a w:=by
 refine wpListIn_plain hg fun K' hK=>⟨fun _ _=>trivial,?_⟩
 rw [KAt hrun (fun d h=>by cases h)]
 exact hK _ _ h
theorem N8 {d:Nat} {v:Value} (hd:o.dst=some d) (hg:o.guard=none) (hE:EnvD ds m a l) (hn:Nat.blt d m=true) (hrun:∀ b:Act,Env ⟨m,[]⟩ b l→(execOp b.eval o).run P w=.ok (.value v) w)
  (h:∀ a',EnvD ds m a' ((d,v)::l)→wpListIn (Fw none) 1 P ops Q rest a' w):wpListIn (Fw none) 1 P ops Q (o::rest) a w:=by
 refine KIc hg (show (execOp a.eval o).run P w=.ok (.value v) w from hrun { tmps:=a.tmps,defers:=[] } hE.env) ?_
 rw [hd]
 exact h _ (hE.put d v hn)
theorem KCt {d:Nat} {v:Value} {h1:Heap} (hd:o.dst=some d) (hg:o.guard=none) (hE:EnvD ds m a l) (hn:Nat.blt d m=true) (hR:Rest w0 w) (hrun:∀ b:Act,Env ⟨m,[]⟩ b l→(execOp b.eval o).run P w=.ok (.value v) { w with heap:=h1 })
  (h:∀ a' w',EnvD ds m a' ((d,v)::l)→Rest w0 w'→w'.heap=h1→wpListIn (Fw none) 1 P ops Q rest a' w'):wpListIn (Fw none) 1 P ops Q (o::rest) a w:=by
 refine KIc hg (show (execOp a.eval o).run P w=.ok (.value v) { w with heap:=h1 } from hrun { tmps:=a.tmps,defers:=[] } hE.env) ?_
 rw [hd]
 exact h _ _ (hE.put d v hn) (hR.trans ⟨rfl,rfl,rfl,Nat.le_refl _⟩) rfl
theorem KF8 {h1:Heap} (hd:o.dst=none) (hg:o.guard=none) (hE:EnvD ds m a l) (hR:Rest w0 w) (hrun:∀ b:Act,Env ⟨m,[]⟩ b l→(execOp b.eval o).run P w=.ok .skip { w with heap:=h1 })
  (h:∀ a' w',EnvD ds m a' l→Rest w0 w'→w'.heap=h1→wpListIn (Fw none) 1 P ops Q rest a' w'):wpListIn (Fw none) 1 P ops Q (o::rest) a w:=by
 refine wpListIn_plain hg fun K' hK=>⟨fun _ _=>trivial,?_⟩
 rw [KAt (show (execOp a.eval o).run P w=.ok .skip { w with heap:=h1 } from hrun { tmps:=a.tmps,defers:=[] } hE.env) (fun d h=>by cases h)]
 refine hK _ _ ?_
 rw [hd]
 exact h _ _ hE (hR.trans ⟨rfl,rfl,rfl,Nat.le_refl _⟩) rfl
theorem KEO {d:Option Nat} {f:FuncId} {as:Array Operand} {ts:Array TypeId} {ty:TypeId} {pos:String} {aft:Array Edge} {vs:List Value} {ρ:Type} {enc:ρ→Value} {F:M (Value ⊕ ρ)} {Qx:Value ⊕ ρ→Heap→Prop}
  (hE:EnvD ds m a l) (hR:Rest w0 w) (hc:Callee? P f) (ha:opvs l as.toList=some vs) (hS:Xl P f vs.toArray enc F) (H:F.wp w.heap Qx)
  (hp:∀ v w',Rest w0 w'→Qx (.inl v) w'.heap→Q (.panic [{ v:=v,recovered:=false }]) a w')
  (h:∀ r a' w',a'=a.put d (enc r)→Rest w0 w'→Qx (.inr r) w'.heap→wpListIn (Fw none) 1 P ops Q rest a' w') :
  wpListIn (Fw none) 1 P ops Q (⟨d,.call { callee:=.value (.func f),args:=as,argTypes:=ts },ty,pos,aft,none⟩::rest) a w:=by
 refine wpListIn_plain rfl fun K' hK=>⟨fun _ _=>trivial,?_⟩
 have hrun:(execOp a.eval ⟨d,.call { callee:=.value (.func f),args:=as,argTypes:=ts },ty,pos,aft,none⟩).run P w=.ok (.enter f vs.toArray) w:=KBh (a:={ tmps:=a.tmps,defers:=[] }) hE.env hc ha
 rw [KAt hrun (fun d h=>by cases h),Oper.uponIn_enter]
 refine ⟨fun _=>Nat.le_refl 1,NB ((hS w _ H).mono ?_)⟩
 rintro e w' ⟨r,he,hq,hr⟩
 cases r with
 | inl v=>subst he; exact hp v w' (hR.trans hr) hq
 | inr r=>subst he; exact hK _ _ (h r _ w' rfl (hR.trans hr) hq)
theorem KHi {x:Operand} {fv:Fn} {cap:Array Value} {ty:TypeId} {pos:String} {aft:Array Edge} (hE:EnvD ds m a l) (hx:opv l x=some (.func fv #[] cap))
  (h:∀ a',EnvD ({ target:=.fn fv cap,args:=#[] }::ds) m a' l→wpListIn (Fw none) 1 P ops Q rest a' w) :
  wpListIn (Fw none) 1 P ops Q (⟨none,.defer { callee:=.value x,args:=#[],argTypes:=#[] },ty,pos,aft,none⟩::rest) a w:=by
 refine wpListIn_plain rfl fun K' hK=>⟨fun _ _=>trivial,?_⟩
 have hrun:(execOp a.eval ⟨none,.defer { callee:=.value x,args:=#[],argTypes:=#[] },ty,pos,aft,none⟩).run P w=.ok (.defer { target:=.fn fv cap,args:=#[] }) w:=by
  have hx':a.eval x=.func fv #[] cap:=Env.opv (a:={ tmps:=a.tmps,defers:=[] }) hE.env hx
  simp [execOp,resolve,Deferred.ofValue,hx']
 rw [show (Fw none).round=none from rfl,Oper.semAt_none,hrun,Oper.uponIn_defer]
 exact hK _ _ (h _ ⟨hE.env,by show _::a.defers=_; rw [hE.def_]⟩)
theorem GE {id:Nat} {ops:Array Oper} (h:wpListIn (Fw none) 1 P ops Q ops.toList a w):(Code.region id ops false).wpIn (Fw none) 1 P Q a w:=wpIn_region_list h
theorem KId {t:Nat} {x y:Code} (b:Bool) (hE:EnvD ds m a l) (hb:look l t=some (.bool b)) (ht:b=true→x.wpIn (Fw none) 1 P Q a w) (hf:b=false→y.wpIn (Fw none) 1 P Q a w):(Code.cond (.tmp t) x y).wpIn (Fw none) 1 P Q a w :=
 wpIn_cond_split (show a.eval (.tmp t)=.bool b from Env.eval (a:={ tmps:=a.tmps,defers:=[] }) hE.env hb) ht hf
end
end Gx
