/- Own proofs: what those Lean programs compute. No condition. -/
import Derived.Test.YtpibdohdkfkcnaaGreatDoorP0
import Derived.Test.YtpibdohdkfkcnaaGreatDoorP1
import Derived.Test.YtpibdohdkfkcnaaGreatDoorP2
import Derived.Test.YtpibdohdkfkcnaaGreatDoorP3
import Derived.Test.YtpibdohdkfkcnaaGreatDoorP4
import Derived.Test.YtpibdohdkfkcnaaGreatDoorP5
import Derived.Test.YtpibdohdkfkcnaaGreatDoorP6
import Derived.Test.YtpibdohdkfkcnaaGreatDoorP7
import Derived.Test.YtpibdohdkfkcnaaGreatDoorP8
import Derived.Test.YtpibdohdkfkcnaaGreatDoorP9
import Derived.Test.YtpibdohdkfkcnaaGreatDoorP10
import Derived.Test.YtpibdohdkfkcnaaGreatDoorTie
import Derived.KernelRfl
import Derived.ChangeArms
import Derived.DataReads
import Derived.WalkKit
import Derived.ProofKit
import Derived.OpenShut
import Derived.ShutString
import Derived.ChangeOld
import Derived.Below
import Derived.SizedLaws
import Derived.Lib.SmallJoins
import Derived.Deep.DeepHandedRow
import Derived.Lib.LaidTab
import Derived.JoinedCond
import Derived.SevenTiedAt
set_option linter.unusedVariables false
set_option linter.unusedSimpArgs false
set_option maxRecDepth 100000
namespace Gx
open Go
theorem KPm (v:Vl):(KBj v !=0)=!mayV 8 v:=by
 unfold KBj
 cases mayV 8 v<;>rfl
theorem KLz:∀(d:Nat) (v:Vl),WfV d v→(txt d v).length+2≤26*wt v
 |0,v,_=>by have:=KQw v;simp [txt];omega
 |d+1,.mk k n s l,H=>by
  have hi:=KIX H.1
  have hq:(Un s).length≤4*s.length+2:=by
   rw [KGZ]
   have:(s.flatMap qc).length≤4*s.length:=by
    clear H
    induction s with
    |nil=>simp
    |cons a s ih=>rw [List.flatMap_cons,List.length_append,List.length_cons];have:=KR4 a;omega
   omega
  have hs:∀(ev od:List UInt8),ev.length=2→od.length=2→(shw ev od (l.map (txt d))).length≤26*wt.wts l:=by
   have hel:∀v∈l,(txt d v).length+2≤26*wt v:=fun v hv=>KLz d _ (H.2 v hv)
   clear H
   induction l with
   |nil=>intro ev od _ _;simp [shw]
   |cons a r ih=>
    intro ev od h1 h2
    have ha:=hel a (by simp)
    have ihr:=ih (fun v hv=>hel v (List.mem_cons_of_mem _ hv)) od ev h2 h1
    rw [List.map_cons,KIY,wt.wts]
    split
    ·omega
    ·rw [List.length_append,List.length_append];omega
  have h4:=hs [44,32] [44,32] rfl rfl
  have h5:=hs [58,32] [44,32] rfl rfl
  rw [wt]
  unfold txt
  repeat' split
  all_goals (try simp only [List.length_append,List.length_cons,List.length_nil])
  all_goals omega
theorem KRI {v:Vl} (h:WfV 8 v):(txV v).length+2≤26*wt v:=KLz 8 v h
def i64S (us:List Int):Prop:=∀n∈us,I64 n
mutual
def i64T:St→Prop
 | .mk _ _ us _ _ ss=>i64S us∧KL0 ss
def i64L:List St→Prop
 | []=>True
 |s::l=>i64T s∧i64L l
def KL0:List (List St)→Prop
 | []=>True
 |l::r=>i64L l∧KL0 r
end
theorem KRJ {S:Nat→Prop} {h:Heap} {x:Sl} {l:List Vl} (R:VsRepS S h x l):∀v∈l,WfV 8 v:=fun v hv=>by
 obtain⟨j,hj,rfl⟩:=List.getElem_of_mem hv
 obtain⟨a,cs,h1,h2,h3,h4,h5⟩:=R.at_.get hj
 exact KLP 8 _ _ h5.to
mutual
theorem KR8 {S:Nat→Prop} {h:Heap}:∀(s:St) (c:Array Value),YX S h s c→wfS s∧i64T s
 | .mk op ns us ps vs ss,c,H=>by
  obtain⟨x1,x2,x3,x4,x5,e,ho,r1,r2,r3,r4,r5⟩:=YX.eq.1 H
  rw [YX]at H
  obtain⟨_,_,_,_,y5,e',_,_,_,_,_,_,_,s5⟩:=H
  obtain⟨s1,s2⟩:=KOJ ss _ _ s5
  rw [wfS,i64T]
  refine⟨⟨KRJ r4,fun p hp=>?_,s1⟩,fun n hn=>?_,s2⟩
  ·obtain⟨j,hj,rfl⟩:=List.getElem_of_mem hp
   obtain⟨a,cs,_,_,_,_,y,_,_,hv⟩:=r3.at_ j hj
   exact KRJ hv
  ·obtain⟨j,hj,rfl⟩:=List.getElem_of_mem hn
   obtain⟨a,cs,_,_,_,_,_,hI⟩:=r2.at_ j hj
   exact hI
theorem KL1 {S:Nat→Prop} {h:Heap}:∀(l:List St) (b:Option Addr) (i:Nat),XW S h l b i→wfL l∧i64L l
 | [],_,_,_=>by rw [wfL,i64L];exact⟨trivial,trivial⟩
 |s::l,b,i,H=>by
  rw [XW]at H
  obtain⟨⟨a,cs,_,_,_,_,hs⟩,hl⟩:=H
  have h1:=KR8 s cs hs
  have h2:=KL1 l b (i+1) hl
  rw [wfL,i64L]
  exact⟨⟨h1.1,h2.1⟩,h1.2,h2.2⟩
theorem KOJ {S:Nat→Prop} {h:Heap}:∀(r:List (List St)) (b:Option Addr) (i:Nat),WG S h r b i→wfSs r∧KL0 r
 | [],_,_,_=>by rw [wfSs,KL0];exact⟨trivial,trivial⟩
 |l::r,b,i,H=>by
  rw [WG]at H
  obtain⟨⟨a,x,_,_,_,_,_,hs⟩,hl⟩:=H
  have h1:=KL1 l _ _ hs
  have h2:=KOJ r b (i+1) hl
  rw [wfSs,KL0]
  exact⟨⟨h1.1,h2.1⟩,h1.2,h2.2⟩
end
theorem Xy.wf {S:Nat→Prop} {h:Heap} {x:Sl} {l:List St} (H:Xy S h x l):wfL l∧i64L l:=KL1 l _ _ (Xy.at H)
end Gx
namespace Gx
open Go
theorem KFg (a b:Int):cmpI a b=0↔a=b:=by
 unfold cmpI
 (repeat' split)<;>omega
theorem KCK {x y:Int}:cOr x y=0↔x=0∧y=0:=by
 unfold cOr
 by_cases hx:x=0
 ·rw [if_pos hx];simp [hx]
 ·rw [if_neg hx];simp [hx]
def cmpL {α:Type} (f:α→α→Int):List α→List α→Int
 | [],[]=>0
 | [],_::_=>-1
 |_::_,[]=>1
 |a::l,b::l'=>cOr (f a b) (cmpL f l l')
theorem KHv {α:Type} {f:α→α→Int}:∀{l l':List α},(∀a∈l,∀b∈l',f a b=0↔a=b)→(cmpL f l l'=0↔l=l')
 | [],[],_=>by simp [cmpL]
 | [],_::_,_=>by simp [cmpL]
 |_::_,[],_=>by simp [cmpL]
 |a::l,b::l',h=>by
  rw [cmpL,KCK,h a (by simp) b (by simp),KHv (fun x hx y hy=>h x (List.mem_cons_of_mem _ hx) y (List.mem_cons_of_mem _ hy))]
  simp
def cmpU (a b:UInt8):Int:=cmpI (a.toNat:Int) (b.toNat:Int)
theorem KOK:∀s t:List UInt8,Lib.compareBytes s t=cmpL cmpU s t
 | [],[]=>rfl
 | [],_::_=>rfl
 |_::_,[]=>rfl
 |a::s,b::t=>by
  rw [Gi,cmpL,cOr,KOK s t]
  have:cmpU a b=0↔a=b:=by
   unfold cmpU
   rw [KFg,←UInt8.toNat_inj];omega
  by_cases h:a=b
  ·rw [if_pos h,if_pos (this.2 h)]
  ·rw [if_neg h,if_neg (fun h'=>h (this.1 h'))];rfl
theorem KPn (a b:UInt8):cmpU a b=0↔a=b:=by
 unfold cmpU
 rw [KFg,←UInt8.toNat_inj];omega
theorem KL2:∀l l':List Vl,Xv l l'=cmpL cmpV l l'
 | [],[]=>by simp [Xv,cmpL]
 | [],_::_=>by simp [Xv,cmpL]
 |_::_,[]=>by simp [Xv,cmpL]
 |a::l,b::l'=>by rw [Xv,cmpL,KL2 l l']
theorem KPo (k n k' n':Int) (s s':List UInt8) (l l':List Vl):cmpV (.mk k n s l) (.mk k' n' s' l')=cOr (cmpI k k') (cOr (cmpI n n') (cOr (cmpL cmpU s s') (cmpL cmpV l l'))):=by
 rw [cmpV,KOK,KL2]
theorem KRK {k n:Int} {s:List UInt8} {l:List Vl} {m:Nat} {v:Vl} (hm:sizeOf (Vl.mk k n s l)<m+1) (hv:v∈l):sizeOf v<m:=by
 have:=List.sizeOf_lt_of_mem hv
 simp only [Vl.mk.sizeOf_spec]at hm
 omega
theorem KNZ:∀(m:Nat) (a b:Vl),sizeOf a<m→(cmpV a b=0↔a=b):=by
 intro m
 induction m with
 |zero=>intro a b h;omega
 |succ m ih=>
  rintro⟨k,n,s,l⟩ ⟨k',n',s',l'⟩ hm
  rw [KPo,KCK,KCK,KCK,KFg,KFg,KHv (fun a _ b _=>KPn a b),KHv (fun a ha b hb=>ih a b (KRK hm ha))]
  simp
theorem KPp (a b:Vl):cmpV a b=0↔a=b:=KNZ _ a b (Nat.lt_succ_self _)
theorem KL3 (a:Vl):cmpV a a=0:=(KPp a a).2 rfl
end Gx
namespace Gx
open Go
theorem KJr {v:Vl} {x:Array Value} {h:Heap} {Q:Bool→Heap→Prop} (hx:VRep h v x) (hw:wt v≤1048576) (hp:KF6 h) (hd:KKi h) (he:ErrV h) (H:∀h',Ext h h'→Q true h'):(VM x).wp h Q:=by
 have hwf:=KLP 8 v x hx
 have hl:=KRI hwf
 unfold VM
 refine ZV (fun h1 e1 s1 g1=>KL (KBl (he.ext e1) (fun h2 e2=>?_)))
 have E2:=e1.trans e2
 refine NQ rfl (Kf (ldR (e2.blk g1) hx.size (Kf (KL (KHS (hx.ext E2) (fun h3 e3=>ZM ?_))))))
 have E3:=E2.trans e3
 rw [KPm]
 by_cases hm:mayV 8 v=true
 ·rw [hm]
  refine iteF rfl (ldR (e3.blk (e2.blk g1)) hx.size (KL (KJe (hx.ext E3) (by omega) (fun h4 e4=>?_))))
  have E4:=E3.trans e4
  have G4:=e4.blk (e3.blk (e2.blk g1))
  have hc:=KNY hm hwf
  refine KL (KHt (s:=txV v) (he.ext E4) (fun y hy=>?_) (fun w h5 c hpr e5 R5=>?_) (fun y h5 hpr e5=>?_))
  ·rcases hc with⟨h1,_⟩|⟨_,h1⟩
   ·rw [hy]at h1
    have h1:y.2=3:=h1
    rw [h1];decide
   ·rw [hy]at h1;cases h1
  ·have hvw:w=v:=by
    rcases hc with⟨_,h1⟩|⟨_,h1⟩
    ·rw [hpr]at h1;cases h1
    ·rw [hpr]at h1;cases h1;rfl
   subst hvw
   have E5:=E4.trans e5
   refine ZV (fun h6 e6 s6 g6=>Zt R5.size (stR g6 (by rw [R5.size];exact Nat.le_refl 4) R5.to.one (fun h7 u7 g7=>?_)))
   rw [Kp (by rw [Array.length_toList,R5.size];rfl)]at g7
   have e57:Ext h5 h7:=e6.upd u7 (Nat.le_refl _)
   have E7:=E5.trans e57
   have hne:decide (((bs (txV w)).size:Int)>16384)=false:=by
    rcases hc with⟨_,h1⟩|⟨hl2,_⟩
    ·rw [hpr]at h1;cases h1
    ·rw [Zc];exact decide_eq_false (by omega)
   refine iteF rfl (NQ hne (Kf (Y9 rfl (ZM ?_))))
   rw [show(((txV w).length:Int)==((bs (txV w)).size:Int))=true by rw [Zc];exact beq_self_eq_true _]
   refine Kf (Y9 rfl (Kf (ldR g7 R5.size (Kf (ldR (e57.blk (e5.blk G4)) hx.size (Kf (KL (KJV (R5.to.ext e57) (hx.ext E7) (fun h8 e8=>ZM (ZM (ZM (KI ?_))))))))))))
   rw [show decide (cmpV w w=0)=true from decide_eq_true (KL3 _)]
   exact H _ (E7.trans e8)
  ·have h3:y.2=3:=by
    rcases hc with⟨h1,_⟩|⟨_,h1⟩
    ·rw [hpr]at h1;exact h1
    ·rw [hpr]at h1;cases h1
   have E5:=E4.trans e5
   refine ZV (fun h6 e6 s6 g6=>Zt rfl (stR g6 (Nat.le_refl 4) (by intro u hu;simp only [vz,List.mem_cons,List.not_mem_nil,or_false]at hu;rcases hu with rfl|rfl|rfl|rfl<;>rfl) (fun h7 u7 g7=>?_)))
   dsimp only
   rw [h3]
   exact iteT rfl (KI (H _ (E5.trans (e6.upd u7 (Nat.le_refl _)))))
 ·rw [Bool.not_eq_true]at hm
  rw [hm]
  exact iteT rfl (KL (KBl (he.ext E3) (fun h4 e4=>KI (H _ (E3.trans e4)))))
end Gx
namespace Go.Proofs.YtpibdohdkfkcnaaGreatDoor
open Go Go.RowKit Gx
theorem c3:Tryz.prog.cellsOf 3=1:=by kernel_rfl
theorem c2:Tryz.prog.cellsOf 2=1:=by kernel_rfl
theorem c9:Tryz.prog.cellsOf 9=1:=by kernel_rfl
section
variable {H:Type} {enc:TypeId×Value→H}
theorem KI8 {W:World} {t:TypeId} {n:Nat} {c:Value} {x:DataW H×List MemPlace} {sp:Nat→Bool} {held:Bool} {base:Nat} (ht:Tryz.prog.underlying t=some (.int .i64)) (h:DataW.trod enc Tryz.prog W base sp held n t [c]=some x):∃z,c=.int .i64 z∧I64 z∧Rows.uptoBulk x.1=1:=by
 cases n with
 |zero=>simp [DataW.trod]at h
 |succ n=>
  unfold DataW.trod at h
  rw [ht]at h
  cases c with
  |int k z=>
   simp only at h
   split at h
   ·rename_i hk
    obtain⟨rfl,hw⟩:=hk
    cases h
    refine⟨z,rfl,?_,by simp [Rows.uptoBulk]⟩
    have:-9223372036854775808≤z∧z≤9223372036854775807:=by simpa [Lit.wf,IntKind.min,IntKind.max,IntKind.signed,IntKind.bits] using hw
    exact this
   ·cases h
  |_=>simp at h
theorem KNa {W:World} {t:TypeId} {n:Nat} {c:Value} {x:DataW H×List MemPlace} {sp:Nat→Bool} {held:Bool} {base:Nat} (ht:Tryz.prog.underlying t=some .string) (h:DataW.trod enc Tryz.prog W base sp held n t [c]=some x):∃s:ByteArray,c=.string s∧s.size≤maxLen∧Rows.uptoBulk x.1=s.data.toList.length+1:=by
 cases n with
 |zero=>simp [DataW.trod]at h
 |succ n=>
  unfold DataW.trod at h
  rw [ht]at h
  cases c with
  |string s=>
   simp only at h
   split at h
   ·rename_i hk
    cases h
    exact⟨s,rfl,hk,by simp [Rows.uptoBulk]⟩
   ·cases h
  |_=>simp at h
theorem KDy {W:World} {a:Addr}:W.cell? a=KM W.heap a:=rfl
end
end Go.Proofs.YtpibdohdkfkcnaaGreatDoor
namespace Gx
open Go Go.RowKit Go.ChangeShapes Go.WideShapes Go.ChangeAt Go.Joins
section
variable {H:Type} {enc:TypeId×Value→H} {P:Program}
theorem KNb {W W':World} (he:Ext W.heap W'.heap) {p:MemPlace} (hp:p.block<W.heap.size):W.sameAt W' p:=by
 cases p with
 |cell b o=>exact World.cell?_of_block (w:=W) (he.same b hp)
 |map b=>exact he.same b hp
theorem KNc {t:TypeId} (hl:laidOutB P=true) (hr:P.readableRec t=true) (hrow:t<P.types.size) {W W':World} {v:Value} {d:DataW H} {ps:List MemPlace}
  (h:DataW.Trod enc P W 0 (fun _=>true) true t v d ps) (he:Ext W.heap W'.heap):
  DataW.Trod enc P W' 0 (fun b=>decide (b<W.heap.size)) true t v d ps:=by
 have hlt:∀x∈ps,x.block<W.heap.size:=by
  obtain⟨m,hm⟩:=h
  exact DataW.trod_lt m _ _ _ hm
 exact WideElems.Trod_stays hl hr hrow h (fun x hx=>KNb he (hlt x hx)) (fun x hx=>by simpa using hlt x hx)
theorem KL4 {W W':World} (he:Ext W.heap W'.heap) (hr:Rest W W') (may:MemPlace→Prop):W.keptBut W' may:=by
 refine⟨hr.os,hr.output,fun i hi=>?_⟩
 rw [he.same i hi]
 split<;>simp_all
end
end Gx
namespace Go.Proofs.YtpibdohdkfkcnaaGreatDoor
open Go Go.RowKit Go.ChangeShapes Go.WideShapes Go.ChangeAt Go.Joins Gx
theorem Own:ownKnob Tryz.prog.godebug=none:=by kernel_rfl
theorem Laid:laidOutB Tryz.prog=true:=by kernel_rfl
def KNd:List (String×DataW Unit):=[("math/bits.deBruijn32tab",Rows.laid_math_bits_deBruijn32tab),("math/bits.deBruijn64tab",Rows.laid_math_bits_deBruijn64tab),("internal/strconv.uint64pow10",Rows.laid_internal_strconv_uint64pow10),("unicode/utf8.acceptRanges",Rows.laid_unicode_utf8_acceptRanges),("strconv.ErrRange",Rows.laid_strconv_ErrRange),("strconv.ErrSyntax",Rows.laid_strconv_ErrSyntax),("unicode/utf8.first",Rows.laid_unicode_utf8_first)]
theorem gPow:Tryz.prog.globalNamed "internal/strconv.uint64pow10"=some 3:=by kernel_rfl
theorem gDb:Tryz.prog.globalNamed "math/bits.deBruijn64tab"=some 5:=by kernel_rfl
theorem X2 {P:Program} {x:String×DataW Unit} {r:List (String×DataW Unit)} {W:World} (h:laidMet P (x::r) W):laidMet P r W:=by
 obtain⟨ps,h1,h2,h3⟩:=h
 obtain⟨n,d⟩:=x
 obtain⟨g,t,cs,fuel,p,q,a1,a2,a3,a4,a5,rfl⟩:=h1
 exact⟨q,a5,(List.nodup_append.1 h2).2.1,fun b off hb=>h3 b off (List.mem_append.2 (.inr hb))⟩
theorem KPq {W:World} (h:laidMet Tryz.prog KNd W):KF6 W.heap:=by
 have h1:Lib.TabIs Tryz.prog W "internal/strconv.uint64pow10" .u64 [1,10,100,1000,10000,100000,1000000,10000000,100000000,1000000000,10000000000,100000000000,1000000000000,10000000000000,100000000000000,1000000000000000,10000000000000000,100000000000000000,1000000000000000000,10000000000000000000]:=
  Lib.tabIs_of_head (rest:=[("unicode/utf8.acceptRanges",Rows.laid_unicode_utf8_acceptRanges),("strconv.ErrRange",Rows.laid_strconv_ErrRange),("strconv.ErrSyntax",Rows.laid_strconv_ErrSyntax),("unicode/utf8.first",Rows.laid_unicode_utf8_first)]) gPow (by kernel_rfl:(Tryz.prog.globals[3]?).map (·.type)=some 250) Tryz.underlying250 Tryz.underlying216 (by kernel_rfl) (by kernel_rfl) (X2 (X2 h))
 unfold Lib.TabIs at h1
 simp only [World.var?,gPow,Option.bind_some]at h1
 split at h1
 ·rename_i cs t fz hh
  cases h1
  exact⟨fz,t,hh⟩
 ·cases h1
theorem KRL {W:World} (h:laidMet Tryz.prog KNd W):KKi W.heap:=by
 have h1:Lib.TabIs Tryz.prog W "math/bits.deBruijn64tab" .u8 [0,1,56,2,57,49,28,3,61,58,42,50,38,29,17,4,62,47,59,36,45,43,51,22,53,39,33,30,24,18,12,5,63,55,48,27,60,41,37,16,46,35,44,21,52,32,23,11,54,26,40,15,34,20,31,10,25,14,19,9,13,8,7,6]:=
  Lib.tabIs_of_head (rest:=[("internal/strconv.uint64pow10",Rows.laid_internal_strconv_uint64pow10),("unicode/utf8.acceptRanges",Rows.laid_unicode_utf8_acceptRanges),("strconv.ErrRange",Rows.laid_strconv_ErrRange),("strconv.ErrSyntax",Rows.laid_strconv_ErrSyntax),("unicode/utf8.first",Rows.laid_unicode_utf8_first)]) gDb (by kernel_rfl:(Tryz.prog.globals[5]?).map (·.type)=some 262) Tryz.underlying262 Tryz.underlying5 (by kernel_rfl) (by kernel_rfl) (X2 h)
 unfold Lib.TabIs at h1
 simp only [World.var?,gDb,Option.bind_some]at h1
 split at h1
 ·rename_i cs t fz hh
  cases h1
  exact⟨_,t,fz,hh,rfl⟩
 ·cases h1
def KFh (cs:Array Value):Obj→Obj
 | .cells _ t frozen=>.cells cs t frozen
 |o=>o
def KPr (h:Array Obj):Array Obj:=(((h.modify 7 (KFh #[.iface 275 (.pointer (some ⟨h.size,0,none⟩))])).modify 6 (KFh #[.iface 275 (.pointer (some ⟨h.size+1,0,none⟩))])).push (.cells #[.string ⟨#[118,97,108,117,101,32,111,117,116,32,111,102,32,114,97,110,103,101]⟩] 277)).push (.cells #[.string ⟨#[105,110,118,97,108,105,100,32,115,121,110,116,97,120]⟩] 277)
noncomputable def litV:Lit→Value
 | .int k n=>.int k n
 | .bool b=>.bool b
 |_=>undef
noncomputable def KR9 (ps:List (DataW Unit)):List Value:=ps.flatMap fun p=>match p with
 | .lit l=>[litV l]
 | .agg qs=>qs.map fun q=>match q with
  | .lit l=>litV l
  |_=>undef
 |_=>[]
noncomputable def KRM (l:List (String×DataW Unit)) (h:Array Obj):Array Obj:=l.foldl (fun h x=>match Tryz.prog.globalNamed x.1,x.2 with
 |some g,.agg ps=>h.modify g (KFh (KR9 ps).toArray)
 |_,_=>h) h
noncomputable def KDY (os:Os) (args:Array Value):World:=
 {World.holding Tryz.prog os ⟨#[],args,[]⟩with heap:=KPr (KRM KNd (World.holding Tryz.prog os ⟨#[],args,[]⟩).heap)}
theorem gErr:Tryz.prog.globalNamed "strconv.ErrRange"=some 7:=by kernel_rfl
theorem KSA {W:World} (h:laidMet Tryz.prog KNd W):ErrV W.heap:=by
 obtain⟨ps,h1,h2,h3⟩:=(X2 (X2 (X2 (X2 h))))
 obtain⟨g,t,cs,fuel,p,q,a1,a2,a3,a4,a5,rfl⟩:=h1
 rw [gErr]at a1
 cases a1
 have ht:t=84:=Option.some.inj (a2.symm.trans (by kernel_rfl))
 subst ht
 have hcs:∃u v,cs.toList=[.iface u v]:=by
  cases fuel with
  |zero=>simp [DataW.trod]at a4
  |succ fuel=>
   unfold DataW.trod at a4
   rw [Tryz.underlying84]at a4
   cases hc:cs.toList with
   |nil=>rw [hc]at a4;simp at a4
   |cons c r=>
    rw [hc]at a4
    cases r with
    |cons c2 r2=>exfalso;cases c<;>simp at a4
    |nil=>cases c<;>first|exact⟨_,_,rfl⟩|(exfalso;simp [Rows.laid_strconv_ErrRange]at a4)
 obtain⟨u,v,hcs⟩:=hcs
 have hcs':cs=#[.iface u v]:=by
  apply Array.ext'
  exact hcs
 subst hcs'
 simp only [World.var?,gErr,Option.bind_some]at a3
 split at a3
 ·rename_i cs' t' fz hh
  cases a3
  exact⟨u,v,by rw [KP hh];rfl⟩
 ·cases a3
end Go.Proofs.YtpibdohdkfkcnaaGreatDoor
namespace Go.Proofs.YtpibdohdkfkcnaaGreatDoor
open Go Go.RowKit Gx
theorem cV:Tryz.prog.cellsOf 54=4:=by kernel_rfl
theorem cLV:Tryz.prog.cellsOf 52=1:=by kernel_rfl
theorem cST:Tryz.prog.cellsOf 9=1:=by kernel_rfl
theorem cI:Tryz.prog.cellsOf 3=1:=by kernel_rfl
theorem cI64:Tryz.prog.cellsOf 2=1:=by kernel_rfl
theorem KI9 {α H:Type} {w:α→Nat}:∀(l:List α) (es:List (DataW H)),l.length=es.length→(∀i (h1:i<l.length) (h2:i<es.length),w l[i]≤Rows.uptoBulk es[i])→(l.map w).sum≤Rows.uptoBulkAll es
 | [],[],_,_=>by simp
 | [],_::_,h,_=>by simp at h
 |_::_,[],h,_=>by simp at h
 |v::l,d::es,h,hk=>by
  have h0:=hk 0 (by simp) (by simp)
  have:=KI9 l es (by simpa using h) (fun i h1 h2=>by
   have:=hk (i+1) (by simpa using h1) (by simpa using h2)
   simpa using this)
  simp only [List.getElem_cons_zero]at h0
  simp only [Rows.uptoBulkAll,List.map_cons,List.sum_cons]
  omega
section
variable {H:Type} {enc:TypeId×Value→H}
theorem KNe {α:Type} {Rep:RepT α} {w:α→Nat} {T te:TypeId} {sz:Nat} {W:World} {sp:Nat→Bool} {held:Bool} {base:Nat} (hu:Tryz.prog.underlying T=some (.slice te)) (hc:Tryz.prog.cellsOf te=sz) (hz:0<sz) {m:Nat}
  (one:∀n cs x,n<m→DataW.trod enc Tryz.prog W base sp held n te cs=some x→∃a,Rep (· <W.heap.size) W.heap a cs.toArray∧w a≤Rows.uptoBulk x.1) {v:Value} {x:DataW H×List MemPlace} (h:DataW.trod enc Tryz.prog W base sp held m T [v]=some x):
  ∃(s:Sl) (l:List α),v=s.v∧RowS sz Rep (· <W.heap.size) W.heap s l∧s.len≤9223372036854775807∧(l.map w).sum+1≤Rows.uptoBulk x.1:=by
 rcases DataW.trod_slice hu h with⟨h0,hx⟩|⟨a,len,cap,elems,rest,n,hn,h1,hx,_,hle,hm,hlen,hel,_,_⟩
 ·cases h0
  refine⟨Sl.nil,[],rfl,RowS.nil,by decide,?_⟩
  rw [hx];simp [Rows.uptoBulk]
 ·cases h1
  rw [hc]at hel
  have key:∀i,i<len→∃(b:α) (cs:Array Value),cs.size=sz∧(∀j,j<sz→KM W.heap (a.add (i*sz+j))=cs[j]?)∧Rep (· <W.heap.size) W.heap b cs∧∀(h:i<elems.length),w b≤Rows.uptoBulk (elems[i]).1:=fun i hi=>by
   have h2:=hel i hi
   rw [List.getElem?_eq_getElem (by omega),Option.bind_eq_some_iff]at h2
   obtain⟨cs,hcs,ht⟩:=h2
   obtain⟨_,hl1,hcc⟩:=World.cells?_some hcs
   obtain⟨b,hb,hw⟩:=one n _ _ (by omega) ht
   refine⟨b,cs.toArray,by simpa using hl1,fun j hj=>?_,hb,fun _=>hw⟩
   have:=hcc j hj
   rw [Addr.add_add]at this
   rw [KDy]at this
   rw [this];simp
  let l:=List.ofFn (fun i:Fin len=>Classical.choose (key i i.2))
  have hL:l.length=len:=by simp [l]
  have hget:∀i (h:i<l.length),∃cs:Array Value,cs.size=sz∧(∀j,j<sz→KM W.heap (a.add (i*sz+j))=cs[j]?)∧Rep (· <W.heap.size) W.heap l[i] cs∧∀(h:i<elems.length),w l[i]≤Rows.uptoBulk (elems[i]).1:=fun i h=>by
   have:=Classical.choose_spec (key i (by omega))
   simpa [l] using this
  refine⟨⟨some a,len,cap⟩,l,rfl,⟨hL.symm,hle,fun j hj=>?_⟩,by unfold maxLen at hm;show len≤_;omega,?_⟩
  ·obtain⟨cs,h1,h2,h3,_⟩:=hget j hj
   refine⟨a,cs,rfl,?_,h1,h2,h3⟩
   have h0:=h2 0 hz
   rw [Array.getElem?_eq_getElem (by omega)]at h0
   have:=XT h0
   rwa [JS]at this
  ·rw [hx]
   have:=KI9 (w:=w) l (elems.map (·.1)) (by rw [hL,List.length_map,hlen]) (fun i h1 h2=>by
    obtain⟨_,_,_,_,h4⟩:=hget i h1
    rw [List.getElem_map]
    exact h4 (by simpa using h2))
   simp only [Rows.uptoBulk]
   omega
theorem KL5:∀l:List Vl,(l.map wt).sum=wt.wts l
 | []=>rfl
 |v::l=>by rw [List.map_cons,List.sum_cons,KL5 l,wt.wts]
theorem KRN {S:Nat→Prop} {h:Heap} {x:Sl} {l:List Vl} (R:RowS 4 VR S h x l) (hb:x.len≤9223372036854775807):VsRepS S h x l:=
 ⟨R.len,R.cap,hb,X7.of (fun j hj=>by
  obtain⟨a,cs,h1,h2,h3,h4,h5⟩:=R.at_ j hj
  exact⟨a,cs,h1,h2,h3,fun i hi=>by rw [Nat.zero_add];exact h4 i hi,h5⟩)⟩
theorem KNf {W:World} {sp:Nat→Bool} {held:Bool} {base:Nat}:∀(m:Nat) (cs:List Value) (x:DataW H×List MemPlace),DataW.trod enc Tryz.prog W base sp held m 54 cs=some x→∃v,VR (· <W.heap.size) W.heap v cs.toArray∧wt v≤Rows.uptoBulk x.1:=by
 intro m
 induction m using Nat.strongRecOn with
 |_ m ih=>
  intro cs x h
  obtain⟨xs,n,hn,hx,hcl,hxl,hf⟩:=DataW.trod_struct Tryz.underlying54 h
  rw [cV]at hcl
  have hxl:xs.length=4:=hxl
  match cs,hcl with
  | [a0,a1,a2,a3],_=>
  match xs,hxl with
  | [y0,y1,y2,y3],_=>
  have f0:DataW.trod enc Tryz.prog W base sp held n 3 (([a0,a1,a2,a3].drop 0).take (Tryz.prog.cellsOf 3))=some y0:=hf 0 _ rfl
  have f1:DataW.trod enc Tryz.prog W base sp held n 2 (([a0,a1,a2,a3].drop 1).take (Tryz.prog.cellsOf 2))=some y1:=hf 1 _ rfl
  have f2:DataW.trod enc Tryz.prog W base sp held n 9 (([a0,a1,a2,a3].drop 2).take (Tryz.prog.cellsOf 9))=some y2:=hf 2 _ rfl
  have f3:DataW.trod enc Tryz.prog W base sp held n 52 (([a0,a1,a2,a3].drop 3).take (Tryz.prog.cellsOf 52))=some y3:=hf 3 _ rfl
  rw [cI]at f0
  rw [cI64]at f1
  rw [cST]at f2
  rw [cLV]at f3
  obtain⟨k,rfl,hk,b0⟩:=KI8 Tryz.underlying3 f0
  obtain⟨nn,rfl,hnn,b1⟩:=KI8 Tryz.underlying2 f1
  obtain⟨s,rfl,hs,b2⟩:=KNa Tryz.underlying9 f2
  obtain⟨sl,l,rfl,hl,hb,b3⟩:=KNe (Rep:=VR) (w:=wt) Tryz.underlying52 cV (by decide) (fun k cs x hk h=>ih k (by omega) cs x h) f3
  rw [KL5]at b3
  have hsb:bs s.data.toList=s:=by simp [bs]
  refine⟨.mk k nn s.data.toList l,JE.eq.2 ⟨sl,by unfold UH;rw [hsb],hk,hnn,?_,KRN hl hb⟩,?_⟩
  ·have:s.data.toList.length=s.size:=Array.length_toList
   rw [this];unfold maxLen at hs;omega
  ·rw [wt,hx]
   simp only [List.map_cons,List.map_nil,Rows.uptoBulk,Rows.uptoBulkAll]
   omega
end
end Go.Proofs.YtpibdohdkfkcnaaGreatDoor
