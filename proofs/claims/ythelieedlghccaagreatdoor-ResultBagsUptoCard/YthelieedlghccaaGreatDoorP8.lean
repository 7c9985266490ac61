/- Own proofs: what those Lean programs compute. No condition. -/
import Derived.Test.YthelieedlghccaaGreatDoorP0
import Derived.Test.YthelieedlghccaaGreatDoorP1
import Derived.Test.YthelieedlghccaaGreatDoorP2
import Derived.Test.YthelieedlghccaaGreatDoorP3
import Derived.Test.YthelieedlghccaaGreatDoorP4
import Derived.Test.YthelieedlghccaaGreatDoorP5
import Derived.Test.YthelieedlghccaaGreatDoorP6
import Derived.Test.YthelieedlghccaaGreatDoorP7
set_option linter.unusedVariables false
set_option linter.unusedSimpArgs false
namespace Gx
open Go Go.Proofs Go.Shelf Go.RowKit Go.Lib Gx.Last
set_option linter.unusedVariables false
set_option linter.unusedSimpArgs false
set_option maxRecDepth 100000
abbrev vz:Array Value:=#[.int .i64 0,.int .i64 0,.string ByteArray.empty,.slice none 0 0]
def KJ1 (x0 x1 x2 x4:Addr):M Unit:=do
 let Xx2←ldI .i64 ((x4).add 0)
 M.need (vz.size=4)
 stG x0 vz
 chk (fun h:Heap=>(KO h ((x4).add 0)=some (.int .i64 Xx2)))
 stV x1 (.int .i64 Xx2)
 stV x2 (.bool false)
 M.pure ()
def zJ (p2 p3 p4:Addr):M (Array Value × Int × Bool):=do
 let c←ldG 4 p2
 let i←ldI .i64 p3
 let b←ldB p4
 M.pure (c,i,b)
def qg (p2 p3 p4:Addr) (u:Value):M Unit:=do
 let i←M.get (fun _ i=>u=.iface JM (.agg #[.int .i64 i]))
 let q←mkB JM (#[.int .i64 0]:Array Value)
 M.need ((#[.int .i64 i]:Array Value).size=1)
 stG q (#[.int .i64 i]:Array Value)
 KJ1 p2 p3 p4 q
def KHN (p2 p3 p4:Addr):M (Array Value × Int × Bool):=do
 let x←ldG 4 p2
 M.need (x.size=4)
 stG p2 x
 stV p3 (.int .i64 0)
 stV p4 (.bool true)
 zJ p2 p3 p4
def KPd (x0:ByteArray):M (Array Value × Int × Bool):=do
 let p2←mkB KB vz
 let p3←mkB VY (#[.int .i64 0]:Array Value)
 let p4←mkB KEs (#[.bool false]:Array Value)
 let r←mkB Gm (#[.string x0,.int .i64 0]:Array Value)
 let v←J6 (some r) 1
 match v with
 | .inl u=>qg p2 p3 p4 u>>=fun _=>zJ p2 p3 p4
 | .inr cs=>do
  M.need (cs.size=4)
  stG p2 cs
  let i←ldI .i64 (r.add 1)
  M.ite (decide (i < (x0.size:Int))) (do
   let v←K9 (some r)
   match v with
   | .inl u=>qg p2 p3 p4 u>>=fun _=>zJ p2 p3 p4
   | .inr _=>M.fail) (KHN p2 p3 p4)
def KFP (r:Array Value × Int × Bool):Value:=.tuple #[.agg r.1,.int .i64 r.2.1,.bool r.2.2]
theorem KNt:KGU Go.Proofs.Tryz.prog 142 0=some 0:=by kernel_rfl
theorem KQz:szB Go.Proofs.Tryz.prog 142 1=true:=by kernel_rfl
theorem zr4':((Go.Proofs.Tryz.prog.info? 4).bind (·.zero))=some (.bool false):=by kernel_rfl
theorem sz4':szB Go.Proofs.Tryz.prog 4 1=true:=by kernel_rfl
theorem sc4':scB Go.Proofs.Tryz.prog 4=true:=by kernel_rfl
theorem KOY:ifB Go.Proofs.Tryz.prog 20=true:=by kernel_rfl
theorem KQ0:((Go.Proofs.Tryz.prog.info? 146).bind (·.zero))=some (.agg (#[.string ByteArray.empty,.int .i64 0]:Array Value)):=by kernel_rfl
theorem KQ1:Ns Go.Proofs.Tryz.prog 146=some [(0,1),(1,1)]:=by kernel_rfl
theorem KNu:KGU Go.Proofs.Tryz.prog 146 1=some 1:=by kernel_rfl
theorem un9':Go.Proofs.Tryz.prog.underlying 9=some .string:=Tryz.underlying9
theorem KPe:KHe Go.Proofs.Tryz.f130 5 [[],[],[1],[0,0],[2,3,0,1,2,3],[4,0,1,2,3,4]] [[],[],[1],[0],[2],[]] [[],[],[1],[0],[0,1,2,3],[0,1,2,3,4]]=true:=by kernel_rfl
theorem KJ2 {c:Code} {P:Program} {N:Act→World→Prop} {R:Act→World→Prop} {Q:Exit→Act→List Frame→World→Prop} {a:Act} {cs:List Frame} {w:World} (h:c.wpIn (Fw none) 1 P (Ps N X0 R) a w)
  (hn:∀ a w,N a w→Q .normal a cs w) (hr:∀ a w,R a w→Q .ret a cs w):c.wpS P Q a cs w:=by
 refine wpS_of_wp (wp_mono (wpIn_wide.1 h) ?_)
 intro e a w hh
 cases e with
 | normal=>exact hn _ _ hh
 | ret=>exact hr _ _ hh
 | exit i=>exact hh.2.elim
 | goto l=>exact hh.elim
 | panic c=>obtain ⟨_,_,hh⟩:=hh; exact hh.elim
 | outgrown=>exact hh.elim
theorem KFQ {dst:Option Tmp} {ty:TypeId} {pos:String} {aft:Array Edge} {ρ:Operand→Value} {P:Program} {w:World}:(execOp ρ ⟨dst,.call { callee:=.builtin .recover,args:=#[],argTypes:=#[] },ty,pos,aft,none⟩).run P w=.ok .recover w:=by
 simp [execOp,resolve,invoke,builtin]
theorem KBD {P:Program} {Q:Exit→Act→List Frame→World→Prop} {a:Act} {cs cs':List Frame} {w:World} {id d1 d2:Nat} {ty1 ty2:TypeId} {pos1 pos2:String} {aft1 aft2:Array Edge} {n:Frm} {l:List (Nat × Value)} {v:Value}
  (hE:Env n a l) (hn1:Nat.blt d1 n.size=true) (hn2:Nat.blt d2 n.size=true) (hv:recoverD cs=some (v,cs')∨(recoverD cs=none∧v=.nilIface∧cs'=cs))
  (h:∀ a',Env n a' ((d2,v)::(d1,v)::l)→Q .normal a' cs' w) :
  (Code.region id #[⟨some d1,.call { callee:=.builtin .recover,args:=#[],argTypes:=#[] },ty1,pos1,aft1,none⟩,⟨some d2,.assign (.tmp d1),ty2,pos2,aft2,none⟩] false).wpS P Q a cs w:=by
 refine wpS_region ?_
 have e1:=hE.put d1 v hn1
 have hr2:(execOp (a.put (some d1) v).eval ⟨some d2,.assign (.tmp d1),ty2,pos2,aft2,none⟩).run P w=.ok (.value v) w:=Kp e1 (by simp [opv,look])
 have hf:=h _ (e1.put d2 v hn2)
 show wpOpsS P _ Q [0,1] a cs w
 rcases hv with hv | ⟨hv,rfl,rfl⟩
 ·simp [wpOpsS,Region.wanted,KFQ,hv,hr2]
  exact hf
 ·simp [wpOpsS,Region.wanted,KFQ,hv,hr2]
  exact hf
abbrev a130 (p2 p3 p4:Addr):Act:={ tmps:=#[.pointer (some p2),.pointer (some p3),.pointer (some p4)]++Array.replicate (20 - 3) undef,defers:=[] }
theorem KJ3 (p2 p3 p4:Addr):Env ⟨20,[]⟩ (a130 p2 p3 p4) [(0,.pointer (some p2)),(1,.pointer (some p3)),(2,.pointer (some p4))] :=
 Env.enter (n:=20) #[.pointer (some p2),.pointer (some p3),.pointer (some p4)] _ (Nat.le_of_ble_eq_true rfl) (Yw ⟨rfl,rfl,rfl,trivial⟩)
theorem KMc {p2 p3 p4:Addr} {w:World} {R:Ending→FrameMode→World→Prop} (h:R (.returned (.tuple #[])) .returning w):CallsD Go.Proofs.Tryz.prog 130 #[.pointer (some p2),.pointer (some p3),.pointer (some p4)] .returning w R:=by
 refine callsD_of_wpS Go.Proofs.Tryz.func130 rfl (fun c₀ cs hu=>?_)
 refine wpS_seq (KBD (v:=.nilIface) (cs':=c₀::cs) (KJ3 p2 p3 p4) rfl rfl (.inr ⟨by simp [recoverD,hu],rfl,rfl⟩) (fun a hE=>?_))
 refine KJ2 (N:=fun _ _=>False) (R:=fun a w'=>w'=w∧Env ⟨20,[]⟩ a [(0,.pointer (some p2))]) ?_ (fun _ _ h=>h.elim) (fun a w' hh=>?_)
 ·refine Kc (fun K hK_1=>?_)
  refine Kc (fun K hK_2=>?_)
  refine KG ?_
  refine KH (v:=.nilIface) rfl rfl hE rfl (KJ hE rfl) (fun a hE=>?_)
  refine KH (v:=.bool true) rfl rfl hE rfl (Zd hE rfl rfl (g_ni (b:=true) (.inl ⟨rfl,rfl⟩)) (KLW KOY (.inl ⟨rfl,rfl⟩))) (fun a hE=>?_)
  refine Ka ?_
  refine hK_2 _ _ ?_
  refine Jg true hE rfl (fun _=>?_) (fun hb=>by cases hb)
  exact Yv ⟨rfl,hE.cut (.cons rfl Subs.nil)⟩
 ·obtain ⟨rfl,hE⟩:=hh
  refine ⟨hE.defers,.returning,by rw [← hu],_,Jb (rs:=[]) (vs:=[]) hE rfl RV.nil,h⟩
theorem KMd {n:Frm} {a:Act} {w:World} {l:List (Nat × Value)} {P:Program} {dst:Option Tmp} {ty xt t:TypeId} {pos:String} {aft:Array Edge} {g:Option (Nat × Bool)} {x:Operand} {v:Value} {fs:Array Field} (hE:Env n a l) (hx:opv l x=some (.iface t v)) (ht:P.underlying t=some (.struct fs)) :
  (execOp a.eval ⟨dst,.typeAssert x xt t true,ty,pos,aft,g⟩).run P w=.ok (.value (.tuple #[v,.bool true])) w:=by
 simp [execOp,hE.opv hx,Instr.typeAssert,run_underlying ht]
theorem KMe {p2 p3 p4:Addr} {w:World} {u:Value} {Q:Unit→Heap→Prop} {R:Ending→FrameMode→World→Prop} (H:(qg p2 p3 p4 u).wp w.heap Q)
  (h:∀ w',Rest w w'→Q () w'.heap→R (.returned (.tuple #[])) (.panicking [{ v:=u,recovered:=true }]) w'):CallsD Go.Proofs.Tryz.prog 130 #[.pointer (some p2),.pointer (some p3),.pointer (some p4)] (.panicking [{ v:=u,recovered:=false }]) w R:=by
 refine callsD_of_wpS Go.Proofs.Tryz.func130 rfl (fun c₀ cs hu=>?_)
 obtain ⟨i,hi,H⟩:=H
 subst hi
 refine wpS_seq (KBD (v:=.iface JM (.agg #[.int .i64 i])) (cs':={ c₀ with mode:=.panicking [{ v:=.iface JM (.agg #[.int .i64 i]),recovered:=true }] }::cs) (KJ3 p2 p3 p4) rfl rfl (.inl (by simp [recoverD,hu])) (fun a hE=>?_))
 have hR:Rest w w:=Rest.refl w
 refine KJ2 (N:=fun a w'=>Rest w w'∧Q () w'.heap∧Env ⟨20,[]⟩ a [(0,.pointer (some p2))]) (R:=fun _ _=>False) ?_ (fun a w' hh=>?_) (fun _ _ h=>h.elim)
 ·refine Kc (fun K hK_1=>?_)
  refine Kc (fun K hK_2=>?_)
  refine KG ?_
  refine KH (v:=.iface JM (.agg #[.int .i64 i])) rfl rfl hE rfl (KJ hE rfl) (fun a hE=>?_)
  refine KH (v:=.bool false) rfl rfl hE rfl (Zd hE rfl rfl (g_ni (b:=false) (.inr ⟨⟨_,_,rfl⟩,rfl⟩)) (KLW KOY (.inr ⟨⟨_,_,rfl⟩,rfl⟩))) (fun a hE=>?_)
  refine Ka ?_
  refine hK_2 _ _ ?_
  refine Jg false hE rfl (fun hb=>by cases hb) (fun _=>?_)
  refine Un ?_
  refine hK_1 _ _ ?_
  refine Kc (fun K hK_3=>?_)
  refine KG ?_
  refine KH (v:=.iface JM (.agg #[.int .i64 i])) rfl rfl hE rfl (KJ hE rfl) (fun a hE=>?_)
  refine KH (v:=.tuple #[.agg #[.int .i64 i],.bool true]) rfl rfl hE rfl (KMd hE rfl Tryz.underlying142) (fun a hE=>?_)
  refine KH (v:=.tuple #[.agg #[.int .i64 i],.bool true]) rfl rfl hE rfl (KJ hE rfl) (fun a hE=>?_)
  refine KH (v:=.agg #[.int .i64 i]) rfl rfl hE rfl (XL hE rfl rfl) (fun a hE=>?_)
  refine KH (v:=.bool true) rfl rfl hE rfl (XL hE rfl rfl) (fun a hE=>?_)
  obtain ⟨q,hq,H⟩:=H
  refine XM (v:=.pointer (some q)) rfl rfl hE rfl hR (Vy KQl hq) (fun a w hE hR hh=>?_)
  replace H:=M.at hh H; clear hh
  obtain ⟨qz,H⟩:=H
  obtain ⟨u_3,qu_3,H⟩:=H
  refine U0 rfl rfl hE hR (J4 hE rfl rfl KQz qz qu_3) (fun a w hE hR hh=>?_)
  replace H:=M.at hh H; clear hh
  refine KH (v:=.bool true) rfl rfl hE rfl (Kp hE rfl) (fun a hE=>?_)
  refine Ka ?_
  refine hK_3 _ _ ?_
  refine Kc (fun K hK_4=>?_)
  refine Kc (fun K hK_5=>?_)
  refine KG ?_
  refine KH (v:=.bool true) rfl rfl hE rfl (KJ hE rfl) (fun a hE=>?_)
  refine KH (v:=.bool false) rfl rfl hE rfl (r_un hE rfl KK6) (fun a hE=>?_)
  refine Ka ?_
  refine hK_5 _ _ ?_
  refine Jg false hE rfl (fun hb=>by cases hb) (fun _=>?_)
  refine Un ?_
  refine hK_4 _ _ ?_
  replace hE:Env ⟨20,[]⟩ a [(0,.pointer (some p2)),(1,.pointer (some p3)),(2,.pointer (some p4)),(4,.pointer (some q))]:=hE.cut (.cons rfl (.cons rfl (.cons rfl (.cons rfl Subs.nil))))
  obtain ⟨Xx2,qXx2,H⟩:=H
  have hT:=qJ KPe rfl rfl
  refine YL (fun w:World=>(fun h:Heap=>(KO h ((q).add 0)=some (.int .i64 Xx2))) w.heap) [4,5] #[false,false,false,false,false,false] mo hR rfl rfl (fun w' e=>by rw [e]; exact qXx2) (fun w hh hR hs=>?_)
  replace H:=M.at hh H; clear hh
  refine KF (i:=0) (v:=.agg vz) #[true,false,false,false,false,false] rfl rfl hT (by kernel_rfl) hE rfl (KA rfl) (fun w=>KJe bd24) (fun a hE=>?_)
  refine KF (i:=1) (v:=.pointer (some ((q).add 0))) #[true,true,false,false,false,false] rfl rfl hT (by kernel_rfl) hE rfl (KA rfl) (fun w=>KM hE rfl KNt) (fun a hE=>?_)
  refine U8 (i:=2) (v:=.int .i64 Xx2) #[true,true,true,false,false,false] rfl rfl hT (by kernel_rfl) hE rfl (KA rfl) hs (fun w s=>Zk hE rfl sc3 s) (fun a hE=>?_)
  obtain ⟨qz,H⟩:=H
  obtain ⟨u_3,qu_3,H⟩:=H
  obtain ⟨_,sA,H⟩:=H
  refine KRQ (i:=3) #[true,true,true,true,false,false] rfl rfl hT (by kernel_rfl) rfl hE hR (KA rfl) (J4 hE rfl rfl sz24 qz qu_3)  (fun w' e=>by rw [e]; exact sA) (fun a w hE hR hh hs=>?_)
  replace H:=M.at hh H; clear hh
  obtain ⟨u_4,qu_4,H⟩:=H
  refine KJZ (i:=4) #[true,true,true,true,true,false] rfl rfl hT (by kernel_rfl) rfl hE hR (KA rfl) (Zn hE rfl rfl sz3 qu_4)  (fun a w hE hR hh=>?_)
  replace H:=M.at hh H; clear hh
  obtain ⟨u_5,qu_5,H⟩:=H
  refine KJZ (i:=5) #[true,true,true,true,true,true] rfl rfl hT (by kernel_rfl) rfl hE hR (KA rfl) (Zn hE rfl rfl sz4' qu_5)  (fun a w hE hR hh=>?_)
  replace H:=M.at hh H; clear hh
  refine Nq hT (by kernel_rfl) ?_
  exact ⟨hR,H,hE.cut (.cons rfl Subs.nil)⟩
 ·obtain ⟨hR,hq,hE⟩:=hh
  exact ⟨hE.defers,_,rfl,_,Jb (rs:=[]) (vs:=[]) hE rfl RV.nil,h _ hR hq⟩
theorem KGM {Q:Array Value × Int × Bool→Heap→Prop} {w0 w:World} {a:Act} {l:List (Nat × Value)} {p2 p3 p4:Addr} {l0:List Deferred} (hE:EnvD l0 22 a l) (h2:look l 2=some (.pointer (some p2))) (h3:look l 3=some (.pointer (some p3))) (h4:look l 4=some (.pointer (some p4))) (hR:Rest w0 w) (H:(zJ p2 p3 p4).wp w.heap Q) :
  ∃ v,(results Tryz.f75 a.tmps).run Tryz.prog w=.ok v w∧∃ r,Ending.returned v=.returned (KFP r)∧Q r w.heap∧Rest w0 w:=by
 obtain ⟨c,qc,H⟩:=H
 obtain ⟨i,qi,H⟩:=H
 obtain ⟨b,qb,H⟩:=H
 exact ⟨_,Jb (a:={ tmps:=a.tmps,defers:=[] }) (rs:=[.cell 2 24,.cell 3 3,.cell 4 4]) hE.env rfl (RV.cellG h2 ag24 qc (RV.cell h3 sc3 qi (RV.cell h4 sc4' qb RV.nil))),(c,i,b),rfl,H,hR⟩
abbrev dfr (p2 p3 p4:Addr):Deferred:={ target:=.fn (.func 130) #[.pointer (some p2),.pointer (some p3),.pointer (some p4)],args:=#[] }
theorem KIP {p2 p3 p4:Addr} {w:World}:(invoke (.fn (.func 130) #[.pointer (some p2),.pointer (some p3),.pointer (some p4)]) #[]).run Tryz.prog w=.ok (.enter 130 #[.pointer (some p2),.pointer (some p3),.pointer (some p4)]) w:=by
 have h:=KD Tryz.func130 (by kernel_rfl) rfl #[.pointer (some p2),.pointer (some p3),.pointer (some p4)] w
 simp [invoke,h]
theorem KNv {Q:Array Value × Int × Bool→Heap→Prop} {w0 w:World} {a:Act} {l:List (Nat × Value)} {p2 p3 p4:Addr} (hE:EnvD [dfr p2 p3 p4] 22 a l) (h2:look l 2=some (.pointer (some p2))) (h3:look l 3=some (.pointer (some p3))) (h4:look l 4=some (.pointer (some p4))) (hR:Rest w0 w) (H:(zJ p2 p3 p4).wp w.heap Q) :
  Leaves Tryz.prog Tryz.f75 a.tmps (fun e w'=>∃ r,e=.returned (KFP r)∧Q r w'.heap∧Rest w0 w') a.defers .returning w:=by
 rw [hE.def_]
 refine leaves_cons (by simp) KIP (KMc ?_)
 exact KGM hE h2 h3 h4 hR H
theorem KJ4 {Q:Array Value × Int × Bool→Heap→Prop} {w0 w:World} {a:Act} {l:List (Nat × Value)} {p2 p3 p4:Addr} {u:Value} (hE:EnvD [dfr p2 p3 p4] 22 a l) (h2:look l 2=some (.pointer (some p2))) (h3:look l 3=some (.pointer (some p3))) (h4:look l 4=some (.pointer (some p4))) (hR:Rest w0 w) (H:(qg p2 p3 p4 u>>=fun _=>zJ p2 p3 p4).wp w.heap Q) :
  Leaves Tryz.prog Tryz.f75 a.tmps (fun e w'=>∃ r,e=.returned (KFP r)∧Q r w'.heap∧Rest w0 w') a.defers (.panicking [{ v:=u,recovered:=false }]) w:=by
 rw [hE.def_]
 refine leaves_cons (by simp) KIP (KMe (M.unbind H) (fun w' hR' H'=>?_))
 show Leaves _ _ _ _ [] (settle (.panicking [{ v:=u,recovered:=true }])) w'
 exact KGM hE h2 h3 h4 (hR.trans hR') H'
theorem KQ2 (x0:ByteArray):Ki Go.Proofs.Tryz.prog GM #[.string x0] KFP (KPd x0):=by
 intro W0 Q H
 refine calls_of_wp_defers Go.Proofs.Tryz.func75 rfl ?_
 refine (fun hs=>wpIn_wide.1 hs) (?_:Code.wpIn (Fw none) 1 _ _ _ _ _)
 have hE0:Env ⟨22,[]⟩ { tmps:=#[.string x0]++Array.replicate (22 - 1) undef,defers:=[] } [(0,.string x0)]:=Env.enter (n:=22) #[.string x0] _ (Nat.le_of_ble_eq_true rfl) (Yw ⟨rfl,trivial⟩)
 have hE:EnvD [] 22 { tmps:=#[.string x0]++Array.replicate (22 - 1) undef,defers:=[] } [(0,.string x0)]:=⟨hE0,rfl⟩
 have hR:Rest W0 W0:=Rest.refl W0
 obtain ⟨p2,q2,H⟩:=H
 refine wpIn_seq (ql ?_)
 refine KJo (v:=.pointer (some p2)) rfl rfl hE rfl hR (fun b hE=>Vy zr24 q2) (fun a w1 hE hR hh=>?_)
 replace H:=M.at hh H; clear hh
 obtain ⟨p3,q3,H⟩:=H
 refine KJo (v:=.pointer (some p3)) rfl rfl hE rfl hR (fun b hE=>Vy zr3 q3) (fun a w1 hE hR hh=>?_)
 replace H:=M.at hh H; clear hh
 obtain ⟨p4,q4,H⟩:=H
 refine KJo (v:=.pointer (some p4)) rfl rfl hE rfl hR (fun b hE=>Vy zr4' q4) (fun a w1 hE hR hh=>?_)
 replace H:=M.at hh H; clear hh
 refine KKW ?_
 refine wpIn_seq (ql ?_)
 refine KCH (v:=.func (.func 130) #[] #[.pointer (some p2),.pointer (some p3),.pointer (some p4)]) rfl rfl hE rfl (fun b hE=>KAK hE rfl) (fun a hE=>?_)
 refine KPL hE rfl (fun a hE=>?_)
 replace hE:EnvD [dfr p2 p3 p4] 22 a [(0,.string x0),(2,.pointer (some p2)),(3,.pointer (some p3)),(4,.pointer (some p4))]:=⟨hE.env.cut (.cons rfl (.cons rfl (.cons rfl (.cons rfl Subs.nil)))),hE.def_⟩
 refine KKW ?_
 refine wpIn_seq (ql ?_)
 refine KCH (v:=.string x0) rfl rfl hE rfl (fun b hE=>KJ hE rfl) (fun a hE=>?_)
 refine KCH (v:=.agg (#[.string x0,.int .i64 0]:Array Value)) rfl rfl hE rfl (fun b hE=>zf hE rfl KQ0 KQ1 (by rfl)) (fun a hE=>?_)
 obtain ⟨r,qr,H⟩:=H
 refine KJo (v:=.pointer (some r)) rfl rfl hE rfl hR (fun b hE=>KOe hE rfl qr) (fun a w1 hE hR hh=>?_)
 replace H:=M.at hh H; clear hh
 refine KCH (v:=.pointer (some r)) rfl rfl hE rfl (fun b hE=>Kp hE rfl) (fun a hE=>?_)
 replace hE:EnvD [dfr p2 p3 p4] 22 a [(0,.string x0),(2,.pointer (some p2)),(3,.pointer (some p3)),(4,.pointer (some p4)),(5,.pointer (some r))]:=⟨hE.env.cut (.cons rfl (.cons rfl (.cons rfl (.cons rfl (.cons rfl Subs.nil))))),hE.def_⟩
 refine KKW ?_
 refine wpIn_seq (ql ?_)
 refine KCH (v:=.pointer (some r)) rfl rfl hE rfl (fun b hE=>KJ hE rfl) (fun a hE=>?_)
 refine KLh hE hR WD rfl (GC (some r) 1) (M.unbind H) (fun u w1 hR H=>?_) (fun cs a1 w1 ea hR H=>?_)
 ·exact KJ4 hE rfl rfl rfl hR H
 replace hE:EnvD [dfr p2 p3 p4] 22 a1 _:=ea ▸ hE.put 11 (.agg cs) rfl
 obtain ⟨qz,H⟩:=H
 obtain ⟨u_6,qu_6,H⟩:=H
 refine KNa rfl rfl hE hR (fun b hE=>J4 hE rfl rfl sz24 qz qu_6) (fun a w hE hR hh=>?_)
 replace H:=M.at hh H; clear hh
 replace hE:EnvD [dfr p2 p3 p4] 22 a [(0,.string x0),(2,.pointer (some p2)),(3,.pointer (some p3)),(4,.pointer (some p4)),(5,.pointer (some r))]:=⟨hE.env.cut (.cons rfl (.cons rfl (.cons rfl (.cons rfl (.cons rfl Subs.nil))))),hE.def_⟩
 refine KKW ?_
 obtain ⟨i,qi,H⟩:=H
 refine wpIn_seq (wpIn_mono (Q:=Exit.then (fun a w1=>EnvD [dfr p2 p3 p4] 22 a [(0,.string x0),(2,.pointer (some p2)),(3,.pointer (some p3)),(4,.pointer (some p4)),(5,.pointer (some r))]∧Rest W0 w1∧(KHN p2 p3 p4).wp w1.heap Q)
  (bodyPostD Tryz.prog Tryz.f75 (fun e w'=>∃ r,e=.returned (KFP r)∧Q r w'.heap∧Rest W0 w'))) ?_ ?_)
 ·refine wpIn_seq (ql ?_)
  refine KCH (v:=.pointer (some r)) rfl rfl hE rfl (fun b hE=>KJ hE rfl) (fun a hE=>?_)
  refine KCH (v:=.pointer (some r)) rfl rfl hE rfl (fun b hE=>KV hE rfl) (fun a hE=>?_)
  refine KCH (v:=.pointer (some (r.add 1))) rfl rfl hE rfl (fun b hE=>KM hE rfl KNu) (fun a hE=>?_)
  refine KCH (v:=.int .i64 i) rfl rfl hE rfl (fun b hE=>Zk hE rfl sc3 qi) (fun a hE=>?_)
  refine KCH (v:=.string x0) rfl rfl hE rfl (fun b hE=>KJ hE rfl) (fun a hE=>?_)
  refine KCH (v:=.int .i64 (x0.size:Int)) rfl rfl hE rfl (fun b hE=>qI hE rfl un9') (fun a hE=>?_)
  refine KCH (v:=.bool (decide (i < (x0.size:Int)))) rfl rfl hE rfl (fun b hE=>Zd hE rfl rfl ZV KB7) (fun a hE=>?_)
  refine KKW ?_
  refine KQk (decide (i < (x0.size:Int))) hE rfl (fun hb=>?_) (fun hb=>?_)
  ·replace H:=M.ite_t hb H
   refine ql ?_
   refine KCH (v:=.pointer (some r)) rfl rfl hE rfl (fun b hE=>KJ hE rfl) (fun a hE=>?_)
   refine KLh hE hR ZH rfl (ZQ (some r)) (M.unbind H) (fun u w1 hR H=>?_) (fun cs a1 w1 ea hR H=>H.elim)
   exact KJ4 hE rfl rfl rfl hR H
  ·replace H:=M.ite_f hb H
   refine wpIn_skip ?_
   exact ⟨⟨hE.env.cut (.cons rfl (.cons rfl (.cons rfl (.cons rfl (.cons rfl Subs.nil))))),hE.def_⟩,hR,H⟩
 ·intro e a w hh
  cases e with
  | normal =>
   obtain ⟨hE,hR,H⟩:=hh
   obtain ⟨x,qx,H⟩:=H
   obtain ⟨qz,H⟩:=H
   obtain ⟨u_6,qu_6,H⟩:=H
   refine wpIn_seq (ql ?_)
   refine KCH (v:=.agg x) rfl rfl hE rfl (fun b hE=>KDG hE rfl ag24 qx) (fun a hE=>?_)
   refine KNa rfl rfl hE hR (fun b hE=>J4 hE rfl rfl sz24 qz qu_6) (fun a w hE hR hh=>?_)
   replace H:=M.at hh H; clear hh
   obtain ⟨u_7,qu_7,H⟩:=H
   refine KNa rfl rfl hE hR (fun b hE=>Zn hE rfl rfl sz3 qu_7) (fun a w hE hR hh=>?_)
   replace H:=M.at hh H; clear hh
   obtain ⟨u_8,qu_8,H⟩:=H
   refine KNa rfl rfl hE hR (fun b hE=>Zn hE rfl rfl sz4' qu_8) (fun a w hE hR hh=>?_)
   replace H:=M.at hh H; clear hh
   refine KKW ?_
   refine wpIn_ret ?_
   exact KNv hE rfl rfl rfl hR H
  | exit i=>exact hh
  | ret=>exact hh
  | goto l=>exact hh
  | panic c=>exact hh
  | outgrown=>exact hh
end Gx
namespace Gx
open Go Go.Proofs Go.Shelf Go.RowKit Go.Lib
set_option linter.unusedVariables false
set_option linter.unusedSimpArgs false
set_option maxRecDepth 100000
structure Rd (h:Heap) (b:Nat) (s:List UInt8) (i:Nat):Prop where
 blk:h[b]?=some (.cells #[.string (bs s),.int .i64 (i:Int)] Gm (0,0))
 le:i≤s.length
 small:s.length≤1099511627776
def KN (s:List UInt8) (i:Nat):UInt8:=(s[i]?).getD 0
def KAE (e:Nat):Value:=.iface JM (.agg #[.int .i64 (e:Int)])
abbrev Kb (b:Nat):Heap→Heap→Prop:=Km (fun k=>k=b)
theorem Rd.ext {h h':Heap} {b:Nat} {s:List UInt8} {i:Nat} (R:Rd h b s i) (e:Ext h h'):Rd h' b s i:=⟨e.blk R.blk,R.le,R.small⟩
theorem Rd.lt {h:Heap} {b:Nat} {s:List UInt8} {i:Nat} (R:Rd h b s i):b < h.size:=UD R.blk
theorem ErrV.km {h h':Heap} {b:Nat} (H:ErrV h) (k:Kb b h h') (hb:b≠5):ErrV h':=by
 obtain ⟨t,p,hc⟩:=H
 refine ⟨t,p,?_⟩
 have h5:5 < h.size:=KAO hc
 have:=k.same 5 h5 (fun e=>hb e.symm)
 unfold KO at hc ⊢
 rw [this]
 exact hc
theorem J2 {s:List UInt8} {i:Nat} (h:KN s i≠0):i < s.length:=by
 by_cases hi:i < s.length
 ·exact hi
 ·unfold KN at h
  rw [List.getElem?_eq_none (by omega)] at h
  exact absurd rfl h
theorem Vu {s:List UInt8} {i:Nat} (hi:i < s.length):KN s i=s[i]:=by unfold KN; rw [List.getElem?_eq_getElem hi]; rfl
section
variable {β:Type} {h:Heap} {Q:β→Heap→Prop} {b i:Nat} {s:List UInt8}
theorem KJI {f:ByteArray→M β} (R:Rd h b s i) (H:(f (bs s)).wp h Q):(ldS ((⟨b,0,none⟩:Addr).add 0)>>=f).wp h Q:=Yx (by rw [Kg,KU R.blk]; rfl) H
theorem KEL {f:Int→M β} (R:Rd h b s i) (H:(f (i:Int)).wp h Q):(ldI .i64 ((⟨b,0,none⟩:Addr).add 1)>>=f).wp h Q:=Zm (by rw [Kg,KU R.blk]; rfl) H
theorem KRx {f:Unit→M β} (R:Rd h b s i) (hi:i < s.length) (H:∀ h',Upd b h h'→Rd h' b s (i+1)→(f ()).wp h' Q):(stV ((⟨b,0,none⟩:Addr).add 1) (.int .i64 (IntKind.wrap .i64 ((i:Int)+1)))>>=f).wp h Q:=by
 have hsm:=R.small
 rw [w64 (by omega) (by omega)]
 refine Wl (x:=.int .i64 (i:Int)) (by rw [Kg,KU R.blk]; rfl) (by rw [Kg]; exact KZ R.blk) rfl ?_
 rw [Kg]
 exact H _ (Upd.hset _ _ _ _) ⟨V8 R.blk,hi,hsm⟩
theorem KFR {f:Unit→M β} (R:Rd h b s i) (hi:i < s.length) (H:∀ h',Upd b h h'→Rd h' b s (i+1)→(f ()).wp h' Q) :
  (nilP (some ⟨b,0,none⟩)>>=fun x=>ldI .i64 (x.add 1)>>=fun y=>nilP (some ⟨b,0,none⟩)>>=fun z=>stV (z.add 1) (.int .i64 (IntKind.wrap .i64 (y+1)))>>=f).wp h Q :=
 ZD (KEL R (ZD (KRx R hi H)))
end
theorem Vh {h:Heap} {Q:Int→Heap→Prop} {b i:Nat} {s:List UInt8} (R:Rd h b s i) (H:Q ((KN s i).toNat:Int) h):(Kv (some ⟨b,0,none⟩)).wp h Q:=by
 unfold Kv
 refine ZD (ZD (KEL R (KJI R ?_)))
 rw [ZO]
 refine KP (fun hc=>?_) (fun hc=>KC ?_)
 ·have hi:i < s.length:=by have:=of_decide_eq_true hc; omega
  refine ZD (ZD (KJI R (KEL R (Nn rfl hi (KC ?_)))))
  rw [← Vu hi]
  exact H
 ·have hi:¬ i < s.length:=by have:=of_decide_eq_false hc; omega
  unfold KN at H
  rw [List.getElem?_eq_none (by omega)] at H
  exact H
theorem Wv {h:Heap} {Q:Value ⊕ Unit→Heap→Prop} {b i:Nat} {s:List UInt8} (R:Rd h b s i) (H:Q (.inl (KAE i)) h):(K9 (some ⟨b,0,none⟩)).wp h Q:=by
 unfold K9
 exact ZD (KEL R (KC H))
theorem KDq {c:UInt8} {h:Heap} {Q:Bool→Heap→Prop} (H:Q (digB c) h):(XA (c.toNat:Int)).wp h Q:=by
 unfold XA
 refine U1 (c:=decide ((c.toNat:Int)≤57)) (fun _ Q' hq=>KC hq) (KC ?_)
 rw [show (decide ((c.toNat:Int) ≥ 48) && decide ((c.toNat:Int)≤57))=digB c by
  unfold digB
  congr 1
  ·exact decide_eq_decide.2 (by omega)
  ·exact decide_eq_decide.2 (by omega)]
 exact H
def Xd (s:List UInt8):List UInt8→Nat→Except Nat Nat
 | [],i=>.ok i
 | c::r,i=>if s[i]?=some c then Xd s r (i+1) else .error i
theorem WV {s:List UInt8}:∀ {lit:List UInt8} {i j:Nat},Xd s lit i=.ok j→j=i+lit.length∧(lit≠[]→j≤s.length)∧(s.drop i).take lit.length=lit
 | [],i,j,h=>by cases h; exact ⟨rfl,fun h=>absurd rfl h,by simp⟩
 | c::r,i,j,h=>by
  unfold Xd at h
  split at h
  ·rename_i hc
   obtain ⟨h1,h2,h3⟩:=WV h
   have hi:i < s.length:=(List.getElem?_eq_some_iff.1 hc).1
   refine ⟨by rw [h1,List.length_cons]; omega,fun _=>?_,?_⟩
   ·by_cases hr:r=[]
    ·subst hr; rw [h1]; exact hi
    ·exact h2 hr
   ·rw [List.drop_eq_getElem_cons hi,List.length_cons,List.take_succ_cons,h3]
    rw [(List.getElem?_eq_some_iff.1 hc).2]
  ·cases h
theorem Xe {h:Heap} {Q:Value ⊕ Unit→Heap→Prop} {b i:Nat} {s lit:List UInt8} (R:Rd h b s i) (hl:lit.length≤1000)
  (H1:∀ j h',Xd s lit i=.ok j→Kb b h h'→Rd h' b s j→Q (.inr ()) h') (H2:∀ e h',Xd s lit i=.error e→Kb b h h'→Q (.inl (KAE e)) h'):(ZN (some ⟨b,0,none⟩) (bs lit)).wp h Q:=by
 unfold ZN
 rw [ZO]
 refine M.loop_inv (fun (x:Int) hh=>∃ k i':Nat,x=(k:Int)∧k≤lit.length∧Kb b h hh∧Rd hh b s i'∧Xd s (lit.drop k) i'=Xd s lit i) (fun x _=>((lit.length:Int) - x).toNat) ?_ ⟨0,i,rfl,Nat.zero_le _,Km.refl _ _,R,rfl⟩
 rintro x hh ⟨k,i',rfl,hk,K,R',hm⟩ self hself
 unfold U4
 refine KP (fun hc=>?_) (fun hc=>?_)
 ·have hkl:k < lit.length:=by have:=of_decide_eq_true hc; omega
  rw [List.drop_eq_getElem_cons hkl,Xd] at hm
  refine ZD (ZD (KEL R' (KJI R' ?_)))
  rw [ZO]
  have hfail:s[i']?≠some lit[k]→(Zz self (some ⟨b,0,none⟩) (k:Int) true).wp hh Q:=fun hne=>by
   unfold Zz
   refine iteT rfl (Wv R' ?_)
   rw [if_neg hne] at hm
   exact H2 _ _ hm.symm K
  refine KP (fun hge=>?_) (fun hlt=>?_)
  ·refine hfail ?_
   have:=of_decide_eq_true hge
   rw [List.getElem?_eq_none (by omega)]
   intro h; cases h
  ·have hil:i' < s.length:=by have:=of_decide_eq_false hlt; omega
   refine ZD (ZD (Nn rfl hkl (KJI R' (KEL R' (Nn rfl hil ?_)))))
   by_cases he:s[i']=lit[k]
   ·rw [show (((s[i']).toNat:Int) != ((lit[k]).toNat:Int))=false by rw [he]; simp]
    unfold Zz UJ
    refine iteF rfl (KFR R' hil (fun h2 u R2=>?_))
    rw [w64 (by omega) (by omega)]
    rw [if_pos (by rw [List.getElem?_eq_getElem hil,he])] at hm
    exact hself _ _ ⟨k+1,i'+1,by omega,by omega,K.trans (Km.upd u rfl),R2,hm⟩ (by omega)
   ·rw [show (((s[i']).toNat:Int) != ((lit[k]).toNat:Int))=true by
     rw [bne_iff_ne]
     intro h
     exact he (UInt8.toNat_inj.1 (by omega))]
    refine hfail ?_
    rw [List.getElem?_eq_getElem hil]
    intro h
    exact he (Option.some.inj h)
 ·have hkl:k=lit.length:=by have:=of_decide_eq_false hc; omega
  subst hkl
  rw [List.drop_length,Xd] at hm
  exact KC (H1 _ _ hm.symm K R')
def numL (s:List UInt8) (fr:Nat):Nat→Nat→Int→Except Nat (Int × Nat)
 | 0,i,n=>.ok (n,i)
 | f+1,i,n=>if digB (KN s i)=true then
   (if (numP ((s.drop fr).take (i+1 - fr))).2=7 then .error i else if (numP ((s.drop fr).take (i+1 - fr))).2≠0 then .ok (n,i) else numL s fr f (i+1) (numP ((s.drop fr).take (i+1 - fr))).1)
  else .ok (n,i)
def numJ (s:List UInt8) (i:Nat):Nat:=if KN s i=45 then i+1 else i
def numF (s:List UInt8) (i:Nat):Except Nat (Int × Nat) :=
 if digB (KN s (numJ s i))=false∨(i < numJ s i∧KN s (numJ s i)=48) then .error (numJ s i) else numL s i (s.length - numJ s i) (numJ s i) 0
theorem KGN {s:List UInt8} {i:Nat} (h:digB (KN s i)=true):i < s.length:=by
 refine J2 (fun e=>?_)
 rw [e] at h
 exact absurd h (by decide)
theorem KMf {h:Heap} {Q:Value ⊕ Int→Heap→Prop} {b i fr:Nat} {s:List UInt8} (R:Rd h b s i) (he:ErrV h) (hb:b≠5) (hfr:fr≤i)
  (H1:∀ n j h',numL s fr (s.length - i) i 0=.ok (n,j)→Kb b h h'→Rd h' b s j→Q (.inr n) h') (H2:∀ e h',numL s fr (s.length - i) i 0=.error e→Kb b h h'→Q (.inl (KAE e)) h'):(Z7 (some ⟨b,0,none⟩) (fr:Int)).wp h Q:=by
 unfold Z7
 refine M.loop_inv (fun (x:Int) hh=>∃ i':Nat,fr≤i'∧Kb b h hh∧Rd hh b s i'∧(∃ hx:hh[b]?=some (.cells #[.string (bs s),.int .i64 (i':Int)] Gm (0,0)),True)∧numL s fr (s.length - i') i' x=numL s fr (s.length - i) i 0)
  (fun x hh=>match hh[b]? with | some (.cells #[_,.int _ z] _ _)=>s.length - z.toNat | _=>0) ?_ ⟨i,hfr,Km.refl _ _,R,⟨R.blk,trivial⟩,rfl⟩
 rintro x hh ⟨i',hfi,K,R',⟨hx,_⟩,hm⟩ self hself
 have hsm:=R'.small
 unfold Ub
 refine KE (Vh R' (KE (KDq ?_)))
 refine KP (fun hd=>?_) (fun hd=>?_)
 ·have hil:=KGN hd
  rw [show s.length - i'=(s.length - (i'+1))+1 by omega,numL,if_pos hd] at hm
  refine ZD (ZD (KJI R' (KEL R' ?_)))
  rw [w64 (by omega) (by omega)]
  refine KIO (a:=fr) (b:=i'+1) rfl (by omega) (by omega) (by omega) (KE (WX (KE4 _) (KBC ?_ (he.km K hb) (fun h2 e2=>?_))))
  ·rw [List.length_take,List.length_drop]; omega
  have R2:=R'.ext e2
  refine KP (fun h7=>?_) (fun h7=>?_)
  ·rw [eqI,decide_eq_true_iff] at h7
   rw [if_pos h7] at hm
   exact Wv R2 (H2 _ _ hm.symm (K.trans (Km.ext e2)))
  ·rw [eqI,decide_eq_false_iff_not] at h7
   rw [if_neg h7] at hm
   unfold Jj
   refine KP (fun h0=>?_) (fun h0=>?_)
   ·rw [bne_iff_ne] at h0
    rw [if_pos h0] at hm
    exact KC (H1 _ _ _ hm.symm (K.trans (Km.ext e2)) R2)
   ·have h0:¬ (numP ((s.drop fr).take (i'+1 - fr))).2≠0:=by
     intro hne
     rw [(bne_iff_ne).2 hne] at h0
     cases h0
    rw [if_neg h0] at hm
    refine KFR R2 hil (fun h3 u3 R3=>?_)
    refine hself _ _ ⟨i'+1,by omega,(K.trans (Km.ext e2)).trans (Km.upd u3 rfl),R3,⟨R3.blk,trivial⟩,hm⟩ ?_
    rw [R3.blk,hx]
    show s.length - ((i'+1:Nat):Int).toNat < s.length - ((i':Nat):Int).toNat
    omega
 ·have:numL s fr (s.length - i') i' x=.ok (x,i'):=by
   cases hf:s.length - i' with
   | zero=>rfl
   | succ f=>rw [numL,if_neg (by rw [hd]; decide)]
  rw [this] at hm
  exact KC (H1 _ _ _ hm.symm K R')
theorem KFS {h:Heap} {Q:Value ⊕ Int→Heap→Prop} {b i:Nat} {s:List UInt8} (R:Rd h b s i) (he:ErrV h) (hb:b≠5)
  (H1:∀ n j h',numF s i=.ok (n,j)→Kb b h h'→Rd h' b s j→Q (.inr n) h') (H2:∀ e h',numF s i=.error e→Kb b h h'→Q (.inl (KAE e)) h'):(Jo (some ⟨b,0,none⟩)).wp h Q:=by
 unfold Jo
 have key:∀ h1,Kb b h h1→Rd h1 b s (numJ s i)→(Z8 (some ⟨b,0,none⟩) (i:Int)).wp h1 Q:=by
  intro h1 K1 R1
  unfold Z8
  have hij:i≤numJ s i:=by unfold numJ; split <;> omega
  refine ZD (KEL R1 (KE (Vh R1 (KE (KDq ?_)))))
  refine or_b (c:=decide (i < numJ s i) && decide (KN s (numJ s i)=48)) (fun hd Q' hq=>?_) ?_
  ·refine Ud (U1 (c:=decide (KN s (numJ s i)=48)) (fun _ Q2 hq2=>KE (Vh R1 (KC ?_))) (Jr (KC ?_)))
   ·rw [KMb,decide_eq_decide.2 (show some (KN s (numJ s i))=some 48↔KN s (numJ s i)=48 from ⟨Option.some.inj,congrArg _⟩)]
    exact hq2
   ·rw [show decide (((numJ s i:Nat):Int) > (i:Int))=decide (i < numJ s i) from decide_eq_decide.2 (by omega)]
    exact hq
  ·refine KP (fun hbad=>?_) (fun hok=>?_)
   ·refine Wv R1 (H2 _ _ ?_ K1)
    unfold numF
    rw [if_pos]
    rw [Bool.or_eq_true,Bool.and_eq_true,decide_eq_true_iff,decide_eq_true_iff,Bool.not_eq_true'] at hbad
    exact hbad
   ·have hn:¬ (digB (KN s (numJ s i))=false∨(i < numJ s i∧KN s (numJ s i)=48)):=by
     intro hh
     rw [← Bool.not_eq_true',← decide_eq_true_iff (p:=i < numJ s i),← decide_eq_true_iff (p:=KN s (numJ s i)=48),← Bool.and_eq_true,← Bool.or_eq_true,hok] at hh
     cases hh
    have hF:numF s i=numL s i (s.length - numJ s i) (numJ s i) 0:=by unfold numF; rw [if_neg hn]
    rw [hF] at H1 H2
    exact KMf R1 (he.km K1 hb) hb hij (fun n j h2 e K2 R2=>H1 n j h2 e (K1.trans K2) R2) (fun e h2 hm K2=>H2 e h2 hm (K1.trans K2))
 refine ZD (KEL R (KE (Vh R ?_)))
 refine KP (fun hc=>?_) (fun hc=>?_)
 ·have h45:KN s i=45:=by
   rw [KMa,decide_eq_true_iff] at hc
   exact Option.some.inj hc
  refine KFR R (J2 (by rw [h45]; decide)) (fun h1 u1 R1=>key _ (Km.upd u1 rfl) ?_)
  unfold numJ
  rw [if_pos h45]
  exact R1
 ·have h45:¬ KN s i=45:=by
   rw [KMa,decide_eq_false_iff_not] at hc
   exact fun e=>hc (congrArg _ e)
  refine key _ (Km.refl _ _) ?_
  unfold numJ
  rw [if_neg h45]
  exact R
end Gx
namespace Gx
open Go Go.Proofs Go.Shelf Go.RowKit Go.Lib
set_option linter.unusedVariables false
set_option linter.unusedSimpArgs false
set_option maxRecDepth 100000
def hexD:List UInt8:=[48,49,50,51,52,53,54,55,56,57,97,98,99,100,101,102]
def hexN (c:UInt8):Int:=Lib.indexByte hexD c
theorem KD9:∀ (l:List UInt8) (c:UInt8),Lib.indexByte l c+1≤(l.length:Int)
 | [],c=>by simp [Lib.indexByte]
 | b::l,c=>by
  have:=KD9 l c
  unfold Lib.indexByte
  rw [List.length_cons]
  split
  ·omega
  ·split <;> omega
theorem KHO (c:UInt8):hexN c≤15:=by
 have:=KD9 hexD c
 have h2:(hexD.length:Int)=16:=rfl
 unfold hexN
 omega
theorem KJ5:hexN 0=-1:=by decide +kernel
theorem KNw:∀ a b:Fin 16,IntKind.wrap .u8 (iOr .i64 (iShl .i64 (a.val:Int) 4) (b.val:Int))=((UInt8.ofNat (((a.val:Int) * 16+(b.val:Int)).toNat)).toNat:Int):=by decide +kernel
theorem hexb {x y:Int} (hx:0≤x) (hx2:x≤15) (hy:0≤y) (hy2:y≤15):IntKind.wrap .u8 (iOr .i64 (iShl .i64 x 4) y)=((UInt8.ofNat ((x * 16+y).toNat)).toNat:Int):=by
 have:=KNw ⟨x.toNat,by omega⟩ ⟨y.toNat,by omega⟩
 simp only [Int.toNat_of_nonneg hx,Int.toNat_of_nonneg hy] at this
 exact this
theorem KJ6 {c:UInt8} {h:Heap} {Q:Int→Heap→Prop} (H:Q (hexN c) h):(VK (⟨#[48,49,50,51,52,53,54,55,56,57,97,98,99,100,101,102]⟩:ByteArray) (c.toNat:Int)).wp h Q:=by
 unfold VK Z2
 refine KE (KC (KC ?_))
 have:(c.toNat:Int).toNat.toUInt8=c:=by rw [Int.toNat_natCast]; simp
 rw [this]
 exact H
def escP (s:List UInt8) (i:Nat):Except Nat (UInt8 × Nat) :=
 if KN s i=39∨KN s i=92 then .ok (KN s i,i+1)
 else match Xd s [120] i with
  | .error e=>.error e
  | .ok j=>if hexN (KN s j) < 0∨(1 < hexN (KN s j)∧hexN (KN s j) < 7) then .error j
   else if hexN (KN s (j+1)) < 0∨(hexN (KN s j)=7∧hexN (KN s (j+1)) < 15) then .error (j+1)
   else .ok (UInt8.ofNat ((hexN (KN s j) * 16+hexN (KN s (j+1))).toNat),j+2)
theorem KIQ {s:List UInt8} {i:Nat} (h:0≤hexN (KN s i)):i < s.length:=by
 refine J2 (fun e=>?_)
 rw [e,KJ5] at h
 omega
theorem u8_c {c d:UInt8} {n:Int} (hn:n=(d.toNat:Int)):((c.toNat:Int) == n)=decide (c=d):=by
 subst hn
 rw [eqI]
 refine decide_eq_decide.2 ⟨fun h=>UInt8.toNat_inj.1 (by omega),fun h=>by rw [h]⟩
theorem KNx {h:Heap} {Q:Value ⊕ Int→Heap→Prop} {b i:Nat} {s:List UInt8} (R:Rd h b s i)
  (H1:∀ (c:UInt8) j h',escP s i=.ok (c,j)→Kb b h h'→Rd h' b s j→Q (.inr (c.toNat:Int)) h') (H2:∀ e h',escP s i=.error e→Kb b h h'→Q (.inl (KAE e)) h'):(UK (some ⟨b,0,none⟩)).wp h Q:=by
 unfold UK
 refine KE (Vh R ?_)
 rw [u8_c (d:=39) (n:=39) rfl,u8_c (d:=92) (n:=92) rfl]
 refine or_b (c:=decide (KN s i=92)) (fun _ Q' hq=>KC hq) ?_
 refine KP (fun hc=>?_) (fun hc=>?_)
 ·rw [Bool.or_eq_true,decide_eq_true_iff,decide_eq_true_iff] at hc
  have hi:i < s.length:=J2 (by rcases hc with h | h <;> (rw [h]; decide))
  refine KFR R hi (fun h1 u1 R1=>KC (H1 _ _ _ ?_ (Km.upd u1 rfl) R1))
  unfold escP
  rw [if_pos hc]
 ·have hc':¬ (KN s i=39∨KN s i=92):=by
   intro hh
   rw [← decide_eq_true_iff (p:=KN s i=39),← decide_eq_true_iff (p:=KN s i=92),← Bool.or_eq_true,hc] at hh
   cases hh
  refine qj (Xe (lit:=[120]) R (by decide) (fun j h1 hj K1 R1=>?_) (fun e h1 hj K1=>?_))
  ·have hE:escP s i=if hexN (KN s j) < 0∨(1 < hexN (KN s j)∧hexN (KN s j) < 7) then .error j
     else if hexN (KN s (j+1)) < 0∨(hexN (KN s j)=7∧hexN (KN s (j+1)) < 15) then .error (j+1)
     else .ok (UInt8.ofNat ((hexN (KN s j) * 16+hexN (KN s (j+1))).toNat),j+2):=by
    unfold escP
    rw [if_neg hc',hj]
   refine KE (Vh R1 (KE (KJ6 ?_)))
   refine ZD (ZD (KEL R1 (KJI R1 ?_)))
   have hbad:(hexN (KN s j) < 0∨(1 < hexN (KN s j)∧hexN (KN s j) < 7))→(Kz (some ⟨b,0,none⟩) (hexN (KN s j)) true).wp h1 Q:=fun hb=>by
    unfold Kz
    rw [if_pos hb] at hE
    exact iteT rfl (Wv R1 (H2 _ _ hE K1))
   have hgood:¬ (hexN (KN s j) < 0∨(1 < hexN (KN s j)∧hexN (KN s j) < 7))→(Kz (some ⟨b,0,none⟩) (hexN (KN s j)) false).wp h1 Q:=fun hb=>by
    unfold Kz JQ
    rw [if_neg hb] at hE
    have hjl:j < s.length:=KIQ (by omega)
    refine iteF rfl (KFR R1 hjl (fun h2 u2 R2=>?_))
    have K2:Kb b h h2:=K1.trans (Km.upd u2 rfl)
    refine KE (Vh R2 (KE (KJ6 ?_)))
    refine ZD (ZD (KEL R2 (KJI R2 ?_)))
    have hbad2:(hexN (KN s (j+1)) < 0∨(hexN (KN s j)=7∧hexN (KN s (j+1)) < 15))→(Ky (some ⟨b,0,none⟩) (hexN (KN s j)) (hexN (KN s (j+1))) true).wp h2 Q:=fun hb=>by
     unfold Ky
     rw [if_pos hb] at hE
     exact iteT rfl (Wv R2 (H2 _ _ hE K2))
    have hgood2:¬ (hexN (KN s (j+1)) < 0∨(hexN (KN s j)=7∧hexN (KN s (j+1)) < 15))→(Ky (some ⟨b,0,none⟩) (hexN (KN s j)) (hexN (KN s (j+1))) false).wp h2 Q:=fun hb2=>by
     unfold Ky JP
     rw [if_neg hb2] at hE
     have hjl2:j+1 < s.length:=KIQ (by omega)
     refine iteF rfl (KFR R2 hjl2 (fun h3 u3 R3=>KC ?_))
     rw [hexb (by omega) (KHO _) (by omega) (KHO _)]
     exact H1 _ _ _ hE (K2.trans (Km.upd u3 rfl)) R3
    refine KP (fun hge=>?_) (fun hlt=>?_)
    ·refine hbad2 (.inl ?_)
     have hge:=of_decide_eq_true hge
     rw [ZO] at hge
     have:KN s (j+1)=0:=by unfold KN; rw [List.getElem?_eq_none (by omega)]; rfl
     rw [this,KJ5]; decide
    ·refine KP (fun hn=>hbad2 (.inl (of_decide_eq_true hn))) (fun hn=>?_)
     have hn:=of_decide_eq_false hn
     refine KP (fun h7=>?_) (fun h7=>?_)
     ·rw [eqI,decide_eq_true_iff] at h7
      by_cases h15:hexN (KN s (j+1)) < 15
      ·rw [decide_eq_true h15]
       exact hbad2 (.inr ⟨h7,h15⟩)
      ·rw [decide_eq_false h15]
       exact hgood2 (fun hh=>hh.elim hn (fun hh=>h15 hh.2))
     ·rw [eqI,decide_eq_false_iff_not] at h7
      exact hgood2 (fun hh=>hh.elim hn (fun hh=>h7 hh.1))
   refine KP (fun hge=>?_) (fun hlt=>?_)
   ·refine hbad (.inl ?_)
    have hge:=of_decide_eq_true hge
    rw [ZO] at hge
    have:KN s j=0:=by unfold KN; rw [List.getElem?_eq_none (by omega)]; rfl
    rw [this,KJ5]; decide
   ·refine KP (fun hn=>hbad (.inl (of_decide_eq_true hn))) (fun hn=>?_)
    have hn:=of_decide_eq_false hn
    refine KP (fun h1'=>?_) (fun h1'=>?_)
    ·have h1':=of_decide_eq_true h1'
     by_cases h7:hexN (KN s j) < 7
     ·rw [decide_eq_true h7]
      exact hbad (.inr ⟨h1',h7⟩)
     ·rw [decide_eq_false h7]
      exact hgood (fun hh=>hh.elim hn (fun hh=>h7 hh.2))
    ·have h1':=of_decide_eq_false h1'
     exact hgood (fun hh=>hh.elim hn (fun hh=>h1' hh.1))
  ·refine H2 e h1 ?_ K1
   unfold escP
   rw [if_neg hc',hj]
theorem KJJ {s:List UInt8} {i j:Nat} {c:UInt8} (h:escP s i=.ok (c,j)):i < j∧j≤s.length:=by
 unfold escP at h
 split at h
 ·rename_i hc
  have hi:i < s.length:=J2 (by rcases hc with h | h <;> (rw [h]; decide))
  cases h
  omega
 ·split at h
  ·cases h
  ·rename_i j' hj
   obtain ⟨h1,h2,_⟩:=WV hj
   split at h
   ·cases h
   ·split at h
    ·cases h
    ·rename_i hn
     have:=KIQ (s:=s) (i:=j'+1) (by omega)
     cases h
     have:j'=i+1:=h1
     omega
def strL (s:List UInt8):Nat→Nat→List UInt8→Except Nat (List UInt8 × Nat)
 | 0,i,_=>.error i
 | f+1,i,acc =>
  if KN s i=39 then .ok (acc,i+1)
  else if (KN s i).toNat < 32∨126 < (KN s i).toNat then .error i
  else if KN s i=92 then (match escP s (i+1) with | .error e=>.error e | .ok (d,j)=>strL s f j (acc++[d]))
  else strL s f (i+1) (acc++[KN s i])
def strP (s:List UInt8) (i:Nat):Except Nat (List UInt8 × Nat):=match Xd s [39] i with | .error e=>.error e | .ok j=>strL s (s.length+1 - j) j []
theorem KJ7 {β:Type} {lo:Nat} {h:Heap} {Q:β→Heap→Prop} {r:Sl} {l:List UInt8} {c:UInt8} {f:Sl→M β} (G:Gw lo h r 1 (l.map bv)) (hle:lo≤h.size) (hm:l.length≤1099511627776)
  (H:∀ h' r',Gw lo h' r' 1 ((l++[c]).map bv)→h.size≤h'.size→(∀ j,j < lo→h'[j]?=h[j]?)→(f r').wp h' Q):(bdL KY 1 #[.int .u8 (c.toNat:Int)]>>=fun x=>apL KY 1 1 (#[.int .u8 0]:Array Value) r x>>=f).wp h Q:=by
 refine qK ?_
 have e6:=Ext.push h (.cells #[.int .u8 (c.toNat:Int)] KY)
 have g6:(h.push (.cells #[.int .u8 (c.toNat:Int)] KY))[h.size]?=some (.cells #[.int .u8 (c.toNat:Int)] KY (0,0)):=Kf
 generalize h.push (.cells #[.int .u8 (c.toNat:Int)] KY)=h6 at e6 g6 ⊢
 have G6:=G.ext e6
 have hrl:=G6.len
 rw [List.length_map,Nat.mul_one] at hrl
 refine KBH (vs:=l.map bv) (news:=[bv c]) rfl G6 rfl (.inr ⟨_,rfl,fun j v hj=>?_⟩) (fun v hv=>by simp at hv; subst hv; rfl) (by dsimp only; omega) (by dsimp only; omega) (by have:=e6.size; omega) (fun h7 r7 G7 hlen7 hs7 same7 on7=>?_)
 ·rw [Kg,Nat.zero_add,KU g6]
  rw [show (#[.int .u8 (c.toNat:Int)]:Array Value)=[bv c].toArray from rfl]
  simpa using hj
 ·refine H h7 r7 (by rw [List.map_append]; exact G7) (Nat.le_trans e6.size hs7) (fun j hj=>(same7 j (by have:=e6.size; omega) (fun ho=>by have:=(G6.lt ho).2; omega)).trans (e6.same j (by omega)))
theorem KNy {h:Heap} {Q:Value ⊕ ByteArray→Heap→Prop} {b i:Nat} {s:List UInt8} (R:Rd h b s i)
  (H1:∀ t j h',strP s i=.ok (t,j)→Kb b h h'→Rd h' b s j→Q (.inr (bs t)) h') (H2:∀ e h',strP s i=.error e→Kb b h h'→Q (.inl (KAE e)) h'):(Vf (some ⟨b,0,none⟩)).wp h Q:=by
 unfold Vf
 refine qj (Xe (lit:=[39]) R (by decide) (fun j h1 hj K1 R1=>?_) (fun e h1 hj K1=>?_))
 ·have hP:strP s i=strL s (s.length+1 - j) j []:=by unfold strP; rw [hj]
  rw [hP] at H1 H2
  have hb:=R1.lt
  refine M.loop_inv (fun (x:Sl) hh=>∃ (acc:List UInt8) (f i':Nat),s.length < f+i'∧acc.length≤i'∧Kb b h1 hh∧Rd hh b s i'∧Gw h1.size hh x 1 (acc.map bv)∧strL s f i' acc=strL s (s.length+1 - j) j [])
   (fun x _=>s.length+1 - x.len) ?_ ⟨[],_,j,by have:=R1.le; omega,Nat.zero_le _,Km.refl _ _,R1,Gw.nil _ _ _,rfl⟩
  rintro x hh ⟨acc,f,i',hf,hai,K,R',G,hm⟩ self hself
  have hsm:=R'.small
  have hle:=R'.le
  have hxl:=G.len
  rw [List.length_map,Nat.mul_one] at hxl
  obtain ⟨f,rfl⟩:∃ g,f=g+1:=⟨f - 1,by omega⟩
  rw [strL] at hm
  unfold VW
  refine KE (Vh R' ?_)
  rw [show (((KN s i').toNat:Int) != 39)=!decide (KN s i'=39) by rw [← u8_c (d:=39) (n:=39) rfl]; rfl]
  refine KP (fun hne=>?_) (fun heq=>?_)
  ·have hne:KN s i'≠39:=by simpa using hne
   rw [if_neg hne] at hm
   refine KE (Vh R' ?_)
   refine or_b (c:=decide (((KN s i').toNat:Int) > 126)) (fun _ Q' hq=>KC hq) ?_
   refine KP (fun hbad=>?_) (fun hok=>?_)
   ·rw [Bool.or_eq_true,decide_eq_true_iff,decide_eq_true_iff] at hbad
    rw [if_pos (by omega)] at hm
    exact Wv R' (H2 _ _ hm.symm (K1.trans K))
   ·rw [Bool.or_eq_false_iff,decide_eq_false_iff_not,decide_eq_false_iff_not] at hok
    rw [if_neg (by omega)] at hm
    have hil:i' < s.length:=J2 (fun e=>by rw [e] at hok; exact absurd hok.1 (by decide))
    unfold UY
    refine KFR R' hil (fun h2 u2 R2=>?_)
    have K2:Kb b h1 h2:=K.trans (Km.upd u2 rfl)
    have G2:Gw h1.size h2 x 1 (acc.map bv):=G.same (fun k hk=>u2.ne k (fun e=>by have:=(G.lt hk).2; omega))
    have hs2:h1.size≤h2.size:=K2.size
    have next:∀ (c:UInt8) (i2:Nat) (h3:Heap),i' < i2→Kb b h1 h3→Rd h3 b s i2→Gw h1.size h3 x 1 (acc.map bv)→strL s f i2 (acc++[c])=strL s (s.length+1 - j) j []→(Jp self x (c.toNat:Int)).wp h3 Q:=by
     intro c i2 h3 hi2 K3 R3 G3 hm3
     unfold Jp
     refine KJ7 G3 K3.size (by omega) (fun h4 r4 G4 hs4 same4=>?_)
     have hl4:=G4.len
     rw [List.length_map,List.length_append,List.length_singleton,Nat.mul_one] at hl4
     refine hself _ _ ⟨acc++[c],f,i2,by omega,by rw [List.length_append,List.length_singleton]; omega,⟨Nat.le_trans K3.size hs4,fun k hk hkb=>(same4 k hk).trans (K3.same k hk hkb)⟩,⟨by rw [same4 b hb]; exact R3.blk,R3.le,R3.small⟩,G4,hm3⟩ ?_
     omega
    by_cases h92:KN s i'=92
    ·rw [if_pos h92] at hm
     refine iteT (by rw [u8_c (d:=92) (n:=92) rfl,decide_eq_true h92]) (qj (KNx R2 (fun c j2 h3 he K3 R3=>?_) (fun e h3 he K3=>?_)))
     ·rw [he] at hm
      exact next c j2 h3 (by have:=KJJ he; omega) (K2.trans K3) R3 (G2.same (fun k hk=>K3.same k (G2.lt hk).1 (fun e=>by have:=(G2.lt hk).2; omega))) hm
     ·rw [he] at hm
      exact H2 _ _ hm.symm (K1.trans (K2.trans K3))
    ·rw [if_neg h92] at hm
     refine iteF (by rw [u8_c (d:=92) (n:=92) rfl,decide_eq_false h92]) ?_
     exact next _ (i'+1) h2 (by omega) K2 R2 G2 hm
  ·have heq:KN s i'=39:=by simpa using heq
   rw [if_pos heq] at hm
   have hil:i' < s.length:=J2 (by rw [heq]; decide)
   refine KFR R' hil (fun h2 u2 R2=>?_)
   have G2:Gw h1.size h2 x 1 (acc.map bv):=G.same (fun k hk=>u2.ne k (fun e=>by have:=(G.lt hk).2; omega))
   refine KLZ (ns:=acc) hxl G2.reads (KC ?_)
   exact H1 _ _ _ hm.symm (K1.trans (K.trans (Km.upd u2 rfl))) R2
 ·refine H2 e h1 ?_ K1
  unfold strP
  rw [hj]
end Gx
namespace Gx
open Go Go.Proofs Go.Shelf Go.RowKit Go.Lib
set_option linter.unusedVariables false
set_option linter.unusedSimpArgs false
set_option maxRecDepth 100000
def KAF (k:Int) (s:List UInt8) (i:Nat):Except Nat (Vl × Nat) :=
 match Xd s [91] (i+1) with
 | .error e=>.error e
 | .ok j=>match numF s j with
  | .error e=>.error e
  | .ok (n,j2)=>match Xd s [93] j2 with
   | .error e=>.error e
   | .ok j3=>.ok (.mk k n [] [],j3)
def Xf (pv:Nat→Except Nat (Vl × Nat)) (two:Bool) (s:List UInt8) (i:Nat):Except Nat (List Vl × Nat) :=
 match pv i with
 | .error e=>.error e
 | .ok (v,j)=>if two=true then (match Xd s [58,32] j with
   | .error e=>.error e
   | .ok j2=>match pv j2 with
    | .error e=>.error e
    | .ok (w,j3)=>.ok ([v,w],j3)) else .ok ([v],j)
def sepP (l:List Vl) (s:List UInt8) (i:Nat):Except Nat Nat:=if l.length=0 then .ok i else Xd s [44,32] i
def NV (pv:Nat→Except Nat (Vl × Nat)) (en:UInt8) (two:Bool) (s:List UInt8):Nat→List Vl→Nat→Except Nat (List Vl × Nat)
 | 0,_,i=>.error i
 | f+1,l,i=>if KN s i=en then .ok (l,i+1) else
  match sepP l s i with
  | .error e=>.error e
  | .ok i1=>match Xf pv two s i1 with
   | .error e=>.error e
   | .ok (vs,i2)=>if KN s i2≠en∧KN s i2≠44 then .error i2 else NV pv en two s f (l++vs) i2
def pval (s:List UInt8):Nat→Nat→Except Nat (Vl × Nat)
 | 0,i=>.error i
 | d+1,i =>
  if KN s i=45∨digB (KN s i)=true then (match numF s i with | .error e=>.error e | .ok (n,j)=>.ok (.mk 1 n [] [],j))
  else if KN s i=39 then (match strP s i with | .error e=>.error e | .ok (t,j)=>.ok (.mk 2 0 t [],j))
  else if KN s i=116 then (match Xd s [116,114,117,101] i with | .error e=>.error e | .ok j=>.ok (.mk 3 1 [] [],j))
  else if KN s i=102 then (match Xd s [102,97,108,115,101] i with | .error e=>.error e | .ok j=>.ok (.mk 3 0 [] [],j))
  else if KN s i=118 then KAF 6 s i
  else if KN s i=101 then KAF 7 s i
  else if KN s i=91 then (match NV (pval s d) 93 false s (s.length - i) [] (i+1) with | .error e=>.error e | .ok (l,j)=>.ok (.mk 4 0 [] l,j))
  else if KN s i=123 then (match NV (pval s d) 125 true s (s.length - i) [] (i+1) with | .error e=>.error e | .ok (l,j)=>.ok (.mk 5 0 [] l,j))
  else .error i
theorem KKv {t:List UInt8} {n:Int} (h:Lib.parseIntB 64 t=.ok n):I64 n:=by
 unfold parseIntB at h
 split at h
 ·cases h
 ·dsimp only at h
  split at h
  ·cases h
  ·cases h
  ·split at h
   ·cases h
   ·split at h
    ·cases h
    ·rename_i u _ h1 h2
     cases h
     have e63:(2:Nat) ^ (64 - 1)=9223372036854775808:=by decide
     rw [e63] at h1 h2
     unfold I64
     split <;> rename_i h3 <;> (simp only [h3,not_true_eq_false,not_false_eq_true,true_and,false_and] at h1 h2; omega)
theorem KHP {t:List UInt8} (h:(numP t).2=0):I64 (numP t).1:=by
 unfold numP at h ⊢
 split
 ·rename_i h1; rw [if_pos h1] at h; exact absurd h (by decide)
 ·rename_i h1
  rw [if_neg h1] at h
  split
  ·rename_i h2; rw [if_pos h2] at h; exact absurd h (by decide)
  ·rename_i h2
   rw [if_neg h2] at h
   split
   ·rename_i h3; rw [if_pos h3] at h; exact absurd h (by decide)
   ·rename_i h3
    rw [if_neg h3] at h
    split
    ·rename_i n hn; exact KKv hn
    ·rename_i hne
     exfalso
     revert h
     split
     ·rename_i n hn; exact absurd hn (hne n)
     ·decide
theorem KMg {s:List UInt8} {fr:Nat}:∀ {f i:Nat} {n m:Int} {j:Nat},numL s fr f i n=.ok (m,j)→I64 n→i≤s.length→I64 m∧i≤j∧j≤s.length
 | 0,i,n,m,j,h,hn,hi=>by cases h; exact ⟨hn,Nat.le_refl _,hi⟩
 | f+1,i,n,m,j,h,hn,hi=>by
  rw [numL] at h
  split at h
  ·rename_i hd
   have hil:=KGN hd
   split at h
   ·cases h
   ·split at h
    ·cases h; exact ⟨hn,Nat.le_refl _,hi⟩
    ·rename_i h0
     have:=KMg h (KHP (Classical.not_not.1 h0)) (by omega)
     exact ⟨this.1,by omega,this.2.2⟩
  ·cases h; exact ⟨hn,Nat.le_refl _,hi⟩
theorem KMh:∀ n:Fin 256,digB (UInt8.ofNat n.val)=true→(numP [UInt8.ofNat n.val]).2=0∧(UInt8.ofNat n.val≠48→(numP [45,UInt8.ofNat n.val]).2=0):=by decide +kernel
theorem KGO {c:UInt8} (h:digB c=true):(numP [c]).2=0∧(c≠48→(numP [45,c]).2=0):=by
 have:=KMh ⟨c.toNat,c.toNat_lt⟩
 simp only [UInt8.ofNat_toNat] at this
 exact this h
theorem KFT {s:List UInt8} {i j:Nat} {n:Int} (h:numF s i=.ok (n,j)) (hi:i≤s.length):I64 n∧i < j∧j≤s.length:=by
 unfold numF at h
 split at h
 ·cases h
 ·rename_i hb
  have hd:digB (KN s (numJ s i))=true:=by
   cases hh:digB (KN s (numJ s i)) with
   | true=>rfl
   | false=>exact absurd (.inl hh) hb
  have hil:=KGN hd
  have hij:i≤numJ s i:=by unfold numJ; split <;> omega
  rw [show s.length - numJ s i=(s.length - (numJ s i+1))+1 by omega,numL,if_pos hd] at h
  have ht:(numP ((s.drop i).take (numJ s i+1 - i))).2=0:=by
   by_cases h45:KN s i=45
   ·have hJ:numJ s i=i+1:=by unfold numJ; rw [if_pos h45]
    rw [hJ] at hb hd hil ⊢
    have h2:(s.drop i).take (i+1+1 - i)=[45,KN s (i+1)]:=by
     rw [show i+1+1 - i=2 by omega,List.drop_eq_getElem_cons (by omega),List.drop_eq_getElem_cons hil]
     rw [Vu hil,← h45,Vu (by omega)]
     rfl
    rw [h2]
    exact (KGO hd).2 (fun e=>hb (.inr ⟨by omega,e⟩))
   ·have hJ:numJ s i=i:=by unfold numJ; rw [if_neg h45]
    rw [hJ] at hd hil ⊢
    have h2:(s.drop i).take (i+1 - i)=[KN s i]:=by
     rw [show i+1 - i=1 by omega,List.drop_eq_getElem_cons hil,Vu hil]
     rfl
    rw [h2]
    exact (KGO hd).1
  rw [if_neg (by rw [ht]; decide),if_neg (by rw [ht]; exact fun h=>h rfl)] at h
  have:=KMg h (KHP ht) (by omega)
  exact ⟨this.1,by omega,this.2.2⟩
theorem KJK {s:List UInt8}:∀ {f i:Nat} {acc t:List UInt8} {j:Nat},strL s f i acc=.ok (t,j)→i < j∧j≤s.length∧t.length+i≤acc.length+j
 | 0,i,acc,t,j,h=>by cases h
 | f+1,i,acc,t,j,h=>by
  rw [strL] at h
  split at h
  ·rename_i h39
   have:=J2 (s:=s) (i:=i) (by rw [h39]; decide)
   cases h
   omega
  ·split at h
   ·cases h
   ·split at h
    ·split at h
     ·cases h
     ·rename_i d j2 he
      have h1:=KJJ he
      have h2:=KJK h
      rw [List.length_append,List.length_singleton] at h2
      omega
    ·have h2:=KJK h
     rw [List.length_append,List.length_singleton] at h2
     omega
theorem KHQ {s:List UInt8} {i j:Nat} {t:List UInt8} (h:strP s i=.ok (t,j)):i < j∧j≤s.length∧t.length≤s.length:=by
 unfold strP at h
 split at h
 ·cases h
 ·rename_i j1 hj
  have h1:=(WV hj).1
  have h2:=KJK h
  rw [List.length_nil] at h2
  omega
theorem KEU {s:List UInt8} {i j:Nat} {k:Int} {v:Vl} (h:KAF k s i=.ok (v,j)):∃ n,v=.mk k n [] []∧I64 n∧i < j∧j≤s.length:=by
 unfold KAF at h
 split at h
 ·cases h
 ·rename_i j1 h1
  split at h
  ·cases h
  ·rename_i n j2 h2
   split at h
   ·cases h
   ·rename_i j3 h3
    cases h
    have a1:=WV h1
    have a2:=KFT h2 (a1.2.1 (by simp))
    have a3:=WV h3
    have b1:j1=i+1+1:=a1.1
    have b3:j=j2+1:=a3.1
    exact ⟨n,rfl,a2.1,by omega,a3.2.1 (by simp)⟩
def Prog (s:List UInt8) (pv:Nat→Except Nat (Vl × Nat)):Prop:=∀ i v j,pv i=.ok (v,j)→i < j∧j≤s.length
theorem KNz {s:List UInt8} {pv:Nat→Except Nat (Vl × Nat)} (hp:Prog s pv) {two:Bool} {i j:Nat} {vs:List Vl} (h:Xf pv two s i=.ok (vs,j)):i+vs.length≤j∧0 < vs.length∧j≤s.length:=by
 unfold Xf at h
 split at h
 ·cases h
 ·rename_i v j1 h1
  have a1:=hp _ _ _ h1
  split at h
  ·split at h
   ·cases h
   ·rename_i j2 h2
    have a2:j2=j1+2:=(WV h2).1
    split at h
    ·cases h
    ·rename_i w j3 h3
     have a3:=hp _ _ _ h3
     cases h
     simp only [List.length_cons,List.length_nil]
     omega
  ·cases h
   simp only [List.length_cons,List.length_nil]
   omega
theorem KPf {l:List Vl} {s:List UInt8} {i j:Nat} (h:sepP l s i=.ok j):i≤j:=by
 unfold sepP at h
 split at h
 ·cases h; exact Nat.le_refl _
 ·have:j=i+2:=(WV h).1
  omega
theorem KHR {s:List UInt8} {pv:Nat→Except Nat (Vl × Nat)} (hp:Prog s pv) {en:UInt8} (he:en≠0) {two:Bool}:∀ {f i:Nat} {l t:List Vl} {j:Nat},NV pv en two s f l i=.ok (t,j)→i < j∧j≤s.length∧t.length+i≤l.length+j
 | 0,i,l,t,j,h=>by cases h
 | f+1,i,l,t,j,h=>by
  rw [NV] at h
  split at h
  ·rename_i hh
   have:=J2 (s:=s) (i:=i) (by rw [hh]; exact he)
   cases h
   omega
  ·split at h
   ·cases h
   ·rename_i i1 h1
    have a1:=KPf h1
    split at h
    ·cases h
    ·rename_i vs i2 h2
     have a2:=KNz hp h2
     split at h
     ·cases h
     ·have:=KHR hp he h
      rw [List.length_append] at this
      omega
theorem KJL (s:List UInt8):∀ d,Prog s (pval s d)
 | 0=>fun i v j h=>by cases h
 | d+1=>fun i v j h=>by
  have ih:=KJL s d
  rw [pval] at h
  split at h
  ·rename_i hc
   have hi:i < s.length:=J2 (fun e=>by rw [e] at hc; exact absurd hc (by decide))
   split at h
   ·cases h
   ·rename_i n j1 h1
    cases h
    exact (KFT h1 (by omega)).2
  ·split at h
   ·split at h
    ·cases h
    ·rename_i t j1 h1
     cases h
     exact ⟨(KHQ h1).1,(KHQ h1).2.1⟩
   ·split at h
    ·split at h
     ·cases h
     ·rename_i j1 h1
      cases h
      have a:=WV h1
      have a1:j=i+4:=a.1
      exact ⟨by omega,a.2.1 (by simp)⟩
    ·split at h
     ·split at h
      ·cases h
      ·rename_i j1 h1
       cases h
       have a:=WV h1
       have a1:j=i+5:=a.1
       exact ⟨by omega,a.2.1 (by simp)⟩
     ·split at h
      ·obtain ⟨n,_,_,h3⟩:=KEU h
       exact h3
      ·split at h
       ·obtain ⟨n,_,_,h3⟩:=KEU h
        exact h3
       ·split at h
        ·split at h
         ·cases h
         ·rename_i l j1 h1
          have a:=KHR ih (by decide) h1
          cases h
          omega
        ·split at h
         ·split at h
          ·cases h
          ·rename_i l j1 h1
           have a:=KHR ih (by decide) h1
           cases h
           omega
         ·cases h
end Gx
namespace Gx
open Go Go.Proofs Go.Shelf Go.RowKit Go.Lib
set_option linter.unusedVariables false
set_option linter.unusedSimpArgs false
set_option maxRecDepth 100000
theorem KHS (S:Nat→Prop) (h:Heap) {k n:Int} {s:List UInt8} (hk:I64 k) (hn:I64 n) (hs:s.length≤9223372036854775807):ZK S h (.mk k n s []) (ZT k n s Sl.nil) :=
 ZK.eq.2 ⟨Sl.nil,rfl,hk,hn,hs,rfl,Nat.le_refl _,by decide,by rw [Wr]; trivial⟩
theorem KEV {S:Nat→Prop} {h:Heap} {k n:Int} {l:List Vl} {x:Sl} (hk:I64 k) (hn:I64 n) (hl:VsRepS S h x l):ZK S h (.mk k n [] l) (ZT k n [] x) :=
 ZK.eq.2 ⟨x,rfl,hk,hn,by decide,hl⟩
theorem KOZ {α:Type} {h:Heap} {Q:α ⊕ Array Value→Heap→Prop} {g:Nat} {z cs:Array Value} {t:TypeId} (hg:h[g]?=some (.cells z t (0,0))) (hz:z.size=4) (hc:cs.size=4) (h1:∀ v ∈ cs.toList,one v=true)
  (H:∀ h',Upd g h h'→Q (.inr cs) h'):(M.need (cs.size=4)>>=fun _=>stG ⟨g,0,none⟩ cs>>=fun _=>ldG 4 ⟨g,0,none⟩>>=fun r=>(M.pure (.inr r):M (α ⊕ Array Value))).wp h Q:=by
 refine Z0 hc (stR hg (by omega) h1 (fun h' u g'=>?_))
 have hl:lay z 0 cs.toList=cs:=by
  rw [K0 (by rw [Array.length_toList]; omega)]
 rw [hl] at g'
 exact ldR g' hc (KC (H _ u))
theorem KMi {β:Type} {lo:Nat} {S:Nat→Prop} {h:Heap} {Q:β→Heap→Prop} {r:Sl} {css:List (Array Value)} {l:List Vl} {v:Vl} {c:Array Value} {f:Sl→M β} (G:VGw lo S h r css l) (hS:∀ k,S k→k < h.size∧¬ Sl.on r k) (hv:ZK S h v c) (hlo:lo≤h.size) (hm:l.length≤1099511627776)
  (H:∀ h' r',VGw lo S h' r' (css++[c]) (l++[v])→h.size≤h'.size→(∀ i,i < h.size→¬ Sl.on r i→h'[i]?=h[i]?)→(∀ i,Sl.on r' i→Sl.on r i∨h.size≤i)→(f r').wp h' Q) :
  (NY 4 1 (#[.int .i64 0,.int .i64 0,.string ByteArray.empty,.slice none 0 0]:Array Value) [(0,.agg c)]>>=fun y=>bdL KB 1 y>>=fun x=>apL KB 4 56 (#[.int .i64 0,.int .i64 0,.string ByteArray.empty,.slice none 0 0]:Array Value) r x>>=f).wp h Q:=by
 have hc:=hv.size
 refine KGd hc (qK ?_)
 have e1:=Ext.push h (.cells c KB)
 have g1:(h.push (.cells c KB))[h.size]?=some (.cells c KB (0,0)):=Kf
 generalize h.push (.cells c KB)=h1 at e1 g1 ⊢
 have hs1:=e1.size
 have G1:VGw lo S h1 r css l:=G.same (fun k hk=>e1.same k (G.gw.lt hk).1) (fun k hk=>e1.same k (hS k hk).1)
 refine KE (KG9 (l':=[v]) (css':=[c]) G1 (by omega) (fun k hk=>⟨by have:=(hS k hk).1; omega,(hS k hk).2⟩) (fun x hx=>by simp at hx; subst hx; exact ⟨hc,hv.to.one⟩) rfl rfl (.inr ⟨_,rfl,fun j u hj=>?_⟩) (fun j h1 h2=>?_) (by simp only [List.length_cons,List.length_nil]; omega) (fun h2 r2 G2 hs2 same2 on2=>?_))
 ·rw [Kg,Nat.zero_add,KU g1]
  have:Jq [c]=c.toList:=by simp [Jq]
  rw [this,Array.getElem?_toList] at hj
  exact hj
 ·have hj0:j=0:=by simp only [List.length_cons,List.length_nil] at h1; omega
  subst hj0
  exact hv.same (fun k hk=>e1.same k (hS k hk).1)
 ·exact H _ _ G2 (by omega) (fun i hi ho=>(same2 i (by omega) ho).trans (e1.same i hi)) (fun i hi=>(on2 i hi).imp id (fun h=>by omega))
abbrev HS (h h':Heap):Nat→Prop:=fun k=>h.size≤k∧k < h'.size
theorem KIR {h:Heap} {Q:Value ⊕ Array Value→Heap→Prop} {b i:Nat} {s:List UInt8} {k:Int} (R:Rd h b s i) (hi:i < s.length) (he:ErrV h) (hb:b≠5)
  (H1:∀ n j h',KAF k s i=.ok (.mk k n [] [],j)→Kb b h h'→Rd h' b s j→Q (.inr (ZT k n [] Sl.nil)) h') (H2:∀ e h',KAF k s i=.error e→Kb b h h'→Q (.inl (KAE e)) h'):(JV (some ⟨b,0,none⟩) k).wp h Q:=by
 unfold JV
 refine ZU (fun h1 e1 hs1 g1=>?_)
 refine KFR (R.ext e1) hi (fun h2 u2 R2=>?_)
 have hbl:=R.lt
 have K2:Kb b h h2:=(Km.ext e1).trans (Km.upd u2 rfl)
 have g2:=(u2.ne h.size (by omega)).trans g1
 refine qj (Xe (lit:=[91]) R2 (by decide) (fun j h3 hj K3 R3=>?_) (fun e h3 hj K3=>H2 e h3 (by unfold KAF; rw [hj]) (K2.trans K3)))
 have g3:=K3.blk g2 (show ¬ h.size=b by omega)
 have K3':=K2.trans K3
 refine qj (KFS R3 (he.km K3' hb) hb (fun n j2 h4 hn K4 R4=>?_) (fun e h4 hn K4=>H2 e h4 (by unfold KAF; rw [hj]; dsimp only; rw [hn]) (K3'.trans K4)))
 have g4:=K4.blk g3 (show ¬ h.size=b by omega)
 have K4':=K3'.trans K4
 have hs4:=K4'.size
 refine ZU (fun h5 e5 hs5 g5=>?_)
 refine Z0 rfl (stR g5 (Nat.le_refl 4) (by intro v hv; simp at hv; rcases hv with rfl | rfl | rfl | rfl <;> rfl) (fun h6 u6 g6=>?_))
 have hl6:lay (#[.int .i64 0,.int .i64 0,.string ByteArray.empty,.slice none 0 0]:Array Value) 0 (#[.int .i64 k,.int .i64 n,.string ByteArray.empty,.slice none 0 0]:Array Value).toList=ZT k n [] Sl.nil:=by
  exact K0 (cs:=vz) (vs:=(ZT k n [] Sl.nil).toList) rfl
 rw [hl6] at g6
 have hlt4:h.size < h4.size:=UD g4
 have K6:Kb b h h6:=⟨by have:=u6.size; have:=e5.size; omega,fun q hq hqb=>(u6.ne q (by omega)).trans ((e5.same q (by omega)).trans (K4'.same q hq hqb))⟩
 have R6:Rd h6 b s j2:=⟨(u6.ne b (by have:=R4.lt; omega)).trans (e5.blk R4.blk),R4.le,R4.small⟩
 have g6':h6[h.size]?=some (.cells (#[.int .i64 0,.int .i64 0,.string ByteArray.empty,.slice none 0 0]:Array Value) KB (0,0)):=(u6.ne h.size (by omega)).trans (e5.blk g4)
 refine qj (Xe (lit:=[93]) R6 (by decide) (fun j3 h7 hj3 K7 R7=>?_) (fun e h7 hj3 K7=>H2 e h7 (by unfold KAF; rw [hj]; dsimp only; rw [hn]; dsimp only; rw [hj3]) (K6.trans K7)))
 have g7:=K7.blk g6 (show ¬ h4.size=b by have:=R4.lt; omega)
 have g7':=K7.blk g6' (show ¬ h.size=b by omega)
 refine ldR g7 rfl ?_
 refine KOZ g7' rfl rfl (JF _ _ _ _) (fun h8 u8=>H1 n j3 h8 ?_ ?_ ?_)
 ·unfold KAF; rw [hj]; dsimp only; rw [hn]; dsimp only; rw [hj3]
 ·have:=(K6.trans K7)
  exact ⟨by rw [u8.size]; exact this.size,fun q hq hqb=>(u8.ne q (by omega)).trans (this.same q hq hqb)⟩
 ·exact ⟨(u8.ne b (by omega)).trans R7.blk,R7.le,R7.small⟩
theorem KN0 {β:Type} {h:Heap} {Q:β→Heap→Prop} {cs:Array Value} {f:Array Value→M β} (hc:cs.size=4) (h1:∀ v ∈ cs.toList,one v=true) (H:∀ h',Ext h h'→(f cs).wp h' Q) :
  ((mkB KB (#[.int .i64 0,.int .i64 0,.string ByteArray.empty,.slice none 0 0]:Array Value)>>=fun x=>M.need (cs.size=4)>>=fun _=>stG x cs>>=fun _=>ldG 4 x>>=fun r=>(M.pure r:M (Array Value)))>>=f).wp h Q:=by
 refine Ud (ZU (fun h1 e1 hs1 g1=>Ud (Z0 hc (Ud (stR g1 (by rw [hc]; exact Nat.le_refl 4) ‹_› (fun h2 u2 g2=>Ud ?_))))))
 rw [K0 (cs:=vz) (vs:=cs.toList) (by rw [Array.length_toList,hc]; rfl)] at g2
 exact ldR g2 hc (Jr (H _ (e1.upd u2 (Nat.le_refl _))))
theorem KQ3 {β:Type} {h:Heap} {Q:β→Heap→Prop} {n:Int} {f:Array Value→M β} (H:∀ h',Ext h h'→(f (ZT 1 n [] Sl.nil)).wp h' Q):(KE1 n>>=f).wp h Q:=KN0 (cs:=ZT 1 n [] Sl.nil) rfl (JF _ _ _ _) H
theorem KQ4 {β:Type} {h:Heap} {Q:β→Heap→Prop} {s:List UInt8} {f:Array Value→M β} (H:∀ h',Ext h h'→(f (ZT 2 0 s Sl.nil)).wp h' Q):(KE2 (bs s)>>=f).wp h Q:=KN0 (cs:=ZT 2 0 s Sl.nil) rfl (JF _ _ _ _) H
theorem KMj {β:Type} {h:Heap} {Q:β→Heap→Prop} {c:Bool} {f:Array Value→M β} (H:∀ h',Ext h h'→(f (ZT 3 (if c=true then 1 else 0) [] Sl.nil)).wp h' Q):(qY c>>=f).wp h Q:=by
 unfold qY
 refine Ud (ZU (fun h1 e1 hs1 g1=>Ud (ZU (fun h2 e2 hs2 g2=>Ud (Z0 rfl (Ud (stR (cs:=vz) (vs:=ZT 3 0 [] Sl.nil) g2 (Nat.le_refl 4) (JF _ _ _ _) (fun h3 u3 g3=>?_))))))))
 rw [K0 (cs:=vz) (vs:=(ZT 3 0 [] Sl.nil).toList) rfl] at g3
 have key:∀ (n:Int) (h4:Heap),Upd h1.size h2 h4→h4[h1.size]?=some (.cells (ZT 3 n [] Sl.nil) KB (0,0))→(∀ h',Ext h h'→(f (ZT 3 n [] Sl.nil)).wp h' Q)→(Yd ⟨h.size,0,none⟩ ⟨h1.size,0,none⟩>>=f).wp h4 Q:=by
  intro n h4 u4 g4 HH
  unfold Yd
  have g1':h4[h.size]?=some (.cells vz KB (0,0)):=(u4.ne _ (by omega)).trans (e2.blk g1)
  refine Ud (ldR g4 rfl (Ud (Z0 rfl (Ud (stR g1' (Nat.le_refl 4) (JF _ _ _ _) (fun h5 u5 g5=>Ud ?_))))))
  rw [K0 (cs:=vz) (vs:=(ZT 3 n [] Sl.nil).toList) rfl] at g5
  refine ldR g5 rfl (Jr (HH _ ?_))
  have a4:Ext h h4:=(e1.trans e2).upd u4 (by omega)
  exact a4.upd u5 (Nat.le_refl _)
 refine KNQ (fun hc=>?_) (fun hc=>?_)
 ·subst hc
  refine Ud (Wl (x:=.int .i64 0) (by rw [Kg,KU g3]; rfl) (by rw [Kg]; exact KZ g3) rfl ?_)
  rw [Kg,Nat.zero_add]
  exact key 1 _ (u3.trans (Upd.hset _ _ _ _)) (V8 g3) H
 ·subst hc
  exact key 0 _ u3 g3 H
def KQ5 (s:List UInt8) (d:Nat):Prop:=∀ (i:Nat) (h:Heap) (Q:Value ⊕ Array Value→Heap→Prop) (b:Nat),Rd h b s i→ErrV h→b≠5 →
 (∀ v j h' c,pval s d i=.ok (v,j)→Kb b h h'→Rd h' b s j→ZK (HS h h') h' v c→Q (.inr c) h') →
 (∀ e h',pval s d i=.error e→Kb b h h'→Q (.inl (KAE e)) h')→(J6 (some ⟨b,0,none⟩) ((9 - d:Nat):Int)).wp h Q
theorem KIS {s:List UInt8} {d:Nat} (hd:d≤8) (IH:KQ5 s d) {en:UInt8} (hen:en≠0) {two:Bool} {i:Nat} {h:Heap} {Q:Value ⊕ Sl→Heap→Prop} {b:Nat} (R:Rd h b s i) (hi:i < s.length) (he:ErrV h) (hb:b≠5)
  (H1:∀ l j h' r,NV (pval s d) en two s (s.length - i) [] (i+1)=.ok (l,j)→Kb b h h'→Rd h' b s j→VsRepS (HS h h') h' r l→Q (.inr r) h')
  (H2:∀ e h',NV (pval s d) en two s (s.length - i) [] (i+1)=.error e→Kb b h h'→Q (.inl (KAE e)) h') :
  (WT (some ⟨b,0,none⟩) ((8 - d:Nat):Int) (en.toNat:Int) (if two=true then 2 else 1)).wp h Q:=by
 unfold WT
 have hP:=KJL s d
 refine KFR R hi (fun h1 u1 R1=>?_)
 have K1:Kb b h h1:=Km.upd u1 rfl
 have hs1:=u1.size
 have hb1:=R1.lt
 refine M.loop_inv (fun (x:Sl) hh=>∃ (l:List Vl) (css:List (Array Value)) (f i':Nat),s.length < f+i'∧l.length≤i'∧Kb b h1 hh∧Rd hh b s i'∧VGw h1.size (fun k=>h1.size≤k∧k < hh.size∧¬ Sl.on x k) hh x css l∧NV (pval s d) en two s f l i'=NV (pval s d) en two s (s.length - i) [] (i+1))
  (fun x _=>s.length+1 - x.len) ?_ ⟨[],[],_,i+1,by omega,Nat.zero_le _,Km.refl _ _,R1,VGw.nil _ _ _,rfl⟩
 rintro x hh ⟨l,css,f,i',hf,hli,K,R',G,hm⟩ self hself
 have hsm:=R'.small
 have hle:=R'.le
 have hxl:x.len=l.length:=by rw [G.gw.len4 G.w4,G.len]
 obtain ⟨f,rfl⟩:∃ g,f=g+1:=⟨f - 1,by omega⟩
 rw [NV] at hm
 have hKs:=K.size
 unfold U5
 refine KE (Vh R' ?_)
 rw [show (((KN s i').toNat:Int) != (en.toNat:Int))=!decide (KN s i'=en) by rw [← u8_c (d:=en) (n:=(en.toNat:Int)) rfl]; rfl]
 refine KP (fun hne=>?_) (fun heq=>?_)
 ·have hne:KN s i'≠en:=by simpa using hne
  rw [if_neg hne] at hm
  have test:∀ (l2:List Vl) (css2:List (Array Value)) (i2:Nat) (h2:Heap) (x2:Sl),i' < i2→l.length < l2.length→l2.length≤i2→Kb b h1 h2→Rd h2 b s i2→VGw h1.size (fun k=>h1.size≤k∧k < h2.size∧¬ Sl.on x2 k) h2 x2 css2 l2 →
    (if KN s i2≠en∧KN s i2≠44 then .error i2 else NV (pval s d) en two s f l2 i2)=NV (pval s d) en two s (s.length - i) [] (i+1)→(JW self (some ⟨b,0,none⟩) (en.toNat:Int) x2).wp h2 Q:=by
   intro l2 css2 i2 h2 x2 hi2 hl2 hli2 K2 R2 G2 hm2
   unfold JW
   refine KE (Vh R2 ?_)
   rw [show (((KN s i2).toNat:Int) != (en.toNat:Int))=!decide (KN s i2=en) by rw [← u8_c (d:=en) (n:=(en.toNat:Int)) rfl]; rfl]
   refine U1 (c:=!decide (KN s i2=44)) (fun _ Q' hq=>KC ?_) ?_
   ·rw [show (((KN s i2).toNat:Int) != 44)=!decide (KN s i2=44) by rw [← u8_c (d:=44) (n:=44) rfl]; rfl]
    exact hq
   ·refine KP (fun hbad=>?_) (fun hok=>?_)
    ·have hbad:KN s i2≠en∧KN s i2≠44:=by simpa using hbad
     rw [if_pos hbad] at hm2
     exact Wv R2 (H2 _ _ hm2.symm (K1.trans K2))
    ·have hok:¬ (KN s i2≠en∧KN s i2≠44):=by
      intro hh2
      rw [decide_eq_false hh2.1,decide_eq_false hh2.2] at hok
      cases hok
     rw [if_neg hok] at hm2
     have hx2:x2.len=l2.length:=by rw [G2.gw.len4 G2.w4,G2.len]
     have:=R2.le
     exact hself _ _ ⟨l2,css2,f,i2,by omega,hli2,K2,R2,G2,hm2⟩ (by omega)
  have one_:∀ {l2:List Vl} {css2:List (Array Value)} {i2:Nat} {h2:Heap} {x2:Sl} {Qs:Value ⊕ Sl→Heap→Prop} {F:Sl→M (Value ⊕ Sl)},l2.length≤i2→Kb b h1 h2→Rd h2 b s i2→VGw h1.size (fun k=>h1.size≤k∧k < h2.size∧¬ Sl.on x2 k) h2 x2 css2 l2 →
    (∀ v j h3 x3 css3,pval s d i2=.ok (v,j)→Kb b h1 h3→Rd h3 b s j→VGw h1.size (fun k=>h1.size≤k∧k < h3.size∧¬ Sl.on x3 k) h3 x3 css3 (l2++[v])→(F x3).wp h3 Qs) →
    (∀ e h3,pval s d i2=.error e→Kb b h1 h3→Qs (.inl (KAE e)) h3) →
    (thr (KEZ Go.Proofs.Tryz.prog WA #[.pointer (some ⟨b,0,none⟩),.int .i64 (IntKind.wrap .i64 (((8 - d:Nat):Int)+1))] (fun r:Array Value=>.agg r)) fun Xx24 =>
     (NY 4 1 (#[.int .i64 0,.int .i64 0,.string ByteArray.empty,.slice none 0 0]:Array Value) [(0,.agg Xx24)]>>=fun y=>bdL KB 1 y>>=fun x=>apL KB 4 56 (#[.int .i64 0,.int .i64 0,.string ByteArray.empty,.slice none 0 0]:Array Value) x2 x>>=F)).wp h2 Qs:=by
   intro l2 css2 i2 h2 x2 Qs F hli2 K2 R2 G2 HF HE
   have hle2:=R2.le
   rw [w64 (by omega) (by omega),show (((8 - d:Nat):Int)+1)=((9 - d:Nat):Int) by omega]
   have hK2:=K2.size
   refine qj (KGT (GC _ _) (IH i2 h2 _ b R2 ((he.km K1 hb).km K2 hb) hb (fun v j h3 c hv K3 R3 V3=>?_) (fun e h3 hv K3=>HE e h3 hv (K2.trans K3))))
   have hK3:=K3.size
   have G3:VGw h1.size (fun k=>h1.size≤k∧k < h3.size∧¬ Sl.on x2 k) h3 x2 css2 l2 :=
    (G2.same (fun k hk=>K3.same k (G2.gw.lt hk).1 (fun e=>by have:=(G2.gw.lt hk).2; omega)) (fun k hk=>K3.same k hk.2.1 (fun e=>by have:=hk.1; omega))).mono (fun k hk=>⟨hk.1,by have:=hk.2.1; omega,hk.2.2⟩)
   refine KMi G3 (fun k hk=>hk.2) (V3.mono (fun k hk=>⟨by have:=hk.1; omega,hk.2,fun ho=>by have:=(G2.gw.lt ho).1; have:=hk.1; omega⟩)) (by omega) (by omega) (fun h4 x4 G4 hs4 same4 on4=>?_)
   refine HF v j h4 x4 _ hv ⟨by omega,fun k hk hkb=>(same4 k (by omega) (fun ho=>by have:=(G2.gw.lt ho).2; omega)).trans ((K2.trans K3).same k hk hkb)⟩ ⟨?_,R3.le,R3.small⟩ (G4.mono (fun k hk=>⟨hk.1,by have:=hk.2.1; omega,fun ho=>(on4 k ho).elim hk.2.2 (fun h=>by have:=hk.2.1; omega)⟩))
   rw [same4 b (by omega) (fun ho=>by have:=(G2.gw.lt ho).2; omega)]
   exact R3.blk
  have body:∀ (i1:Nat) (h2:Heap),i'≤i1→Kb b h1 h2→Rd h2 b s i1→VGw h1.size (fun k=>h1.size≤k∧k < h2.size∧¬ Sl.on x k) h2 x css l →
    (match Xf (pval s d) two s i1 with
     | .error e=>.error e
     | .ok (vs,i2)=>if KN s i2≠en∧KN s i2≠44 then .error i2 else NV (pval s d) en two s f (l++vs) i2)=NV (pval s d) en two s (s.length - i) [] (i+1) →
    (JX self (some ⟨b,0,none⟩) ((8 - d:Nat):Int) (en.toNat:Int) (if two=true then 2 else 1) x).wp h2 Q:=by
   intro i1 h2 hi1 K2 R2 G2 hm2
   unfold JX
   refine one_ (by omega) K2 R2 G2 (fun v j h3 x3 css3 hv K3 R3 G3=>?_) (fun e h3 hv K3=>?_)
   ·have hvj:=hP _ _ _ hv
    cases two with
    | false =>
     refine iteF rfl ?_
     have hpair:Xf (pval s d) false s i1=.ok ([v],j):=by unfold Xf; rw [hv]; rfl
     rw [hpair] at hm2
     exact test _ _ j h3 x3 (by omega) (by simp) (by rw [List.length_append,List.length_singleton]; omega) K3 R3 G3 hm2
    | true =>
     refine iteT rfl ?_
     refine qj (Xe (lit:=[58,32]) R3 (by decide) (fun j2 h4 hj2 K4 R4=>?_) (fun e h4 hj2 K4=>?_))
     ·have hj2':j2=j+2:=(WV hj2).1
      have hK3:=K3.size
      have hK4:=K4.size
      have G4:VGw h1.size (fun k=>h1.size≤k∧k < h4.size∧¬ Sl.on x3 k) h4 x3 css3 (l++[v]) :=
       (G3.same (fun k hk=>K4.same k (G3.gw.lt hk).1 (fun e=>by have:=(G3.gw.lt hk).2; omega)) (fun k hk=>K4.same k hk.2.1 (fun e=>by have:=hk.1; omega))).mono (fun k hk=>⟨hk.1,by have:=hk.2.1; omega,hk.2.2⟩)
      refine one_ (by rw [List.length_append,List.length_singleton]; omega) (K3.trans K4) R4 G4 (fun w j3 h5 x5 css5 hw K5 R5 G5=>?_) (fun e h5 hw K5=>?_)
      ·have hwj:=hP _ _ _ hw
       have hpair:Xf (pval s d) true s i1=.ok ([v,w],j3):=by unfold Xf; rw [hv]; dsimp only; rw [if_pos rfl,hj2]; dsimp only; rw [hw]
       rw [hpair] at hm2
       rw [List.append_assoc] at G5
       exact test _ _ j3 h5 x5 (by omega) (by simp) (by simp only [List.length_append,List.length_cons,List.length_nil]; omega) K5 R5 G5 hm2
      ·have hpair:Xf (pval s d) true s i1=.error e:=by unfold Xf; rw [hv]; dsimp only; rw [if_pos rfl,hj2]; dsimp only; rw [hw]
       rw [hpair] at hm2
       exact H2 _ _ hm2.symm (K1.trans K5)
     ·have hpair:Xf (pval s d) true s i1=.error e:=by unfold Xf; rw [hv]; dsimp only; rw [if_pos rfl,hj2]
      rw [hpair] at hm2
      exact H2 _ _ hm2.symm (K1.trans (K3.trans K4))
   ·have hpair:Xf (pval s d) two s i1=.error e:=by unfold Xf; rw [hv]
    rw [hpair] at hm2
    exact H2 _ _ hm2.symm (K1.trans K3)
  refine KP (fun hpos=>?_) (fun hz=>?_)
  ·have hl0:¬ l.length=0:=by have:=of_decide_eq_true hpos; omega
   unfold sepP at hm
   rw [if_neg hl0] at hm
   refine qj (Xe (lit:=[44,32]) R' (by decide) (fun j h2 hj K2 R2=>?_) (fun e h2 hj K2=>?_))
   ·rw [hj] at hm
    have hj':j=i'+2:=(WV hj).1
    have hK2:=K2.size
    exact body j h2 (by omega) (K.trans K2) R2 ((G.same (fun k hk=>K2.same k (G.gw.lt hk).1 (fun e=>by have:=(G.gw.lt hk).2; omega)) (fun k hk=>K2.same k hk.2.1 (fun e=>by have:=hk.1; omega))).mono (fun k hk=>⟨hk.1,by have:=hk.2.1; omega,hk.2.2⟩)) hm
   ·rw [hj] at hm
    exact H2 _ _ hm.symm (K1.trans (K.trans K2))
  ·have hl0:l.length=0:=by have:=of_decide_eq_false hz; omega
   unfold sepP at hm
   rw [if_pos hl0] at hm
   exact body i' hh (Nat.le_refl _) K R' G hm
 ·have heq:KN s i'=en:=by simpa using heq
  rw [if_pos heq] at hm
  have hil:i' < s.length:=J2 (by rw [heq]; exact hen)
  refine KFR R' hil (fun h2 u2 R2=>KC ?_)
  have hu2:=u2.size
  have G2:=G.same (fun k hk=>u2.ne k (fun e=>by have:=(G.gw.lt hk).2; omega)) (fun k hk=>u2.ne k (fun e=>by have:=hk.1; omega))
  refine H1 l (i'+1) h2 x hm.symm (K1.trans (K.trans (Km.upd u2 rfl))) R2 ?_
  refine (G2.rep_ (by omega)).same (fun _ _=>rfl) (fun k hk=>?_)
  rcases hk with hk | hk
  ·exact ⟨by have:=hk.1; omega,by have:=hk.2.1; omega⟩
  ·have:=G2.gw.lt hk
   exact ⟨by omega,by omega⟩
end Gx
namespace Gx
open Go Go.Proofs Go.Shelf Go.RowKit Go.Lib
set_option linter.unusedVariables false
set_option linter.unusedSimpArgs false
set_option maxRecDepth 100000
theorem Rd.upd {h h':Heap} {b g:Nat} {s:List UInt8} {i:Nat} (R:Rd h b s i) (u:Upd g h h') (hg:b≠g):Rd h' b s i:=⟨(u.ne b hg).trans R.blk,R.le,R.small⟩
theorem KGP (s:List UInt8):∀ d,d≤8→KQ5 s d
 | 0,_=>fun i h Q b R he hb H1 H2=>by
  unfold J6
  refine ZU (fun h1 e1 hs1 g1=>iteT (by rfl) (qj (Wv (R.ext e1) (H2 i h1 rfl (Km.ext e1)))))
 | d+1,hd=>fun i h Q b R he hb H1 H2=>by
  have IH:=KGP s d (by omega)
  unfold J6
  refine ZU (fun h1 e1 hs1 g1=>iteF (decide_eq_false (by omega)) ?_)
  have R1:=R.ext e1
  have hbl:=R.lt
  have he1:=he.ext e1
  have K1:Kb b h h1:=Km.ext e1
  have fin:∀ (v:Vl) (cs:Array Value) (j:Nat) (h2:Heap),pval s (d+1) i=.ok (v,j)→Kb b h1 h2→Rd h2 b s j→ZK (fun k=>h1.size≤k∧k < h2.size) h2 v cs →
    (M.need (cs.size=4)>>=fun _=>stG ⟨h.size,0,none⟩ cs>>=fun _=>ldG 4 ⟨h.size,0,none⟩>>=fun r=>(M.pure (.inr r):M (Value ⊕ Array Value))).wp h2 Q:=by
   intro v cs j h2 hv K2 R2 V2
   have g2:=K2.blk g1 (show ¬ h.size=b by omega)
   refine KOZ g2 rfl V2.size V2.to.one (fun h3 u3=>H1 v j h3 cs hv ?_ (R2.upd u3 (by omega)) ?_)
   ·have:=K1.trans K2
    exact ⟨by rw [u3.size]; exact this.size,fun q hq hqb=>(u3.ne q (by omega)).trans (this.same q hq hqb)⟩
   ·have hu:=u3.size
    exact (V2.same (fun k hk=>u3.ne k (by omega))).mono (fun k hk=>⟨by omega,by omega⟩)
  have scal:∀ {k n:Int} {t:List UInt8} {S:Nat→Prop} {h2:Heap},I64 k→I64 n→t.length≤1099511627776→ZK S h2 (.mk k n t []) (ZT k n t Sl.nil):=fun hk hn ht=>KHS _ _ hk hn (by omega)
  have hle:=R.le
  have hsm:=R.small
  rw [pval] at H1 H2 fin
  unfold J0
  refine KE (Vh R1 ?_)
  refine or_b (c:=digB (KN s i)) (fun _ Q' hq=>KE (KDq (KC hq))) ?_
  rw [u8_c (d:=45) (n:=45) rfl]
  refine KP (fun hc=>?_) (fun hc=>?_)
  ·have hc:KN s i=45∨digB (KN s i)=true:=by rwa [Bool.or_eq_true,decide_eq_true_iff] at hc
   rw [if_pos hc] at H1 H2 fin
   refine qj (KFS R1 he1 hb (fun n j h2 hn K2 R2=>?_) (fun e h2 hn K2=>H2 e h2 (by rw [hn]) (K1.trans K2)))
   refine KQ3 (fun h3 e3=>fin (.mk 1 n [] []) _ j h3 (by rw [hn]) (K2.trans (Km.ext e3)) (R2.ext e3) (scal ⟨by decide,by decide⟩ (KFT hn hle).1 (by decide)))
  have hc:¬ (KN s i=45∨digB (KN s i)=true):=fun hh=>by
   rw [← decide_eq_true_iff (p:=KN s i=45),← Bool.or_eq_true,hc] at hh
   cases hh
  rw [if_neg hc] at H1 H2 fin
  rw [u8_c (d:=39) (n:=39) rfl]
  refine KP (fun hc=>?_) (fun hc=>?_)
  ·rw [if_pos (of_decide_eq_true hc)] at H1 H2 fin
   refine qj (KNy R1 (fun t j h2 ht K2 R2=>?_) (fun e h2 ht K2=>H2 e h2 (by rw [ht]) (K1.trans K2)))
   refine KQ4 (fun h3 e3=>fin (.mk 2 0 t []) _ j h3 (by rw [ht]) (K2.trans (Km.ext e3)) (R2.ext e3) (scal ⟨by decide,by decide⟩ ⟨by decide,by decide⟩ (by have:=(KHQ ht).2.2; omega)))
  rw [if_neg (of_decide_eq_false hc)] at H1 H2 fin
  rw [u8_c (d:=116) (n:=116) rfl]
  refine KP (fun hc=>?_) (fun hc=>?_)
  ·rw [if_pos (of_decide_eq_true hc)] at H1 H2 fin
   refine qj (Xe (lit:=[116,114,117,101]) R1 (by decide) (fun j h2 hj K2 R2=>?_) (fun e h2 hj K2=>H2 e h2 (by rw [hj]) (K1.trans K2)))
   refine KMj (fun h3 e3=>fin (.mk 3 1 [] []) _ j h3 (by rw [hj]) (K2.trans (Km.ext e3)) (R2.ext e3) (scal ⟨by decide,by decide⟩ ⟨by decide,by decide⟩ (by decide)))
  rw [if_neg (of_decide_eq_false hc)] at H1 H2 fin
  rw [u8_c (d:=102) (n:=102) rfl]
  refine KP (fun hc=>?_) (fun hc=>?_)
  ·rw [if_pos (of_decide_eq_true hc)] at H1 H2 fin
   refine qj (Xe (lit:=[102,97,108,115,101]) R1 (by decide) (fun j h2 hj K2 R2=>?_) (fun e h2 hj K2=>H2 e h2 (by rw [hj]) (K1.trans K2)))
   refine KMj (fun h3 e3=>fin (.mk 3 0 [] []) _ j h3 (by rw [hj]) (K2.trans (Km.ext e3)) (R2.ext e3) (scal ⟨by decide,by decide⟩ ⟨by decide,by decide⟩ (by decide)))
  rw [if_neg (of_decide_eq_false hc)] at H1 H2 fin
  rw [u8_c (d:=118) (n:=118) rfl]
  refine KP (fun hc=>?_) (fun hc=>?_)
  ·have hcc:=of_decide_eq_true hc
   rw [if_pos hcc] at H1 H2 fin
   refine qj (KIR (k:=6) R1 (J2 (by rw [hcc]; decide)) he1 hb (fun n j h2 hn K2 R2=>fin _ _ j h2 hn K2 R2 ?_) (fun e h2 hn K2=>H2 e h2 hn (K1.trans K2)))
   obtain ⟨n',hv,hn',_⟩:=KEU hn
   cases hv
   exact scal ⟨by decide,by decide⟩ hn' (by decide)
  rw [if_neg (of_decide_eq_false hc)] at H1 H2 fin
  rw [u8_c (d:=101) (n:=101) rfl]
  refine KP (fun hc=>?_) (fun hc=>?_)
  ·have hcc:=of_decide_eq_true hc
   rw [if_pos hcc] at H1 H2 fin
   refine qj (KIR (k:=7) R1 (J2 (by rw [hcc]; decide)) he1 hb (fun n j h2 hn K2 R2=>fin _ _ j h2 hn K2 R2 ?_) (fun e h2 hn K2=>H2 e h2 hn (K1.trans K2)))
   obtain ⟨n',hv,hn',_⟩:=KEU hn
   cases hv
   exact scal ⟨by decide,by decide⟩ hn' (by decide)
  rw [if_neg (of_decide_eq_false hc)] at H1 H2 fin
  rw [u8_c (d:=91) (n:=91) rfl,show ((9 - (d+1):Nat):Int)=((8 - d:Nat):Int) by omega]
  refine KP (fun hc=>?_) (fun hc=>?_)
  ·have hcc:=of_decide_eq_true hc
   rw [if_pos hcc] at H1 H2 fin
   refine qj (KGT (NM _ _ _ _) (KIS (two:=false) (en:=93) (by omega) IH (by decide) R1 (J2 (by rw [hcc]; decide)) he1 hb (fun l j h2 r hl K2 R2 V2=>?_) (fun e h2 hl K2=>H2 e h2 (by rw [hl]) (K1.trans K2))))
   exact fin (.mk 4 0 [] l) _ j h2 (by rw [hl]) K2 R2 (KEV ⟨by decide,by decide⟩ ⟨by decide,by decide⟩ V2)
  rw [if_neg (of_decide_eq_false hc)] at H1 H2 fin
  rw [u8_c (d:=123) (n:=123) rfl]
  refine KP (fun hc=>?_) (fun hc=>?_)
  ·have hcc:=of_decide_eq_true hc
   rw [if_pos hcc] at H1 H2 fin
   refine qj (KGT (NM _ _ _ _) (KIS (two:=true) (en:=125) (by omega) IH (by decide) R1 (J2 (by rw [hcc]; decide)) he1 hb (fun l j h2 r hl K2 R2 V2=>?_) (fun e h2 hl K2=>H2 e h2 (by rw [hl]) (K1.trans K2))))
   exact fin (.mk 5 0 [] l) _ j h2 (by rw [hl]) K2 R2 (KEV ⟨by decide,by decide⟩ ⟨by decide,by decide⟩ V2)
  rw [if_neg (of_decide_eq_false hc)] at H1 H2 fin
  exact qj (Wv R1 (H2 i h1 rfl K1))
def KF4 (s:List UInt8):Except Nat Vl:=match pval s 8 0 with | .error e=>.error e | .ok (v,j)=>if j < s.length then .error j else .ok v
theorem KGQ {h:Heap} {Q:Array Value × Int × Bool→Heap→Prop} {b2 b3 b4 e:Nat} {z2:Array Value} {v3 v4:Value} (g2:h[b2]?=some (.cells z2 KB (0,0))) (hz:z2.size=4) (g3:h[b3]?=some (.cells #[v3] VY (0,0))) (g4:h[b4]?=some (.cells #[v4] KEs (0,0))) (h23:b2≠b3) (h24:b2≠b4) (h34:b3≠b4)
  (H:∀ h',h.size≤h'.size→(∀ i,i < h.size→i≠b2→i≠b3→i≠b4→h'[i]?=h[i]?)→Q (vz,(e:Int),false) h'):(qg ⟨b2,0,none⟩ ⟨b3,0,none⟩ ⟨b4,0,none⟩ (KAE e)>>=fun _=>zJ ⟨b2,0,none⟩ ⟨b3,0,none⟩ ⟨b4,0,none⟩).wp h Q:=by
 have l2:=UD g2
 have l3:=UD g3
 have l4:=UD g4
 unfold qg
 refine ⟨(e:Int),rfl,?_⟩
 refine KE (ZU (fun h1 e1 hs1 g1=>Z0 rfl (stR g1 (Nat.le_refl 1) (by intro v hv; simp at hv; subst hv; rfl) (fun h2' u2 g2'=>?_))))
 rw [K0 (cs:=#[.int .i64 0]) (vs:=(#[.int .i64 (e:Int)]:Array Value).toList) rfl] at g2'
 unfold KJ1
 refine Zm (n:=(e:Int)) (by rw [Kg,KU g2']; rfl) (Z0 rfl ?_)
 have k2:h2'[b2]?=some (.cells z2 KB (0,0)):=(u2.ne b2 (by omega)).trans (e1.blk g2)
 refine stR k2 (by rw [hz]; exact Nat.le_refl 4) (JF 0 0 [] Sl.nil) (fun h3 u3 g3'=>?_)
 rw [K0 (cs:=z2) (vs:=(vz:Array Value).toList) (by rw [hz]; rfl)] at g3'
 have kq:h3[h.size]?=some (.cells #[.int .i64 (e:Int)] JM (0,0)):=(u3.ne h.size (by omega)).trans g2'
 refine KEn (by rw [Kg,KU kq]; rfl) ?_
 have k3:h3[b3]?=some (.cells #[v3] VY (0,0)):=(u3.ne b3 (by omega)).trans ((u2.ne b3 (by omega)).trans (e1.blk g3))
 refine Wl (x:=v3) (by rw [KU k3]; rfl) (KZ k3) rfl ?_
 have g5:=V8 (o:=0) (v:=.int .i64 (e:Int)) k3
 have u5:=Upd.hset h3 b3 0 (.int .i64 (e:Int))
 generalize hset h3 ⟨b3,0,none⟩ (.int .i64 (e:Int))=h5 at g5 u5 ⊢
 have k4:h5[b4]?=some (.cells #[v4] KEs (0,0)):=(u5.ne b4 (by omega)).trans ((u3.ne b4 (by omega)).trans ((u2.ne b4 (by omega)).trans (e1.blk g4)))
 refine Wl (x:=v4) (by rw [KU k4]; rfl) (KZ k4) rfl ?_
 have g6:=V8 (o:=0) (v:=.bool false) k4
 have u6:=Upd.hset h5 b4 0 (.bool false)
 generalize hset h5 ⟨b4,0,none⟩ (.bool false)=h6 at g6 u6 ⊢
 refine KC ?_
 unfold zJ
 have m2:h6[b2]?=some (.cells vz KB (0,0)):=(u6.ne b2 (by omega)).trans ((u5.ne b2 (by omega)).trans g3')
 have m3:h6[b3]?=some (.cells (#[v3].setIfInBounds 0 (.int .i64 (e:Int))) VY (0,0)):=(u6.ne b3 (by omega)).trans g5
 refine ldR m2 rfl (Zm (n:=(e:Int)) (by rw [KU m3]; rfl) (KQT (n:=false) (by rw [KU g6]; rfl) (KC (H _ ?_ ?_))))
 ·have a1:=u6.size; have a2:=u5.size; have a3:=u3.size; have a4:=u2.size; omega
 ·intro i hi n2 n3 n4
  rw [u6.ne i n4,u5.ne i n3,u3.ne i n2,u2.ne i (by omega)]
  exact e1.same i hi
theorem KMk {s:List UInt8} {h:Heap} {Q:Array Value × Int × Bool→Heap→Prop} (hs:s.length≤1099511627776) (he:ErrV h)
  (H1:∀ v h' c,KF4 s=.ok v→Ext h h'→ZK (h.size≤·) h' v c→Q (c,0,true) h') (H2:∀ e h',KF4 s=.error e→Ext h h'→Q (vz,(e:Int),false) h'):(KPd (bs s)).wp h Q:=by
 unfold KPd
 refine ZU (fun h1 e1 s1 g1=>ZU (fun h2 e2 s2 g2=>ZU (fun h3 e3 s3 g3=>ZU (fun h4 e4 s4 g4=>?_))))
 obtain ⟨t5,p5,hc5⟩:=id he
 have h5:5 < h.size:=KAO hc5
 have R4:Rd h4 h3.size s 0:=⟨g4,Nat.zero_le _,hs⟩
 have E4:Ext h h4:=((e1.trans e2).trans e3).trans e4
 have b1:h4[h.size]?=some (.cells vz KB (0,0)):=((e2.trans e3).trans e4).blk g1
 have b2:h4[h1.size]?=some (.cells #[.int .i64 0] VY (0,0)):=(e3.trans e4).blk g2
 have b3:h4[h2.size]?=some (.cells #[.bool false] KEs (0,0)):=e4.blk g3
 refine KE (KGP s 8 (Nat.le_refl _) 0 h4 _ h3.size R4 (he.ext E4) (by omega) (fun v j h6 c hv K6 R6 V6=>?_) (fun e h6 hv K6=>?_))
 ·have c1:=K6.blk b1 (show ¬ h.size=h3.size by omega)
  have c2:=K6.blk b2 (show ¬ h1.size=h3.size by omega)
  have c3:=K6.blk b3 (show ¬ h2.size=h3.size by omega)
  have hs6:=K6.size
  refine Z0 V6.size (stR c1 (by rw [V6.size]; exact Nat.le_refl 4) V6.to.one (fun h7 u7 g7=>?_))
  rw [K0 (cs:=vz) (vs:=c.toList) (by rw [Array.length_toList,V6.size]; rfl)] at g7
  have hs7:=u7.size
  have R7:=R6.upd u7 (show h3.size≠h.size by omega)
  refine KEL R7 ?_
  rw [ZO]
  refine KP (fun hlt=>?_) (fun hge=>?_)
  ·have hlt:j < s.length:=by have:=of_decide_eq_true hlt; omega
   refine KE (Wv R7 ?_)
   refine KGQ g7 V6.size ((u7.ne _ (by omega)).trans c2) ((u7.ne _ (by omega)).trans c3) (by omega) (by omega) (by omega) (fun h8 s8 same8=>H2 j h8 ?_ ⟨by omega,fun i hi=>?_⟩)
   ·unfold KF4; rw [hv]; dsimp only; rw [if_pos hlt]
   ·rw [same8 i (by omega) (by omega) (by omega) (by omega),u7.ne i (by omega),K6.same i (by omega) (by omega)]
    exact E4.same i hi
  ·have hge:¬ j < s.length:=by have:=of_decide_eq_false hge; omega
   unfold KHN
   refine ldR g7 V6.size (Z0 V6.size (stR g7 (by rw [V6.size]; exact Nat.le_refl 4) V6.to.one (fun h8 u8 g8=>?_)))
   rw [K0 (cs:=c) (vs:=c.toList) (by rw [Array.length_toList])] at g8
   have d2:h8[h1.size]?=some (.cells #[.int .i64 0] VY (0,0)):=(u8.ne _ (by omega)).trans ((u7.ne _ (by omega)).trans c2)
   refine Wl (x:=.int .i64 0) (by rw [KU d2]; rfl) (KZ d2) rfl ?_
   have g9:=V8 (o:=0) (v:=.int .i64 0) d2
   have u9:=Upd.hset h8 h1.size 0 (.int .i64 0)
   generalize hset h8 ⟨h1.size,0,none⟩ (.int .i64 0)=h9 at g9 u9 ⊢
   have d3:h9[h2.size]?=some (.cells #[.bool false] KEs (0,0)):=(u9.ne _ (by omega)).trans ((u8.ne _ (by omega)).trans ((u7.ne _ (by omega)).trans c3))
   refine Wl (x:=.bool false) (by rw [KU d3]; rfl) (KZ d3) rfl ?_
   have g10:=V8 (o:=0) (v:=.bool true) d3
   have u10:=Upd.hset h9 h2.size 0 (.bool true)
   generalize hset h9 ⟨h2.size,0,none⟩ (.bool true)=h10 at g10 u10 ⊢
   unfold zJ
   have m1:h10[h.size]?=some (.cells c KB (0,0)):=(u10.ne _ (by omega)).trans ((u9.ne _ (by omega)).trans g8)
   have m2:=(u10.ne h1.size (by omega)).trans g9
   refine ldR m1 V6.size (Zm (n:=0) (by rw [KU m2]; rfl) (KQT (n:=true) (by rw [KU g10]; rfl) (KC (H1 v _ c ?_ ⟨?_,fun i hi=>?_⟩ ?_))))
   ·unfold KF4; rw [hv]; dsimp only; rw [if_neg hge]
   ·have a1:=u10.size; have a2:=u9.size; have a3:=u8.size; omega
   ·rw [u10.ne i (by omega),u9.ne i (by omega),u8.ne i (by omega),u7.ne i (by omega),K6.same i (by omega) (by omega)]
    exact E4.same i hi
   ·refine (V6.same (fun k hk=>?_)).mono (fun k hk=>by have:=hk.1; omega)
    have:=hk.1
    rw [u10.ne k (by omega),u9.ne k (by omega),u8.ne k (by omega),u7.ne k (by omega)]
 ·have c1:=K6.blk b1 (show ¬ h.size=h3.size by omega)
  have c2:=K6.blk b2 (show ¬ h1.size=h3.size by omega)
  have c3:=K6.blk b3 (show ¬ h2.size=h3.size by omega)
  have hs6:=K6.size
  refine KGQ c1 rfl c2 c3 (by omega) (by omega) (by omega) (fun h8 s8 same8=>H2 e h8 ?_ ⟨by omega,fun i hi=>?_⟩)
  ·unfold KF4; rw [hv]
  ·rw [same8 i (by omega) (by omega) (by omega) (by omega),K6.same i (by omega) (by omega)]
   exact E4.same i hi
def VL (s:List UInt8):Vl × Nat × Int:=match KF4 s with | .error e=>(vl0,e,22) | .ok v=>if mayV 8 v=true then (v,0,0) else (vl0,0,20)
theorem KJM {s:List UInt8} {h:Heap} {Q:Array Value × Int × Int→Heap→Prop} (hs:s.length≤1099511627776) (he:ErrV h)
  (H:∀ h' c,Ext h h'→ZK (h.size≤·) h' (VL s).1 c→Q (c,((VL s).2.1:Int),(VL s).2.2) h'):(NI (bs s)).wp h Q:=by
 unfold NI
 refine ZU (fun h1 e1 s1 g1=>?_)
 refine KE (WX (KQ2 _) (KMk hs (he.ext e1) (fun v h2 c hv e2 V2=>?_) (fun e h2 hv e2=>?_)))
 ·refine ZU (fun h3 e3 s3 g3=>Z0 V2.size (stR g3 (by rw [V2.size]; exact Nat.le_refl 4) V2.to.one (fun h4 u4 g4=>?_)))
  rw [K0 (cs:=vz) (vs:=c.toList) (by rw [Array.length_toList,V2.size]; rfl)] at g4
  have E4:Ext h h4:=((e1.trans e2).trans e3).upd u4 (by have:=e1.size; have:=e2.size; omega)
  have V4:ZK (fun k=>h1.size≤k∧k < h2.size) h4 v c:=((V2.lt2).same (fun k hk=>(u4.ne k (by omega)).trans (e3.same k hk.2)))
  refine iteF rfl (ldR g4 V2.size (KE (KB0 V4.to (fun h5 e5=>?_))))
  have g5:h5[h.size]?=some (.cells vz KB (0,0)):=e5.blk ((u4.ne _ (by have:=e2.size; omega)).trans ((e2.trans e3).blk g1))
  have gc5:=e5.blk g4
  unfold Nz
  by_cases hm:mayV 8 v=true
  ·rw [if_pos hm]
   have hP:VL s=(v,0,0):=by unfold VL; rw [hv]; dsimp only; rw [if_pos hm]
   rw [hP] at H
   refine iteF rfl (ldR gc5 V2.size (Z0 V2.size (stR g5 (by rw [V2.size]; exact Nat.le_refl 4) V2.to.one (fun h6 u6 g6=>?_))))
   rw [K0 (cs:=vz) (vs:=c.toList) (by rw [Array.length_toList,V2.size]; rfl)] at g6
   refine ldR g6 V2.size (KC (H h6 c ((E4.trans e5).upd u6 (Nat.le_refl _)) ?_))
   have hs2:=e2.size
   have hs3:=e3.size
   have hu4:=u4.size
   exact (V4.same (fun k hk=>(u6.ne k (by omega)).trans (e5.same k (by omega)))).mono (fun k hk=>by have:=hk.1; omega)
  ·rw [if_neg hm]
   have hP:VL s=(vl0,0,20):=by unfold VL; rw [hv]; dsimp only; rw [if_neg hm]
   rw [hP] at H
   refine iteT rfl (Z0 rfl (stR g5 (Nat.le_refl 4) (JF 0 0 [] Sl.nil) (fun h6 u6 g6=>?_)))
   rw [K0 (cs:=vz) (vs:=(vz:Array Value).toList) rfl] at g6
   exact ldR g6 rfl (KC (H h6 _ ((E4.trans e5).upd u6 (Nat.le_refl _)) (KAB _ _)))
 ·have hP:VL s=(vl0,e,22):=by unfold VL; rw [hv]
  rw [hP] at H
  refine ZU (fun h3 e3 s3 g3=>Z0 rfl (stR g3 (Nat.le_refl 4) (JF 0 0 [] Sl.nil) (fun h4 u4 g4=>?_)))
  have E4:Ext h h4:=((e1.trans e2).trans e3).upd u4 (by have:=e1.size; have:=e2.size; omega)
  have g5:h4[h.size]?=some (.cells vz KB (0,0)):=(u4.ne _ (by have:=e2.size; omega)).trans ((e2.trans e3).blk g1)
  refine iteT rfl (Z0 rfl (stR g5 (Nat.le_refl 4) (JF 0 0 [] Sl.nil) (fun h6 u6 g6=>?_)))
  rw [K0 (cs:=vz) (vs:=(vz:Array Value).toList) rfl] at g6
  exact ldR g6 rfl (KC (H h6 _ (E4.upd u6 (Nat.le_refl _)) (KAB _ _)))
end Gx
namespace Gx
open Go Go.Proofs Go.Shelf Go.RowKit Go.Lib
set_option linter.unusedVariables false
set_option linter.unusedSimpArgs false
set_option maxRecDepth 100000
def dcv (acc:Nat) (l:List UInt8):Nat:=l.foldl (fun a c=>a * 10+(c.toNat - 48)) acc
theorem KJ8 (acc:Nat) (c:UInt8) (r:List UInt8):dcv acc (c::r)=dcv (acc * 10+(c.toNat - 48)) r:=List.foldl_cons ..
theorem KN1 (l:List UInt8) (acc:Nat) (c:UInt8):dcv acc (l++[c])=dcv acc l * 10+(c.toNat - 48):=by
 unfold dcv
 rw [List.foldl_append,List.foldl_cons,List.foldl_nil]
theorem KMl:∀ (l:List UInt8) (acc:Nat),acc≤dcv acc l
 | [],acc=>Nat.le_refl _
 | c::l,acc=>by rw [KJ8]; have:=KMl l (acc * 10+(c.toNat - 48)); omega
theorem KGR (M:Nat):∀ (l:List UInt8) (acc u:Nat),parseUintM M acc l=.ok u→u=dcv acc l∧(acc≤M→u≤M)
 | [],acc,u,h=>by rw [parseUintM] at h; cases h; exact ⟨rfl,id⟩
 | c::r,acc,u,h=>by
  rw [parseUintM] at h
  split at h
  ·split at h
   ·cases h
   ·split at h
    ·cases h
    ·have:=KGR M r _ _ h
     exact ⟨this.1,fun _=>this.2 (by omega)⟩
  ·cases h
theorem KIT (M:Nat) (hM:M < 18446744073709551616):∀ (l:List UInt8) (acc:Nat),l.all digB=true→dcv acc l≤M→parseUintM M acc l=.ok (dcv acc l)
 | [],acc,_,_=>by rw [parseUintM]; rfl
 | c::r,acc,h,hv=>by
  rw [List.all_cons,Bool.and_eq_true] at h
  have hc:=h.1
  unfold digB at hc
  rw [Bool.and_eq_true,decide_eq_true_iff,decide_eq_true_iff] at hc
  rw [KJ8] at hv
  have hge:=KMl r (acc * 10+(c.toNat - 48))
  rw [parseUintM,if_pos hc,if_neg (by omega),if_neg (by omega),KIT M hM r _ h.2 hv]
  rfl
end Gx
namespace Gx
open Go Go.Proofs Go.Shelf Go.RowKit Go.Lib
set_option linter.unusedVariables false
set_option linter.unusedSimpArgs false
set_option maxRecDepth 100000
def negB (t:List UInt8):Bool:=decide (t.head?=some 45)
def topN (t:List UInt8):Nat:=if negB t=true then 9223372036854775808 else 9223372036854775807
def sgnV (t:List UInt8):Int:=if negB t=true then -(dcv 0 (numD t):Int) else (dcv 0 (numD t):Int)
theorem KIU {M:Nat} (hM:M < 18446744073709551616) {l:List UInt8} (h:l.all digB=true):parseUintM M 0 l=if dcv 0 l≤M then .ok (dcv 0 l) else .range:=by
 split
 ·rename_i hv; exact KIT M hM l 0 h hv
 ·rename_i hv
  have h1:=KDp M l 0 h
  cases hp:parseUintM M 0 l with
  | ok u =>
   have:=KGR M l 0 u hp
   exact absurd (this.1 ▸ this.2 (Nat.zero_le _)) hv
  | range=>rfl
  | _=>rw [hp] at h1; cases h1
theorem KMm {t:List UInt8} (h1:numD t≠[]) (h2:(numD t).all digB=true):Lib.parseIntB 64 t=if dcv 0 (numD t)≤topN t then .ok (sgnV t) else .range:=by
 have e63:(2:Nat) ^ (64 - 1)=9223372036854775808:=by decide
 have e64:(2:Nat) ^ 64 - 1=18446744073709551615:=by decide
 cases t with
 | nil=>exact absurd rfl h1
 | cons c r =>
  by_cases h45:c=45
  ·subst h45
   have hD:numD (45::r)=r:=rfl
   have hN:negB (45::r)=true:=rfl
   unfold topN sgnV
   rw [hD] at h1 h2 ⊢
   rw [if_pos hN,if_pos hN]
   unfold parseIntB
   dsimp only
   rw [if_pos (by right; rfl)]
   unfold parseUintB
   rw [if_neg h1,e64,KIU (by decide) h2,e63]
   have h45:(45:UInt8).toNat=45:=rfl
   by_cases hb:dcv 0 r≤18446744073709551615
   ·rw [if_pos hb]
    dsimp only
    rw [if_neg (fun hh=>hh.1 h45)]
    by_cases hv:dcv 0 r≤9223372036854775808
    ·rw [if_pos hv,if_neg (fun hh=>by have:=hh.2; omega),if_pos h45]
    ·rw [if_neg hv,if_pos ⟨h45,by omega⟩]
   ·rw [if_neg hb,if_neg (by omega)]
  ·have hD:numD (c::r)=c::r:=by unfold numD; rw [List.head?_cons,if_neg (by simpa using h45)]
   have hN:negB (c::r)=false:=by unfold negB; rw [List.head?_cons]; exact decide_eq_false (by simpa using h45)
   unfold topN sgnV
   rw [hD] at h1 h2 ⊢
   rw [hN,if_neg Bool.false_ne_true,if_neg Bool.false_ne_true]
   have hc:digB c=true:=by rw [List.all_cons,Bool.and_eq_true] at h2; exact h2.1
   unfold digB at hc
   rw [Bool.and_eq_true,decide_eq_true_iff,decide_eq_true_iff] at hc
   unfold parseIntB
   dsimp only
   rw [if_neg (by omega)]
   unfold parseUintB
   rw [if_neg h1,e64,KIU (by decide) h2,e63]
   by_cases hb:dcv 0 (c::r)≤18446744073709551615
   ·rw [if_pos hb]
    dsimp only
    by_cases hv:dcv 0 (c::r)≤9223372036854775807
    ·rw [if_pos hv,if_neg (fun hh=>by have:=hh.2; omega),if_neg (fun hh=>by have:=hh.1; omega),if_neg (by omega)]
    ·rw [if_neg hv,if_pos ⟨by omega,by omega⟩]
   ·rw [if_neg hb,if_neg (by omega)]
theorem KJN (t:List UInt8):numP t=if numD t=[] then (0,10) else if (numD t).all digB=false then (0,10) else if (numD t).head?=some 48∧t≠[48] then (0,10)
  else if dcv 0 (numD t)≤topN t then (sgnV t,0) else (0,7):=by
 unfold numP
 split
 ·rfl
 rename_i h1
 split
 ·rfl
 rename_i h2
 split
 ·rfl
 rw [KMm h1 (by cases hh:(numD t).all digB with | true=>rfl | false=>exact absurd hh h2)]
 by_cases hv:dcv 0 (numD t)≤topN t
 ·rw [if_pos hv,if_pos hv]
 ·rw [if_neg hv,if_neg hv]
theorem KMn {c:UInt8} (h:digB c=true):48≤c.toNat∧c.toNat≤57:=by
 unfold digB at h
 rwa [Bool.and_eq_true,decide_eq_true_iff,decide_eq_true_iff] at h
theorem KN2 {l:List UInt8} {k:Nat} (hk:k < l.length):dcv 0 (l.take (k+1))=dcv 0 (l.take k) * 10+((l[k]).toNat - 48):=by
 rw [List.take_succ_eq_append_getElem hk,KN1]
theorem KPg (l r:List UInt8) (acc:Nat):dcv acc (l++r)=dcv (dcv acc l) r:=by unfold dcv; rw [List.foldl_append]
theorem KN3 {h:Heap} {Q:Int→Heap→Prop} {neg:Bool} {u:Nat} (hu:u≤9223372036854775808) (hn:neg=false→u≤9223372036854775807) (H:Q (if neg=true then -(u:Int) else (u:Int)) h):(Uu neg (u:Int)).wp h Q:=by
 unfold Uu
 cases neg with
 | true =>
  refine iteT rfl (KC ?_)
  rw [show IntKind.wrap .i64 (IntKind.wrap .u64 (0 - (u:Int)))=-(u:Int) by rw [IntKind.wrap_i64,IntKind.wrap_u64]; omega]
  exact H
 | false =>
  have:=hn rfl
  refine iteF rfl (KC ?_)
  rw [w64 (by omega) (by omega)]
  exact H
theorem KDr {t:List UInt8} {h:Heap} {Q:Int × Int→Heap→Prop} (ht:t.length≤1099511627776) (H:Q (numP t) h):(Jl (bs t)).wp h Q:=by
 unfold Jl
 rw [ZO]
 have hj1:∀ (d:List UInt8),d=numD t→(UI (negB t) (bs d)).wp h Q:=by
  intro d hd
  have hdl:d.length≤t.length:=by rw [hd]; unfold numD; split <;> simp
  unfold UI
  rw [show (ByteArray.empty:ByteArray)=bs [] from rfl,zy]
  refine or_b (c:=decide (d.head?=some 48∧t≠[48])) (fun hne Q' hq=>?_) ?_
  ·have hne:d≠[]:=of_decide_eq_false hne
   have hl:0 < d.length:=List.length_pos_iff.2 hne
   refine Nn (i:=0) rfl hl ?_
   have h0:d.head?=some d[0]:=by rw [List.head?_eq_getElem?,List.getElem?_eq_getElem hl]
   refine U1 (c:=decide (t≠[48])) (fun h48 Q2 hq2=>?_) (KC ?_)
   ·rw [KMb,decide_eq_true_iff] at h48
    rw [ZO]
    refine or_b (c:=negB t) (fun _ Q3 hq3=>KC hq3) (KC ?_)
    have e:(decide ((d.length:Int) > 1) || negB t)=decide (t≠[48]):=by
     rw [Bool.eq_iff_iff,Bool.or_eq_true,decide_eq_true_iff,decide_eq_true_iff]
     unfold negB
     rw [decide_eq_true_iff]
     constructor
     ·rintro (h1 | h1) e
      ·subst e
       rw [hd] at h1
       exact absurd h1 (by decide)
      ·subst e; cases h1
     ·intro h1
      by_cases hn:t.head?=some 45
      ·exact .inr hn
      ·refine .inl ?_
       have:d=t:=by rw [hd]; unfold numD; rw [if_neg hn]
       have h3:¬ d.length=1:=by
        intro e1
        refine h1 ?_
        have hh:=h0.trans h48
        rw [← this]
        obtain ⟨c,hc⟩:=List.length_eq_one_iff.1 e1
        rw [hc] at hh ⊢
        exact congrArg (fun x=>[x]) (Option.some.inj hh)
       omega
    rw [e]
    exact hq2
   ·rw [KMb,← h0,← Bool.decide_and]
    exact hq
  ·rw [show (decide (d=[]) || decide (d.head?=some 48∧t≠[48]))=decide (d=[]∨(d.head?=some 48∧t≠[48])) by rw [Bool.decide_or]]
   rw [KJN,← hd] at H
   refine KP (fun hb=>KC ?_) (fun hb=>?_)
   ·have hb:=of_decide_eq_true hb
    by_cases h1:d=[]
    ·rw [if_pos h1] at H; exact H
    ·rw [if_neg h1] at H
     split at H
     ·exact H
     ·rw [if_pos (hb.resolve_left h1)] at H; exact H
   ·have hb:=of_decide_eq_false hb
    rw [if_neg (fun e=>hb (.inl e))] at H
    have hz:¬ (d.head?=some 48∧t≠[48]):=fun e=>hb (.inr e)
    rw [if_neg hz] at H
    refine M.loop_inv (fun (x:Int) hh=>∃ k:Nat,x=(k:Int)∧k≤d.length∧hh=h∧(d.take k).all digB=true) (fun x _=>((d.length:Int) - x).toNat) ?_ ⟨0,rfl,Nat.zero_le _,rfl,rfl⟩
    rintro x hh ⟨k,rfl,hk,rfl,hall⟩ self hself
    unfold Wh
    rw [ZO]
    refine KP (fun hc=>?_) (fun hc=>?_)
    ·have hkl:k < d.length:=by have:=of_decide_eq_true hc; omega
     refine Nn rfl hkl ?_
     refine or_b (c:=decide (((d[k]).toNat:Int) > 57)) (fun _ Q' hq=>Nn rfl hkl (KC hq)) ?_
     rw [show (decide (((d[k]).toNat:Int) < 48) || decide (((d[k]).toNat:Int) > 57))=!digB d[k] by
      unfold digB
      rw [Bool.not_and,← decide_not,← decide_not]
      congr 1
      ·exact decide_eq_decide.2 (by omega)
      ·exact decide_eq_decide.2 (by omega)]
     refine KP (fun hn=>KC ?_) (fun hn=>?_)
     ·rw [if_pos] at H
      ·exact H
      ·cases ha:d.all digB with
       | false=>rfl
       | true =>
        rw [List.all_eq_true] at ha
        rw [ha _ (List.getElem_mem hkl)] at hn
        cases hn
     ·have hn:digB d[k]=true:=by simpa using hn
      rw [w64 (by omega) (by omega)]
      refine hself _ _ ⟨k+1,by omega,hkl,rfl,?_⟩ (by omega)
      rw [List.take_succ_eq_append_getElem hkl,List.all_append,hall,List.all_cons,hn]
      rfl
    ·have hkl:k=d.length:=by have:=of_decide_eq_false hc; omega
     subst hkl
     rw [List.take_length] at hall
     rw [if_neg (by rw [hall]; decide)] at H
     have hj2:∀ top:Nat,top=topN t→(UH (negB t) (bs d) (top:Int)).wp hh Q:=by
      intro top htop
      have htop2:top≤9223372036854775808:=by rw [htop]; unfold topN; split <;> omega
      have htop3:9223372036854775807≤top:=by rw [htop]; unfold topN; split <;> omega
      unfold UH
      refine M.loop_inv (fun (x:Int × Int) h2=>∃ k:Nat,x=(((dcv 0 (d.take k):Nat):Int),(k:Int))∧k≤d.length∧h2=hh∧dcv 0 (d.take k)≤top) (fun x _=>((d.length:Int) - x.2).toNat) ?_ ⟨0,rfl,Nat.zero_le _,rfl,Nat.zero_le _⟩
      rintro x h2 ⟨k,rfl,hk,rfl,hv⟩ self hself
      unfold Wg
      dsimp only
      rw [ZO]
      refine KP (fun hc=>?_) (fun hc=>?_)
      ·have hkl:k < d.length:=by have:=of_decide_eq_true hc; omega
       refine Nn rfl hkl ?_
       have hd9:=KMn (List.all_eq_true.1 hall _ (List.getElem_mem hkl))
       have e1:IntKind.wrap .u64 (IntKind.wrap .u8 (((d[k]).toNat:Int) - 48))=((d[k]).toNat:Int) - 48:=by rw [IntKind.wrap_u8,IntKind.wrap_u64]; omega
       rw [e1]
       have e2:IntKind.wrap .u64 (Int.tdiv (IntKind.wrap .u64 ((top:Int) - (((d[k]).toNat:Int) - 48))) 10)=(((top - ((d[k]).toNat - 48)) / 10:Nat):Int):=by
        rw [show IntKind.wrap .u64 ((top:Int) - (((d[k]).toNat:Int) - 48))=((top - ((d[k]).toNat - 48):Nat):Int) by rw [IntKind.wrap_u64]; omega]
        rw [show Int.tdiv ((top - ((d[k]).toNat - 48):Nat):Int) 10=(((top - ((d[k]).toNat - 48)) / 10:Nat):Int) from (Int.ofNat_tdiv _ 10).symm]
        rw [IntKind.wrap_u64]; omega
       rw [e2]
       have hnext:=KN2 hkl
       refine KP (fun ho=>KC ?_) (fun ho=>?_)
       ·have ho:=of_decide_eq_true ho
        rw [if_neg] at H
        ·exact H
        ·have hge:dcv 0 (d.take (k+1))≤dcv 0 d:=by
          conv=>rhs; rw [← List.take_append_drop (k+1) d,KPg]
          exact KMl _ _
         rw [← htop]
         omega
       ·have ho:=of_decide_eq_false ho
        rw [show IntKind.wrap .u64 ((IntKind.wrap .u64 (((dcv 0 (d.take k):Nat):Int) * 10))+(((d[k]).toNat:Int) - 48))=((dcv 0 (d.take (k+1)):Nat):Int) by rw [IntKind.wrap_u64,IntKind.wrap_u64,hnext]; omega]
        rw [w64 (by omega) (by omega)]
        exact hself _ _ ⟨k+1,rfl,hkl,rfl,by rw [hnext]; omega⟩ (by dsimp only; omega)
      ·have hkl:k=d.length:=by have:=of_decide_eq_false hc; omega
       subst hkl
       rw [List.take_length] at hv ⊢
       rw [if_pos (htop ▸ hv)] at H
       refine KE (KN3 (by omega) (fun hneg=>?_) (KC ?_))
       ·have:topN t=9223372036854775807:=by unfold topN; rw [hneg]; rfl
        omega
       ·unfold sgnV at H
        rw [← hd] at H
        exact H
     refine KP (fun hneg=>?_) (fun hneg=>?_)
     ·have hneg:negB t=false:=by simpa using hneg
      have:=hj2 9223372036854775807 (by unfold topN; rw [hneg]; rfl)
      rw [show IntKind.wrap .u64 (9223372036854775808 - 1)=((9223372036854775807:Nat):Int) by decide]
      exact this
     ·have hneg:negB t=true:=by simpa using hneg
      exact hj2 9223372036854775808 (by unfold topN; rw [hneg]; rfl)
 have hN:∀ Q':Bool→Heap→Prop,Q' (negB t) h→(M.ite (decide ((t.length:Int) > 0)) (ixS (bs t) 0>>=fun x=>M.pure (x == 45)) (M.pure false):M Bool).wp h Q':=by
  intro Q' hq
  refine KP (fun hc=>?_) (fun hc=>KC ?_)
  ·have hl:0 < t.length:=by have:=of_decide_eq_true hc; omega
   refine Nn (i:=0) rfl hl (KC ?_)
   rw [KMa]
   unfold negB at hq
   rw [List.head?_eq_getElem?,List.getElem?_eq_getElem hl] at hq
   exact hq
  ·have hl:t=[]:=List.length_eq_zero_iff.1 (by have:=of_decide_eq_false hc; omega)
   subst hl
   exact hq
 refine KE (hN _ ?_)
 refine KP (fun hc=>?_) (fun hc=>?_)
 ·have hc':=hc
  unfold negB at hc'
  have hc':=of_decide_eq_true hc'
  have hl:0 < t.length:=by cases t with | nil=>cases hc' | cons c r=>simp
  refine KIO (a:=1) (b:=t.length) rfl rfl (by omega) (Nat.le_refl _) ?_
  refine hj1 _ ?_
  unfold numD
  rw [if_pos hc',← List.length_tail,← List.drop_one,List.take_length]
 ·refine hj1 _ ?_
  unfold numD
  unfold negB at hc
  rw [if_neg (of_decide_eq_false hc)]
end Gx
namespace Gx
open Go Go.Proofs Go.Shelf Go.RowKit Go.Lib
set_option linter.unusedVariables false
set_option linter.unusedSimpArgs false
set_option maxRecDepth 100000
structure Rgd (h:Heap) (b:Nat) (s:List UInt8) (i:Nat):Prop where
 blk:h[b]?=some (.cells #[.string (bs s),.int .i64 (i:Int),.int .i64 (-1)] Za (0,0))
 le:i≤s.length
 small:s.length≤1099511627776
def Rx (h:Heap) (b:Nat) (s:List UInt8) (e:Nat):Prop:=∃ i:Nat,i≤s.length∧s.length≤1099511627776∧h[b]?=some (.cells #[.string (bs s),.int .i64 (i:Int),.int .i64 (e:Int)] Za (0,0))
theorem Rgd.ext {h h':Heap} {b:Nat} {s:List UInt8} {i:Nat} (R:Rgd h b s i) (e:Ext h h'):Rgd h' b s i:=⟨e.blk R.blk,R.le,R.small⟩
theorem Rgd.lt {h:Heap} {b:Nat} {s:List UInt8} {i:Nat} (R:Rgd h b s i):b < h.size:=UD R.blk
theorem Rgd.upd {h h':Heap} {b g:Nat} {s:List UInt8} {i:Nat} (R:Rgd h b s i) (u:Upd g h h') (hg:b≠g):Rgd h' b s i:=⟨(u.ne b hg).trans R.blk,R.le,R.small⟩
theorem Rx.ext {h h':Heap} {b:Nat} {s:List UInt8} {i:Nat} (R:Rx h b s i) (e:Ext h h'):Rx h' b s i:=let ⟨k,h1,h2,h3⟩:=R; ⟨k,h1,h2,e.blk h3⟩
theorem Rx.upd {h h':Heap} {b g:Nat} {s:List UInt8} {i:Nat} (R:Rx h b s i) (u:Upd g h h') (hg:b≠g):Rx h' b s i:=let ⟨k,h1,h2,h3⟩:=R; ⟨k,h1,h2,(u.ne b hg).trans h3⟩
theorem Rx.lt {h:Heap} {b:Nat} {s:List UInt8} {i:Nat} (R:Rx h b s i):b < h.size:=let ⟨k,h1,h2,h3⟩:=R; UD h3
section
variable {β:Type} {h:Heap} {Q:β→Heap→Prop} {b i e:Nat} {s:List UInt8}
theorem KKw {f:ByteArray→M β} (R:Rgd h b s i) (H:(f (bs s)).wp h Q):(ldS ((⟨b,0,none⟩:Addr).add 0)>>=f).wp h Q:=Yx (by rw [Kg,KU R.blk]; rfl) H
theorem KFU {f:Int→M β} (R:Rgd h b s i) (H:(f (i:Int)).wp h Q):(ldI .i64 ((⟨b,0,none⟩:Addr).add 1)>>=f).wp h Q:=Zm (by rw [Kg,KU R.blk]; rfl) H
theorem KKx {f:Int→M β} (R:Rgd h b s i) (H:(f (-1)).wp h Q):(ldI .i64 ((⟨b,0,none⟩:Addr).add 2)>>=f).wp h Q:=Zm (by rw [Kg,KU R.blk]; rfl) H
theorem KJO {f:Int→M β} (R:Rx h b s e) (H:(f (e:Int)).wp h Q):(ldI .i64 ((⟨b,0,none⟩:Addr).add 2)>>=f).wp h Q:=let ⟨_,_,_,g⟩:=R; Zm (by rw [Kg,KU g]; rfl) H
theorem KQ6 {f:Int→M β} (R:Rx h b s e) (H:∀ i:Nat,i≤s.length→(f (i:Int)).wp h Q):(ldI .i64 ((⟨b,0,none⟩:Addr).add 1)>>=f).wp h Q:=let ⟨i,hi,_,g⟩:=R; Zm (n:=(i:Int)) (by rw [Kg,KU g]; rfl) (H i hi)
theorem KRy {f:Unit→M β} (R:Rgd h b s i) (hi:i < s.length) (H:∀ h',Upd b h h'→Rgd h' b s (i+1)→(f ()).wp h' Q):(stV ((⟨b,0,none⟩:Addr).add 1) (.int .i64 (IntKind.wrap .i64 ((i:Int)+1)))>>=f).wp h Q:=by
 have hsm:=R.small
 rw [w64 (by omega) (by omega)]
 refine Wl (x:=.int .i64 (i:Int)) (by rw [Kg,KU R.blk]; rfl) (by rw [Kg]; exact KZ R.blk) rfl ?_
 rw [Kg]
 exact H _ (Upd.hset _ _ _ _) ⟨V8 R.blk,hi,hsm⟩
theorem NW {f:Unit→M β} (R:Rgd h b s i) (hi:i < s.length) (H:∀ h',Upd b h h'→Rgd h' b s (i+1)→(f ()).wp h' Q) :
  (nilP (some ⟨b,0,none⟩)>>=fun x=>ldI .i64 (x.add 1)>>=fun y=>nilP (some ⟨b,0,none⟩)>>=fun z=>stV (z.add 1) (.int .i64 (IntKind.wrap .i64 (y+1)))>>=f).wp h Q :=
 ZD (KFU R (ZD (KRy R hi H)))
end
section
variable {h:Heap} {b i e:Nat} {s:List UInt8}
theorem KPh {Q:Unit→Heap→Prop} (R:Rgd h b s i) (he:e≤s.length) (H:∀ h',Upd b h h'→Rx h' b s e→Q () h'):(KR (some ⟨b,0,none⟩) (e:Int)).wp h Q:=by
 unfold KR
 refine ZD (KKx R (iteT rfl (ZD ?_)))
 refine Wl (x:=.int .i64 (-1)) (by rw [Kg,KU R.blk]; rfl) (by rw [Kg]; exact KZ R.blk) rfl ?_
 rw [Kg]
 exact KC (H _ (Upd.hset _ _ _ _) ⟨i,R.le,R.small,V8 R.blk⟩)
theorem KPi {Q:Unit→Heap→Prop} {x:Int} (R:Rx h b s e) (H:Q () h):(KR (some ⟨b,0,none⟩) x).wp h Q:=by
 unfold KR
 refine ZD (KJO R (iteF (decide_eq_false (by omega)) (KC H)))
theorem Ww {β:Type} {Q:β→Heap→Prop} {f:Unit→M β} (R:Rgd h b s i) (H:∀ h',Upd b h h'→Rx h' b s i→(f ()).wp h' Q):(nilP (some ⟨b,0,none⟩)>>=fun x=>ldI .i64 (x.add 1)>>=fun y=>KR (some ⟨b,0,none⟩) y>>=f).wp h Q :=
 ZD (KFU R (KE (KPh R R.le H)))
theorem KFV {β:Type} {Q:β→Heap→Prop} {f:Unit→M β} (R:Rx h b s e) (H:(f ()).wp h Q):(nilP (some ⟨b,0,none⟩)>>=fun x=>ldI .i64 (x.add 1)>>=fun y=>KR (some ⟨b,0,none⟩) y>>=f).wp h Q :=
 ZD (KQ6 R (fun _ _=>KE (KPi R H)))
theorem XH {Q:Int→Heap→Prop} (R:Rgd h b s i) (H:Q ((KN s i).toNat:Int) h):(KS (some ⟨b,0,none⟩)).wp h Q:=by
 unfold KS
 refine ZD (KKx R (iteF rfl (ZD (ZD (KFU R (KKw R ?_))))))
 rw [ZO]
 unfold Zw
 refine KP (fun hc=>KC ?_) (fun hc=>?_)
 ·have hi:¬ i < s.length:=by have:=of_decide_eq_true hc; omega
  unfold KN at H
  rw [List.getElem?_eq_none (by omega)] at H
  exact H
 ·have hi:i < s.length:=by have:=of_decide_eq_false hc; omega
  refine ZD (ZD (KKw R (KFU R (Nn rfl hi (KC ?_)))))
  rw [← Vu hi]
  exact H
theorem KFW {Q:Int→Heap→Prop} (R:Rx h b s e) (H:Q 0 h):(KS (some ⟨b,0,none⟩)).wp h Q:=by
 unfold KS
 refine ZD (KJO R (iteT (decide_eq_true (by omega)) ?_))
 unfold Zw
 exact iteT rfl (KC H)
theorem NX {c:UInt8} {Q:Bool→Heap→Prop} (H:Q (digB c) h):(Zv (c.toNat:Int)).wp h Q:=by
 unfold Zv
 refine U1 (c:=decide ((c.toNat:Int)≤57)) (fun _ Q' hq=>KC hq) (KC ?_)
 rw [show (decide ((c.toNat:Int) ≥ 48) && decide ((c.toNat:Int)≤57))=digB c by
  unfold digB
  congr 1
  ·exact decide_eq_decide.2 (by omega)
  ·exact decide_eq_decide.2 (by omega)]
 exact H
theorem KPj {Q:Bool→Heap→Prop} (H:Q false h):(Zv 0).wp h Q:=NX (c:=0) H
theorem KAG {Q:Unit→Heap→Prop} {lit:List UInt8} (R:Rgd h b s i) (hl:lit.length≤1000)
  (H1:∀ j h',Xd s lit i=.ok j→Kb b h h'→Rgd h' b s j→Q () h') (H2:∀ e h',Xd s lit i=.error e→Kb b h h'→Rx h' b s e→Q () h'):(KQ (some ⟨b,0,none⟩) (bs lit)).wp h Q:=by
 unfold KQ
 refine M.loop_inv (fun (x:Int) hh=>∃ k i':Nat,x=(k:Int)∧k≤lit.length∧Kb b h hh∧Rgd hh b s i'∧Xd s (lit.drop k) i'=Xd s lit i) (fun x _=>((lit.length:Int) - x).toNat) ?_ ⟨0,i,rfl,Nat.zero_le _,Km.refl _ _,R,rfl⟩
 rintro x hh ⟨k,i',rfl,hk,K,R',hm⟩ self hself
 unfold Jf
 rw [ZO]
 refine KP (fun hc=>?_) (fun hc=>?_)
 ·have hkl:k < lit.length:=by have:=of_decide_eq_true hc; omega
  rw [List.drop_eq_getElem_cons hkl,Xd] at hm
  have hfail:s[i']?≠some lit[k]→(ZM self (some ⟨b,0,none⟩) (k:Int) true).wp hh Q:=fun hne=>by
   unfold ZM
   rw [if_neg hne] at hm
   exact iteT rfl (Ww R' (fun h2 u X=>KC (H2 _ _ hm.symm (K.trans (Km.upd u rfl)) X)))
  refine Nn rfl hkl (KE (XH R' ?_))
  refine KP (fun hne=>?_) (fun heq=>?_)
  ·refine hfail (fun h1=>?_)
   have hil:=(List.getElem?_eq_some_iff.1 h1).1
   rw [List.getElem?_eq_getElem hil] at h1
   rw [Vu hil,Option.some.inj h1] at hne
   simp at hne
  ·have heq:KN s i'=lit[k]:=by
    refine UInt8.toNat_inj.1 ?_
    have:¬ (((KN s i').toNat:Int)≠((lit[k]).toNat:Int)):=fun hne=>by rw [bne_iff_ne.2 hne] at heq; cases heq
    omega
   refine ZD (ZD (KFU R' (KKw R' ?_)))
   rw [ZO]
   by_cases hil:i' < s.length
   ·rw [decide_eq_false (show ¬ ((i':Int) ≥ (s.length:Int)) by omega)]
    unfold ZM
    refine iteF rfl (NW R' hil (fun h2 u R2=>?_))
    rw [w64 (by omega) (by omega)]
    rw [if_pos (by rw [List.getElem?_eq_getElem hil,← heq,Vu hil])] at hm
    exact hself _ _ ⟨k+1,i'+1,by omega,by omega,K.trans (Km.upd u rfl),R2,hm⟩ (by omega)
   ·rw [decide_eq_true (show ((i':Int) ≥ (s.length:Int)) by omega)]
    refine hfail ?_
    rw [List.getElem?_eq_none (by omega)]
    intro h; cases h
 ·have hkl:k=lit.length:=by have:=of_decide_eq_false hc; omega
  subst hkl
  rw [List.drop_length,Xd] at hm
  exact KC (H1 _ _ hm.symm K R')
theorem KHT {Q:Unit→Heap→Prop} {c:UInt8} {r:List UInt8} (R:Rx h b s e) (hc:c≠0) (H:Q () h):(KQ (some ⟨b,0,none⟩) (bs (c::r))).wp h Q:=by
 unfold KQ
 refine M.loop_inv (fun (x:Int) hh=>x=0∧hh=h) (fun x _=>0) ?_ ⟨rfl,rfl⟩
 rintro x hh ⟨rfl,rfl⟩ self hself
 unfold Jf
 rw [ZO]
 refine iteT (decide_eq_true (by simp)) (Nn (i:=0) rfl (by simp) (KE (KFW R ?_)))
 have hc0:c.toNat≠0:=fun e=>hc (UInt8.toNat_inj.1 (by rw [e]; rfl))
 refine iteT (by rw [bne_iff_ne]; show (0:Int)≠(c.toNat:Int); omega) ?_
 unfold ZM
 exact iteT rfl (KFV R (KC H))
theorem KMo {t:List UInt8} (h1:numD t≠[]) (h2:(numD t).all digB=true) (h3:(numD t).head?≠some 48):(numP t).2=0∨(numP t).2=7:=by
 rw [KJN,if_neg h1,if_neg (by rw [h2]; decide),if_neg (fun hh=>h3 hh.1)]
 split
 ·exact .inl rfl
 ·exact .inr rfl
theorem KMp (h48:KN s i=48):numF s i=.ok (0,i+1):=by
 have hi:i < s.length:=J2 (by rw [h48]; decide)
 have hJ:numJ s i=i:=by unfold numJ; rw [if_neg (by rw [h48]; decide)]
 unfold numF
 rw [hJ,if_neg (by rw [h48]; rintro (h | h); exact absurd h (by decide); omega)]
 rw [show s.length - i=(s.length - (i+1))+1 by omega,numL,if_pos (by rw [h48]; decide)]
 have h1:(s.drop i).take (i+1 - i)=[48]:=by
  rw [show i+1 - i=1 by omega,List.drop_eq_getElem_cons hi,← Vu hi,h48]; rfl
 rw [h1,show numP [48]=(0,0) by decide +kernel,if_neg (by decide),if_neg (by decide)]
 cases hf:s.length - (i+1) with
 | zero=>rfl
 | succ f =>
  rw [numL]
  split
  ·rename_i hd
   have hi2:=KGN hd
   have h2:(s.drop i).take (i+1+1 - i)=[48,KN s (i+1)]:=by
    rw [show i+1+1 - i=2 by omega,List.drop_eq_getElem_cons hi,List.drop_eq_getElem_cons hi2,← Vu hi,← Vu hi2,h48]; rfl
   have h3:numP [48,KN s (i+1)]=(0,10):=by
    have hD:numD [48,KN s (i+1)]=[48,KN s (i+1)]:=rfl
    rw [KJN,hD,if_neg (by simp),if_neg,if_pos ⟨rfl,by simp⟩]
    show ¬ ([48,KN s (i+1)].all digB=false)
    rw [List.all_cons,List.all_cons,hd]
    decide
   rw [h2,h3,if_neg (by decide),if_pos (by decide)]
  ·rfl
theorem KN4 {j k:Nat} (hjk:j≤k) (hk:k < s.length):(s.drop j).take (k+1 - j)=(s.drop j).take (k - j)++[s[k]]:=by
 rw [show k+1 - j=(k - j)+1 by omega,List.take_succ_eq_append_getElem (by rw [List.length_drop]; omega),List.getElem_drop]
 simp only [show j+(k - j)=k by omega]
theorem KN5 {k:Nat} (hJ:numJ s i < k) (hk:k≤s.length):numD ((s.drop i).take (k - i))=(s.drop (numJ s i)).take (k - numJ s i):=by
 have hij:i≤numJ s i:=by unfold numJ; split <;> omega
 unfold numJ at hJ ⊢
 by_cases h45:KN s i=45
 ·rw [if_pos h45] at hJ ⊢
  have hi:i < s.length:=J2 (by rw [h45]; decide)
  rw [List.drop_eq_getElem_cons hi,show k - i=(k - (i+1))+1 by omega,List.take_succ_cons,← Vu hi,h45]
  rfl
 ·rw [if_neg h45] at hJ ⊢
  have hi:i < s.length:=by omega
  unfold numD
  rw [if_neg]
  rw [List.drop_eq_getElem_cons hi,show k - i=(k - i - 1)+1 by omega,List.take_succ_cons,List.head?_cons,← Vu hi]
  intro e
  exact h45 (Option.some.inj e)
theorem KIV {Q:Int→Heap→Prop} (R:Rgd h b s i)
  (H1:∀ n j h',numF s i=.ok (n,j)→Kb b h h'→Rgd h' b s j→Q n h') (H2:∀ e h',numF s i=.error e→Kb b h h'→Rx h' b s e→Q 0 h'):(ZF (some ⟨b,0,none⟩) true).wp h Q:=by
 unfold ZF
 have hsm:=R.small
 have key:∀ h1,Kb b h h1→Rgd h1 b s (numJ s i)→(ZS (some ⟨b,0,none⟩) (i:Int)).wp h1 Q:=by
  intro h1 K1 R1
  unfold ZS
  have hij:i≤numJ s i:=by unfold numJ; split <;> omega
  refine KE (XH R1 (KE (NX ?_)))
  refine KP (fun hd=>?_) (fun hd=>?_)
  ·have hd:digB (KN s (numJ s i))=false:=by simpa using hd
   exact Ww R1 (fun h2 u X=>KC (H2 _ _ (by unfold numF; rw [if_pos (.inl hd)]) (K1.trans (Km.upd u rfl)) X))
  have hd:digB (KN s (numJ s i))=true:=by simpa using hd
  have hjl:=KGN hd
  refine KE (XH R1 ?_)
  rw [KMb]
  refine KP (fun h48=>?_) (fun h48=>?_)
  ·have h48:KN s (numJ s i)=48:=Option.some.inj (of_decide_eq_true h48)
   refine ZD (KFU R1 ?_)
   refine KP (fun hs=>?_) (fun hs=>?_)
   ·have hs:i < numJ s i:=by have:=of_decide_eq_true hs; omega
    exact Ww R1 (fun h2 u X=>KC (H2 _ _ (by unfold numF; rw [if_pos (.inr ⟨hs,h48⟩)]) (K1.trans (Km.upd u rfl)) X))
   ·have hs:numJ s i=i:=by have:=of_decide_eq_false hs; omega
    rw [hs] at h48 R1 hjl
    exact NW R1 hjl (fun h2 u R2=>KC (H1 _ _ _ (KMp h48) (K1.trans (Km.upd u rfl)) R2))
  ·have h48:KN s (numJ s i)≠48:=fun e=>(of_decide_eq_false h48) (congrArg some e)
   have hF:numF s i=numL s i (s.length - numJ s i) (numJ s i) 0:=by
    unfold numF
    rw [if_neg]
    rintro (h | h)
    ·rw [hd] at h; cases h
    ·exact h48 h.2
   rw [hF] at H1 H2
   refine M.loop_inv (fun (_:Unit) hh=>∃ (i':Nat) (x:Int),numJ s i≤i'∧Kb b h hh∧Rgd hh b s i'∧((s.drop (numJ s i)).take (i' - numJ s i)).all digB=true∧(numJ s i < i'→x=(numP ((s.drop i).take (i' - i))).1)∧numL s i (s.length - i') i' x=numL s i (s.length - numJ s i) (numJ s i) 0)
    (fun _ hh=>match hh[b]? with | some (.cells #[_,.int _ z,_] _ _)=>s.length - z.toNat | _=>0) ?_ ⟨numJ s i,0,Nat.le_refl _,K1,R1,by rw [Nat.sub_self]; rfl,fun h=>absurd h (Nat.lt_irrefl _),rfl⟩
   rintro _ hh ⟨i',x,hfi,K,R',hall,hx,hm⟩ self hself
   unfold UN
   have hle:=R'.le
   refine KE (XH R' (KE (NX ?_)))
   refine KP (fun hd'=>?_) (fun hd'=>?_)
   ·have hil:=KGN hd'
    rw [show s.length - i'=(s.length - (i'+1))+1 by omega,numL,if_pos hd'] at hm
    have hall':((s.drop (numJ s i)).take (i'+1 - numJ s i)).all digB=true:=by
     rw [KN4 hfi hil,List.all_append,hall,List.all_cons,← Vu hil,hd']; rfl
    have hD:=KN5 (s:=s) (i:=i) (k:=i'+1) (by omega) (by omega)
    have hne:(s.drop (numJ s i)).take (i'+1 - numJ s i)≠[]:=by
     intro e
     have:=congrArg List.length e
     rw [List.length_take,List.length_drop,List.length_nil] at this
     omega
    have hhead:((s.drop (numJ s i)).take (i'+1 - numJ s i)).head?≠some 48:=by
     rw [List.drop_eq_getElem_cons hjl,show i'+1 - numJ s i=(i' - numJ s i)+1 by omega,List.take_succ_cons,List.head?_cons,← Vu hjl]
     intro e
     exact h48 (Option.some.inj e)
    have h07:=KMo (t:=(s.drop i).take (i'+1 - i)) (by rw [hD]; exact hne) (by rw [hD]; exact hall') (by rw [hD]; exact hhead)
    refine ZD (ZD (KKw R' (KFU R' ?_)))
    rw [w64 (by omega) (by omega)]
    refine KIO (a:=i) (b:=i'+1) rfl (by omega) (by omega) (by omega) (KE (KDr (by rw [List.length_take,List.length_drop]; omega) ?_))
    refine KP (fun h0=>?_) (fun h0=>?_)
    ·rw [bne_iff_ne] at h0
     rw [if_pos (h07.resolve_left h0)] at hm
     exact Ww R' (fun h2 u X=>KC (H2 _ _ hm.symm (K.trans (Km.upd u rfl)) X))
    ·have h0:(numP ((s.drop i).take (i'+1 - i))).2=0:=by
      refine Classical.not_not.1 (fun hne=>?_)
      rw [bne_iff_ne.2 hne] at h0
      cases h0
     rw [if_neg (by rw [h0]; decide),if_neg (by rw [h0]; decide)] at hm
     refine NW R' hil (fun h3 u3 R3=>?_)
     refine hself _ _ ⟨i'+1,_,by omega,K.trans (Km.upd u3 rfl),R3,hall',fun _=>rfl,hm⟩ ?_
     rw [R3.blk,R'.blk]
     show s.length - ((i'+1:Nat):Int).toNat < s.length - ((i':Nat):Int).toNat
     omega
   ·have hi':numJ s i < i':=by
     rcases Nat.lt_or_ge (numJ s i) i' with h | h
     ·exact h
     ·have:i'=numJ s i:=by omega
      subst this
      rw [hd] at hd'
      cases hd'
    have:numL s i (s.length - i') i' x=.ok (x,i'):=by
     cases hf:s.length - i' with
     | zero=>rfl
     | succ f=>rw [numL,if_neg (by rw [hd']; decide)]
    rw [this] at hm
    refine ZD (ZD (KKw R' (KFU R' ?_)))
    refine KIO (a:=i) (b:=i') rfl rfl (by omega) (by omega) (KE (KDr (by rw [List.length_take,List.length_drop]; omega) (KC ?_)))
    rw [← hx hi']
    exact H1 _ _ _ hm.symm K R'
 refine ZD (KFU R ?_)
 refine U1 (c:=decide (KN s i=45)) (fun _ Q' hq=>KE (XH R (KC ?_))) ?_
 ·rw [KMa,decide_eq_decide.2 (show some (KN s i)=some 45↔KN s i=45 from ⟨Option.some.inj,congrArg _⟩)]
  exact hq
 refine KP (fun hc=>?_) (fun hc=>?_)
 ·have h45:KN s i=45:=by simpa using hc
  refine NW R (J2 (by rw [h45]; decide)) (fun h1 u1 R1=>key _ (Km.upd u1 rfl) ?_)
  unfold numJ
  rw [if_pos h45]
  exact R1
 ·have h45:¬ KN s i=45:=by simpa using hc
  refine key _ (Km.refl _ _) ?_
  unfold numJ
  rw [if_neg h45]
  exact R
theorem KMq {Q:Int→Heap→Prop} (R:Rx h b s e) (H:Q 0 h):(ZF (some ⟨b,0,none⟩) true).wp h Q:=by
 unfold ZF
 refine ZD (KQ6 R (fun i hi=>?_))
 refine U1 (c:=false) (fun _ Q' hq=>KE (KFW R (KC hq))) (iteF rfl ?_)
 unfold ZS
 exact KE (KFW R (KE (KPj (iteT rfl (KFV R (KC H))))))
def hexV (c:UInt8):Int:=if digB c=true then (c.toNat:Int) - 48 else if 97≤c.toNat∧c.toNat≤102 then (c.toNat:Int) - 87 else -1
theorem KN6:∀ n:Fin 256,hexV (UInt8.ofNat n.val)=hexN (UInt8.ofNat n.val):=by decide +kernel
theorem KPk (c:UInt8):hexV c=hexN c:=by
 have:=KN6 ⟨c.toNat,c.toNat_lt⟩
 simpa only [UInt8.ofNat_toNat] using this
theorem KFX {c:UInt8} {Q:Int→Heap→Prop} (H:Q (hexN c) h):(UX (c.toNat:Int)).wp h Q:=by
 rw [← KPk] at H
 unfold hexV at H
 unfold UX
 refine KE (NX ?_)
 refine KP (fun hd=>KC ?_) (fun hd=>?_)
 ·rw [if_pos hd] at H
  have:=KMn hd
  rw [show IntKind.wrap .i64 (IntKind.wrap .u8 ((c.toNat:Int) - 48))=(c.toNat:Int) - 48 by rw [IntKind.wrap_u8,IntKind.wrap_i64]; omega]
  exact H
 ·rw [if_neg (by rw [hd]; decide)] at H
  refine U1 (c:=decide ((c.toNat:Int)≤102)) (fun _ Q' hq=>KC hq) ?_
  refine KP (fun hc=>KC ?_) (fun hc=>KC ?_)
  ·rw [Bool.and_eq_true,decide_eq_true_iff,decide_eq_true_iff] at hc
   rw [if_pos (by omega)] at H
   rw [show IntKind.wrap .i64 ((IntKind.wrap .i64 (IntKind.wrap .u8 ((c.toNat:Int) - 97)))+10)=(c.toNat:Int) - 87 by rw [IntKind.wrap_u8,IntKind.wrap_i64,IntKind.wrap_i64]; omega]
   exact H
  ·rw [Bool.and_eq_false_iff,decide_eq_false_iff_not,decide_eq_false_iff_not] at hc
   rw [if_neg (by omega)] at H
   exact H
theorem KRz {Q:Int→Heap→Prop} (H:Q (-1) h):(UX 0).wp h Q:=by
 refine KFX (c:=0) ?_
 rw [KJ5]
 exact H
theorem KR0 {x y:Int} (hx:0≤x) (hx2:x≤15) (hy:0≤y) (hy2:y≤15):IntKind.wrap .u8 (IntKind.wrap .i64 ((IntKind.wrap .i64 (16 * x))+y))=((UInt8.ofNat ((x * 16+y).toNat)).toNat:Int):=by
 rw [IntKind.wrap_u8,IntKind.wrap_i64,IntKind.wrap_i64,UInt8.toNat_ofNat']
 omega
theorem KQ7 {Q:Int→Heap→Prop} (R:Rgd h b s i)
  (H1:∀ (c:UInt8) j h',escP s i=.ok (c,j)→Kb b h h'→Rgd h' b s j→Q (c.toNat:Int) h') (H2:∀ e h',escP s i=.error e→Kb b h h'→Rx h' b s e→Q 0 h'):(Zx (some ⟨b,0,none⟩)).wp h Q:=by
 unfold Zx
 refine KE (XH R ?_)
 rw [u8_c (d:=39) (n:=39) rfl,u8_c (d:=92) (n:=92) rfl]
 refine or_b (c:=decide (KN s i=92)) (fun _ Q' hq=>KC hq) ?_
 refine KP (fun hc=>?_) (fun hc=>?_)
 ·rw [Bool.or_eq_true,decide_eq_true_iff,decide_eq_true_iff] at hc
  have hi:i < s.length:=J2 (by rcases hc with h | h <;> (rw [h]; decide))
  refine NW R hi (fun h1 u1 R1=>KC (H1 _ _ _ ?_ (Km.upd u1 rfl) R1))
  unfold escP
  rw [if_pos hc]
 ·have hc':¬ (KN s i=39∨KN s i=92):=by
   intro hh
   rw [← decide_eq_true_iff (p:=KN s i=39),← decide_eq_true_iff (p:=KN s i=92),← Bool.or_eq_true,hc] at hh
   cases hh
  refine KE (KAG (lit:=[120]) R (by decide) (fun j h1 hj K1 R1=>?_) (fun e h1 hj K1 X1=>?_))
  ·have hE:escP s i=if hexN (KN s j) < 0∨(1 < hexN (KN s j)∧hexN (KN s j) < 7) then .error j
     else if hexN (KN s (j+1)) < 0∨(hexN (KN s j)=7∧hexN (KN s (j+1)) < 15) then .error (j+1)
     else .ok (UInt8.ofNat ((hexN (KN s j) * 16+hexN (KN s (j+1))).toNat),j+2):=by
    unfold escP
    rw [if_neg hc',hj]
   have hle15:=KHO (KN s j)
   have hle15':=KHO (KN s (j+1))
   refine KE (XH R1 (KE (KFX ?_)))
   refine or_b (c:=decide (hexN (KN s j) ≥ 2) && decide (hexN (KN s j) < 7)) (fun _ Q' hq=>U1 (c:=decide (hexN (KN s j) < 7)) (fun _ Q2 hq2=>KC hq2) (KC hq)) ?_
   rw [show (decide (hexN (KN s j) < 0) || (decide (hexN (KN s j) ≥ 2) && decide (hexN (KN s j) < 7)))=decide (hexN (KN s j) < 0∨(1 < hexN (KN s j)∧hexN (KN s j) < 7)) by
    rw [Bool.decide_or,Bool.decide_and]
    congr 2]
   refine KP (fun hb=>?_) (fun hb=>?_)
   ·rw [if_pos (of_decide_eq_true hb)] at hE
    exact Ww R1 (fun h2 u X=>KC (H2 _ _ hE (K1.trans (Km.upd u rfl)) X))
   ·have hb:=of_decide_eq_false hb
    rw [if_neg hb] at hE
    have hjl:j < s.length:=KIQ (by omega)
    refine NW R1 hjl (fun h2 u2 R2=>?_)
    have K2:Kb b h h2:=K1.trans (Km.upd u2 rfl)
    refine KE (XH R2 (KE (KFX ?_)))
    refine or_b (c:=decide (hexN (KN s j)=7) && decide (hexN (KN s (j+1))≠15)) (fun _ Q' hq=>?_) ?_
    ·rw [eqI]
     refine U1 (c:=decide (hexN (KN s (j+1))≠15)) (fun _ Q2 hq2=>KC ?_) (KC hq)
     rw [show (hexN (KN s (j+1)) != 15)=decide (hexN (KN s (j+1))≠15) by rw [bne,eqI,decide_not]]
     exact hq2
    rw [show (decide (hexN (KN s (j+1)) < 0) || (decide (hexN (KN s j)=7) && decide (hexN (KN s (j+1))≠15)))=decide (hexN (KN s (j+1)) < 0∨(hexN (KN s j)=7∧hexN (KN s (j+1)) < 15)) by
     rw [Bool.decide_or,Bool.decide_and]
     congr 2
     exact decide_eq_decide.2 (by omega)]
    refine KP (fun hb2=>?_) (fun hb2=>?_)
    ·rw [if_pos (of_decide_eq_true hb2)] at hE
     exact Ww R2 (fun h3 u X=>KC (H2 _ _ hE (K2.trans (Km.upd u rfl)) X))
    ·have hb2:=of_decide_eq_false hb2
     rw [if_neg hb2] at hE
     have hjl2:j+1 < s.length:=KIQ (by omega)
     refine NW R2 hjl2 (fun h3 u3 R3=>KC ?_)
     rw [KR0 (by omega) hle15 (by omega) hle15']
     exact H1 _ _ _ hE (K2.trans (Km.upd u3 rfl)) R3
  ·have hE:escP s i=.error e:=by unfold escP; rw [if_neg hc',hj]
   refine KE (KFW X1 (KE (KRz ?_)))
   refine or_b (c:=false) (fun h=>absurd h (by decide)) (iteT rfl ?_)
   exact KFV X1 (KC (H2 _ _ hE K1 X1))
end
end Gx
namespace Gx
open Go Go.Proofs Go.Shelf Go.RowKit Go.Lib
set_option linter.unusedVariables false
set_option linter.unusedSimpArgs false
set_option maxRecDepth 100000
theorem KQ8 {h:Heap} {Q:ByteArray→Heap→Prop} {b i:Nat} {s:List UInt8} (R:Rgd h b s i)
  (H1:∀ t j h',strP s i=.ok (t,j)→Kb b h h'→Rgd h' b s j→Q (bs t) h') (H2:∀ e h',strP s i=.error e→Kb b h h'→Rx h' b s e→Q (bs []) h'):(Ji (some ⟨b,0,none⟩)).wp h Q:=by
 unfold Ji
 have hbl:=R.lt
 have main:∀ (h1:Heap),Kb b h h1→((∃ j,Xd s [39] i=.ok j∧Rgd h1 b s j)∨∃ e,strP s i=.error e∧Rx h1 b s e)→(M.loop (Jy (some ⟨b,0,none⟩)) Sl.nil).wp h1 Q:=by
  intro h1 K1 hst
  have hb1:b < h1.size:=Nat.lt_of_lt_of_le hbl K1.size
  refine M.loop_inv (fun (x:Sl) hh=>(∃ (acc:List UInt8) (f i':Nat),s.length < f+i'∧acc.length≤i'∧Kb b h1 hh∧Rgd hh b s i'∧Gw h1.size hh x 1 (acc.map bv)∧strL s f i' acc=strP s i)∨∃ e,strP s i=.error e∧Kb b h1 hh∧Rx hh b s e)
   (fun x hh=>match hh[b]? with | some (.cells #[_,_,.int _ z] _ _)=>if z < 0 then s.length+2 - x.len else 0 | _=>0) ?_ ?_
  ·rintro x hh hst self hself
   unfold Jy
   rcases hst with ⟨acc,f,i',hf,hai,K,R',G,hm⟩ | ⟨e,he,K,X⟩
   ·have hsm:=R'.small
    have hle:=R'.le
    have hxl:=G.len
    rw [List.length_map,Nat.mul_one] at hxl
    have hmu:(match hh[b]? with | some (.cells #[_,_,.int _ z] _ _)=>if z < 0 then s.length+2 - x.len else 0 | _=>0)=s.length+2 - x.len:=by rw [R'.blk]; rfl
    rw [hmu] at hself
    have bad:∀ (e:Nat) (h2:Heap) (x2:Sl),strP s i=.error e→Kb b h1 h2→Rx h2 b s e→(self x2).wp h2 Q:=by
     intro e h2 x2 he K2 X2
     refine hself _ _ (.inr ⟨e,he,K2,X2⟩) ?_
     obtain ⟨k,_,_,g⟩:=X2
     rw [g]
     show (if ((e:Nat):Int) < 0 then s.length+2 - x2.len else 0) < _
     rw [if_neg (by omega)]
     omega
    obtain ⟨f,rfl⟩:∃ g,f=g+1:=⟨f - 1,by omega⟩
    rw [strL] at hm
    refine ZD (KKx R' (iteT rfl (KE (XH R' ?_))))
    refine ZD (ZD (KFU R' (KKw R' ?_)))
    rw [ZO]
    have hfail:¬ KN s i'=39→((KN s i').toNat < 32∨126 < (KN s i').toNat)→(ZP self (some ⟨b,0,none⟩) x ((KN s i').toNat:Int) true).wp hh Q:=by
     intro h39 hbad
     rw [if_neg h39,if_pos hbad] at hm
     unfold ZP
     exact iteT rfl (Ww R' (fun h2 u X=>bad _ _ _ hm.symm (K.trans (Km.upd u rfl)) X))
    refine KP (fun hge=>?_) (fun hlt=>?_)
    ·have h0:KN s i'=0:=by unfold KN; rw [List.getElem?_eq_none (by have:=of_decide_eq_true hge; omega)]; rfl
     exact hfail (by rw [h0]; decide) (.inl (by rw [h0]; decide))
    have hil:i' < s.length:=by have:=of_decide_eq_false hlt; omega
    refine KP (fun h32=>?_) (fun h32=>?_)
    ·have h32:=of_decide_eq_true h32
     exact hfail (fun e=>by rw [e] at h32; exact absurd h32 (by decide)) (.inl (by omega))
    have h32:=of_decide_eq_false h32
    by_cases h126:126 < (KN s i').toNat
    ·rw [decide_eq_true (show ((KN s i').toNat:Int) > 126 by omega)]
     exact hfail (fun e=>by rw [e] at h126; exact absurd h126 (by decide)) (.inr h126)
    rw [decide_eq_false (show ¬ ((KN s i').toNat:Int) > 126 by omega)]
    unfold ZP
    refine iteF rfl ?_
    rw [u8_c (d:=39) (n:=39) rfl,u8_c (d:=92) (n:=92) rfl]
    refine KP (fun h39=>?_) (fun h39=>?_)
    ·have h39:=of_decide_eq_true h39
     rw [if_pos h39] at hm
     refine NW R' hil (fun h2 u2 R2=>?_)
     have G2:Gw h1.size h2 x 1 (acc.map bv):=G.same (fun k hk=>u2.ne k (fun e=>by have:=(G.lt hk).2; omega))
     refine KLZ (ns:=acc) hxl G2.reads (KC ?_)
     exact H1 _ _ _ hm.symm (K1.trans (K.trans (Km.upd u2 rfl))) R2
    have h39:=of_decide_eq_false h39
    rw [if_neg h39,if_neg (by omega)] at hm
    have next:∀ (c:UInt8) (i2:Nat) (h3:Heap),i' < i2→Kb b h1 h3→Gw h1.size h3 x 1 (acc.map bv)→(∀ h4 r4,Kb b h1 h4→h4[b]?=h3[b]?→Gw h1.size h4 r4 1 ((acc++[c]).map bv)→(self r4).wp h4 Q) →
      (bdL KY 1 #[.int .u8 (c.toNat:Int)]>>=fun y=>apL KY 1 1 (#[.int .u8 0]:Array Value) x y>>=fun z=>self z).wp h3 Q:=by
     intro c i2 h3 hi2 K3 G3 hk
     refine KJ7 G3 K3.size (by omega) (fun h4 r4 G4 hs4 same4=>?_)
     exact hk h4 r4 ⟨Nat.le_trans K3.size hs4,fun k hk hkb=>(same4 k hk).trans (K3.same k hk hkb)⟩ (same4 b hb1) G4
    have good:∀ (c:UInt8) (i2:Nat) (h3:Heap),i' < i2→Kb b h1 h3→Rgd h3 b s i2→Gw h1.size h3 x 1 (acc.map bv)→strL s f i2 (acc++[c])=strP s i →
      (bdL KY 1 #[.int .u8 (c.toNat:Int)]>>=fun y=>apL KY 1 1 (#[.int .u8 0]:Array Value) x y>>=fun z=>self z).wp h3 Q:=by
     intro c i2 h3 hi2 K3 R3 G3 hm3
     refine next c i2 h3 hi2 K3 G3 (fun h4 r4 K4 hb4 G4=>?_)
     have hl4:=G4.len
     rw [List.length_map,List.length_append,List.length_singleton,Nat.mul_one] at hl4
     have R4:Rgd h4 b s i2:=⟨by rw [hb4]; exact R3.blk,R3.le,R3.small⟩
     have hle2:=R3.le
     refine hself _ _ (.inl ⟨acc++[c],f,i2,by omega,by rw [List.length_append,List.length_singleton]; omega,K4,R4,G4,hm3⟩) ?_
     rw [R4.blk]
     show (if (-1:Int) < 0 then s.length+2 - r4.len else 0) < _
     rw [if_pos (by decide)]
     omega
    refine KP (fun h92=>?_) (fun h92=>?_)
    ·rw [if_pos (of_decide_eq_true h92)] at hm
     refine NW R' hil (fun h2 u2 R2=>?_)
     have K2:Kb b h1 h2:=K.trans (Km.upd u2 rfl)
     have G2:Gw h1.size h2 x 1 (acc.map bv):=G.same (fun k hk=>u2.ne k (fun e=>by have:=(G.lt hk).2; omega))
     refine KE (KQ7 R2 (fun c j2 h3 he K3 R3=>?_) (fun e h3 he K3 X3=>?_))
     ·rw [he] at hm
      exact good c j2 h3 (by have:=KJJ he; omega) (K2.trans K3) R3 (G2.same (fun k hk=>K3.same k (G2.lt hk).1 (fun e=>by have:=(G2.lt hk).2; omega))) hm
     ·rw [he] at hm
      refine next 0 (i'+1) h3 (by omega) (K2.trans K3) (G2.same (fun k hk=>K3.same k (G2.lt hk).1 (fun e=>by have:=(G2.lt hk).2; omega))) (fun h4 r4 K4 hb4 G4=>?_)
      obtain ⟨q,q1,q2,q3⟩:=X3
      exact bad e h4 r4 hm.symm K4 ⟨q,q1,q2,hb4.trans q3⟩
    ·rw [if_neg (of_decide_eq_false h92)] at hm
     refine NW R' hil (fun h2 u2 R2=>?_)
     have K2:Kb b h1 h2:=K.trans (Km.upd u2 rfl)
     have G2:Gw h1.size h2 x 1 (acc.map bv):=G.same (fun k hk=>u2.ne k (fun e=>by have:=(G.lt hk).2; omega))
     exact good _ (i'+1) h2 (by omega) K2 R2 G2 hm
   ·refine ZD (KJO X (iteF (decide_eq_false (by omega)) (KC ?_)))
    exact H2 e hh he (K1.trans K) X
  ·rcases hst with ⟨j,hj,R1⟩ | ⟨e,he,X⟩
   ·refine .inl ⟨[],s.length+1 - j,j,by have:=R1.le; omega,Nat.zero_le _,Km.refl _ _,R1,Gw.nil _ _ _,?_⟩
    unfold strP
    rw [hj]
   ·exact .inr ⟨e,he,Km.refl _ _,X⟩
 refine KE (KAG (lit:=[39]) R (by decide) (fun j h1 hj K1 R1=>main h1 K1 (.inl ⟨j,hj,R1⟩)) (fun e h1 hj K1 X1=>main h1 K1 (.inr ⟨e,?_,X1⟩)))
 unfold strP
 rw [hj]
theorem KMr {h:Heap} {Q:Array Value→Heap→Prop} {g:Nat} {z cs:Array Value} {t:TypeId} (hg:h[g]?=some (.cells z t (0,0))) (hz:z.size=4) (hc:cs.size=4) (h1:∀ v ∈ cs.toList,one v=true)
  (H:∀ h',Upd g h h'→Q cs h'):(M.need (cs.size=4)>>=fun _=>stG ⟨g,0,none⟩ cs>>=fun _=>ldG 4 ⟨g,0,none⟩>>=fun r=>(M.pure r:M (Array Value))).wp h Q:=by
 refine Z0 hc (stR hg (by omega) h1 (fun h' u g'=>?_))
 rw [K0 (by rw [Array.length_toList]; omega)] at g'
 exact ldR g' hc (KC (H _ u))
theorem KOa {β:Type} {h:Heap} {Q:β→Heap→Prop} {n:Int} {f:Array Value→M β} (H:∀ h',Ext h h'→(f (ZT 1 n [] Sl.nil)).wp h' Q):(Z9 n>>=f).wp h Q:=KN0 (cs:=ZT 1 n [] Sl.nil) rfl (JF _ _ _ _) H
theorem KMs {β:Type} {h:Heap} {Q:β→Heap→Prop} {s:List UInt8} {f:Array Value→M β} (H:∀ h',Ext h h'→(f (ZT 2 0 s Sl.nil)).wp h' Q):(JA (bs s)>>=f).wp h Q:=KN0 (cs:=ZT 2 0 s Sl.nil) rfl (JF _ _ _ _) H
theorem KEW {β:Type} {h:Heap} {Q:β→Heap→Prop} {c:Bool} {f:Array Value→M β} (H:∀ h',Ext h h'→(f (ZT 3 (if c=true then 1 else 0) [] Sl.nil)).wp h' Q):(Um c>>=f).wp h Q:=by
 unfold Um
 refine Ud (ZU (fun h1 e1 hs1 g1=>?_))
 have key:∀ n:Int,(∀ h',Ext h h'→(f (ZT 3 n [] Sl.nil)).wp h' Q)→((M.need ((ZT 3 n [] Sl.nil).size=4)>>=fun _=>stG ⟨h.size,0,none⟩ (ZT 3 n [] Sl.nil)>>=fun _=>ldG 4 ⟨h.size,0,none⟩>>=fun r=>(M.pure r:M (Array Value)))>>=f).wp h1 Q:=by
  intro n HH
  refine Ud (Z0 rfl (Ud (stR (cs:=vz) (vs:=ZT 3 n [] Sl.nil) g1 (Nat.le_refl 4) (JF _ _ _ _) (fun h2 u2 g2=>Ud ?_))))
  rw [K0 (cs:=vz) (vs:=(ZT 3 n [] Sl.nil).toList) rfl] at g2
  exact ldR g2 rfl (Jr (HH _ (e1.upd u2 (Nat.le_refl _))))
 refine KNQ (fun hc=>?_) (fun hc=>?_)
 ·subst hc; exact key 1 H
 ·subst hc; exact key 0 H
def KQ9 (s:List UInt8) (d:Nat):Prop:=∀ (i:Nat) (h:Heap) (Q:Array Value→Heap→Prop) (b:Nat),Rgd h b s i →
 (∀ v j h' c,pval s d i=.ok (v,j)→Kb b h h'→Rgd h' b s j→ZK (HS h h') h' v c→Q c h') →
 (∀ e v h' c,pval s d i=.error e→Kb b h h'→Rx h' b s e→ZK (HS h h') h' v c→Q c h')→(Zl (some ⟨b,0,none⟩) ((8 - d:Nat):Int)).wp h Q
def KN7 (two:Bool):List UInt8:=if two=true then [58,32] else [44,32]
theorem KMt {s:List UInt8} {d:Nat} (hd:d≤7) (IH:KQ9 s d) {en:UInt8} (hen:en≠0) (hen2:en≠44) {two:Bool} {i:Nat} {h:Heap} {Q:Sl→Heap→Prop} {b:Nat} (R:Rgd h b s (i+1)) (hi:i < s.length)
  (H1:∀ l j h' r,NV (pval s d) en two s (s.length - i) [] (i+1)=.ok (l,j)→Kb b h h'→Rgd h' b s j→VsRepS (HS h h') h' r l→Q r h')
  (H2:∀ e h',NV (pval s d) en two s (s.length - i) [] (i+1)=.error e→Kb b h h'→Rx h' b s e→Q Sl.nil h') :
  (VX (some ⟨b,0,none⟩) ((7 - d:Nat):Int) (bs (KN7 two)) (en.toNat:Int)).wp h Q:=by
 unfold VX
 have hP:=KJL s d
 have hb1:=R.lt
 generalize htgt:NV (pval s d) en two s (s.length - i) [] (i+1)=tgt at H1 H2
 refine KE (XH R ?_)
 rw [u8_c (d:=en) (n:=(en.toNat:Int)) rfl]
 obtain ⟨f0,hf0⟩:∃ f0,s.length - i=f0+1:=⟨s.length - i - 1,by omega⟩
 rw [hf0,NV] at htgt
 refine KP (fun heq=>?_) (fun hne=>?_)
 ·have heq:=of_decide_eq_true heq
  rw [if_pos heq] at htgt
  refine NW R (J2 (by rw [heq]; exact hen)) (fun h2 u2 R2=>KC ?_)
  exact H1 [] _ h2 Sl.nil htgt.symm (Km.upd u2 rfl) R2 ⟨rfl,Nat.le_refl _,by decide,by rw [Wr]; trivial⟩
 have hne:=of_decide_eq_false hne
 rw [if_neg hne] at htgt
 have hsep0:sepP ([]:List Vl) s (i+1)=.ok (i+1):=rfl
 rw [hsep0] at htgt
 let T (f:Nat) (l:List Vl) (i1:Nat):Except Nat (List Vl × Nat):=match Xf (pval s d) two s i1 with
  | .error e=>.error e
  | .ok (vs,i2)=>if KN s i2≠en∧KN s i2≠44 then .error i2 else NV (pval s d) en two s f (l++vs) i2
 let C (f:Nat) (l:List Vl) (i2:Nat):Except Nat (List Vl × Nat):=if KN s i2≠en∧KN s i2≠44 then .error i2 else NV (pval s d) en two s f l i2
 let B (f:Nat) (l:List Vl) (i1:Nat):Except Nat (List Vl × Nat):=match pval s d i1 with
  | .error e=>.error e
  | .ok (w,j)=>C f (l++[w]) j
 refine M.loop_inv (fun (x:Sl) hh=>(∃ (l:List Vl) (css:List (Array Value)) (f i':Nat),s.length < f+1+i'∧l.length≤i'∧Kb b h hh∧Rgd hh b s i'∧VGw h.size (fun k=>h.size≤k∧k < hh.size∧¬ Sl.on x k) hh x css l ∧
   ((two=false∧T f l i'=tgt)∨(two=true∧l.length % 2=0∧T f l i'=tgt)∨(two=true∧l.length % 2=1∧B f l i'=tgt)))∨∃ e,tgt=.error e∧Kb b h hh∧Rx hh b s e)
  (fun x hh=>match hh[b]? with | some (.cells #[_,_,.int _ z] _ _)=>if z < 0 then s.length+2 - x.len else 0 | _=>0) ?_ ?_
 ·rintro x hh hst self hself
  unfold Uf
  rcases hst with ⟨l,css,f,i',hf,hli,K,R',G,hm⟩ | ⟨e,he,K,X⟩
  ·have hsm:=R'.small
   have hle:=R'.le
   have hxl:x.len=l.length:=by rw [G.gw.len4 G.w4,G.len]
   have hKs:=K.size
   have hmu:(match hh[b]? with | some (.cells #[_,_,.int _ z] _ _)=>if z < 0 then s.length+2 - x.len else 0 | _=>0)=s.length+2 - x.len:=by rw [R'.blk]; rfl
   rw [hmu] at hself
   have bad:∀ (e:Nat) (h2:Heap) (x2:Sl),tgt=.error e→Kb b h h2→Rx h2 b s e→(self x2).wp h2 Q:=by
    intro e h2 x2 he K2 X2
    refine hself _ _ (.inr ⟨e,he,K2,X2⟩) ?_
    obtain ⟨k,_,_,g⟩:=X2
    rw [g]
    show (if ((e:Nat):Int) < 0 then s.length+2 - x2.len else 0) < _
    rw [if_neg (by omega)]
    omega
   refine ZD (KKx R' (iteT rfl ?_))
   rw [w64 (by omega) (by omega),show (((7 - d:Nat):Int)+1)=((8 - d:Nat):Int) by omega]
   have one_:∀ {F:Sl→M Sl},(∀ v j h3 x3 css3,pval s d i'=.ok (v,j)→Kb b h h3→Rgd h3 b s j→VGw h.size (fun k=>h.size≤k∧k < h3.size∧¬ Sl.on x3 k) h3 x3 css3 (l++[v])→(F x3).wp h3 Q) →
     (∀ e h3 x3,pval s d i'=.error e→Kb b h h3→Rx h3 b s e→x3.len=l.length+1→(F x3).wp h3 Q) →
     (WP Go.Proofs.Tryz.prog Zo #[.pointer (some ⟨b,0,none⟩),.int .i64 ((8 - d:Nat):Int)] (fun r:Array Value=>.agg r)>>=fun Xx24 =>
      (NY 4 1 (#[.int .i64 0,.int .i64 0,.string ByteArray.empty,.slice none 0 0]:Array Value) [(0,.agg Xx24)]>>=fun y=>bdL KB 1 y>>=fun z=>apL KB 4 56 (#[.int .i64 0,.int .i64 0,.string ByteArray.empty,.slice none 0 0]:Array Value) x z>>=F)).wp hh Q:=by
    intro F HF HE
    have put:∀ (v:Vl) (h3:Heap) (c:Array Value),Kb b hh h3→ZK (HS hh h3) h3 v c→(∀ h4 x4 css4,Kb b h h4→h4[b]?=h3[b]?→VGw h.size (fun k=>h.size≤k∧k < h4.size∧¬ Sl.on x4 k) h4 x4 css4 (l++[v])→(F x4).wp h4 Q) →
      (NY 4 1 (#[.int .i64 0,.int .i64 0,.string ByteArray.empty,.slice none 0 0]:Array Value) [(0,.agg c)]>>=fun y=>bdL KB 1 y>>=fun z=>apL KB 4 56 (#[.int .i64 0,.int .i64 0,.string ByteArray.empty,.slice none 0 0]:Array Value) x z>>=F).wp h3 Q:=by
     intro v h3 c K3 V3 hk
     have hK3:=K3.size
     have G3:VGw h.size (fun k=>h.size≤k∧k < h3.size∧¬ Sl.on x k) h3 x css l :=
      (G.same (fun k hk=>K3.same k (G.gw.lt hk).1 (fun e=>by have:=(G.gw.lt hk).2; omega)) (fun k hk=>K3.same k hk.2.1 (fun e=>by have:=hk.1; omega))).mono (fun k hk=>⟨hk.1,by have:=hk.2.1; omega,hk.2.2⟩)
     refine KMi G3 (fun k hk=>hk.2) (V3.mono (fun k hk=>⟨by have:=hk.1; omega,hk.2,fun ho=>by have:=(G.gw.lt ho).1; have:=hk.1; omega⟩)) (by omega) (by omega) (fun h4 x4 G4 hs4 same4 on4=>?_)
     refine hk h4 x4 _ ⟨by omega,fun k hk hkb=>(same4 k (by omega) (fun ho=>by have:=(G.gw.lt ho).2; omega)).trans ((K.trans K3).same k hk hkb)⟩ (same4 b (by omega) (fun ho=>by have:=(G.gw.lt ho).2; omega)) (G4.mono (fun k hk=>⟨hk.1,by have:=hk.2.1; omega,fun ho=>(on4 k ho).elim hk.2.2 (fun h=>by have:=hk.2.1; omega)⟩))
    refine KE (WX (WW _ _) (IH i' hh _ b R' (fun v j h3 c hv K3 R3 V3=>?_) (fun e v h3 c hv K3 X3 V3=>?_)))
    ·exact put v h3 c K3 V3 (fun h4 x4 css4 K4 hb4 G4=>HF v j h4 x4 css4 hv K4 ⟨by rw [hb4]; exact R3.blk,R3.le,R3.small⟩ G4)
    ·refine put v h3 c K3 V3 (fun h4 x4 css4 K4 hb4 G4=>?_)
     obtain ⟨q,q1,q2,q3⟩:=X3
     exact HE e h4 x4 hv K4 ⟨q,q1,q2,hb4.trans q3⟩ (by rw [G4.gw.len4 G4.w4,G4.len,List.length_append,List.length_singleton])
   have hev:sEq (bs (KN7 two)) (⟨#[44,32]⟩:ByteArray)=!two:=by
    rw [show (⟨#[44,32]⟩:ByteArray)=bs [44,32] from rfl,zy]
    cases two <;> decide
   rw [hev]
   have hmod:∀ k:Nat,(Int.tmod (k:Int) 2)=((k % 2:Nat):Int):=fun k=>(Int.ofNat_tmod k 2).symm
   have whole:∀ (l2:List Vl) (css2:List (Array Value)) (j:Nat) (h3:Heap) (x3:Sl),i' < j→l2.length=l.length+1→Kb b h h3→Rgd h3 b s j→VGw h.size (fun k=>h.size≤k∧k < h3.size∧¬ Sl.on x3 k) h3 x3 css2 l2→(two=true→l2.length % 2=0)→C f l2 j=tgt →
     (M.ite (decide (KN s j=en)) (nilP (some (⟨b,0,none⟩:Addr))>>=fun x50=>ldI .i64 ((x50).add 1)>>=fun x52=>nilP (some (⟨b,0,none⟩:Addr))>>=fun x54=>stV ((x54).add 1) (.int .i64 (IntKind.wrap .i64 (x52+1)))>>=fun _=>M.pure x3)
      (M.ite ((Int.tmod (x3.len:Int) 2) == 1) (KQ (some ⟨b,0,none⟩) (bs (KN7 two))>>=fun _=>self x3) (KQ (some ⟨b,0,none⟩) (⟨#[44,32]⟩:ByteArray)>>=fun _=>self x3)):M Sl).wp h3 Q:=by
    intro l2 css2 j h3 x3 hij hl2 K3 R3 G3 hpar hC
    have hj:=R3.le
    have hx3:x3.len=l2.length:=by rw [G3.gw.len4 G3.w4,G3.len]
    refine KP (fun heq=>?_) (fun hne=>?_)
    ·have heq:=of_decide_eq_true heq
     have hjl:j < s.length:=J2 (by rw [heq]; exact hen)
     obtain ⟨f',rfl⟩:∃ f',f=f'+1:=⟨f - 1,by omega⟩
     refine NW R3 hjl (fun h4 u4 R4=>KC ?_)
     have hu4:=u4.size
     have hC':tgt=.ok (l2,j+1):=by
      rw [← hC]
      show (if KN s j≠en∧KN s j≠44 then _ else _)=_
      rw [if_neg (fun hh=>hh.1 heq),NV,if_pos heq]
     have G4:=G3.same (fun k hk=>u4.ne k (fun e=>by have:=(G3.gw.lt hk).2; omega)) (fun k hk=>u4.ne k (fun e=>by have:=hk.1; omega))
     refine H1 l2 (j+1) h4 x3 hC' (K3.trans (Km.upd u4 rfl)) R4 ?_
     refine (G4.rep_ (by omega)).same (fun _ _=>rfl) (fun k hk=>?_)
     rcases hk with hk | hk
     ·exact ⟨by have:=hk.1; omega,by have:=hk.2.1; omega⟩
     ·have:=G4.gw.lt hk
      exact ⟨by omega,by omega⟩
    ·have hne:=of_decide_eq_false hne
     have hmust:(KQ (some ⟨b,0,none⟩) (bs [44,32])>>=fun _=>self x3).wp h3 Q:=by
      refine KE (KAG (lit:=[44,32]) R3 (by decide) (fun j2 h4 hj2 K4 R4=>?_) (fun e h4 hj2 K4 X4=>?_))
      ·have hj2':=WV hj2
       have h44:KN s j=44:=by
        rw [Xd] at hj2
        split at hj2
        ·rename_i hc
         unfold KN; rw [hc]; rfl
        ·cases hj2
       have hjl:j < s.length:=J2 (by rw [h44]; decide)
       obtain ⟨f',rfl⟩:∃ f',f=f'+1:=⟨f - 1,by omega⟩
       have hT:T f' l2 j2=tgt:=by
        rw [← hC]
        show _=(if KN s j≠en∧KN s j≠44 then _ else _)
        rw [if_neg (fun hh=>hh.2 h44),NV,if_neg hne]
        unfold sepP
        rw [if_neg (by omega),hj2]
        all_goals rfl
       have hK4:=K4.size
       have hK3:=K3.size
       have G4:VGw h.size (fun k=>h.size≤k∧k < h4.size∧¬ Sl.on x3 k) h4 x3 css2 l2 :=
        (G3.same (fun k hk=>K4.same k (G3.gw.lt hk).1 (fun e=>by have:=(G3.gw.lt hk).2; omega)) (fun k hk=>K4.same k hk.2.1 (fun e=>by have:=hk.1; omega))).mono (fun k hk=>⟨hk.1,by have:=hk.2.1; omega,hk.2.2⟩)
       have hj2l:j2=j+2:=hj2'.1
       refine hself _ _ (.inl ⟨l2,css2,f',j2,by omega,by omega,K3.trans K4,R4,G4,?_⟩) ?_
       ·cases two with
        | false=>exact .inl ⟨rfl,hT⟩
        | true=>exact .inr (.inl ⟨rfl,hpar rfl,hT⟩)
       ·rw [R4.blk]
        show (if (-1:Int) < 0 then s.length+2 - x3.len else 0) < _
        rw [if_pos (by decide)]
        omega
      ·refine bad e h4 x3 ?_ (K3.trans K4) X4
       rw [← hC]
       show (if KN s j≠en∧KN s j≠44 then _ else _)=_
       by_cases h44:KN s j=44
       ·have hjl:j < s.length:=J2 (by rw [h44]; decide)
        obtain ⟨f',rfl⟩:∃ f',f=f'+1:=⟨f - 1,by omega⟩
        rw [if_neg (fun hh=>hh.2 h44),NV,if_neg hne]
        unfold sepP
        rw [if_neg (by omega),hj2]
       ·rw [if_pos ⟨hne,h44⟩]
        rw [Xd,if_neg] at hj2
        ·cases hj2; rfl
        ·intro hc
         refine h44 ?_
         unfold KN; rw [hc]; rfl
     refine KP (fun hodd=>?_) (fun heven=>?_)
     ·rw [hx3,hmod] at hodd
      have hodd:((l2.length % 2:Nat):Int)=1:=by simpa using hodd
      cases two with
      | true=>have:=hpar rfl; omega
      | false=>exact hmust
     ·exact hmust
   have hbadmust:∀ (e:Nat) (h3:Heap) (x3:Sl),tgt=.error e→Kb b h h3→Rx h3 b s e→(M.ite ((Int.tmod (x3.len:Int) 2) == 1) (KQ (some ⟨b,0,none⟩) (bs (KN7 two))>>=fun _=>self x3) (KQ (some ⟨b,0,none⟩) (⟨#[44,32]⟩:ByteArray)>>=fun _=>self x3):M Sl).wp h3 Q:=by
    intro e h3 x3 he K3 X3
    refine KP (fun _=>?_) (fun _=>?_)
    ·cases two with
     | true=>exact KE (KHT (c:=58) (r:=[32]) X3 (by decide) (bad e h3 x3 he K3 X3))
     | false=>exact KE (KHT (c:=44) (r:=[32]) X3 (by decide) (bad e h3 x3 he K3 X3))
    ·exact KE (KHT (c:=44) (r:=[32]) X3 (by decide) (bad e h3 x3 he K3 X3))
   refine one_ (fun v j h3 x3 css3 hv K3 R3 G3=>?_) (fun e h3 x3 hv K3 X3 hx3=>?_)
   ·have hvj:=hP _ _ _ hv
    have hx3:x3.len=(l++[v]).length:=by rw [G3.gw.len4 G3.w4,G3.len]
    have hll:(l++[v]).length=l.length+1:=by simp
    rw [hx3,hmod]
    rcases hm with ⟨h2,hm⟩ | ⟨h2,hpar,hm⟩ | ⟨h2,hpar,hm⟩
    ·subst h2
     have hC:C f (l++[v]) j=tgt:=by
      rw [← hm]
      show _=(match Xf (pval s d) false s i' with | .error e=>_ | .ok (vs,i2)=>_)
      have hpair:Xf (pval s d) false s i'=.ok ([v],j):=by unfold Xf; rw [hv]; rfl
      rw [hpair]
     refine or_b (c:=false) (fun h=>by cases h) (U1 (c:=decide (KN s j=en)) (fun _ Q' hq=>KE (XH R3 (KC (by rw [u8_c (d:=en) (n:=(en.toNat:Int)) rfl]; exact hq)))) ?_)
     have:=whole _ _ j h3 x3 (by omega) hll K3 R3 G3 (fun h=>by cases h) hC
     rw [hx3,hmod] at this
     exact this
    ·subst h2
     refine or_b (c:=false) (fun _ Q' hq=>KC ?_) (U1 (c:=false) (fun h=>by cases h) (iteF rfl ?_))
     ·rw [show (((((l++[v]).length % 2:Nat)):Int) == 0)=false by rw [eqI]; exact decide_eq_false (by omega)]
      exact hq
     refine iteT (by rw [eqI]; exact decide_eq_true (by omega)) ?_
     refine KE (KAG (lit:=[58,32]) R3 (by decide) (fun j2 h4 hj2 K4 R4=>?_) (fun e h4 hj2 K4 X4=>?_))
     ·have hK4:=K4.size
      have hK3:=K3.size
      have G4:VGw h.size (fun k=>h.size≤k∧k < h4.size∧¬ Sl.on x3 k) h4 x3 css3 (l++[v]) :=
       (G3.same (fun k hk=>K4.same k (G3.gw.lt hk).1 (fun e=>by have:=(G3.gw.lt hk).2; omega)) (fun k hk=>K4.same k hk.2.1 (fun e=>by have:=hk.1; omega))).mono (fun k hk=>⟨hk.1,by have:=hk.2.1; omega,hk.2.2⟩)
      have hj2l:j2=j+2:=(WV hj2).1
      have hB:B f (l++[v]) j2=tgt:=by
       rw [← hm]
       show (match pval s d j2 with | .error e=>_ | .ok (w,j)=>_)=(match Xf (pval s d) true s i' with | .error e=>_ | .ok (vs,i2)=>_)
       unfold Xf
       rw [hv]
       dsimp only
       rw [if_pos rfl,hj2]
       dsimp only
       cases hw:pval s d j2 with
       | error e=>rfl
       | ok p =>
        obtain ⟨w,j3⟩:=p
        dsimp only
        show (if KN s j3≠en∧KN s j3≠44 then _ else _)=_
        rw [List.append_assoc]
        rfl
      refine hself _ _ (.inl ⟨l++[v],css3,f,j2,by omega,by omega,K3.trans K4,R4,G4,.inr (.inr ⟨rfl,by omega,hB⟩)⟩) ?_
      rw [R4.blk]
      show (if (-1:Int) < 0 then s.length+2 - x3.len else 0) < _
      rw [if_pos (by decide)]
      have:=R4.le
      omega
     ·refine bad e h4 x3 ?_ (K3.trans K4) X4
      rw [← hm]
      show (match Xf (pval s d) true s i' with | .error e=>_ | .ok (vs,i2)=>_)=_
      unfold Xf
      rw [hv]
      dsimp only
      rw [if_pos rfl,hj2]
    ·subst h2
     have hC:C f (l++[v]) j=tgt:=by
      rw [← hm]
      show _=(match pval s d i' with | .error e=>_ | .ok (w,j)=>_)
      rw [hv]
     refine or_b (c:=true) (fun _ Q' hq=>KC ?_) (U1 (c:=decide (KN s j=en)) (fun _ Q' hq=>KE (XH R3 (KC (by rw [u8_c (d:=en) (n:=(en.toNat:Int)) rfl]; exact hq)))) ?_)
     ·rw [show (((((l++[v]).length % 2:Nat)):Int) == 0)=true by rw [eqI]; exact decide_eq_true (by omega)]
      exact hq
     have:=whole _ _ j h3 x3 (by omega) hll K3 R3 G3 (fun _=>by omega) hC
     rw [hx3,hmod] at this
     exact this
   ·have herr:tgt=.error e:=by
     rcases hm with ⟨h2,hm⟩ | ⟨h2,hpar,hm⟩ | ⟨h2,hpar,hm⟩
     ·rw [← hm]
      show (match Xf (pval s d) two s i' with | .error e=>_ | .ok (vs,i2)=>_)=_
      unfold Xf
      rw [hv]
     ·rw [← hm]
      show (match Xf (pval s d) two s i' with | .error e=>_ | .ok (vs,i2)=>_)=_
      unfold Xf
      rw [hv]
     ·rw [← hm]
      show (match pval s d i' with | .error e=>_ | .ok (w,j)=>_)=_
      rw [hv]
    refine or_b (c:=((Int.tmod (x3.len:Int) 2) == 0)) (fun _ Q' hq=>KC hq) (U1 (c:=false) (fun _ Q' hq=>KE (KFW X3 (KC ?_))) ?_)
    ·rw [show ((0:Int) == (en.toNat:Int))=false by
      rw [eqI]
      refine decide_eq_false (fun e=>hen (UInt8.toNat_inj.1 ?_))
      show en.toNat=0
      omega]
     exact hq
    ·rw [Bool.and_false]
     exact iteF rfl (hbadmust e h3 x3 herr K3 X3)
  ·refine ZD (KJO X (iteF (decide_eq_false (by omega)) (KC ?_)))
   exact H2 e hh he K X
 ·refine .inl ⟨[],[],f0,i+1,by omega,Nat.zero_le _,Km.refl _ _,R,VGw.nil _ _ _,?_⟩
  cases two with
  | false=>exact .inl ⟨rfl,htgt⟩
  | true=>exact .inr (.inl ⟨rfl,rfl,htgt⟩)
end Gx
