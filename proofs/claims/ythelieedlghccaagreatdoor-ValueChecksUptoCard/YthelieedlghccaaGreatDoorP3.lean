/- Printed by program: Go functions as Lean programs, each tied to its code. No condition. -/
import Derived.Test.YthelieedlghccaaGreatDoorP0
import Derived.Test.YthelieedlghccaaGreatDoorP1
import Derived.Test.YthelieedlghccaaGreatDoorP2
set_option linter.unusedVariables false
set_option linter.unusedSimpArgs false
namespace Gx
open Go
set_option linter.unusedVariables false
set_option maxRecDepth 100000
def Jm (x0:Int) (x1:Int):M (ByteArray):=do
 let Xx3←NY Go.Proofs.Tryz.prog YR #[.int .i64 x0,.int .i64 x1] (fun r:ByteArray=>.string r)
 M.pure Xx3
theorem WQ (x0:Int) (x1:Int):ZK Go.Proofs.Tryz.prog 156 #[.int .i64 x0,.int .i64 x1] (fun (r:ByteArray)=>.string r) (Jm x0 x1):=by
 refine KY [(0,.int .i64 x0),(1,.int .i64 x1)] Go.Proofs.Tryz.func156 rfl rfl (Nat.le_of_ble_eq_true rfl) (Ke ⟨rfl,rfl,trivial⟩) (fun w0 w Q R a hret hE hR H=>?_)
 unfold Jm at H
 refine KH (fun K hK_1=>?_)
 refine KC ?_
 refine KB (v:=.string ByteArray.empty) rfl rfl hE rfl (KE hE rfl) (fun a hE=>?_)
 refine KG ?_
 refine hK_1 _ _ ?_
 refine KH (fun K hK_2=>?_)
 refine KC ?_
 refine KB (v:=.int .i64 x0) rfl rfl hE rfl (KD hE rfl) (fun a hE=>?_)
 refine KB (v:=.int .i64 x1) rfl rfl hE rfl (KD hE rfl) (fun a hE=>?_)
 refine KZ hE hR YS rfl (Ud) (M.unbind H) (fun Xx3 a w ea hR H=>?_)
 have hE:=Env.put_some hE rfl ea; clear ea
 refine KB (v:=.string Xx3) rfl rfl hE rfl (KE hE rfl) (fun a hE=>?_)
 refine KG ?_
 refine hK_2 _ _ ?_
 refine Kg ?_
 exact hret _ _ _ Xx3 _ hE hR (KM hE rfl (RV.tmp rfl RV.nil)) rfl H
def GK (x0:Int):M (ByteArray):=do
 let Xx3←Jm x0 10
 M.pure Xx3
theorem qm (x0:Int):ZK Go.Proofs.Tryz.prog 109 #[.int .i64 x0] (fun (r:ByteArray)=>.string r) (GK x0):=by
 refine KY [(0,.int .i64 x0)] Go.Proofs.Tryz.func109 rfl rfl (Nat.le_of_ble_eq_true rfl) (Ke ⟨rfl,trivial⟩) (fun w0 w Q R a hret hE hR H=>?_)
 unfold GK at H
 refine KH (fun K hK_1=>?_)
 refine KC ?_
 refine KB (v:=.string ByteArray.empty) rfl rfl hE rfl (KE hE rfl) (fun a hE=>?_)
 refine KG ?_
 refine hK_1 _ _ ?_
 refine KH (fun K hK_2=>?_)
 refine KC ?_
 refine KB (v:=.int .i64 x0) rfl rfl hE rfl (KD hE rfl) (fun a hE=>?_)
 refine KZ hE hR WC rfl (WQ x0 10) (M.unbind H) (fun Xx3 a w ea hR H=>?_)
 have hE:=Env.put_some hE rfl ea; clear ea
 refine KB (v:=.string Xx3) rfl rfl hE rfl (KE hE rfl) (fun a hE=>?_)
 refine KG ?_
 refine hK_2 _ _ ?_
 refine Kg ?_
 exact hret _ _ _ Xx3 _ hE hR (KM hE rfl (RV.tmp rfl RV.nil)) rfl H
def Kw (x0:Option Addr) (x1:ByteArray):M (Int × Value):=do
 let Xx3←Jh x0
 let Xx5←nilP x0
 let Xx6←ldL ((Xx5).add 1)
 let Xx7←apS Zi Xx6 x1
 let Xx8←nilP x0
 stV ((Xx8).add 1) ((Xx7:Sl).v)
 M.pure ((x1.size:Int),Value.nilIface)
theorem Zk (x0:Option Addr) (x1:ByteArray):ZK Go.Proofs.Tryz.prog 95 #[.pointer x0,.string x1] (fun (r:Int × Value)=>.tuple #[.int .i64 r.1,r.2]) (Kw x0 x1):=by
 refine KY [(0,.pointer x0),(1,.string x1)] Go.Proofs.Tryz.func95 rfl rfl (Nat.le_of_ble_eq_true rfl) (Ke ⟨rfl,rfl,trivial⟩) (fun w0 w Q R a hret hE hR H=>?_)
 unfold Kw at H
 refine KH (fun K hK_1=>?_)
 refine KC ?_
 refine KB (v:=.int .i64 0) rfl rfl hE rfl (KE hE rfl) (fun a hE=>?_)
 refine KB (v:=Value.nilIface) rfl rfl hE rfl (KE hE rfl) (fun a hE=>?_)
 refine KG ?_
 refine hK_1 _ _ ?_
 refine KH (fun K hK_2=>?_)
 refine KC ?_
 refine KB (v:=.pointer x0) rfl rfl hE rfl (KD hE rfl) (fun a hE=>?_)
 refine KZ hE hR UY rfl (Ug x0) (M.unbind H) (fun Xx3 a w ea hR H=>?_)
 have hE:=Env.put_some hE rfl ea; clear ea
 refine KG ?_
 refine hK_2 _ _ ?_
 refine KH (fun K hK_4=>?_)
 refine KC ?_
 refine KB (v:=.pointer x0) rfl rfl hE rfl (KD hE rfl) (fun a hE=>?_)
 refine KB (v:=.pointer x0) rfl rfl hE rfl (KD hE rfl) (fun a hE=>?_)
 obtain ⟨Xx5,qXx5,H⟩:=H
 refine KB (v:=.pointer (some Xx5)) rfl rfl hE rfl (KW hE (Jg rfl (congrArg Value.pointer qXx5))) (fun a hE=>?_)
 refine KB (v:=.pointer (some ((Xx5).add 1))) rfl rfl hE rfl (KI hE rfl YY) (fun a hE=>?_)
 obtain ⟨Xx6,qXx6,H⟩:=H
 refine KB (v:=(Xx6:Sl).v) rfl rfl hE rfl (KU hE rfl sc35 qXx6) (fun a hE=>?_)
 refine KB (v:=.string x1) rfl rfl hE rfl (KD hE rfl) (fun a hE=>?_)
 refine t_ex (fun Xx7=>(Xx7:Sl).v) rfl rfl hR (M.unbind H) (fun Q H=>KHV hE rfl rfl ap35 un9 H) (fun Xx7 a w ea hR H=>?_)
 have hE:=Env.put_some hE rfl ea; clear ea
 obtain ⟨Xx8,qXx8,H⟩:=H
 refine KB (v:=.pointer (some Xx8)) rfl rfl hE rfl (KW hE (Jg rfl (congrArg Value.pointer qXx8))) (fun a hE=>?_)
 refine KB (v:=.pointer (some ((Xx8).add 1))) rfl rfl hE rfl (KI hE rfl YY) (fun a hE=>?_)
 obtain ⟨u_9,qu_9,H⟩:=H
 refine JI rfl rfl hE hR (JK hE rfl rfl sz35 qu_9) (fun a w hE hR hh=>?_)
 replace H:=M.at hh H; clear hh
 refine KG ?_
 refine hK_4 _ _ ?_
 refine KH (fun K hK_10=>?_)
 refine KC ?_
 refine KB (v:=.string x1) rfl rfl hE rfl (KD hE rfl) (fun a hE=>?_)
 refine KB (v:=.int .i64 (x1.size:Int)) rfl rfl hE rfl (U3 hE rfl un9) (fun a hE=>?_)
 refine KB (v:=.int .i64 (x1.size:Int)) rfl rfl hE rfl (KE hE rfl) (fun a hE=>?_)
 refine KB (v:=Value.nilIface) rfl rfl hE rfl (KE hE rfl) (fun a hE=>?_)
 refine KG ?_
 refine hK_10 _ _ ?_
 refine Kg ?_
 exact hret _ _ _ ((x1.size:Int),Value.nilIface) _ hE hR (KM hE rfl (RV.tmp rfl (RV.tmp rfl RV.nil))) rfl H
def ZH (x0:Option Addr) (x1:Int):M (Value):=do
 let Xx3←Jh x0
 let Xx5←nilP x0
 let Xx6←ldL ((Xx5).add 1)
 let Xx7←bdL Zi 1 #[.int .u8 x1]
 let Xx8←apL Zi 1 1 (#[.int .u8 0]:Array Value) Xx6 Xx7
 let Xx9←nilP x0
 stV ((Xx9).add 1) ((Xx8:Sl).v)
 M.pure Value.nilIface
theorem JP (x0:Option Addr) (x1:Int):ZK Go.Proofs.Tryz.prog 96 #[.pointer x0,.int .u8 x1] (fun (r:Value)=>r) (ZH x0 x1):=by
 refine KY [(0,.pointer x0),(1,.int .u8 x1)] Go.Proofs.Tryz.func96 rfl rfl (Nat.le_of_ble_eq_true rfl) (Ke ⟨rfl,rfl,trivial⟩) (fun w0 w Q R a hret hE hR H=>?_)
 unfold ZH at H
 refine KH (fun K hK_1=>?_)
 refine KC ?_
 refine KB (v:=Value.nilIface) rfl rfl hE rfl (KE hE rfl) (fun a hE=>?_)
 refine KG ?_
 refine hK_1 _ _ ?_
 refine KH (fun K hK_2=>?_)
 refine KC ?_
 refine KB (v:=.pointer x0) rfl rfl hE rfl (KD hE rfl) (fun a hE=>?_)
 refine KZ hE hR UY rfl (Ug x0) (M.unbind H) (fun Xx3 a w ea hR H=>?_)
 have hE:=Env.put_some hE rfl ea; clear ea
 refine KG ?_
 refine hK_2 _ _ ?_
 refine KH (fun K hK_4=>?_)
 refine KC ?_
 refine KB (v:=.pointer x0) rfl rfl hE rfl (KD hE rfl) (fun a hE=>?_)
 refine KB (v:=.pointer x0) rfl rfl hE rfl (KD hE rfl) (fun a hE=>?_)
 obtain ⟨Xx5,qXx5,H⟩:=H
 refine KB (v:=.pointer (some Xx5)) rfl rfl hE rfl (KW hE (Jg rfl (congrArg Value.pointer qXx5))) (fun a hE=>?_)
 refine KB (v:=.pointer (some ((Xx5).add 1))) rfl rfl hE rfl (KI hE rfl YY) (fun a hE=>?_)
 obtain ⟨Xx6,qXx6,H⟩:=H
 refine KB (v:=(Xx6:Sl).v) rfl rfl hE rfl (KU hE rfl sc35 qXx6) (fun a hE=>?_)
 refine KB (v:=.int .u8 x1) rfl rfl hE rfl (KD hE rfl) (fun a hE=>?_)
 obtain ⟨Xx7,qXx7,H⟩:=H
 refine ZR (v:=(Xx7:Sl).v) rfl rfl hE rfl hR (YE (cells:=#[.int .u8 x1]) hE rfl un35 sz5 zr5 rfl rfl qXx7) (fun a w hE hR hh=>?_)
 replace H:=M.at hh H; clear hh
 refine t_ex (fun Xx8=>(Xx8:Sl).v) rfl rfl hR (M.unbind H) (fun Q H=>Xm hE rfl rfl ap35 H) (fun Xx8 a w ea hR H=>?_)
 have hE:=Env.put_some hE rfl ea; clear ea
 obtain ⟨Xx9,qXx9,H⟩:=H
 refine KB (v:=.pointer (some Xx9)) rfl rfl hE rfl (KW hE (Jg rfl (congrArg Value.pointer qXx9))) (fun a hE=>?_)
 refine KB (v:=.pointer (some ((Xx9).add 1))) rfl rfl hE rfl (KI hE rfl YY) (fun a hE=>?_)
 obtain ⟨u_10,qu_10,H⟩:=H
 refine JI rfl rfl hE hR (JK hE rfl rfl sz35 qu_10) (fun a w hE hR hh=>?_)
 replace H:=M.at hh H; clear hh
 refine KG ?_
 refine hK_4 _ _ ?_
 refine KH (fun K hK_11=>?_)
 refine KC ?_
 refine KB (v:=Value.nilIface) rfl rfl hE rfl (KE hE rfl) (fun a hE=>?_)
 refine KG ?_
 refine hK_11 _ _ ?_
 refine Kg ?_
 exact hret _ _ _ Value.nilIface _ hE hR (KM hE rfl (RV.tmp rfl RV.nil)) rfl H
theorem KIi:Vg Go.Proofs.Tryz.f97 1 [[],[0],[1],[2],[3],[],[5],[6],[7],[8],[4,9],[10,0,1,2,3,4,5,6,7,8,9,10]] [[],[0],[1],[2],[3],[],[5],[6],[7],[8],[4,9],[10]] [[],[0],[0,1],[0,1,2],[0,1,2,3],[],[5],[5,6],[5,6,7],[5,6,7,8],[0,1,2,3,4,5,6,7,8,9],[0,1,2,3,4,5,6,7,8,9,10]]=true:=by kernel_rfl
def Jc (x0:Option Addr):M (ByteArray):=do
 let Xx3←nilP x0
 let Xx4←nilP x0
 let Xx5←ldL ((Xx3).add 1)
 let Xx6←ldL ((Xx4).add 1)
 let Xx7←uSD Xx5
 let Xx8←uStr Zi Xx7 (Xx6.len:Int)
 M.pure Xx8
theorem WW (x0:Option Addr):ZK Go.Proofs.Tryz.prog 97 #[.pointer x0] (fun (r:ByteArray)=>.string r) (Jc x0):=by
 refine KY [(0,.pointer x0)] Go.Proofs.Tryz.func97 rfl rfl (Nat.le_of_ble_eq_true rfl) (Ke ⟨rfl,trivial⟩) (fun w0 w Q R a hret hE hR H=>?_)
 unfold Jc at H
 refine KH (fun K hK_1=>?_)
 refine KC ?_
 refine KB (v:=.string ByteArray.empty) rfl rfl hE rfl (KE hE rfl) (fun a hE=>?_)
 refine KG ?_
 refine hK_1 _ _ ?_
 refine KH (fun K hK_2=>?_)
 obtain ⟨Xx3,qXx3,H⟩:=H
 obtain ⟨Xx4,qXx4,H⟩:=H
 obtain ⟨Xx5,qXx5,H⟩:=H
 obtain ⟨Xx6,qXx6,H⟩:=H
 have hT:=Jf KIi rfl rfl
 refine Zq (fun w:World=>(fun h:Heap=>(KV h ((Xx3).add 1)=some ((Xx5:Sl).v))∧(KV h ((Xx4).add 1)=some ((Xx6:Sl).v))) w.heap) [10,11] #[false,false,false,false,false,false,false,false,false,false,false,false] mo hR rfl rfl (fun w' e=>by rw [e]; exact ⟨qXx5,qXx6⟩) (fun w hh hR hs=>?_)
 replace H:=M.at hh H; clear hh
 refine KF (i:=0) (v:=.pointer x0) #[true,false,false,false,false,false,false,false,false,false,false,false] rfl rfl hT (by kernel_rfl) hE rfl (KA rfl) (fun w=>KD hE rfl) (fun a hE=>?_)
 refine KF (i:=1) (v:=.pointer (some Xx3)) #[true,true,false,false,false,false,false,false,false,false,false,false] rfl rfl hT (by kernel_rfl) hE rfl (KA rfl) (fun w=>KW hE (Jg rfl (congrArg Value.pointer qXx3))) (fun a hE=>?_)
 refine KF (i:=2) (v:=.pointer (some ((Xx3).add 1))) #[true,true,true,false,false,false,false,false,false,false,false,false] rfl rfl hT (by kernel_rfl) hE rfl (KA rfl) (fun w=>KI hE rfl YY) (fun a hE=>?_)
 refine KF (i:=5) (v:=.pointer x0) #[true,true,true,false,false,true,false,false,false,false,false,false] rfl rfl hT (by kernel_rfl) hE rfl (KA rfl) (fun w=>KD hE rfl) (fun a hE=>?_)
 refine KF (i:=6) (v:=.pointer (some Xx4)) #[true,true,true,false,false,true,true,false,false,false,false,false] rfl rfl hT (by kernel_rfl) hE rfl (KA rfl) (fun w=>KW hE (Jg rfl (congrArg Value.pointer qXx4))) (fun a hE=>?_)
 refine KF (i:=7) (v:=.pointer (some ((Xx4).add 1))) #[true,true,true,false,false,true,true,true,false,false,false,false] rfl rfl hT (by kernel_rfl) hE rfl (KA rfl) (fun w=>KI hE rfl YY) (fun a hE=>?_)
 refine Kt (i:=3) (v:=(Xx5:Sl).v) #[true,true,true,true,false,true,true,true,false,false,false,false] rfl rfl hT (by kernel_rfl) hE rfl (KA rfl) hs (fun w s=>KU hE rfl sc35 s.1) (fun a hE=>?_)
 refine Kt (i:=8) (v:=(Xx6:Sl).v) #[true,true,true,true,false,true,true,true,true,false,false,false] rfl rfl hT (by kernel_rfl) hE rfl (KA rfl) hs (fun w s=>KU hE rfl sc35 s.2) (fun a hE=>?_)
 refine KF (i:=9) (v:=.int .i64 (Xx6.len:Int)) #[true,true,true,true,false,true,true,true,true,true,false,false] rfl rfl hT (by kernel_rfl) hE rfl (KA rfl) (fun w=>UA hE rfl 5 un35) (fun a hE=>?_)
 obtain ⟨Xx7,qXx7,H⟩:=H
 refine KJI (i:=4) (v:=.pointer Xx7) #[true,true,true,true,true,true,true,true,true,true,false,false] rfl rfl hT (by kernel_rfl) rfl hE hR rfl (KA rfl) (KJO hE rfl qXx7) ⟨rfl,rfl,rfl,Nat.le_refl _⟩ (fun w' e=>by rw [e]; exact hs) (fun a w hE hR hh hs=>?_)
 replace H:=M.at hh H; clear hh
 refine KHO (i:=10) (fun Xx8=>.string Xx8) #[true,true,true,true,true,true,true,true,true,true,true,false] rfl rfl hT (by kernel_rfl) rfl hR (KA rfl) (M.unbind H) (fun Q H=>KCq hE rfl rfl KIe co5 H) (fun Xx8 a w ea hR H=>?_)
 have hE:=Env.put_some hE rfl ea; clear ea
 refine KF (i:=11) (v:=.string Xx8) #[true,true,true,true,true,true,true,true,true,true,true,true] rfl rfl hT (by kernel_rfl) hE rfl (KA rfl) (fun w=>KE hE rfl) (fun a hE=>?_)
 refine JM hT (by kernel_rfl) ?_
 refine hK_2 _ _ ?_
 refine Kg ?_
 exact hret _ _ _ Xx8 _ hE hR (KM hE rfl (RV.tmp rfl RV.nil)) rfl H
def Uy (self1:(Int)→M (ByteArray)) (C19:Int):M (ByteArray):=do
 self1 (IntKind.wrap .i64 (C19+1))
def YF (C10:Addr) (C11:Sl) (C12:Int) (self1:(Int)→M (ByteArray)):(Int)→M (ByteArray):=fun s=>match s with
 | Xx9=>do
  M.ite (decide (Xx9 < C12)) (do
   let Xx21←ixL C11 Xx9 1
   let Xx22←ldI .u8 Xx21
   let Xx24←M.ite (decide (Xx22 < 32)) (do
    M.pure true
    ) (do
    M.pure (decide (Xx22 > 126))
    )
   M.ite Xx24 (do
    let Xx26←Kw (some C10) (⟨#[92,120]⟩:ByteArray)
    let Xx28←Jm (IntKind.wrap .i64 (iShr .u8 Xx22 4)) 16
    let Xx29←Kw (some C10) Xx28
    let Xx30←Jm (IntKind.wrap .i64 (iAnd .u8 Xx22 15)) 16
    let Xx31←Kw (some C10) Xx30
    Uy self1 Xx9
    ) (do
    let Xx33←M.ite (Xx22 == 39) (do
     M.pure true
     ) (do
     M.pure (Xx22 == 92)
     )
    M.ite Xx33 (do
     let Xx35←ZH (some C10) 92
     let Xx36←ZH (some C10) Xx22
     Uy self1 Xx9
     ) (do
     let Xx37←ZH (some C10) Xx22
     Uy self1 Xx9
     )
    )
   ) (do
   let Xx39←ZH (some C10) 39
   let Xx41←Jc (some C10)
   M.pure Xx41
   )
def XA (x0:ByteArray):M (ByteArray):=do
 let Xx3←mkB Jw (#[.pointer none,.slice none 0 0]:Array Value)
 let Xx5←ZH (some Xx3) 39
 let Xx8←s2b Zi x0
 M.loop (YF Xx3 Xx8 (Xx8.len:Int)) 0
theorem KBK (x0:ByteArray):ZK Go.Proofs.Tryz.prog 133 #[.string x0] (fun (r:ByteArray)=>.string r) (XA x0):=by
 refine KY [(0,.string x0)] Go.Proofs.Tryz.func133 rfl rfl (Nat.le_of_ble_eq_true rfl) (Ke ⟨rfl,trivial⟩) (fun w0 w Q R a hret hE hR H=>?_)
 unfold XA at H
 refine KH (fun K hK_1=>?_)
 refine KC ?_
 refine KB (v:=.string ByteArray.empty) rfl rfl hE rfl (KE hE rfl) (fun a hE=>?_)
 refine KG ?_
 refine hK_1 _ _ ?_
 refine KH (fun K hK_2=>?_)
 refine KC ?_
 obtain ⟨Xx3,qXx3,H⟩:=H
 refine ZR (v:=.pointer (some Xx3)) rfl rfl hE rfl hR (Z4 KIf qXx3) (fun a w hE hR hh=>?_)
 replace H:=M.at hh H; clear hh
 refine KG ?_
 refine hK_2 _ _ ?_
 refine KH (fun K hK_4=>?_)
 refine KC ?_
 refine KZ hE hR JJ rfl (JP (some Xx3) 39) (M.unbind H) (fun Xx5 a w ea hR H=>?_)
 have hE:=Env.put_some hE rfl ea; clear ea
 refine KG ?_
 refine hK_4 _ _ ?_
 refine KH (fun K hK_6=>?_)
 refine KH (fun K hK_7=>?_)
 refine KC ?_
 refine KB (v:=.string x0) rfl rfl hE rfl (KD hE rfl) (fun a hE=>?_)
 refine t_ex (fun Xx8=>(Xx8:Sl).v) rfl rfl hR (M.unbind H) (fun Q H=>KEH hE rfl un9 un35 un5 H) (fun Xx8 a w ea hR H=>?_)
 have hE:=Env.put_some hE rfl ea; clear ea
 refine KB (v:=.int .i64 (Xx8.len:Int)) rfl rfl hE rfl (UA hE rfl 5 un35) (fun a hE=>?_)
 refine KB (v:=.int .i64 0) rfl rfl hE rfl (KD hE rfl) (fun a hE=>?_)
 refine KG ?_
 refine hK_7 _ _ ?_
 refine Kj ?_
 refine J7 (fun (s:Int)=>(⟨47,[]⟩:Frm)) (fun (s:Int)=>[(3,.pointer (some Xx3)),(8,(Xx8:Sl).v),(9,.int .i64 (Xx8.len:Int)),(10,.int .i64 s)]) H (hE.cut (.cons rfl (.cons rfl (.cons rfl (.cons rfl Subs.nil))))) hR (fun Y self1 hY_13 Xx9 a w hE hR H=>?_)
 replace hE:Env (⟨47,[]⟩:Frm) a [(3,.pointer (some Xx3)),(8,(Xx8:Sl).v),(9,.int .i64 (Xx8.len:Int)),(10,.int .i64 Xx9)]:=hE
 replace H:(YF Xx3 Xx8 (Xx8.len:Int) self1 Xx9).wp w.heap Q:=H
 unfold YF at H
 refine KH (fun K hK_14=>?_)
 refine KC ?_
 refine KB (v:=.bool (decide (Xx9 < (Xx8.len:Int)))) rfl rfl hE rfl (KL hE rfl rfl KN JL) (fun a hE=>?_)
 refine KG ?_
 refine hK_14 _ _ ?_
 refine KH (fun K hK_15=>?_)
 refine KS (decide (Xx9 < (Xx8.len:Int))) hE rfl (fun hb=>?_) (fun hb=>?_)
 ·replace H:=M.ite_t hb H
  refine Ka ?_
  refine hK_15 _ _ ?_
  refine Ku (fun a w=>Env (⟨47,[]⟩:Frm) a [(3,.pointer (some Xx3)),(8,(Xx8:Sl).v),(9,.int .i64 (Xx8.len:Int)),(10,.int .i64 Xx9)]∧Rest w0 w∧(Uy self1 Xx9).wp w.heap Q) ?_ ?_
  ·rintro a w ⟨hE,hR,H⟩
   unfold Uy at H
   refine KC ?_
   refine KB (v:=.int .i64 (IntKind.wrap .i64 (Xx9+1))) rfl rfl hE rfl (KL hE rfl rfl KN JE) (fun a hE=>?_)
   refine KB (v:=.int .i64 (IntKind.wrap .i64 (Xx9+1))) rfl rfl hE rfl (KD hE rfl) (fun a hE=>?_)
   refine KG ?_
   exact hY_13 (IntKind.wrap .i64 (Xx9+1)) _ _ (hE.cut (.cons rfl (.cons rfl (.cons rfl (.cons rfl Subs.nil))))) hR H
  ·skip
   refine Kj ?_
   refine KH (fun K hK_20=>?_)
   refine KC ?_
   obtain ⟨Xx21,qXx21,H⟩:=H
   refine KB (v:=.pointer (some Xx21)) rfl rfl hE rfl (KR hE rfl rfl un35 sz5 qXx21) (fun a hE=>?_)
   obtain ⟨Xx22,qXx22,H⟩:=H
   refine KB (v:=.int .u8 Xx22) rfl rfl hE rfl (KU hE rfl sc5 qXx22) (fun a hE=>?_)
   refine KB (v:=.int .u8 Xx22) rfl rfl hE rfl (KE hE rfl) (fun a hE=>?_)
   refine KG ?_
   refine hK_20 _ _ ?_
   refine Kj ?_
   refine KH (fun K hK_23=>?_)
   refine KC ?_
   refine KB (v:=.int .u8 Xx22) rfl rfl hE rfl (KD hE rfl) (fun a hE=>?_)
   refine KB (v:=.bool (decide (Xx22 < 32))) rfl rfl hE rfl (KL hE rfl rfl KN JL) (fun a hE=>?_)
   refine KB (v:=.bool (decide (Xx22 < 32))) rfl rfl hE rfl (KD hE rfl) (fun a hE=>?_)
   refine J5 (n:=(⟨47,[]⟩:Frm)) (w0:=w0) 3 (fun Xx24:Bool=>[(3,.pointer (some Xx3)),(8,(Xx8:Sl).v),(9,.int .i64 (Xx8.len:Int)),(10,.int .i64 Xx9),(5,.int .u8 Xx22),(22,.bool Xx24)]) (M.unbind H) (fun Kr hKr H=>?_) ?_
   ·rcases Kq (decide (Xx22 < 32)) with hb | hb
    ·replace H:=M.ite_t hb H
     have hE:=hE.reb 19 (decide (Xx22 < 32)) true hb rfl
     refine Kf rfl hE rfl rfl rfl (fun a ea=>?_)
     have hE:=Env.put_some hE rfl ea; clear ea
     refine Kf rfl hE rfl rfl rfl (fun a ea=>?_)
     have hE:=Env.put_some hE rfl ea; clear ea
     refine KB rfl rfl hE rfl (Kc hE rfl rfl) (fun a hE=>?_)
     refine KG ?_
     exact hKr _ _ _ (hE.cut (.cons rfl (.cons rfl (.cons rfl (.cons rfl (.cons rfl (.cons rfl Subs.nil))))))) hR H
    ·replace H:=M.ite_f hb H
     have hE:=hE.reb 19 (decide (Xx22 < 32)) false hb rfl
     refine t_on rfl hE rfl rfl rfl ?_
     refine KB (v:=.int .u8 Xx22) rfl rfl hE rfl (KD hE rfl) (fun a hE=>?_)
     refine t_on rfl hE rfl rfl rfl ?_
     refine KB (v:=.bool (decide (Xx22 > 126))) rfl rfl hE rfl (KL hE rfl rfl KN YI) (fun a hE=>?_)
     refine KB rfl rfl hE rfl (Kd hE rfl rfl) (fun a hE=>?_)
     refine KG ?_
     exact hKr _ _ _ (hE.cut (.cons rfl (.cons rfl (.cons rfl (.cons rfl (.cons rfl (.cons rfl Subs.nil))))))) hR H
   ·intro Xx24 a w hE hR H
    refine KB (v:=.bool Xx24) rfl rfl hE rfl (KE hE rfl) (fun a hE=>?_)
    refine KG ?_
    refine hK_23 _ _ ?_
    refine KS Xx24 hE rfl (fun hb=>?_) (fun hb=>?_)
    ·replace H:=M.ite_t hb H
     refine KH (fun K hK_25=>?_)
     refine KC ?_
     refine KZ hE hR Zf rfl (Zk (some Xx3) (⟨#[92,120]⟩:ByteArray)) (M.unbind H) (fun Xx26 a w ea hR H=>?_)
     have hE:=Env.put_some hE rfl ea; clear ea
     refine KG ?_
     refine hK_25 _ _ ?_
     refine KH (fun K hK_27=>?_)
     refine KC ?_
     refine KB (v:=.int .u8 Xx22) rfl rfl hE rfl (KD hE rfl) (fun a hE=>?_)
     refine KB (v:=.int .u8 (iShr .u8 Xx22 4)) rfl rfl hE rfl (KL hE rfl rfl KN (zX ⟨by decide,rfl⟩)) (fun a hE=>?_)
     refine KB (v:=.int .i64 (IntKind.wrap .i64 (iShr .u8 Xx22 4))) rfl rfl hE rfl (Ue hE rfl un5 un2) (fun a hE=>?_)
     refine KZ hE hR WC rfl (WQ (IntKind.wrap .i64 (iShr .u8 Xx22 4)) 16) (M.unbind H) (fun Xx28 a w ea hR H=>?_)
     have hE:=Env.put_some hE rfl ea; clear ea
     refine KZ hE hR Zf rfl (Zk (some Xx3) Xx28) (M.unbind H) (fun Xx29 a w ea hR H=>?_)
     have hE:=Env.put_some hE rfl ea; clear ea
     refine KG ?_
     refine hK_27 _ _ ?_
     refine KC ?_
     refine KB (v:=.int .u8 Xx22) rfl rfl hE rfl (KD hE rfl) (fun a hE=>?_)
     refine KB (v:=.int .u8 (iAnd .u8 Xx22 15)) rfl rfl hE rfl (KL hE rfl rfl KN KFr) (fun a hE=>?_)
     refine KB (v:=.int .i64 (IntKind.wrap .i64 (iAnd .u8 Xx22 15))) rfl rfl hE rfl (Ue hE rfl un5 un2) (fun a hE=>?_)
     refine KZ hE hR WC rfl (WQ (IntKind.wrap .i64 (iAnd .u8 Xx22 15)) 16) (M.unbind H) (fun Xx30 a w ea hR H=>?_)
     have hE:=Env.put_some hE rfl ea; clear ea
     refine KZ hE hR Zf rfl (Zk (some Xx3) Xx30) (M.unbind H) (fun Xx31 a w ea hR H=>?_)
     have hE:=Env.put_some hE rfl ea; clear ea
     refine KG ?_
     exact ⟨hE.cut (.cons rfl (.cons rfl (.cons rfl (.cons rfl Subs.nil)))),hR,H⟩
    ·replace H:=M.ite_f hb H
     refine KH (fun K hK_32=>?_)
     refine KC ?_
     refine KB (v:=.int .u8 Xx22) rfl rfl hE rfl (KD hE rfl) (fun a hE=>?_)
     refine KB (v:=.bool (Xx22 == 39)) rfl rfl hE rfl (KL hE rfl rfl KN Z5) (fun a hE=>?_)
     refine KB (v:=.bool (Xx22 == 39)) rfl rfl hE rfl (KD hE rfl) (fun a hE=>?_)
     refine J5 (n:=(⟨47,[]⟩:Frm)) (w0:=w0) 3 (fun Xx33:Bool=>[(3,.pointer (some Xx3)),(8,(Xx8:Sl).v),(9,.int .i64 (Xx8.len:Int)),(10,.int .i64 Xx9),(5,.int .u8 Xx22),(40,.bool Xx33)]) (M.unbind H) (fun Kr hKr H=>?_) ?_
     ·rcases Kq (Xx22 == 39) with hb | hb
      ·replace H:=M.ite_t hb H
       have hE:=hE.reb 37 (Xx22 == 39) true hb rfl
       refine Kf rfl hE rfl rfl rfl (fun a ea=>?_)
       have hE:=Env.put_some hE rfl ea; clear ea
       refine Kf rfl hE rfl rfl rfl (fun a ea=>?_)
       have hE:=Env.put_some hE rfl ea; clear ea
       refine KB rfl rfl hE rfl (Kc hE rfl rfl) (fun a hE=>?_)
       refine KG ?_
       exact hKr _ _ _ (hE.cut (.cons rfl (.cons rfl (.cons rfl (.cons rfl (.cons rfl (.cons rfl Subs.nil))))))) hR H
      ·replace H:=M.ite_f hb H
       have hE:=hE.reb 37 (Xx22 == 39) false hb rfl
       refine t_on rfl hE rfl rfl rfl ?_
       refine KB (v:=.int .u8 Xx22) rfl rfl hE rfl (KD hE rfl) (fun a hE=>?_)
       refine t_on rfl hE rfl rfl rfl ?_
       refine KB (v:=.bool (Xx22 == 92)) rfl rfl hE rfl (KL hE rfl rfl KN Z5) (fun a hE=>?_)
       refine KB rfl rfl hE rfl (Kd hE rfl rfl) (fun a hE=>?_)
       refine KG ?_
       exact hKr _ _ _ (hE.cut (.cons rfl (.cons rfl (.cons rfl (.cons rfl (.cons rfl (.cons rfl Subs.nil))))))) hR H
     ·intro Xx33 a w hE hR H
      refine KB (v:=.bool Xx33) rfl rfl hE rfl (KE hE rfl) (fun a hE=>?_)
      refine KG ?_
      refine hK_32 _ _ ?_
      refine KS Xx33 hE rfl (fun hb=>?_) (fun hb=>?_)
      ·replace H:=M.ite_t hb H
       refine KH (fun K hK_34=>?_)
       refine KC ?_
       refine KZ hE hR JJ rfl (JP (some Xx3) 92) (M.unbind H) (fun Xx35 a w ea hR H=>?_)
       have hE:=Env.put_some hE rfl ea; clear ea
       refine KG ?_
       refine hK_34 _ _ ?_
       refine KC ?_
       refine KB (v:=.int .u8 Xx22) rfl rfl hE rfl (KD hE rfl) (fun a hE=>?_)
       refine KZ hE hR JJ rfl (JP (some Xx3) Xx22) (M.unbind H) (fun Xx36 a w ea hR H=>?_)
       have hE:=Env.put_some hE rfl ea; clear ea
       refine KG ?_
       exact ⟨hE.cut (.cons rfl (.cons rfl (.cons rfl (.cons rfl Subs.nil)))),hR,H⟩
      ·replace H:=M.ite_f hb H
       refine KC ?_
       refine KB (v:=.int .u8 Xx22) rfl rfl hE rfl (KD hE rfl) (fun a hE=>?_)
       refine KZ hE hR JJ rfl (JP (some Xx3) Xx22) (M.unbind H) (fun Xx37 a w ea hR H=>?_)
       have hE:=Env.put_some hE rfl ea; clear ea
       refine KG ?_
       exact ⟨hE.cut (.cons rfl (.cons rfl (.cons rfl (.cons rfl Subs.nil)))),hR,H⟩
 ·replace H:=M.ite_f hb H
  refine J6 ?_
  refine Xu.same ?_
  refine hK_6 _ _ ?_
  refine KH (fun K hK_38=>?_)
  refine KC ?_
  refine KZ hE hR JJ rfl (JP (some Xx3) 39) (M.unbind H) (fun Xx39 a w ea hR H=>?_)
  have hE:=Env.put_some hE rfl ea; clear ea
  refine KG ?_
  refine hK_38 _ _ ?_
  refine KH (fun K hK_40=>?_)
  refine KC ?_
  refine KZ hE hR WF rfl (WW (some Xx3)) (M.unbind H) (fun Xx41 a w ea hR H=>?_)
  have hE:=Env.put_some hE rfl ea; clear ea
  refine KB (v:=.string Xx41) rfl rfl hE rfl (KE hE rfl) (fun a hE=>?_)
  refine KG ?_
  refine hK_40 _ _ ?_
  refine Kg ?_
  exact hret _ _ _ Xx41 _ hE hR (KM hE rfl (RV.tmp rfl RV.nil)) rfl H
noncomputable def KER:Array Oper:=NZ Go.Proofs.Tryz.f219 0
def KES:List (List Nat):=[[],[0],[1],[2],[3],[4],[],[5,6],[7],[],[9],[10],[11],[12],[8,13],[14,8,0,1,2,3,4,5,6,7,8,9,10,11,12,13,14]]
def KET:List (List Nat):=[[],[0],[1],[2],[3],[4],[],[5,6],[7],[],[9],[10],[11],[12],[8,13],[14]]
def KEU:List (List Nat):=[[],[0],[0,1],[0,1,2],[0,1,2,3],[0,1,2,3,4],[],[0,1,2,3,4,5,6],[0,1,2,3,4,5,6,7],[],[9],[9,10],[9,10,11],[9,10,11,12],[0,1,2,3,4,5,6,7,8,9,10,11,12,13],[0,1,2,3,4,5,6,7,8,9,10,11,12,13,14]]
theorem KHm:Vg Go.Proofs.Tryz.f219 0 KES KET KEU=true:=by kernel_rfl
theorem KGC:Gi 16 KES KET KEU [0,1,2,4,8,16,0,96,128,0,512,1024,2048,4096,8448,32767] [0,1,2,4,8,16,0,96,128,0,512,1024,2048,4096,8448,16384] [0,1,3,7,15,31,0,127,255,0,512,1536,3584,7680,16383,32767]=true:=by kernel_rfl
def Uz (x0:Option Addr) (x1:Int):M (Unit):=do
 let Xx2←nilP x0
 let Xx3←nilP x0
 let Xx4←ldL ((Xx2).add 1)
 let Xx5←ldL ((Xx3).add 1)
 let Xx6←mnz Zi (IntKind.wrap .i64 ((IntKind.wrap .i64 (2 * (Xx4.cap:Int)))+x1))
 chk (fun h:Heap=>(KV h ((Xx2).add 1)=some ((Xx4:Sl).v))∧(KV h ((Xx3).add 1)=some ((Xx5:Sl).v)))
 let Xx7←slL Xx6 0 (Xx5.len:Int) 1
 let Xx9←nilP x0
 let Xx10←ldL ((Xx9).add 1)
 let Xx11←cpL 1 Xx7 Xx10
 let Xx12←nilP x0
 stV ((Xx12).add 1) ((Xx7:Sl).v)
 M.pure ()
theorem Ga (x0:Option Addr) (x1:Int):ZK Go.Proofs.Tryz.prog 219 #[.pointer x0,.int .i64 x1] (fun (r:Unit)=>.tuple #[]) (Uz x0 x1):=by
 refine KY [(0,.pointer x0),(1,.int .i64 x1)] Go.Proofs.Tryz.func219 rfl rfl (Nat.le_of_ble_eq_true rfl) (Ke ⟨rfl,rfl,trivial⟩) (fun w0 w Q R a hret hE hR H=>?_)
 unfold Uz at H
 refine KH (fun K hK_1=>?_)
 obtain ⟨Xx2,qXx2,H⟩:=H
 obtain ⟨Xx3,qXx3,H⟩:=H
 obtain ⟨Xx4,qXx4,H⟩:=H
 obtain ⟨Xx5,qXx5,H⟩:=H
 refine VL (rops:=KER) (by kernel_rfl) ?_
 have hT:Tab KER _ _ _:=Jf KHm rfl (by kernel_rfl)
 have hM:=TabM.of KGC
 refine Zq (m:=16) (fun w:World=>(fun h:Heap=>(KV h ((Xx2).add 1)=some ((Xx4:Sl).v))∧(KV h ((Xx3).add 1)=some ((Xx5:Sl).v))) w.heap) [14,15] (unb 16 0) mo hR (by kernel_rfl) (by kernel_rfl) (fun w' e=>by rw [e]; exact ⟨qXx4,qXx5⟩) (fun w hh hR hs=>?_)
 replace H:=M.at hh H; clear hh
 refine KF (i:=0) (v:=.pointer x0) (unb 16 1) rfl rfl hT (anyM hM (by kernel_rfl)) hE rfl (KA rfl) (fun w=>KD hE rfl) (fun a hE=>?_)
 refine KF (i:=1) (v:=.pointer (some Xx2)) (unb 16 3) rfl rfl hT (anyM hM (by kernel_rfl)) hE rfl (KA rfl) (fun w=>KW hE (Jg rfl (congrArg Value.pointer qXx2))) (fun a hE=>?_)
 refine KF (i:=2) (v:=.pointer (some ((Xx2).add 1))) (unb 16 7) rfl rfl hT (anyM hM (by kernel_rfl)) hE rfl (KA rfl) (fun w=>KI hE rfl YY) (fun a hE=>?_)
 refine KF (i:=6) (v:=.int .i64 x1) (unb 16 71) rfl rfl hT (anyM hM (by kernel_rfl)) hE rfl (KA rfl) (fun w=>KD hE rfl) (fun a hE=>?_)
 refine KF (i:=9) (v:=.pointer x0) (unb 16 583) rfl rfl hT (anyM hM (by kernel_rfl)) hE rfl (KA rfl) (fun w=>KD hE rfl) (fun a hE=>?_)
 refine KF (i:=10) (v:=.pointer (some Xx3)) (unb 16 1607) rfl rfl hT (anyM hM (by kernel_rfl)) hE rfl (KA rfl) (fun w=>KW hE (Jg rfl (congrArg Value.pointer qXx3))) (fun a hE=>?_)
 refine KF (i:=11) (v:=.pointer (some ((Xx3).add 1))) (unb 16 3655) rfl rfl hT (anyM hM (by kernel_rfl)) hE rfl (KA rfl) (fun w=>KI hE rfl YY) (fun a hE=>?_)
 refine Kt (i:=3) (v:=(Xx4:Sl).v) (unb 16 3663) rfl rfl hT (UB hM (by kernel_rfl)) hE rfl (KA rfl) hs (fun w s=>KU hE rfl sc35 s.1) (fun a hE=>?_)
 refine KF (i:=4) (v:=.int .i64 (Xx4.cap:Int)) (unb 16 3679) rfl rfl hT (anyM hM (by kernel_rfl)) hE rfl (KA rfl) (fun w=>KFz hE rfl 5 un35) (fun a hE=>?_)
 refine KF (i:=5) (v:=.int .i64 (IntKind.wrap .i64 (2 * (Xx4.cap:Int)))) (unb 16 3711) rfl rfl hT (anyM hM (by kernel_rfl)) hE rfl (KA rfl) (fun w=>KL hE rfl rfl KN KAB) (fun a hE=>?_)
 refine KF (i:=7) (v:=.int .i64 (IntKind.wrap .i64 ((IntKind.wrap .i64 (2 * (Xx4.cap:Int)))+x1))) (unb 16 3839) rfl rfl hT (anyM hM (by kernel_rfl)) hE rfl (KA rfl) (fun w=>KL hE rfl rfl KN JE) (fun a hE=>?_)
 refine Kt (i:=12) (v:=(Xx5:Sl).v) (unb 16 7935) rfl rfl hT (UB hM (by kernel_rfl)) hE rfl (KA rfl) hs (fun w s=>KU hE rfl sc35 s.2) (fun a hE=>?_)
 refine KF (i:=13) (v:=.int .i64 (Xx5.len:Int)) (unb 16 16127) rfl rfl hT (anyM hM (by kernel_rfl)) hE rfl (KA rfl) (fun w=>UA hE rfl 5 un35) (fun a hE=>?_)
 refine d_ex (i:=8) (fun Xx6=>(Xx6:Sl).v) (unb 16 16383) rfl rfl hT (oneM hM (by kernel_rfl)) rfl hR (KA rfl) (M.unbind H) (fun Q H=>KHd (ps:=#[3]) hE rfl Go.Proofs.Tryz.func243 (by kernel_rfl) (by kernel_rfl) (by kernel_rfl) (by kernel_rfl) un35 H) (fun r h H w' e=>by obtain ⟨_,sA,H⟩:=H; rw [e]; exact sA) (fun Xx6 a w ea hR H hs=>?_)
 obtain ⟨_,sA,H⟩:=H; clear sA
 have hE:=Env.put_some hE rfl ea; clear ea
 obtain ⟨Xx7,qXx7,H⟩:=H
 refine KF (i:=14) (v:=(Xx7:Sl).v) (unb 16 32767) rfl rfl hT (anyM hM (by kernel_rfl)) hE rfl (KA rfl) (fun w=>qe hE rfl rfl un35 sz5 qXx7) (fun a hE=>?_)
 refine KF (i:=15) (v:=(Xx7:Sl).v) (unb 16 65535) rfl rfl hT (anyM hM (by kernel_rfl)) hE rfl (KA rfl) (fun w=>KE hE rfl) (fun a hE=>?_)
 refine JM hT (Wa hM (by kernel_rfl)) ?_
 refine hK_1 _ _ ?_
 refine KH (fun K hK_8=>?_)
 refine KC ?_
 refine KB (v:=(Xx7:Sl).v) rfl rfl hE rfl (KD hE rfl) (fun a hE=>?_)
 refine KB (v:=.pointer x0) rfl rfl hE rfl (KD hE rfl) (fun a hE=>?_)
 obtain ⟨Xx9,qXx9,H⟩:=H
 refine KB (v:=.pointer (some Xx9)) rfl rfl hE rfl (KW hE (Jg rfl (congrArg Value.pointer qXx9))) (fun a hE=>?_)
 refine KB (v:=.pointer (some ((Xx9).add 1))) rfl rfl hE rfl (KI hE rfl YY) (fun a hE=>?_)
 obtain ⟨Xx10,qXx10,H⟩:=H
 refine KB (v:=(Xx10:Sl).v) rfl rfl hE rfl (KU hE rfl sc35 qXx10) (fun a hE=>?_)
 refine t_ex (fun Xx11=>.int .i64 Xx11) rfl rfl hR (M.unbind H) (fun Q H=>KIW hE rfl rfl un35 sz5 H) (fun Xx11 a w ea hR H=>?_)
 have hE:=Env.put_some hE rfl ea; clear ea
 refine KG ?_
 refine hK_8 _ _ ?_
 refine KC ?_
 refine KB (v:=.pointer x0) rfl rfl hE rfl (KD hE rfl) (fun a hE=>?_)
 refine KB (v:=(Xx7:Sl).v) rfl rfl hE rfl (KD hE rfl) (fun a hE=>?_)
 obtain ⟨Xx12,qXx12,H⟩:=H
 refine KB (v:=.pointer (some Xx12)) rfl rfl hE rfl (KW hE (Jg rfl (congrArg Value.pointer qXx12))) (fun a hE=>?_)
 refine KB (v:=.pointer (some ((Xx12).add 1))) rfl rfl hE rfl (KI hE rfl YY) (fun a hE=>?_)
 obtain ⟨u_13,qu_13,H⟩:=H
 refine JI rfl rfl hE hR (JK hE rfl rfl sz35 qu_13) (fun a w hE hR hh=>?_)
 replace H:=M.at hh H; clear hh
 refine KG ?_
 exact hret _ _ _ () _ hE hR (KM hE rfl RV.nil) rfl H
theorem KHn:Vg Go.Proofs.Tryz.f177 3 [[],[0],[1],[2],[3],[],[5],[6],[7],[8],[4,9],[],[10,11]] [[],[0],[1],[2],[3],[],[5],[6],[7],[8],[4,9],[],[10,11]] [[],[0],[0,1],[0,1,2],[0,1,2,3],[],[5],[5,6],[5,6,7],[5,6,7,8],[0,1,2,3,4,5,6,7,8,9],[],[0,1,2,3,4,5,6,7,8,9,10,11]]=true:=by kernel_rfl
def UV (x0:Option Addr) (x1:Int):M (Unit):=do
 let Xx2←Jh x0
 M.ite (decide (x1 < 0)) (do
  M.fail
  ) (do
  let Xx6←nilP x0
  let Xx7←nilP x0
  let Xx8←ldL ((Xx6).add 1)
  let Xx9←ldL ((Xx7).add 1)
  M.ite (decide ((IntKind.wrap .i64 ((Xx8.cap:Int) - (Xx9.len:Int))) < x1)) (do
   let Xx10←Uz x0 x1
   M.pure ()
   ) (do
   M.pure ()
   )
  )
theorem Gb (x0:Option Addr) (x1:Int):ZK Go.Proofs.Tryz.prog 177 #[.pointer x0,.int .i64 x1] (fun (r:Unit)=>.tuple #[]) (UV x0 x1):=by
 refine KY [(0,.pointer x0),(1,.int .i64 x1)] Go.Proofs.Tryz.func177 rfl rfl (Nat.le_of_ble_eq_true rfl) (Ke ⟨rfl,rfl,trivial⟩) (fun w0 w Q R a hret hE hR H=>?_)
 unfold UV at H
 refine KH (fun K hK_1=>?_)
 refine KC ?_
 refine KB (v:=.pointer x0) rfl rfl hE rfl (KD hE rfl) (fun a hE=>?_)
 refine KZ hE hR UY rfl (Ug x0) (M.unbind H) (fun Xx2 a w ea hR H=>?_)
 have hE:=Env.put_some hE rfl ea; clear ea
 refine KG ?_
 refine hK_1 _ _ ?_
 refine KH (fun K hK_3=>?_)
 refine KH (fun K hK_4=>?_)
 refine KC ?_
 refine KB (v:=.int .i64 x1) rfl rfl hE rfl (KD hE rfl) (fun a hE=>?_)
 refine KB (v:=.bool (decide (x1 < 0))) rfl rfl hE rfl (KL hE rfl rfl KN JL) (fun a hE=>?_)
 refine KG ?_
 refine hK_4 _ _ ?_
 refine KS (decide (x1 < 0)) hE rfl (fun hb=>?_) (fun hb=>?_)
 ·replace H:=M.ite_t hb H
  exact False.elim H
 ·replace H:=M.ite_f hb H
  refine Ka ?_
  refine hK_3 _ _ ?_
  refine KH (fun K hK_5=>?_)
  obtain ⟨Xx6,qXx6,H⟩:=H
  obtain ⟨Xx7,qXx7,H⟩:=H
  obtain ⟨Xx8,qXx8,H⟩:=H
  obtain ⟨Xx9,qXx9,H⟩:=H
  have hT:=Jf KHn rfl rfl
  refine Zq (fun w:World=>(fun h:Heap=>(KV h ((Xx6).add 1)=some ((Xx8:Sl).v))∧(KV h ((Xx7).add 1)=some ((Xx9:Sl).v))) w.heap) [10,12] #[false,false,false,false,false,false,false,false,false,false,false,false,false] mo hR rfl rfl (fun w' e=>by rw [e]; exact ⟨qXx8,qXx9⟩) (fun w hh hR hs=>?_)
  replace H:=M.at hh H; clear hh
  refine KF (i:=0) (v:=.pointer x0) #[true,false,false,false,false,false,false,false,false,false,false,false,false] rfl rfl hT (by kernel_rfl) hE rfl (KA rfl) (fun w=>KD hE rfl) (fun a hE=>?_)
  refine KF (i:=1) (v:=.pointer (some Xx6)) #[true,true,false,false,false,false,false,false,false,false,false,false,false] rfl rfl hT (by kernel_rfl) hE rfl (KA rfl) (fun w=>KW hE (Jg rfl (congrArg Value.pointer qXx6))) (fun a hE=>?_)
  refine KF (i:=2) (v:=.pointer (some ((Xx6).add 1))) #[true,true,true,false,false,false,false,false,false,false,false,false,false] rfl rfl hT (by kernel_rfl) hE rfl (KA rfl) (fun w=>KI hE rfl YY) (fun a hE=>?_)
  refine KF (i:=5) (v:=.pointer x0) #[true,true,true,false,false,true,false,false,false,false,false,false,false] rfl rfl hT (by kernel_rfl) hE rfl (KA rfl) (fun w=>KD hE rfl) (fun a hE=>?_)
  refine KF (i:=6) (v:=.pointer (some Xx7)) #[true,true,true,false,false,true,true,false,false,false,false,false,false] rfl rfl hT (by kernel_rfl) hE rfl (KA rfl) (fun w=>KW hE (Jg rfl (congrArg Value.pointer qXx7))) (fun a hE=>?_)
  refine KF (i:=7) (v:=.pointer (some ((Xx7).add 1))) #[true,true,true,false,false,true,true,true,false,false,false,false,false] rfl rfl hT (by kernel_rfl) hE rfl (KA rfl) (fun w=>KI hE rfl YY) (fun a hE=>?_)
  refine KF (i:=11) (v:=.int .i64 x1) #[true,true,true,false,false,true,true,true,false,false,false,true,false] rfl rfl hT (by kernel_rfl) hE rfl (KA rfl) (fun w=>KD hE rfl) (fun a hE=>?_)
  refine Kt (i:=3) (v:=(Xx8:Sl).v) #[true,true,true,true,false,true,true,true,false,false,false,true,false] rfl rfl hT (by kernel_rfl) hE rfl (KA rfl) hs (fun w s=>KU hE rfl sc35 s.1) (fun a hE=>?_)
  refine KF (i:=4) (v:=.int .i64 (Xx8.cap:Int)) #[true,true,true,true,true,true,true,true,false,false,false,true,false] rfl rfl hT (by kernel_rfl) hE rfl (KA rfl) (fun w=>KFz hE rfl 5 un35) (fun a hE=>?_)
  refine Kt (i:=8) (v:=(Xx9:Sl).v) #[true,true,true,true,true,true,true,true,true,false,false,true,false] rfl rfl hT (by kernel_rfl) hE rfl (KA rfl) hs (fun w s=>KU hE rfl sc35 s.2) (fun a hE=>?_)
  refine KF (i:=9) (v:=.int .i64 (Xx9.len:Int)) #[true,true,true,true,true,true,true,true,true,true,false,true,false] rfl rfl hT (by kernel_rfl) hE rfl (KA rfl) (fun w=>UA hE rfl 5 un35) (fun a hE=>?_)
  refine KF (i:=10) (v:=.int .i64 (IntKind.wrap .i64 ((Xx8.cap:Int) - (Xx9.len:Int)))) #[true,true,true,true,true,true,true,true,true,true,true,true,false] rfl rfl hT (by kernel_rfl) hE rfl (KA rfl) (fun w=>KL hE rfl rfl KN VA) (fun a hE=>?_)
  refine KF (i:=12) (v:=.bool (decide ((IntKind.wrap .i64 ((Xx8.cap:Int) - (Xx9.len:Int))) < x1))) #[true,true,true,true,true,true,true,true,true,true,true,true,true] rfl rfl hT (by kernel_rfl) hE rfl (KA rfl) (fun w=>KL hE rfl rfl KN JL) (fun a hE=>?_)
  refine JM hT (by kernel_rfl) ?_
  refine hK_5 _ _ ?_
  refine KS (decide ((IntKind.wrap .i64 ((Xx8.cap:Int) - (Xx9.len:Int))) < x1)) hE rfl (fun hb=>?_) (fun hb=>?_)
  ·replace H:=M.ite_t hb H
   refine KC ?_
   refine KB (v:=.pointer x0) rfl rfl hE rfl (KD hE rfl) (fun a hE=>?_)
   refine KB (v:=.int .i64 x1) rfl rfl hE rfl (KD hE rfl) (fun a hE=>?_)
   refine KZ hE hR GH rfl (Ga x0 x1) (M.unbind H) (fun Xx10 a w ea hR H=>?_)
   have hE:=Env.put_some hE rfl ea; clear ea
   refine KG ?_
   exact hret _ _ _ () _ hE hR (KM hE rfl RV.nil) rfl H
  ·replace H:=M.ite_f hb H
   refine Ka ?_
   exact hret _ _ _ () _ hE hR (KM hE rfl RV.nil) rfl H
end Gx
namespace Gx
open Go
set_option linter.unusedVariables false
set_option maxRecDepth 100000
def Wo (C43:ByteArray) (C44:Addr) (C45:Sl) (C46:Int) (self2:(Int)→M (ByteArray)):(Int)→M (ByteArray):=fun s=>match s with
 | Xx42=>do
  M.ite (decide (Xx42 < C46)) (do
   let Xx52←ixL C45 Xx42 1
   let Xx53←ldS Xx52
   let Xx55←Kw (some C44) C43
   let Xx56←Kw (some C44) Xx53
   self2 (IntKind.wrap .i64 (Xx42+1))
   ) (do
   let Xx58←Jc (some C44)
   M.pure Xx58
   )
def Wp (C18:Sl) (C19:ByteArray) (C20:Sl) (C21:Int) (self1:(Int × Int)→M (ByteArray)):(Int × Int)→M (ByteArray):=fun s=>match s with
 | (Xx16,Xx17)=>do
  M.ite (decide (Xx17 < C21)) (do
   let Xx27←ixL C20 Xx17 1
   let Xx28←ldS Xx27
   M.ite (decide ((Xx28.size:Int) > (IntKind.wrap .i64 (9223372036854775807 - Xx16)))) (do
    M.fail
    ) (do
    self1 (IntKind.wrap .i64 (Xx16+(Xx28.size:Int)),IntKind.wrap .i64 (Xx17+1))
    )
   ) (do
   let Xx32←mkB Jw (#[.pointer none,.slice none 0 0]:Array Value)
   let Xx34←UV (some Xx32) Xx16
   let Xx36←ixL C18 0 1
   let Xx37←ldS Xx36
   let Xx38←Kw (some Xx32) Xx37
   let Xx41←slL C18 1 C18.len 1
   M.loop (Wo C19 Xx32 Xx41 (Xx41.len:Int)) 0
   )
def Vn (C12:Sl) (C13:ByteArray) (Xx11:Int):M (ByteArray):=do
 M.loop (Wp C12 C13 C12 (C12.len:Int)) (Xx11,0)
def YL (x0:Sl) (x1:ByteArray):M (ByteArray):=do
 M.ite ((x0.len:Int) == 0) (do
  M.pure ByteArray.empty
  ) (do
  M.ite ((x0.len:Int) == 1) (do
   let Xx8←ixL x0 0 1
   let Xx9←ldS Xx8
   M.pure Xx9
   ) (do
   M.ite (decide ((x1.size:Int) > 0)) (do
    let Xx62←pQuo .i64 9223372036854775807 (IntKind.wrap .i64 ((x0.len:Int) - 1))
    M.ite (decide ((x1.size:Int) ≥ Xx62)) (do
     M.fail
     ) (do
     Vn x0 x1 (IntKind.wrap .i64 (0+(IntKind.wrap .i64 ((x1.size:Int) * (IntKind.wrap .i64 ((x0.len:Int) - 1))))))
     )
    ) (do
    Vn x0 x1 0
    )
   )
  )
theorem KAN (x0:Sl) (x1:ByteArray):ZK Go.Proofs.Tryz.prog 134 #[(x0:Sl).v,.string x1] (fun (r:ByteArray)=>.string r) (YL x0 x1):=by
 refine KY [(0,(x0:Sl).v),(1,.string x1)] Go.Proofs.Tryz.func134 rfl rfl (Nat.le_of_ble_eq_true rfl) (Ke ⟨rfl,rfl,trivial⟩) (fun w0 w Q R a hret hE hR H=>?_)
 unfold YL at H
 refine KH (fun K hK_1=>?_)
 refine KC ?_
 refine KB (v:=.string ByteArray.empty) rfl rfl hE rfl (KE hE rfl) (fun a hE=>?_)
 refine KG ?_
 refine hK_1 _ _ ?_
 refine KH (fun K hK_2=>?_)
 refine KH (fun K hK_3=>?_)
 refine KC ?_
 refine KB (v:=(x0:Sl).v) rfl rfl hE rfl (KD hE rfl) (fun a hE=>?_)
 refine KB (v:=.int .i64 (x0.len:Int)) rfl rfl hE rfl (UA hE rfl 9 Ng) (fun a hE=>?_)
 refine KG ?_
 refine hK_3 _ _ ?_
 refine Kj ?_
 refine KH (fun K hK_4=>?_)
 refine KC ?_
 refine KB (v:=.bool ((x0.len:Int) == 0)) rfl rfl hE rfl (KL hE rfl rfl KN Z5) (fun a hE=>?_)
 refine KB (v:=.bool ((x0.len:Int) == 0)) rfl rfl hE rfl (KE hE rfl) (fun a hE=>?_)
 refine KG ?_
 refine hK_4 _ _ ?_
 refine KS ((x0.len:Int) == 0) hE rfl (fun hb=>?_) (fun hb=>?_)
 ·replace H:=M.ite_t hb H
  refine KH (fun K hK_5=>?_)
  refine KC ?_
  refine KB (v:=.string ByteArray.empty) rfl rfl hE rfl (KE hE rfl) (fun a hE=>?_)
  refine KG ?_
  refine hK_5 _ _ ?_
  refine Kg ?_
  exact hret _ _ _ ByteArray.empty _ hE hR (KM hE rfl (RV.tmp rfl RV.nil)) rfl H
 ·replace H:=M.ite_f hb H
  refine KH (fun K hK_6=>?_)
  refine KC ?_
  refine KB (v:=.bool ((x0.len:Int) == 1)) rfl rfl hE rfl (KL hE rfl rfl KN Z5) (fun a hE=>?_)
  refine KB (v:=.bool ((x0.len:Int) == 1)) rfl rfl hE rfl (KE hE rfl) (fun a hE=>?_)
  refine KG ?_
  refine hK_6 _ _ ?_
  refine KS ((x0.len:Int) == 1) hE rfl (fun hb=>?_) (fun hb=>?_)
  ·replace H:=M.ite_t hb H
   refine KH (fun K hK_7=>?_)
   refine KC ?_
   refine KB (v:=(x0:Sl).v) rfl rfl hE rfl (KD hE rfl) (fun a hE=>?_)
   obtain ⟨Xx8,qXx8,H⟩:=H
   refine KB (v:=.pointer (some Xx8)) rfl rfl hE rfl (KR hE rfl rfl Ng sz9 qXx8) (fun a hE=>?_)
   obtain ⟨Xx9,qXx9,H⟩:=H
   refine KB (v:=.string Xx9) rfl rfl hE rfl (KU hE rfl sc9 qXx9) (fun a hE=>?_)
   refine KB (v:=.string Xx9) rfl rfl hE rfl (KE hE rfl) (fun a hE=>?_)
   refine KG ?_
   refine hK_7 _ _ ?_
   refine Kg ?_
   exact hret _ _ _ Xx9 _ hE hR (KM hE rfl (RV.tmp rfl RV.nil)) rfl H
  ·replace H:=M.ite_f hb H
   refine Ka ?_
   refine hK_2 _ _ ?_
   refine KH (fun K hK_10=>?_)
   refine KC ?_
   refine KB (v:=.int .i64 0) rfl rfl hE rfl (KE hE rfl) (fun a hE=>?_)
   refine KG ?_
   refine hK_10 _ _ ?_
   refine Ku (fun a w=>∃ (Xx11:Int),Env (⟨75,[]⟩:Frm) a [(0,(x0:Sl).v),(1,.string x1),(5,.int .i64 Xx11)]∧Rest w0 w∧(Vn x0 x1 Xx11).wp w.heap Q) ?_ ?_
   ·rintro a w ⟨Xx11,hE,hR,H⟩
    unfold Vn at H
    refine KH (fun K hK_14=>?_)
    refine KH (fun K hK_15=>?_)
    refine KC ?_
    refine KB (v:=(x0:Sl).v) rfl rfl hE rfl (KD hE rfl) (fun a hE=>?_)
    refine KB (v:=.int .i64 (x0.len:Int)) rfl rfl hE rfl (UA hE rfl 9 Ng) (fun a hE=>?_)
    refine KB (v:=.int .i64 0) rfl rfl hE rfl (KD hE rfl) (fun a hE=>?_)
    refine KG ?_
    refine hK_15 _ _ ?_
    refine Kj ?_
    refine J7 (fun (s:Int × Int)=>(⟨75,[]⟩:Frm)) (fun (s:Int × Int)=>[(0,(x0:Sl).v),(1,.string x1),(5,.int .i64 s.1),(39,(x0:Sl).v),(40,.int .i64 (x0.len:Int)),(41,.int .i64 s.2)]) H (hE.cut (.cons rfl (.cons rfl (.cons rfl (.cons rfl (.cons rfl (.cons rfl Subs.nil))))))) hR (fun Y self1 hY_22 s a w hE hR H=>?_)
    rcases s with ⟨Xx16,Xx17⟩
    replace hE:Env (⟨75,[]⟩:Frm) a [(0,(x0:Sl).v),(1,.string x1),(5,.int .i64 Xx16),(39,(x0:Sl).v),(40,.int .i64 (x0.len:Int)),(41,.int .i64 Xx17)]:=hE
    replace H:(Wp x0 x1 x0 (x0.len:Int) self1 (Xx16,Xx17)).wp w.heap Q:=H
    unfold Wp at H
    refine KH (fun K hK_23=>?_)
    refine KC ?_
    refine KB (v:=.bool (decide (Xx17 < (x0.len:Int)))) rfl rfl hE rfl (KL hE rfl rfl KN JL) (fun a hE=>?_)
    refine KG ?_
    refine hK_23 _ _ ?_
    refine KH (fun K hK_24=>?_)
    refine KS (decide (Xx17 < (x0.len:Int))) hE rfl (fun hb=>?_) (fun hb=>?_)
    ·replace H:=M.ite_t hb H
     refine Ka ?_
     refine hK_24 _ _ ?_
     refine KH (fun K hK_25=>?_)
     refine Kj ?_
     refine KH (fun K hK_26=>?_)
     refine KC ?_
     obtain ⟨Xx27,qXx27,H⟩:=H
     refine KB (v:=.pointer (some Xx27)) rfl rfl hE rfl (KR hE rfl rfl Ng sz9 qXx27) (fun a hE=>?_)
     obtain ⟨Xx28,qXx28,H⟩:=H
     refine KB (v:=.string Xx28) rfl rfl hE rfl (KU hE rfl sc9 qXx28) (fun a hE=>?_)
     refine KB (v:=.string Xx28) rfl rfl hE rfl (KE hE rfl) (fun a hE=>?_)
     refine KG ?_
     refine hK_26 _ _ ?_
     refine KH (fun K hK_29=>?_)
     refine KH (fun K hK_30=>?_)
     refine KC ?_
     refine KB (v:=.string Xx28) rfl rfl hE rfl (KD hE rfl) (fun a hE=>?_)
     refine KB (v:=.int .i64 (Xx28.size:Int)) rfl rfl hE rfl (U3 hE rfl un9) (fun a hE=>?_)
     refine KB (v:=.int .i64 Xx16) rfl rfl hE rfl (KD hE rfl) (fun a hE=>?_)
     refine KB (v:=.int .i64 (IntKind.wrap .i64 (9223372036854775807 - Xx16))) rfl rfl hE rfl (KL hE rfl rfl KN VA) (fun a hE=>?_)
     refine KB (v:=.bool (decide ((Xx28.size:Int) > (IntKind.wrap .i64 (9223372036854775807 - Xx16))))) rfl rfl hE rfl (KL hE rfl rfl KN YI) (fun a hE=>?_)
     refine KG ?_
     refine hK_30 _ _ ?_
     refine KS (decide ((Xx28.size:Int) > (IntKind.wrap .i64 (9223372036854775807 - Xx16)))) hE rfl (fun hb=>?_) (fun hb=>?_)
     ·replace H:=M.ite_t hb H
      exact False.elim H
     ·replace H:=M.ite_f hb H
      refine Ka ?_
      refine hK_29 _ _ ?_
      refine KC ?_
      refine KB (v:=.int .i64 Xx16) rfl rfl hE rfl (KD hE rfl) (fun a hE=>?_)
      refine KB (v:=.string Xx28) rfl rfl hE rfl (KD hE rfl) (fun a hE=>?_)
      refine KB (v:=.int .i64 (Xx28.size:Int)) rfl rfl hE rfl (U3 hE rfl un9) (fun a hE=>?_)
      refine KB (v:=.int .i64 (IntKind.wrap .i64 (Xx16+(Xx28.size:Int)))) rfl rfl hE rfl (KL hE rfl rfl KN JE) (fun a hE=>?_)
      refine KB (v:=.int .i64 (IntKind.wrap .i64 (Xx16+(Xx28.size:Int)))) rfl rfl hE rfl (KE hE rfl) (fun a hE=>?_)
      refine KG ?_
      refine hK_25 _ _ ?_
      refine KC ?_
      refine KB (v:=.int .i64 (IntKind.wrap .i64 (Xx17+1))) rfl rfl hE rfl (KL hE rfl rfl KN JE) (fun a hE=>?_)
      refine KB (v:=.int .i64 (IntKind.wrap .i64 (Xx17+1))) rfl rfl hE rfl (KD hE rfl) (fun a hE=>?_)
      refine KG ?_
      exact hY_22 (IntKind.wrap .i64 (Xx16+(Xx28.size:Int)),IntKind.wrap .i64 (Xx17+1)) _ _ (hE.cut (.cons rfl (.cons rfl (.cons rfl (.cons rfl (.cons rfl (.cons rfl Subs.nil))))))) hR H
    ·replace H:=M.ite_f hb H
     refine J6 ?_
     refine Xu.same ?_
     refine hK_14 _ _ ?_
     refine KH (fun K hK_31=>?_)
     refine KC ?_
     obtain ⟨Xx32,qXx32,H⟩:=H
     refine ZR (v:=.pointer (some Xx32)) rfl rfl hE rfl hR (Z4 KIf qXx32) (fun a w hE hR hh=>?_)
     replace H:=M.at hh H; clear hh
     refine KG ?_
     refine hK_31 _ _ ?_
     refine KH (fun K hK_33=>?_)
     refine KC ?_
     refine KB (v:=.int .i64 Xx16) rfl rfl hE rfl (KD hE rfl) (fun a hE=>?_)
     refine KZ hE hR GG rfl (Gb (some Xx32) Xx16) (M.unbind H) (fun Xx34 a w ea hR H=>?_)
     have hE:=Env.put_some hE rfl ea; clear ea
     refine KG ?_
     refine hK_33 _ _ ?_
     refine KH (fun K hK_35=>?_)
     refine KC ?_
     refine KB (v:=(x0:Sl).v) rfl rfl hE rfl (KD hE rfl) (fun a hE=>?_)
     obtain ⟨Xx36,qXx36,H⟩:=H
     refine KB (v:=.pointer (some Xx36)) rfl rfl hE rfl (KR hE rfl rfl Ng sz9 qXx36) (fun a hE=>?_)
     obtain ⟨Xx37,qXx37,H⟩:=H
     refine KB (v:=.string Xx37) rfl rfl hE rfl (KU hE rfl sc9 qXx37) (fun a hE=>?_)
     refine KZ hE hR Zf rfl (Zk (some Xx32) Xx37) (M.unbind H) (fun Xx38 a w ea hR H=>?_)
     have hE:=Env.put_some hE rfl ea; clear ea
     refine KG ?_
     refine hK_35 _ _ ?_
     refine KH (fun K hK_39=>?_)
     refine KH (fun K hK_40=>?_)
     refine KC ?_
     refine KB (v:=(x0:Sl).v) rfl rfl hE rfl (KD hE rfl) (fun a hE=>?_)
     obtain ⟨Xx41,qXx41,H⟩:=H
     refine KB (v:=(Xx41:Sl).v) rfl rfl hE rfl (qf hE rfl rfl Ng sz9 qXx41) (fun a hE=>?_)
     refine KB (v:=.int .i64 (Xx41.len:Int)) rfl rfl hE rfl (UA hE rfl 9 Ng) (fun a hE=>?_)
     refine KB (v:=.int .i64 0) rfl rfl hE rfl (KD hE rfl) (fun a hE=>?_)
     refine KG ?_
     refine hK_40 _ _ ?_
     refine Kj ?_
     refine J7 (fun (s:Int)=>(⟨75,[]⟩:Frm)) (fun (s:Int)=>[(1,.string x1),(8,.pointer (some Xx32)),(63,(Xx41:Sl).v),(64,.int .i64 (Xx41.len:Int)),(65,.int .i64 s)]) H (hE.cut (.cons rfl (.cons rfl (.cons rfl (.cons rfl (.cons rfl Subs.nil)))))) hR (fun Y self2 hY_47 Xx42 a w hE hR H=>?_)
     replace hE:Env (⟨75,[]⟩:Frm) a [(1,.string x1),(8,.pointer (some Xx32)),(63,(Xx41:Sl).v),(64,.int .i64 (Xx41.len:Int)),(65,.int .i64 Xx42)]:=hE
     replace H:(Wo x1 Xx32 Xx41 (Xx41.len:Int) self2 Xx42).wp w.heap Q:=H
     unfold Wo at H
     refine KH (fun K hK_48=>?_)
     refine KC ?_
     refine KB (v:=.bool (decide (Xx42 < (Xx41.len:Int)))) rfl rfl hE rfl (KL hE rfl rfl KN JL) (fun a hE=>?_)
     refine KG ?_
     refine hK_48 _ _ ?_
     refine KH (fun K hK_49=>?_)
     refine KS (decide (Xx42 < (Xx41.len:Int))) hE rfl (fun hb=>?_) (fun hb=>?_)
     ·replace H:=M.ite_t hb H
      refine Ka ?_
      refine hK_49 _ _ ?_
      refine KH (fun K hK_50=>?_)
      refine Kj ?_
      refine KH (fun K hK_51=>?_)
      refine KC ?_
      obtain ⟨Xx52,qXx52,H⟩:=H
      refine KB (v:=.pointer (some Xx52)) rfl rfl hE rfl (KR hE rfl rfl Ng sz9 qXx52) (fun a hE=>?_)
      obtain ⟨Xx53,qXx53,H⟩:=H
      refine KB (v:=.string Xx53) rfl rfl hE rfl (KU hE rfl sc9 qXx53) (fun a hE=>?_)
      refine KB (v:=.string Xx53) rfl rfl hE rfl (KE hE rfl) (fun a hE=>?_)
      refine KG ?_
      refine hK_51 _ _ ?_
      refine KH (fun K hK_54=>?_)
      refine KC ?_
      refine KB (v:=.string x1) rfl rfl hE rfl (KD hE rfl) (fun a hE=>?_)
      refine KZ hE hR Zf rfl (Zk (some Xx32) x1) (M.unbind H) (fun Xx55 a w ea hR H=>?_)
      have hE:=Env.put_some hE rfl ea; clear ea
      refine KG ?_
      refine hK_54 _ _ ?_
      refine KC ?_
      refine KB (v:=.string Xx53) rfl rfl hE rfl (KD hE rfl) (fun a hE=>?_)
      refine KZ hE hR Zf rfl (Zk (some Xx32) Xx53) (M.unbind H) (fun Xx56 a w ea hR H=>?_)
      have hE:=Env.put_some hE rfl ea; clear ea
      refine KG ?_
      refine hK_50 _ _ ?_
      refine KC ?_
      refine KB (v:=.int .i64 (IntKind.wrap .i64 (Xx42+1))) rfl rfl hE rfl (KL hE rfl rfl KN JE) (fun a hE=>?_)
      refine KB (v:=.int .i64 (IntKind.wrap .i64 (Xx42+1))) rfl rfl hE rfl (KD hE rfl) (fun a hE=>?_)
      refine KG ?_
      exact hY_47 (IntKind.wrap .i64 (Xx42+1)) _ _ (hE.cut (.cons rfl (.cons rfl (.cons rfl (.cons rfl (.cons rfl Subs.nil)))))) hR H
     ·replace H:=M.ite_f hb H
      refine J6 ?_
      refine Xu.same ?_
      refine hK_39 _ _ ?_
      refine KH (fun K hK_57=>?_)
      refine KC ?_
      refine KZ hE hR WF rfl (WW (some Xx32)) (M.unbind H) (fun Xx58 a w ea hR H=>?_)
      have hE:=Env.put_some hE rfl ea; clear ea
      refine KB (v:=.string Xx58) rfl rfl hE rfl (KE hE rfl) (fun a hE=>?_)
      refine KG ?_
      refine hK_57 _ _ ?_
      refine Kg ?_
      exact hret _ _ _ Xx58 _ hE hR (KM hE rfl (RV.tmp rfl RV.nil)) rfl H
   ·skip
    refine KH (fun K hK_59=>?_)
    refine KC ?_
    refine KB (v:=.string x1) rfl rfl hE rfl (KD hE rfl) (fun a hE=>?_)
    refine KB (v:=.int .i64 (x1.size:Int)) rfl rfl hE rfl (U3 hE rfl un9) (fun a hE=>?_)
    refine KB (v:=.bool (decide ((x1.size:Int) > 0))) rfl rfl hE rfl (KL hE rfl rfl KN YI) (fun a hE=>?_)
    refine KG ?_
    refine hK_59 _ _ ?_
    refine KS (decide ((x1.size:Int) > 0)) hE rfl (fun hb=>?_) (fun hb=>?_)
    ·replace H:=M.ite_t hb H
     refine KH (fun K hK_60=>?_)
     refine KH (fun K hK_61=>?_)
     refine KC ?_
     refine KB (v:=.string x1) rfl rfl hE rfl (KD hE rfl) (fun a hE=>?_)
     refine KB (v:=.int .i64 (x1.size:Int)) rfl rfl hE rfl (U3 hE rfl un9) (fun a hE=>?_)
     refine KB (v:=(x0:Sl).v) rfl rfl hE rfl (KD hE rfl) (fun a hE=>?_)
     refine KB (v:=.int .i64 (x0.len:Int)) rfl rfl hE rfl (UA hE rfl 9 Ng) (fun a hE=>?_)
     refine KB (v:=.int .i64 (IntKind.wrap .i64 ((x0.len:Int) - 1))) rfl rfl hE rfl (KL hE rfl rfl KN VA) (fun a hE=>?_)
     obtain ⟨Xx62,qXx62,H⟩:=H
     refine KB (v:=.int .i64 Xx62) rfl rfl hE rfl (KL hE rfl rfl KN (KIO qXx62)) (fun a hE=>?_)
     refine KB (v:=.bool (decide ((x1.size:Int) ≥ Xx62))) rfl rfl hE rfl (KL hE rfl rfl KN YJ) (fun a hE=>?_)
     refine KG ?_
     refine hK_61 _ _ ?_
     refine KS (decide ((x1.size:Int) ≥ Xx62)) hE rfl (fun hb=>?_) (fun hb=>?_)
     ·replace H:=M.ite_t hb H
      exact False.elim H
     ·replace H:=M.ite_f hb H
      refine Ka ?_
      refine hK_60 _ _ ?_
      refine KC ?_
      refine KB (v:=.int .i64 0) rfl rfl hE rfl (KD hE rfl) (fun a hE=>?_)
      refine KB (v:=.string x1) rfl rfl hE rfl (KD hE rfl) (fun a hE=>?_)
      refine KB (v:=.int .i64 (x1.size:Int)) rfl rfl hE rfl (U3 hE rfl un9) (fun a hE=>?_)
      refine KB (v:=(x0:Sl).v) rfl rfl hE rfl (KD hE rfl) (fun a hE=>?_)
      refine KB (v:=.int .i64 (x0.len:Int)) rfl rfl hE rfl (UA hE rfl 9 Ng) (fun a hE=>?_)
      refine KB (v:=.int .i64 (IntKind.wrap .i64 ((x0.len:Int) - 1))) rfl rfl hE rfl (KL hE rfl rfl KN VA) (fun a hE=>?_)
      refine KB (v:=.int .i64 (IntKind.wrap .i64 ((x1.size:Int) * (IntKind.wrap .i64 ((x0.len:Int) - 1))))) rfl rfl hE rfl (KL hE rfl rfl KN KAB) (fun a hE=>?_)
      refine KB (v:=.int .i64 (IntKind.wrap .i64 (0+(IntKind.wrap .i64 ((x1.size:Int) * (IntKind.wrap .i64 ((x0.len:Int) - 1))))))) rfl rfl hE rfl (KL hE rfl rfl KN JE) (fun a hE=>?_)
      refine KB (v:=.int .i64 (IntKind.wrap .i64 (0+(IntKind.wrap .i64 ((x1.size:Int) * (IntKind.wrap .i64 ((x0.len:Int) - 1))))))) rfl rfl hE rfl (KE hE rfl) (fun a hE=>?_)
      refine KG ?_
      exact ⟨IntKind.wrap .i64 (0+(IntKind.wrap .i64 ((x1.size:Int) * (IntKind.wrap .i64 ((x0.len:Int) - 1))))),hE.cut (.cons rfl (.cons rfl (.cons rfl Subs.nil))),hR,H⟩
    ·replace H:=M.ite_f hb H
     refine Ka ?_
     exact ⟨0,hE.cut (.cons rfl (.cons rfl (.cons rfl Subs.nil))),hR,H⟩
def Vt (self1:(Sl × Int)→M (ByteArray)) (C56:Int) (Xx51:Sl):M (ByteArray):=do
 self1 (Xx51,IntKind.wrap .i64 (C56+1))
def Yo (C44:Int) (C45:Addr) (C46:Sl) (C47:Int) (self1:(Sl × Int)→M (ByteArray)):(Sl × Int)→M (ByteArray):=fun s=>match s with
 | (Xx42,Xx43)=>do
  M.ite (decide (Xx43 < C47)) (do
   let Xx58←ixL C46 Xx43 4
   let Xx59←ldG 4 Xx58
   let Xx60←mkB KJ (#[.int .i64 0,.int .i64 0,.string ByteArray.empty,.slice none 0 0]:Array Value)
   M.need (Xx59.size=4)
   stG Xx60 Xx59
   let Xx63←ldG 4 Xx60
   let Xx64←NY Go.Proofs.Tryz.prog KBA #[.agg Xx63,.int .i64 (IntKind.wrap .i64 (C44+1))] (fun r:ByteArray=>.string r)
   let Xx66←ldI .i64 ((C45).add 0)
   let Xx67←M.ite (Xx66 == 5) (do
    M.pure ((Int.tmod Xx43 2) == 1)
    ) (do
    M.pure false
    )
   M.ite Xx67 (do
    let Xx68←ixL Xx42 (IntKind.wrap .i64 ((Xx42.len:Int) - 1)) 1
    let Xx69←ldS Xx68
    let Xx70←sCat (⟨#[58,32]⟩:ByteArray) Xx64
    let Xx71←sCat Xx69 Xx70
    let Xx72←ixL Xx42 (IntKind.wrap .i64 ((Xx42.len:Int) - 1)) 1
    stV Xx72 (.string Xx71)
    Vt self1 Xx43 Xx42
    ) (do
    let Xx74←bdL Xo 1 #[.string Xx64]
    let Xx75←apL Xo 1 16 (#[.string ByteArray.empty]:Array Value) Xx42 Xx74
    Vt self1 Xx43 Xx75
    )
   ) (do
   let Xx77←YL Xx42 (⟨#[44,32]⟩:ByteArray)
   let Xx80←ldI .i64 ((C45).add 0)
   M.ite (Xx80 == 5) (do
    let Xx82←sCat (⟨#[123]⟩:ByteArray) Xx77
    let Xx83←sCat Xx82 (⟨#[125]⟩:ByteArray)
    M.pure Xx83
    ) (do
    let Xx85←sCat (⟨#[91]⟩:ByteArray) Xx77
    let Xx86←sCat Xx85 (⟨#[93]⟩:ByteArray)
    M.pure Xx86
    )
   )
def Vu (C36:Int) (C37:Addr) (Xx35:Bool):M (ByteArray):=do
 M.ite Xx35 (do
  let Xx41←ldL ((C37).add 3)
  M.loop (Yo C36 C37 Xx41 (Xx41.len:Int)) (Sl.nil,0)
  ) (do
  M.pure (⟨#[63]⟩:ByteArray)
  )
def Yy (x0:Array Value) (x1:Int):M (ByteArray):=do
 let Xx2←mkB KJ x0
 M.ite (decide (x1 > 8)) (do
  M.pure (⟨#[63]⟩:ByteArray)
  ) (do
  let Xx8←ldI .i64 ((Xx2).add 0)
  M.ite (Xx8 == 1) (do
   let Xx11←ldI .i64 ((Xx2).add 1)
   let Xx12←GK Xx11
   M.pure Xx12
   ) (do
   M.ite (Xx8 == 2) (do
    let Xx15←ldS ((Xx2).add 2)
    let Xx16←XA Xx15
    M.pure Xx16
    ) (do
    M.ite (Xx8 == 3) (do
     let Xx20←ldI .i64 ((Xx2).add 1)
     M.ite (Xx20 == 1) (do
      M.pure (⟨#[116,114,117,101]⟩:ByteArray)
      ) (do
      M.pure (⟨#[102,97,108,115,101]⟩:ByteArray)
      )
     ) (do
     M.ite (Xx8 == 6) (do
      let Xx25←ldI .i64 ((Xx2).add 1)
      let Xx26←GK Xx25
      let Xx27←sCat (⟨#[118,91]⟩:ByteArray) Xx26
      let Xx28←sCat Xx27 (⟨#[93]⟩:ByteArray)
      M.pure Xx28
      ) (do
      M.ite (Xx8 == 7) (do
       let Xx31←ldI .i64 ((Xx2).add 1)
       let Xx32←GK Xx31
       let Xx33←sCat (⟨#[101,91]⟩:ByteArray) Xx32
       let Xx34←sCat Xx33 (⟨#[93]⟩:ByteArray)
       M.pure Xx34
       ) (do
       M.ite (Xx8 == 4) (do
        Vu x1 Xx2 (Xx8 == 4)
        ) (do
        Vu x1 Xx2 (Xx8 == 5)
        )
       )
      )
     )
    )
   )
  )
theorem zD (x0:Array Value) (x1:Int):ZK Go.Proofs.Tryz.prog 76 #[.agg x0,.int .i64 x1] (fun (r:ByteArray)=>.string r) (Yy x0 x1):=by
 refine KY [(0,.agg x0),(1,.int .i64 x1)] Go.Proofs.Tryz.func76 rfl rfl (Nat.le_of_ble_eq_true rfl) (Ke ⟨rfl,rfl,trivial⟩) (fun w0 w Q R a hret hE hR H=>?_)
 unfold Yy at H
 refine KH (fun K hK_1=>?_)
 refine KC ?_
 obtain ⟨Xx2,qXx2,H⟩:=H
 refine ZR (v:=.pointer (some Xx2)) rfl rfl hE rfl hR (YP hE rfl qXx2) (fun a w hE hR hh=>?_)
 replace H:=M.at hh H; clear hh
 refine KB (v:=.string ByteArray.empty) rfl rfl hE rfl (KE hE rfl) (fun a hE=>?_)
 refine KG ?_
 refine hK_1 _ _ ?_
 refine KH (fun K hK_3=>?_)
 refine KH (fun K hK_4=>?_)
 refine KC ?_
 refine KB (v:=.int .i64 x1) rfl rfl hE rfl (KD hE rfl) (fun a hE=>?_)
 refine KB (v:=.bool (decide (x1 > 8))) rfl rfl hE rfl (KL hE rfl rfl KN YI) (fun a hE=>?_)
 refine KG ?_
 refine hK_4 _ _ ?_
 refine KS (decide (x1 > 8)) hE rfl (fun hb=>?_) (fun hb=>?_)
 ·replace H:=M.ite_t hb H
  refine KH (fun K hK_5=>?_)
  refine KC ?_
  refine KB (v:=.string (⟨#[63]⟩:ByteArray)) rfl rfl hE rfl (KE hE rfl) (fun a hE=>?_)
  refine KG ?_
  refine hK_5 _ _ ?_
  refine Kg ?_
  exact hret _ _ _ (⟨#[63]⟩:ByteArray) _ hE hR (KM hE rfl (RV.tmp rfl RV.nil)) rfl H
 ·replace H:=M.ite_f hb H
  refine Ka ?_
  refine hK_3 _ _ ?_
  refine KH (fun K hK_6=>?_)
  refine KH (fun K hK_7=>?_)
  refine KC ?_
  refine KB (v:=.pointer (some ((Xx2).add 0))) rfl rfl hE rfl (KI hE rfl qK) (fun a hE=>?_)
  obtain ⟨Xx8,qXx8,H⟩:=H
  refine KB (v:=.int .i64 Xx8) rfl rfl hE rfl (KU hE rfl sc3 qXx8) (fun a hE=>?_)
  refine KG ?_
  refine hK_7 _ _ ?_
  refine Kj ?_
  refine KH (fun K hK_9=>?_)
  refine KC ?_
  refine KB (v:=.bool (Xx8 == 1)) rfl rfl hE rfl (KL hE rfl rfl KN Z5) (fun a hE=>?_)
  refine KB (v:=.bool (Xx8 == 1)) rfl rfl hE rfl (KE hE rfl) (fun a hE=>?_)
  refine KG ?_
  refine hK_9 _ _ ?_
  refine KS (Xx8 == 1) hE rfl (fun hb=>?_) (fun hb=>?_)
  ·replace H:=M.ite_t hb H
   refine KH (fun K hK_10=>?_)
   refine KC ?_
   refine KB (v:=.pointer (some ((Xx2).add 1))) rfl rfl hE rfl (KI hE rfl Vy) (fun a hE=>?_)
   obtain ⟨Xx11,qXx11,H⟩:=H
   refine KB (v:=.int .i64 Xx11) rfl rfl hE rfl (KU hE rfl sc2 qXx11) (fun a hE=>?_)
   refine KZ hE hR Nh rfl (qm Xx11) (M.unbind H) (fun Xx12 a w ea hR H=>?_)
   have hE:=Env.put_some hE rfl ea; clear ea
   refine KB (v:=.string Xx12) rfl rfl hE rfl (KE hE rfl) (fun a hE=>?_)
   refine KG ?_
   refine hK_10 _ _ ?_
   refine Kg ?_
   exact hret _ _ _ Xx12 _ hE hR (KM hE rfl (RV.tmp rfl RV.nil)) rfl H
  ·replace H:=M.ite_f hb H
   refine KH (fun K hK_13=>?_)
   refine KC ?_
   refine KB (v:=.bool (Xx8 == 2)) rfl rfl hE rfl (KL hE rfl rfl KN Z5) (fun a hE=>?_)
   refine KB (v:=.bool (Xx8 == 2)) rfl rfl hE rfl (KE hE rfl) (fun a hE=>?_)
   refine KG ?_
   refine hK_13 _ _ ?_
   refine KS (Xx8 == 2) hE rfl (fun hb=>?_) (fun hb=>?_)
   ·replace H:=M.ite_t hb H
    refine KH (fun K hK_14=>?_)
    refine KC ?_
    refine KB (v:=.pointer (some ((Xx2).add 2))) rfl rfl hE rfl (KI hE rfl XV) (fun a hE=>?_)
    obtain ⟨Xx15,qXx15,H⟩:=H
    refine KB (v:=.string Xx15) rfl rfl hE rfl (KU hE rfl sc9 qXx15) (fun a hE=>?_)
    refine KZ hE hR KAK rfl (KBK Xx15) (M.unbind H) (fun Xx16 a w ea hR H=>?_)
    have hE:=Env.put_some hE rfl ea; clear ea
    refine KB (v:=.string Xx16) rfl rfl hE rfl (KE hE rfl) (fun a hE=>?_)
    refine KG ?_
    refine hK_14 _ _ ?_
    refine Kg ?_
    exact hret _ _ _ Xx16 _ hE hR (KM hE rfl (RV.tmp rfl RV.nil)) rfl H
   ·replace H:=M.ite_f hb H
    refine KH (fun K hK_17=>?_)
    refine KC ?_
    refine KB (v:=.bool (Xx8 == 3)) rfl rfl hE rfl (KL hE rfl rfl KN Z5) (fun a hE=>?_)
    refine KB (v:=.bool (Xx8 == 3)) rfl rfl hE rfl (KE hE rfl) (fun a hE=>?_)
    refine KG ?_
    refine hK_17 _ _ ?_
    refine KS (Xx8 == 3) hE rfl (fun hb=>?_) (fun hb=>?_)
    ·replace H:=M.ite_t hb H
     refine KH (fun K hK_18=>?_)
     refine KH (fun K hK_19=>?_)
     refine KC ?_
     refine KB (v:=.pointer (some ((Xx2).add 1))) rfl rfl hE rfl (KI hE rfl Vy) (fun a hE=>?_)
     obtain ⟨Xx20,qXx20,H⟩:=H
     refine KB (v:=.int .i64 Xx20) rfl rfl hE rfl (KU hE rfl sc2 qXx20) (fun a hE=>?_)
     refine KB (v:=.bool (Xx20 == 1)) rfl rfl hE rfl (KL hE rfl rfl KN Z5) (fun a hE=>?_)
     refine KG ?_
     refine hK_19 _ _ ?_
     refine KS (Xx20 == 1) hE rfl (fun hb=>?_) (fun hb=>?_)
     ·replace H:=M.ite_t hb H
      refine KH (fun K hK_21=>?_)
      refine KC ?_
      refine KB (v:=.string (⟨#[116,114,117,101]⟩:ByteArray)) rfl rfl hE rfl (KE hE rfl) (fun a hE=>?_)
      refine KG ?_
      refine hK_21 _ _ ?_
      refine Kg ?_
      exact hret _ _ _ (⟨#[116,114,117,101]⟩:ByteArray) _ hE hR (KM hE rfl (RV.tmp rfl RV.nil)) rfl H
     ·replace H:=M.ite_f hb H
      refine Ka ?_
      refine hK_18 _ _ ?_
      refine KH (fun K hK_22=>?_)
      refine KC ?_
      refine KB (v:=.string (⟨#[102,97,108,115,101]⟩:ByteArray)) rfl rfl hE rfl (KE hE rfl) (fun a hE=>?_)
      refine KG ?_
      refine hK_22 _ _ ?_
      refine Kg ?_
      exact hret _ _ _ (⟨#[102,97,108,115,101]⟩:ByteArray) _ hE hR (KM hE rfl (RV.tmp rfl RV.nil)) rfl H
    ·replace H:=M.ite_f hb H
     refine KH (fun K hK_23=>?_)
     refine KC ?_
     refine KB (v:=.bool (Xx8 == 6)) rfl rfl hE rfl (KL hE rfl rfl KN Z5) (fun a hE=>?_)
     refine KB (v:=.bool (Xx8 == 6)) rfl rfl hE rfl (KE hE rfl) (fun a hE=>?_)
     refine KG ?_
     refine hK_23 _ _ ?_
     refine KS (Xx8 == 6) hE rfl (fun hb=>?_) (fun hb=>?_)
     ·replace H:=M.ite_t hb H
      refine KH (fun K hK_24=>?_)
      refine KC ?_
      refine KB (v:=.pointer (some ((Xx2).add 1))) rfl rfl hE rfl (KI hE rfl Vy) (fun a hE=>?_)
      obtain ⟨Xx25,qXx25,H⟩:=H
      refine KB (v:=.int .i64 Xx25) rfl rfl hE rfl (KU hE rfl sc2 qXx25) (fun a hE=>?_)
      refine KZ hE hR Nh rfl (qm Xx25) (M.unbind H) (fun Xx26 a w ea hR H=>?_)
      have hE:=Env.put_some hE rfl ea; clear ea
      obtain ⟨Xx27,qXx27,H⟩:=H
      refine KB (v:=.string Xx27) rfl rfl hE rfl (KL hE rfl rfl Xc (NS qXx27)) (fun a hE=>?_)
      obtain ⟨Xx28,qXx28,H⟩:=H
      refine KB (v:=.string Xx28) rfl rfl hE rfl (KL hE rfl rfl Xc (NS qXx28)) (fun a hE=>?_)
      refine KB (v:=.string Xx28) rfl rfl hE rfl (KE hE rfl) (fun a hE=>?_)
      refine KG ?_
      refine hK_24 _ _ ?_
      refine Kg ?_
      exact hret _ _ _ Xx28 _ hE hR (KM hE rfl (RV.tmp rfl RV.nil)) rfl H
     ·replace H:=M.ite_f hb H
      refine KH (fun K hK_29=>?_)
      refine KC ?_
      refine KB (v:=.bool (Xx8 == 7)) rfl rfl hE rfl (KL hE rfl rfl KN Z5) (fun a hE=>?_)
      refine KB (v:=.bool (Xx8 == 7)) rfl rfl hE rfl (KE hE rfl) (fun a hE=>?_)
      refine KG ?_
      refine hK_29 _ _ ?_
      refine KS (Xx8 == 7) hE rfl (fun hb=>?_) (fun hb=>?_)
      ·replace H:=M.ite_t hb H
       refine KH (fun K hK_30=>?_)
       refine KC ?_
       refine KB (v:=.pointer (some ((Xx2).add 1))) rfl rfl hE rfl (KI hE rfl Vy) (fun a hE=>?_)
       obtain ⟨Xx31,qXx31,H⟩:=H
       refine KB (v:=.int .i64 Xx31) rfl rfl hE rfl (KU hE rfl sc2 qXx31) (fun a hE=>?_)
       refine KZ hE hR Nh rfl (qm Xx31) (M.unbind H) (fun Xx32 a w ea hR H=>?_)
       have hE:=Env.put_some hE rfl ea; clear ea
       obtain ⟨Xx33,qXx33,H⟩:=H
       refine KB (v:=.string Xx33) rfl rfl hE rfl (KL hE rfl rfl Xc (NS qXx33)) (fun a hE=>?_)
       obtain ⟨Xx34,qXx34,H⟩:=H
       refine KB (v:=.string Xx34) rfl rfl hE rfl (KL hE rfl rfl Xc (NS qXx34)) (fun a hE=>?_)
       refine KB (v:=.string Xx34) rfl rfl hE rfl (KE hE rfl) (fun a hE=>?_)
       refine KG ?_
       refine hK_30 _ _ ?_
       refine Kg ?_
       exact hret _ _ _ Xx34 _ hE hR (KM hE rfl (RV.tmp rfl RV.nil)) rfl H
      ·replace H:=M.ite_f hb H
       refine Ku (fun a w=>∃ (Xx35:Bool),Env (⟨92,[]⟩:Frm) a [(1,.int .i64 x1),(2,.pointer (some Xx2)),(43,.bool Xx35)]∧Rest w0 w∧(Vu x1 Xx2 Xx35).wp w.heap Q) ?_ ?_
       ·rintro a w ⟨Xx35,hE,hR,H⟩
        unfold Vu at H
        refine KS Xx35 hE rfl (fun hb=>?_) (fun hb=>?_)
        ·replace H:=M.ite_t hb H
         refine Ka ?_
         refine hK_6 _ _ ?_
         refine KH (fun K hK_38=>?_)
         refine KC ?_
         refine KB (v:=(Sl.nil:Sl).v) rfl rfl hE rfl (KE hE rfl) (fun a hE=>?_)
         refine KG ?_
         refine hK_38 _ _ ?_
         refine KH (fun K hK_39=>?_)
         refine KH (fun K hK_40=>?_)
         refine KC ?_
         refine KB (v:=.pointer (some ((Xx2).add 3))) rfl rfl hE rfl (KI hE rfl UU) (fun a hE=>?_)
         obtain ⟨Xx41,qXx41,H⟩:=H
         refine KB (v:=(Xx41:Sl).v) rfl rfl hE rfl (KU hE rfl sc22 qXx41) (fun a hE=>?_)
         refine KB (v:=.int .i64 (Xx41.len:Int)) rfl rfl hE rfl (UA hE rfl 24 un22) (fun a hE=>?_)
         refine KB (v:=.int .i64 0) rfl rfl hE rfl (KD hE rfl) (fun a hE=>?_)
         refine KG ?_
         refine hK_40 _ _ ?_
         refine Kj ?_
         refine J7 (fun (s:Sl × Int)=>(⟨92,[]⟩:Frm)) (fun (s:Sl × Int)=>[(1,.int .i64 x1),(2,.pointer (some Xx2)),(5,(s.1:Sl).v),(47,(Xx41:Sl).v),(48,.int .i64 (Xx41.len:Int)),(49,.int .i64 s.2)]) H (hE.cut (.cons rfl (.cons rfl (.cons rfl (.cons rfl (.cons rfl (.cons rfl Subs.nil))))))) hR (fun Y self1 hY_48 s a w hE hR H=>?_)
         rcases s with ⟨Xx42,Xx43⟩
         replace hE:Env (⟨92,[]⟩:Frm) a [(1,.int .i64 x1),(2,.pointer (some Xx2)),(5,(Xx42:Sl).v),(47,(Xx41:Sl).v),(48,.int .i64 (Xx41.len:Int)),(49,.int .i64 Xx43)]:=hE
         replace H:(Yo x1 Xx2 Xx41 (Xx41.len:Int) self1 (Xx42,Xx43)).wp w.heap Q:=H
         unfold Yo at H
         refine KH (fun K hK_49=>?_)
         refine KC ?_
         refine KB (v:=.bool (decide (Xx43 < (Xx41.len:Int)))) rfl rfl hE rfl (KL hE rfl rfl KN JL) (fun a hE=>?_)
         refine KG ?_
         refine hK_49 _ _ ?_
         refine KH (fun K hK_50=>?_)
         refine KS (decide (Xx43 < (Xx41.len:Int))) hE rfl (fun hb=>?_) (fun hb=>?_)
         ·replace H:=M.ite_t hb H
          refine Ka ?_
          refine hK_50 _ _ ?_
          refine Ku (fun a w=>∃ (Xx51:Sl),Env (⟨92,[]⟩:Frm) a [(1,.int .i64 x1),(2,.pointer (some Xx2)),(47,(Xx41:Sl).v),(48,.int .i64 (Xx41.len:Int)),(49,.int .i64 Xx43),(5,(Xx51:Sl).v)]∧Rest w0 w∧(Vt self1 Xx43 Xx51).wp w.heap Q) ?_ ?_
          ·rintro a w ⟨Xx51,hE,hR,H⟩
           unfold Vt at H
           refine KC ?_
           refine KB (v:=.int .i64 (IntKind.wrap .i64 (Xx43+1))) rfl rfl hE rfl (KL hE rfl rfl KN JE) (fun a hE=>?_)
           refine KB (v:=.int .i64 (IntKind.wrap .i64 (Xx43+1))) rfl rfl hE rfl (KD hE rfl) (fun a hE=>?_)
           refine KG ?_
           exact hY_48 (Xx51,IntKind.wrap .i64 (Xx43+1)) _ _ (hE.cut (.cons rfl (.cons rfl (.cons rfl (.cons rfl (.cons rfl (.cons rfl Subs.nil))))))) hR H
          ·skip
           refine Kj ?_
           refine KH (fun K hK_57=>?_)
           refine KC ?_
           refine KB (v:=.int .i64 Xx43) rfl rfl hE rfl (KD hE rfl) (fun a hE=>?_)
           obtain ⟨Xx58,qXx58,H⟩:=H
           refine KB (v:=.pointer (some Xx58)) rfl rfl hE rfl (KR hE rfl rfl un22 sz24 qXx58) (fun a hE=>?_)
           obtain ⟨Xx59,qXx59,H⟩:=H
           refine KB (v:=.agg Xx59) rfl rfl hE rfl (ZN hE rfl ag24 qXx59) (fun a hE=>?_)
           obtain ⟨Xx60,qXx60,H⟩:=H
           refine ZR (v:=.pointer (some Xx60)) rfl rfl hE rfl hR (Z4 zr24 qXx60) (fun a w hE hR hh=>?_)
           replace H:=M.at hh H; clear hh
           refine KB (v:=.int .i64 Xx43) rfl rfl hE rfl (KE hE rfl) (fun a hE=>?_)
           obtain ⟨qz,H⟩:=H
           obtain ⟨u_61,qu_61,H⟩:=H
           refine JI rfl rfl hE hR (Kv hE rfl rfl sz24 qz qu_61) (fun a w hE hR hh=>?_)
           replace H:=M.at hh H; clear hh
           refine KG ?_
           refine hK_57 _ _ ?_
           refine KH (fun K hK_62=>?_)
           refine KC ?_
           obtain ⟨Xx63,qXx63,H⟩:=H
           refine KB (v:=.agg Xx63) rfl rfl hE rfl (ZN hE rfl ag24 qXx63) (fun a hE=>?_)
           refine KB (v:=.int .i64 x1) rfl rfl hE rfl (KD hE rfl) (fun a hE=>?_)
           refine KB (v:=.int .i64 (IntKind.wrap .i64 (x1+1))) rfl rfl hE rfl (KL hE rfl rfl KN JE) (fun a hE=>?_)
           refine KZ hE hR qJ rfl (Ud) (M.unbind H) (fun Xx64 a w ea hR H=>?_)
           have hE:=Env.put_some hE rfl ea; clear ea
           refine KB (v:=.string Xx64) rfl rfl hE rfl (KE hE rfl) (fun a hE=>?_)
           refine KG ?_
           refine hK_62 _ _ ?_
           refine KH (fun K hK_65=>?_)
           refine KC ?_
           refine KB (v:=.pointer (some ((Xx2).add 0))) rfl rfl hE rfl (KI hE rfl qK) (fun a hE=>?_)
           obtain ⟨Xx66,qXx66,H⟩:=H
           refine KB (v:=.int .i64 Xx66) rfl rfl hE rfl (KU hE rfl sc3 qXx66) (fun a hE=>?_)
           refine KB (v:=.bool (Xx66 == 5)) rfl rfl hE rfl (KL hE rfl rfl KN Z5) (fun a hE=>?_)
           refine KB (v:=.bool (Xx66 == 5)) rfl rfl hE rfl (KD hE rfl) (fun a hE=>?_)
           refine J5 (n:=(⟨92,[]⟩:Frm)) (w0:=w0) 4 (fun Xx67:Bool=>[(1,.int .i64 x1),(2,.pointer (some Xx2)),(47,(Xx41:Sl).v),(48,.int .i64 (Xx41.len:Int)),(5,(Xx42:Sl).v),(49,.int .i64 Xx43),(8,.string Xx64),(65,.bool Xx67)]) (M.unbind H) (fun Kr hKr H=>?_) ?_
           ·rcases Kq (Xx66 == 5) with hb | hb
            ·replace H:=M.ite_t hb H
             have hE:=hE.reb 61 (Xx66 == 5) true hb rfl
             refine t_on rfl hE rfl rfl rfl ?_
             refine KB (v:=.int .i64 Xx43) rfl rfl hE rfl (KD hE rfl) (fun a hE=>?_)
             refine t_on rfl hE rfl rfl rfl ?_
             refine KB (v:=.int .i64 (Int.tmod Xx43 2)) rfl rfl hE rfl (KL hE rfl rfl KN (KD3 ⟨by decide,rfl⟩)) (fun a hE=>?_)
             refine t_on rfl hE rfl rfl rfl ?_
             refine KB (v:=.bool ((Int.tmod Xx43 2) == 1)) rfl rfl hE rfl (KL hE rfl rfl KN Z5) (fun a hE=>?_)
             refine KB rfl rfl hE rfl (Kc hE rfl rfl) (fun a hE=>?_)
             refine KG ?_
             exact hKr _ _ _ (hE.cut (.cons rfl (.cons rfl (.cons rfl (.cons rfl (.cons rfl (.cons rfl (.cons rfl (.cons rfl Subs.nil))))))))) hR H
            ·replace H:=M.ite_f hb H
             have hE:=hE.reb 61 (Xx66 == 5) false hb rfl
             refine Kf rfl hE rfl rfl rfl (fun a ea=>?_)
             have hE:=Env.put_some hE rfl ea; clear ea
             refine Kf rfl hE rfl rfl rfl (fun a ea=>?_)
             have hE:=Env.put_some hE rfl ea; clear ea
             refine Kf rfl hE rfl rfl rfl (fun a ea=>?_)
             have hE:=Env.put_some hE rfl ea; clear ea
             refine KB rfl rfl hE rfl (Kd hE rfl rfl) (fun a hE=>?_)
             refine KG ?_
             exact hKr _ _ _ (hE.cut (.cons rfl (.cons rfl (.cons rfl (.cons rfl (.cons rfl (.cons rfl (.cons rfl (.cons rfl Subs.nil))))))))) hR H
           ·intro Xx67 a w hE hR H
            refine KG ?_
            refine hK_65 _ _ ?_
            refine KS Xx67 hE rfl (fun hb=>?_) (fun hb=>?_)
            ·replace H:=M.ite_t hb H
             refine KC ?_
             refine KB (v:=(Xx42:Sl).v) rfl rfl hE rfl (KD hE rfl) (fun a hE=>?_)
             refine KB (v:=(Xx42:Sl).v) rfl rfl hE rfl (KD hE rfl) (fun a hE=>?_)
             refine KB (v:=.int .i64 (Xx42.len:Int)) rfl rfl hE rfl (UA hE rfl 9 Ng) (fun a hE=>?_)
             refine KB (v:=.int .i64 (IntKind.wrap .i64 ((Xx42.len:Int) - 1))) rfl rfl hE rfl (KL hE rfl rfl KN VA) (fun a hE=>?_)
             obtain ⟨Xx68,qXx68,H⟩:=H
             refine KB (v:=.pointer (some Xx68)) rfl rfl hE rfl (KR hE rfl rfl Ng sz9 qXx68) (fun a hE=>?_)
             obtain ⟨Xx69,qXx69,H⟩:=H
             refine KB (v:=.string Xx69) rfl rfl hE rfl (KU hE rfl sc9 qXx69) (fun a hE=>?_)
             refine KB (v:=.string Xx64) rfl rfl hE rfl (KD hE rfl) (fun a hE=>?_)
             obtain ⟨Xx70,qXx70,H⟩:=H
             refine KB (v:=.string Xx70) rfl rfl hE rfl (KL hE rfl rfl Xc (NS qXx70)) (fun a hE=>?_)
             obtain ⟨Xx71,qXx71,H⟩:=H
             refine KB (v:=.string Xx71) rfl rfl hE rfl (KL hE rfl rfl Xc (NS qXx71)) (fun a hE=>?_)
             obtain ⟨Xx72,qXx72,H⟩:=H
             refine KB (v:=.pointer (some Xx72)) rfl rfl hE rfl (KR hE rfl rfl Ng sz9 qXx72) (fun a hE=>?_)
             obtain ⟨u_73,qu_73,H⟩:=H
             refine JI rfl rfl hE hR (JK hE rfl rfl sz9 qu_73) (fun a w hE hR hh=>?_)
             replace H:=M.at hh H; clear hh
             refine KG ?_
             exact ⟨Xx42,hE.cut (.cons rfl (.cons rfl (.cons rfl (.cons rfl (.cons rfl (.cons rfl Subs.nil)))))),hR,H⟩
            ·replace H:=M.ite_f hb H
             refine KC ?_
             refine KB (v:=(Xx42:Sl).v) rfl rfl hE rfl (KD hE rfl) (fun a hE=>?_)
             refine KB (v:=.string Xx64) rfl rfl hE rfl (KD hE rfl) (fun a hE=>?_)
             obtain ⟨Xx74,qXx74,H⟩:=H
             refine ZR (v:=(Xx74:Sl).v) rfl rfl hE rfl hR (YE (cells:=#[.string Xx64]) hE rfl Ng sz9 zr9 rfl rfl qXx74) (fun a w hE hR hh=>?_)
             replace H:=M.at hh H; clear hh
             refine t_ex (fun Xx75=>(Xx75:Sl).v) rfl rfl hR (M.unbind H) (fun Q H=>Xm hE rfl rfl KJW H) (fun Xx75 a w ea hR H=>?_)
             have hE:=Env.put_some hE rfl ea; clear ea
             refine KB (v:=(Xx75:Sl).v) rfl rfl hE rfl (KE hE rfl) (fun a hE=>?_)
             refine KG ?_
             exact ⟨Xx75,hE.cut (.cons rfl (.cons rfl (.cons rfl (.cons rfl (.cons rfl (.cons rfl Subs.nil)))))),hR,H⟩
         ·replace H:=M.ite_f hb H
          refine J6 ?_
          refine Xu.same ?_
          refine hK_39 _ _ ?_
          refine KH (fun K hK_76=>?_)
          refine KC ?_
          refine KB (v:=(Xx42:Sl).v) rfl rfl hE rfl (KD hE rfl) (fun a hE=>?_)
          refine KZ hE hR zi rfl (KAN Xx42 (⟨#[44,32]⟩:ByteArray)) (M.unbind H) (fun Xx77 a w ea hR H=>?_)
          have hE:=Env.put_some hE rfl ea; clear ea
          refine KB (v:=.string Xx77) rfl rfl hE rfl (KE hE rfl) (fun a hE=>?_)
          refine KG ?_
          refine hK_76 _ _ ?_
          refine KH (fun K hK_78=>?_)
          refine KH (fun K hK_79=>?_)
          refine KC ?_
          refine KB (v:=.pointer (some ((Xx2).add 0))) rfl rfl hE rfl (KI hE rfl qK) (fun a hE=>?_)
          obtain ⟨Xx80,qXx80,H⟩:=H
          refine KB (v:=.int .i64 Xx80) rfl rfl hE rfl (KU hE rfl sc3 qXx80) (fun a hE=>?_)
          refine KB (v:=.bool (Xx80 == 5)) rfl rfl hE rfl (KL hE rfl rfl KN Z5) (fun a hE=>?_)
          refine KG ?_
          refine hK_79 _ _ ?_
          refine KS (Xx80 == 5) hE rfl (fun hb=>?_) (fun hb=>?_)
          ·replace H:=M.ite_t hb H
           refine KH (fun K hK_81=>?_)
           refine KC ?_
           refine KB (v:=.string Xx77) rfl rfl hE rfl (KD hE rfl) (fun a hE=>?_)
           obtain ⟨Xx82,qXx82,H⟩:=H
           refine KB (v:=.string Xx82) rfl rfl hE rfl (KL hE rfl rfl Xc (NS qXx82)) (fun a hE=>?_)
           obtain ⟨Xx83,qXx83,H⟩:=H
           refine KB (v:=.string Xx83) rfl rfl hE rfl (KL hE rfl rfl Xc (NS qXx83)) (fun a hE=>?_)
           refine KB (v:=.string Xx83) rfl rfl hE rfl (KE hE rfl) (fun a hE=>?_)
           refine KG ?_
           refine hK_81 _ _ ?_
           refine Kg ?_
           exact hret _ _ _ Xx83 _ hE hR (KM hE rfl (RV.tmp rfl RV.nil)) rfl H
          ·replace H:=M.ite_f hb H
           refine Ka ?_
           refine hK_78 _ _ ?_
           refine KH (fun K hK_84=>?_)
           refine KC ?_
           refine KB (v:=.string Xx77) rfl rfl hE rfl (KD hE rfl) (fun a hE=>?_)
           obtain ⟨Xx85,qXx85,H⟩:=H
           refine KB (v:=.string Xx85) rfl rfl hE rfl (KL hE rfl rfl Xc (NS qXx85)) (fun a hE=>?_)
           obtain ⟨Xx86,qXx86,H⟩:=H
           refine KB (v:=.string Xx86) rfl rfl hE rfl (KL hE rfl rfl Xc (NS qXx86)) (fun a hE=>?_)
           refine KB (v:=.string Xx86) rfl rfl hE rfl (KE hE rfl) (fun a hE=>?_)
           refine KG ?_
           refine hK_84 _ _ ?_
           refine Kg ?_
           exact hret _ _ _ Xx86 _ hE hR (KM hE rfl (RV.tmp rfl RV.nil)) rfl H
        ·replace H:=M.ite_f hb H
         refine KH (fun K hK_87=>?_)
         refine KC ?_
         refine KB (v:=.string (⟨#[63]⟩:ByteArray)) rfl rfl hE rfl (KE hE rfl) (fun a hE=>?_)
         refine KG ?_
         refine hK_87 _ _ ?_
         refine Kg ?_
         exact hret _ _ _ (⟨#[63]⟩:ByteArray) _ hE hR (KM hE rfl (RV.tmp rfl RV.nil)) rfl H
       ·skip
        refine KH (fun K hK_88=>?_)
        refine KC ?_
        refine KB (v:=.bool (Xx8 == 4)) rfl rfl hE rfl (KL hE rfl rfl KN Z5) (fun a hE=>?_)
        refine KB (v:=.bool (Xx8 == 4)) rfl rfl hE rfl (KE hE rfl) (fun a hE=>?_)
        refine KG ?_
        refine hK_88 _ _ ?_
        refine KS (Xx8 == 4) hE rfl (fun hb=>?_) (fun hb=>?_)
        ·replace H:=M.ite_t hb H
         refine Ka ?_
         exact ⟨Xx8 == 4,hE.cut (.cons rfl (.cons rfl (.cons rfl Subs.nil))),hR,H⟩
        ·replace H:=M.ite_f hb H
         refine KC ?_
         refine KB (v:=.bool (Xx8 == 5)) rfl rfl hE rfl (KL hE rfl rfl KN Z5) (fun a hE=>?_)
         refine KB (v:=.bool (Xx8 == 5)) rfl rfl hE rfl (KE hE rfl) (fun a hE=>?_)
         refine KG ?_
         exact ⟨Xx8 == 5,hE.cut (.cons rfl (.cons rfl (.cons rfl Subs.nil))),hR,H⟩
def Xt (x0:Array Value):M (ByteArray):=do
 let Xx2←mkB KJ x0
 let Xx4←ldG 4 Xx2
 let Xx5←Yy Xx4 1
 M.pure Xx5
theorem KBo (x0:Array Value):ZK Go.Proofs.Tryz.prog 18 #[.agg x0] (fun (r:ByteArray)=>.string r) (Xt x0):=by
 refine KY [(0,.agg x0)] Go.Proofs.Tryz.func18 rfl rfl (Nat.le_of_ble_eq_true rfl) (Ke ⟨rfl,trivial⟩) (fun w0 w Q R a hret hE hR H=>?_)
 unfold Xt at H
 refine KH (fun K hK_1=>?_)
 refine KC ?_
 obtain ⟨Xx2,qXx2,H⟩:=H
 refine ZR (v:=.pointer (some Xx2)) rfl rfl hE rfl hR (YP hE rfl qXx2) (fun a w hE hR hh=>?_)
 replace H:=M.at hh H; clear hh
 refine KB (v:=.string ByteArray.empty) rfl rfl hE rfl (KE hE rfl) (fun a hE=>?_)
 refine KG ?_
 refine hK_1 _ _ ?_
 refine KH (fun K hK_3=>?_)
 refine KC ?_
 obtain ⟨Xx4,qXx4,H⟩:=H
 refine KB (v:=.agg Xx4) rfl rfl hE rfl (ZN hE rfl ag24 qXx4) (fun a hE=>?_)
 refine KZ hE hR qJ rfl (zD Xx4 1) (M.unbind H) (fun Xx5 a w ea hR H=>?_)
 have hE:=Env.put_some hE rfl ea; clear ea
 refine KB (v:=.string Xx5) rfl rfl hE rfl (KE hE rfl) (fun a hE=>?_)
 refine KG ?_
 refine hK_3 _ _ ?_
 refine Kg ?_
 exact hret _ _ _ Xx5 _ hE hR (KM hE rfl (RV.tmp rfl RV.nil)) rfl H
def JQ (x0:Int) (x1:Int):M (Int):=do
 M.ite (decide (x0 < x1)) (do
  M.pure (-1)
  ) (do
  M.ite (decide (x0 > x1)) (do
   M.pure 1
   ) (do
   M.pure 0
   )
  )
theorem U7 (x0:Int) (x1:Int):ZK Go.Proofs.Tryz.prog 85 #[.int .i64 x0,.int .i64 x1] (fun (r:Int)=>.int .i64 r) (JQ x0 x1):=by
 refine KY [(0,.int .i64 x0),(1,.int .i64 x1)] Go.Proofs.Tryz.func85 rfl rfl (Nat.le_of_ble_eq_true rfl) (Ke ⟨rfl,rfl,trivial⟩) (fun w0 w Q R a hret hE hR H=>?_)
 unfold JQ at H
 refine KH (fun K hK_1=>?_)
 refine KC ?_
 refine KB (v:=.int .i64 0) rfl rfl hE rfl (KE hE rfl) (fun a hE=>?_)
 refine KG ?_
 refine hK_1 _ _ ?_
 refine KH (fun K hK_2=>?_)
 refine KH (fun K hK_3=>?_)
 refine KC ?_
 refine KB (v:=.int .i64 x0) rfl rfl hE rfl (KD hE rfl) (fun a hE=>?_)
 refine KB (v:=.int .i64 x1) rfl rfl hE rfl (KD hE rfl) (fun a hE=>?_)
 refine KB (v:=.bool (decide (x0 < x1))) rfl rfl hE rfl (KL hE rfl rfl KN JL) (fun a hE=>?_)
 refine KG ?_
 refine hK_3 _ _ ?_
 refine KS (decide (x0 < x1)) hE rfl (fun hb=>?_) (fun hb=>?_)
 ·replace H:=M.ite_t hb H
  refine KH (fun K hK_4=>?_)
  refine KC ?_
  refine KB (v:=.int .i64 (-1)) rfl rfl hE rfl (KE hE rfl) (fun a hE=>?_)
  refine KG ?_
  refine hK_4 _ _ ?_
  refine Kg ?_
  exact hret _ _ _ (-1) _ hE hR (KM hE rfl (RV.tmp rfl RV.nil)) rfl H
 ·replace H:=M.ite_f hb H
  refine Ka ?_
  refine hK_2 _ _ ?_
  refine KH (fun K hK_5=>?_)
  refine KH (fun K hK_6=>?_)
  refine KC ?_
  refine KB (v:=.int .i64 x0) rfl rfl hE rfl (KD hE rfl) (fun a hE=>?_)
  refine KB (v:=.int .i64 x1) rfl rfl hE rfl (KD hE rfl) (fun a hE=>?_)
  refine KB (v:=.bool (decide (x0 > x1))) rfl rfl hE rfl (KL hE rfl rfl KN YI) (fun a hE=>?_)
  refine KG ?_
  refine hK_6 _ _ ?_
  refine KS (decide (x0 > x1)) hE rfl (fun hb=>?_) (fun hb=>?_)
  ·replace H:=M.ite_t hb H
   refine KH (fun K hK_7=>?_)
   refine KC ?_
   refine KB (v:=.int .i64 1) rfl rfl hE rfl (KE hE rfl) (fun a hE=>?_)
   refine KG ?_
   refine hK_7 _ _ ?_
   refine Kg ?_
   exact hret _ _ _ 1 _ hE hR (KM hE rfl (RV.tmp rfl RV.nil)) rfl H
  ·replace H:=M.ite_f hb H
   refine Ka ?_
   refine hK_5 _ _ ?_
   refine KH (fun K hK_8=>?_)
   refine KC ?_
   refine KB (v:=.int .i64 0) rfl rfl hE rfl (KE hE rfl) (fun a hE=>?_)
   refine KG ?_
   refine hK_8 _ _ ?_
   refine Kg ?_
   exact hret _ _ _ 0 _ hE hR (KM hE rfl (RV.tmp rfl RV.nil)) rfl H
end Gx
namespace Gx
open Go
set_option linter.unusedVariables false
set_option maxRecDepth 100000
theorem KIj:Vg Go.Proofs.Tryz.f86 4 [[],[],[0,1],[],[],[3,4],[2,5]] [[],[],[0,1],[],[],[3,4],[2,5]] [[],[],[0,1],[],[],[3,4],[0,1,2,3,4,5]]=true:=by kernel_rfl
theorem KIk:Vg Go.Proofs.Tryz.f86 5 [[],[],[0,1],[2],[],[],[4,5],[6],[3,7],[8,8,0,1,2,3,4,5,6,7,8]] [[],[],[0,1],[2],[],[],[4,5],[6],[3,7],[8]] [[],[],[0,1],[0,1,2],[],[],[4,5],[4,5,6],[0,1,2,3,4,5,6,7],[0,1,2,3,4,5,6,7,8]]=true:=by kernel_rfl
def VH (C5:ByteArray) (C6:ByteArray) (self1:(Int)→M (Int)):(Int)→M (Int):=fun s=>match s with
 | Xx4=>do
  let Xx10←M.ite (decide (Xx4 < (C5.size:Int))) (do
   M.pure (decide (Xx4 < (C6.size:Int)))
   ) (do
   M.pure false
   )
  M.ite Xx10 (do
   let Xx13←ixS C5 Xx4
   let Xx14←ixS C6 Xx4
   M.ite (Xx13 != Xx14) (do
    let Xx16←ixS C5 Xx4
    let Xx17←ixS C6 Xx4
    let Xx18←JQ (IntKind.wrap .i64 Xx16) (IntKind.wrap .i64 Xx17)
    M.pure Xx18
    ) (do
    self1 (IntKind.wrap .i64 (Xx4+1))
    )
   ) (do
   let Xx20←JQ (C5.size:Int) (C6.size:Int)
   M.pure Xx20
   )
def VN (x0:ByteArray) (x1:ByteArray):M (Int):=do
 M.loop (VH x0 x1) 0
theorem qM (x0:ByteArray) (x1:ByteArray):ZK Go.Proofs.Tryz.prog 86 #[.string x0,.string x1] (fun (r:Int)=>.int .i64 r) (VN x0 x1):=by
 refine KY [(0,.string x0),(1,.string x1)] Go.Proofs.Tryz.func86 rfl rfl (Nat.le_of_ble_eq_true rfl) (Ke ⟨rfl,rfl,trivial⟩) (fun w0 w Q R a hret hE hR H=>?_)
 unfold VN at H
 refine KH (fun K hK_1=>?_)
 refine KC ?_
 refine KB (v:=.int .i64 0) rfl rfl hE rfl (KE hE rfl) (fun a hE=>?_)
 refine KG ?_
 refine hK_1 _ _ ?_
 refine KH (fun K hK_2=>?_)
 refine KH (fun K hK_3=>?_)
 refine KC ?_
 refine KB (v:=.int .i64 0) rfl rfl hE rfl (KE hE rfl) (fun a hE=>?_)
 refine KG ?_
 refine hK_3 _ _ ?_
 refine Kj ?_
 refine J7 (fun (s:Int)=>(⟨39,[]⟩:Frm)) (fun (s:Int)=>[(0,.string x0),(1,.string x1),(5,.int .i64 s)]) H (hE.cut (.cons rfl (.cons rfl (.cons rfl Subs.nil)))) hR (fun Y self1 hY_7 Xx4 a w hE hR H=>?_)
 replace hE:Env (⟨39,[]⟩:Frm) a [(0,.string x0),(1,.string x1),(5,.int .i64 Xx4)]:=hE
 replace H:(VH x0 x1 self1 Xx4).wp w.heap Q:=H
 unfold VH at H
 refine KH (fun K hK_8=>?_)
 refine KH (fun K hK_9=>?_)
 refine KC ?_
 refine KB (v:=.int .i64 Xx4) rfl rfl hE rfl (KD hE rfl) (fun a hE=>?_)
 refine KB (v:=.string x0) rfl rfl hE rfl (KD hE rfl) (fun a hE=>?_)
 refine KB (v:=.int .i64 (x0.size:Int)) rfl rfl hE rfl (U3 hE rfl un9) (fun a hE=>?_)
 refine KB (v:=.bool (decide (Xx4 < (x0.size:Int)))) rfl rfl hE rfl (KL hE rfl rfl KN JL) (fun a hE=>?_)
 refine KB (v:=.bool (decide (Xx4 < (x0.size:Int)))) rfl rfl hE rfl (KD hE rfl) (fun a hE=>?_)
 refine J5 (n:=(⟨39,[]⟩:Frm)) (w0:=w0) 5 (fun Xx10:Bool=>[(0,.string x0),(1,.string x1),(5,.int .i64 Xx4),(15,.bool Xx10)]) (M.unbind H) (fun Kr hKr H=>?_) ?_
 ·rcases Kq (decide (Xx4 < (x0.size:Int))) with hb | hb
  ·replace H:=M.ite_t hb H
   have hE:=hE.reb 10 (decide (Xx4 < (x0.size:Int))) true hb rfl
   refine t_on rfl hE rfl rfl rfl ?_
   refine KB (v:=.int .i64 Xx4) rfl rfl hE rfl (KD hE rfl) (fun a hE=>?_)
   refine t_on rfl hE rfl rfl rfl ?_
   refine KB (v:=.string x1) rfl rfl hE rfl (KD hE rfl) (fun a hE=>?_)
   refine t_on rfl hE rfl rfl rfl ?_
   refine KB (v:=.int .i64 (x1.size:Int)) rfl rfl hE rfl (U3 hE rfl un9) (fun a hE=>?_)
   refine t_on rfl hE rfl rfl rfl ?_
   refine KB (v:=.bool (decide (Xx4 < (x1.size:Int)))) rfl rfl hE rfl (KL hE rfl rfl KN JL) (fun a hE=>?_)
   refine KB rfl rfl hE rfl (Kc hE rfl rfl) (fun a hE=>?_)
   refine KG ?_
   exact hKr _ _ _ (hE.cut (.cons rfl (.cons rfl (.cons rfl (.cons rfl Subs.nil))))) hR H
  ·replace H:=M.ite_f hb H
   have hE:=hE.reb 10 (decide (Xx4 < (x0.size:Int))) false hb rfl
   refine Kf rfl hE rfl rfl rfl (fun a ea=>?_)
   have hE:=Env.put_some hE rfl ea; clear ea
   refine Kf rfl hE rfl rfl rfl (fun a ea=>?_)
   have hE:=Env.put_some hE rfl ea; clear ea
   refine Kf rfl hE rfl rfl rfl (fun a ea=>?_)
   have hE:=Env.put_some hE rfl ea; clear ea
   refine Kf rfl hE rfl rfl rfl (fun a ea=>?_)
   have hE:=Env.put_some hE rfl ea; clear ea
   refine KB rfl rfl hE rfl (Kd hE rfl rfl) (fun a hE=>?_)
   refine KG ?_
   exact hKr _ _ _ (hE.cut (.cons rfl (.cons rfl (.cons rfl (.cons rfl Subs.nil))))) hR H
 ·intro Xx10 a w hE hR H
  refine KG ?_
  refine hK_9 _ _ ?_
  refine KS Xx10 hE rfl (fun hb=>?_) (fun hb=>?_)
  ·replace H:=M.ite_t hb H
   refine Ka ?_
   refine hK_8 _ _ ?_
   refine KH (fun K hK_11=>?_)
   refine Kj ?_
   refine KH (fun K hK_12=>?_)
   obtain ⟨Xx13,qXx13,H⟩:=H
   obtain ⟨Xx14,qXx14,H⟩:=H
   have hT:=Jf KIj rfl rfl
   refine Zq (fun w:World=>(fun h:Heap=>True) w.heap) [0,1,2,3,4,5,6] #[false,false,false,false,false,false,false] mo hR rfl rfl (fun w' e=>by rw [e]; exact trivial) (fun w hh hR hs=>?_)
   replace H:=M.at hh H; clear hh
   refine KF (i:=0) (v:=.string x0) #[true,false,false,false,false,false,false] rfl rfl hT (by kernel_rfl) hE rfl (KA rfl) (fun w=>KD hE rfl) (fun a hE=>?_)
   refine KF (i:=1) (v:=.int .i64 Xx4) #[true,true,false,false,false,false,false] rfl rfl hT (by kernel_rfl) hE rfl (KA rfl) (fun w=>KD hE rfl) (fun a hE=>?_)
   refine KF (i:=2) (v:=.int .u8 Xx13) #[true,true,true,false,false,false,false] rfl rfl hT (by kernel_rfl) hE rfl (KA rfl) (fun w=>VW hE rfl rfl un9 qXx13) (fun a hE=>?_)
   refine KF (i:=3) (v:=.string x1) #[true,true,true,true,false,false,false] rfl rfl hT (by kernel_rfl) hE rfl (KA rfl) (fun w=>KD hE rfl) (fun a hE=>?_)
   refine KF (i:=4) (v:=.int .i64 Xx4) #[true,true,true,true,true,false,false] rfl rfl hT (by kernel_rfl) hE rfl (KA rfl) (fun w=>KD hE rfl) (fun a hE=>?_)
   refine KF (i:=5) (v:=.int .u8 Xx14) #[true,true,true,true,true,true,false] rfl rfl hT (by kernel_rfl) hE rfl (KA rfl) (fun w=>VW hE rfl rfl un9 qXx14) (fun a hE=>?_)
   refine KF (i:=6) (v:=.bool (Xx13 != Xx14)) #[true,true,true,true,true,true,true] rfl rfl hT (by kernel_rfl) hE rfl (KA rfl) (fun w=>KL hE rfl rfl KN Yi) (fun a hE=>?_)
   refine JM hT (by kernel_rfl) ?_
   refine hK_12 _ _ ?_
   refine KS (Xx13 != Xx14) hE rfl (fun hb=>?_) (fun hb=>?_)
   ·replace H:=M.ite_t hb H
    refine KH (fun K hK_15=>?_)
    obtain ⟨Xx16,qXx16,H⟩:=H
    obtain ⟨Xx17,qXx17,H⟩:=H
    have hT:=Jf KIk rfl rfl
    refine Zq (fun w:World=>(fun h:Heap=>True) w.heap) [0,1,2,3,4,5,6,7,8,9] #[false,false,false,false,false,false,false,false,false,false] mo hR rfl rfl (fun w' e=>by rw [e]; exact trivial) (fun w hh hR hs=>?_)
    replace H:=M.at hh H; clear hh
    refine KF (i:=0) (v:=.string x0) #[true,false,false,false,false,false,false,false,false,false] rfl rfl hT (by kernel_rfl) hE rfl (KA rfl) (fun w=>KD hE rfl) (fun a hE=>?_)
    refine KF (i:=1) (v:=.int .i64 Xx4) #[true,true,false,false,false,false,false,false,false,false] rfl rfl hT (by kernel_rfl) hE rfl (KA rfl) (fun w=>KD hE rfl) (fun a hE=>?_)
    refine KF (i:=2) (v:=.int .u8 Xx16) #[true,true,true,false,false,false,false,false,false,false] rfl rfl hT (by kernel_rfl) hE rfl (KA rfl) (fun w=>VW hE rfl rfl un9 qXx16) (fun a hE=>?_)
    refine KF (i:=3) (v:=.int .i64 (IntKind.wrap .i64 Xx16)) #[true,true,true,true,false,false,false,false,false,false] rfl rfl hT (by kernel_rfl) hE rfl (KA rfl) (fun w=>Ue hE rfl un5 un2) (fun a hE=>?_)
    refine KF (i:=4) (v:=.string x1) #[true,true,true,true,true,false,false,false,false,false] rfl rfl hT (by kernel_rfl) hE rfl (KA rfl) (fun w=>KD hE rfl) (fun a hE=>?_)
    refine KF (i:=5) (v:=.int .i64 Xx4) #[true,true,true,true,true,true,false,false,false,false] rfl rfl hT (by kernel_rfl) hE rfl (KA rfl) (fun w=>KD hE rfl) (fun a hE=>?_)
    refine KF (i:=6) (v:=.int .u8 Xx17) #[true,true,true,true,true,true,true,false,false,false] rfl rfl hT (by kernel_rfl) hE rfl (KA rfl) (fun w=>VW hE rfl rfl un9 qXx17) (fun a hE=>?_)
    refine KF (i:=7) (v:=.int .i64 (IntKind.wrap .i64 Xx17)) #[true,true,true,true,true,true,true,true,false,false] rfl rfl hT (by kernel_rfl) hE rfl (KA rfl) (fun w=>Ue hE rfl un5 un2) (fun a hE=>?_)
    refine WM (i:=8) #[true,true,true,true,true,true,true,true,true,false] rfl rfl rfl hT (by kernel_rfl) rfl hE hR (KA rfl) Ut rfl (U7 (IntKind.wrap .i64 Xx16) (IntKind.wrap .i64 Xx17)) (M.unbind H) (fun Xx18 a w ea hR H=>?_)
    have hE:=Env.put_some hE rfl ea; clear ea
    refine KF (i:=9) (v:=.int .i64 Xx18) #[true,true,true,true,true,true,true,true,true,true] rfl rfl hT (by kernel_rfl) hE rfl (KA rfl) (fun w=>KE hE rfl) (fun a hE=>?_)
    refine JM hT (by kernel_rfl) ?_
    refine hK_15 _ _ ?_
    refine Kg ?_
    exact hret _ _ _ Xx18 _ hE hR (KM hE rfl (RV.tmp rfl RV.nil)) rfl H
   ·replace H:=M.ite_f hb H
    refine Ka ?_
    refine hK_11 _ _ ?_
    refine KC ?_
    refine KB (v:=.int .i64 Xx4) rfl rfl hE rfl (KD hE rfl) (fun a hE=>?_)
    refine KB (v:=.int .i64 (IntKind.wrap .i64 (Xx4+1))) rfl rfl hE rfl (KL hE rfl rfl KN JE) (fun a hE=>?_)
    refine KB (v:=.int .i64 (IntKind.wrap .i64 (Xx4+1))) rfl rfl hE rfl (KE hE rfl) (fun a hE=>?_)
    refine KG ?_
    exact hY_7 (IntKind.wrap .i64 (Xx4+1)) _ _ (hE.cut (.cons rfl (.cons rfl (.cons rfl Subs.nil)))) hR H
  ·replace H:=M.ite_f hb H
   refine J6 ?_
   refine Xu.same ?_
   refine hK_2 _ _ ?_
   refine KH (fun K hK_19=>?_)
   refine KC ?_
   refine KB (v:=.string x0) rfl rfl hE rfl (KD hE rfl) (fun a hE=>?_)
   refine KB (v:=.int .i64 (x0.size:Int)) rfl rfl hE rfl (U3 hE rfl un9) (fun a hE=>?_)
   refine KB (v:=.string x1) rfl rfl hE rfl (KD hE rfl) (fun a hE=>?_)
   refine KB (v:=.int .i64 (x1.size:Int)) rfl rfl hE rfl (U3 hE rfl un9) (fun a hE=>?_)
   refine KZ hE hR Ut rfl (U7 (x0.size:Int) (x1.size:Int)) (M.unbind H) (fun Xx20 a w ea hR H=>?_)
   have hE:=Env.put_some hE rfl ea; clear ea
   refine KB (v:=.int .i64 Xx20) rfl rfl hE rfl (KE hE rfl) (fun a hE=>?_)
   refine KG ?_
   refine hK_19 _ _ ?_
   refine Kg ?_
   exact hret _ _ _ Xx20 _ hE hR (KM hE rfl (RV.tmp rfl RV.nil)) rfl H
theorem KHo:Vg Go.Proofs.Tryz.f38 13 [[],[0],[],[1,2],[3],[],[5],[],[6,7],[8],[4,9],[10,10,0,1,2,3,4,5,6,7,8,9,10]] [[],[0],[],[1,2],[3],[],[5],[],[6,7],[8],[4,9],[10]] [[],[0],[],[0,1,2],[0,1,2,3],[],[5],[],[5,6,7],[5,6,7,8],[0,1,2,3,4,5,6,7,8,9],[0,1,2,3,4,5,6,7,8,9,10]]=true:=by kernel_rfl
def Uk (C28:Addr) (C29:Addr) (self1:(Int)→M (Int)):(Int)→M (Int):=fun s=>match s with
 | Xx27=>do
  let Xx33←ldL ((C28).add 3)
  let Xx34←M.ite (decide (Xx27 < (Xx33.len:Int))) (do
   let Xx35←ldL ((C29).add 3)
   M.pure (decide (Xx27 < (Xx35.len:Int)))
   ) (do
   M.pure false
   )
  M.ite Xx34 (do
   let Xx38←ldL ((C28).add 3)
   let Xx39←ixL Xx38 Xx27 4
   let Xx40←ldG 4 Xx39
   let Xx41←ldL ((C29).add 3)
   let Xx42←ixL Xx41 Xx27 4
   let Xx43←ldG 4 Xx42
   let Xx44←NY Go.Proofs.Tryz.prog GX #[.agg Xx40,.agg Xx43] (fun r:Int=>.int .i64 r)
   M.ite (Xx44 != 0) (do
    M.pure Xx44
    ) (do
    self1 (IntKind.wrap .i64 (Xx27+1))
    )
   ) (do
   let Xx48←ldL ((C28).add 3)
   let Xx49←ldL ((C29).add 3)
   let Xx50←JQ (Xx48.len:Int) (Xx49.len:Int)
   M.pure Xx50
   )
def JB (x0:Array Value) (x1:Array Value):M (Int):=do
 let Xx2←mkB KJ x0
 let Xx3←mkB KJ x1
 let Xx6←ldI .i64 ((Xx2).add 0)
 let Xx7←ldI .i64 ((Xx3).add 0)
 let Xx8←JQ Xx6 Xx7
 M.ite (Xx8 != 0) (do
  M.pure Xx8
  ) (do
  let Xx13←ldI .i64 ((Xx2).add 1)
  let Xx14←ldI .i64 ((Xx3).add 1)
  let Xx15←JQ Xx13 Xx14
  M.ite (Xx15 != 0) (do
   M.pure Xx15
   ) (do
   let Xx20←ldS ((Xx2).add 2)
   let Xx21←ldS ((Xx3).add 2)
   let Xx22←VN Xx20 Xx21
   M.ite (Xx22 != 0) (do
    M.pure Xx22
    ) (do
    M.loop (Uk Xx2 Xx3) 0
    )
   )
  )
theorem UM (x0:Array Value) (x1:Array Value):ZK Go.Proofs.Tryz.prog 38 #[.agg x0,.agg x1] (fun (r:Int)=>.int .i64 r) (JB x0 x1):=by
 refine KY [(0,.agg x0),(1,.agg x1)] Go.Proofs.Tryz.func38 rfl rfl (Nat.le_of_ble_eq_true rfl) (Ke ⟨rfl,rfl,trivial⟩) (fun w0 w Q R a hret hE hR H=>?_)
 unfold JB at H
 refine KH (fun K hK_1=>?_)
 refine KC ?_
 obtain ⟨Xx2,qXx2,H⟩:=H
 refine ZR (v:=.pointer (some Xx2)) rfl rfl hE rfl hR (YP hE rfl qXx2) (fun a w hE hR hh=>?_)
 replace H:=M.at hh H; clear hh
 obtain ⟨Xx3,qXx3,H⟩:=H
 refine ZR (v:=.pointer (some Xx3)) rfl rfl hE rfl hR (YP hE rfl qXx3) (fun a w hE hR hh=>?_)
 replace H:=M.at hh H; clear hh
 refine KB (v:=.int .i64 0) rfl rfl hE rfl (KE hE rfl) (fun a hE=>?_)
 refine KG ?_
 refine hK_1 _ _ ?_
 refine KH (fun K hK_4=>?_)
 refine KH (fun K hK_5=>?_)
 refine KC ?_
 refine KB (v:=.pointer (some ((Xx2).add 0))) rfl rfl hE rfl (KI hE rfl qK) (fun a hE=>?_)
 obtain ⟨Xx6,qXx6,H⟩:=H
 refine KB (v:=.int .i64 Xx6) rfl rfl hE rfl (KU hE rfl sc3 qXx6) (fun a hE=>?_)
 refine KB (v:=.pointer (some ((Xx3).add 0))) rfl rfl hE rfl (KI hE rfl qK) (fun a hE=>?_)
 obtain ⟨Xx7,qXx7,H⟩:=H
 refine KB (v:=.int .i64 Xx7) rfl rfl hE rfl (KU hE rfl sc3 qXx7) (fun a hE=>?_)
 refine KZ hE hR Ut rfl (U7 Xx6 Xx7) (M.unbind H) (fun Xx8 a w ea hR H=>?_)
 have hE:=Env.put_some hE rfl ea; clear ea
 refine KB (v:=.int .i64 Xx8) rfl rfl hE rfl (KE hE rfl) (fun a hE=>?_)
 refine KG ?_
 refine hK_5 _ _ ?_
 refine KH (fun K hK_9=>?_)
 refine KC ?_
 refine KB (v:=.int .i64 Xx8) rfl rfl hE rfl (KD hE rfl) (fun a hE=>?_)
 refine KB (v:=.bool (Xx8 != 0)) rfl rfl hE rfl (KL hE rfl rfl KN Yi) (fun a hE=>?_)
 refine KG ?_
 refine hK_9 _ _ ?_
 refine KS (Xx8 != 0) hE rfl (fun hb=>?_) (fun hb=>?_)
 ·replace H:=M.ite_t hb H
  refine KH (fun K hK_10=>?_)
  refine KC ?_
  refine KB (v:=.int .i64 Xx8) rfl rfl hE rfl (KD hE rfl) (fun a hE=>?_)
  refine KB (v:=.int .i64 Xx8) rfl rfl hE rfl (KE hE rfl) (fun a hE=>?_)
  refine KG ?_
  refine hK_10 _ _ ?_
  refine Kg ?_
  exact hret _ _ _ Xx8 _ hE hR (KM hE rfl (RV.tmp rfl RV.nil)) rfl H
 ·replace H:=M.ite_f hb H
  refine Ka ?_
  refine hK_4 _ _ ?_
  refine KH (fun K hK_11=>?_)
  refine KH (fun K hK_12=>?_)
  refine KC ?_
  refine KB (v:=.pointer (some ((Xx2).add 1))) rfl rfl hE rfl (KI hE rfl Vy) (fun a hE=>?_)
  obtain ⟨Xx13,qXx13,H⟩:=H
  refine KB (v:=.int .i64 Xx13) rfl rfl hE rfl (KU hE rfl sc2 qXx13) (fun a hE=>?_)
  refine KB (v:=.pointer (some ((Xx3).add 1))) rfl rfl hE rfl (KI hE rfl Vy) (fun a hE=>?_)
  obtain ⟨Xx14,qXx14,H⟩:=H
  refine KB (v:=.int .i64 Xx14) rfl rfl hE rfl (KU hE rfl sc2 qXx14) (fun a hE=>?_)
  refine KZ hE hR Ut rfl (U7 Xx13 Xx14) (M.unbind H) (fun Xx15 a w ea hR H=>?_)
  have hE:=Env.put_some hE rfl ea; clear ea
  refine KB (v:=.int .i64 Xx15) rfl rfl hE rfl (KE hE rfl) (fun a hE=>?_)
  refine KG ?_
  refine hK_12 _ _ ?_
  refine KH (fun K hK_16=>?_)
  refine KC ?_
  refine KB (v:=.int .i64 Xx15) rfl rfl hE rfl (KD hE rfl) (fun a hE=>?_)
  refine KB (v:=.bool (Xx15 != 0)) rfl rfl hE rfl (KL hE rfl rfl KN Yi) (fun a hE=>?_)
  refine KG ?_
  refine hK_16 _ _ ?_
  refine KS (Xx15 != 0) hE rfl (fun hb=>?_) (fun hb=>?_)
  ·replace H:=M.ite_t hb H
   refine KH (fun K hK_17=>?_)
   refine KC ?_
   refine KB (v:=.int .i64 Xx15) rfl rfl hE rfl (KD hE rfl) (fun a hE=>?_)
   refine KB (v:=.int .i64 Xx15) rfl rfl hE rfl (KE hE rfl) (fun a hE=>?_)
   refine KG ?_
   refine hK_17 _ _ ?_
   refine Kg ?_
   exact hret _ _ _ Xx15 _ hE hR (KM hE rfl (RV.tmp rfl RV.nil)) rfl H
  ·replace H:=M.ite_f hb H
   refine Ka ?_
   refine hK_11 _ _ ?_
   refine KH (fun K hK_18=>?_)
   refine KH (fun K hK_19=>?_)
   refine KC ?_
   refine KB (v:=.pointer (some ((Xx2).add 2))) rfl rfl hE rfl (KI hE rfl XV) (fun a hE=>?_)
   obtain ⟨Xx20,qXx20,H⟩:=H
   refine KB (v:=.string Xx20) rfl rfl hE rfl (KU hE rfl sc9 qXx20) (fun a hE=>?_)
   refine KB (v:=.pointer (some ((Xx3).add 2))) rfl rfl hE rfl (KI hE rfl XV) (fun a hE=>?_)
   obtain ⟨Xx21,qXx21,H⟩:=H
   refine KB (v:=.string Xx21) rfl rfl hE rfl (KU hE rfl sc9 qXx21) (fun a hE=>?_)
   refine KZ hE hR Nl rfl (qM Xx20 Xx21) (M.unbind H) (fun Xx22 a w ea hR H=>?_)
   have hE:=Env.put_some hE rfl ea; clear ea
   refine KB (v:=.int .i64 Xx22) rfl rfl hE rfl (KE hE rfl) (fun a hE=>?_)
   refine KG ?_
   refine hK_19 _ _ ?_
   refine KH (fun K hK_23=>?_)
   refine KC ?_
   refine KB (v:=.int .i64 Xx22) rfl rfl hE rfl (KD hE rfl) (fun a hE=>?_)
   refine KB (v:=.bool (Xx22 != 0)) rfl rfl hE rfl (KL hE rfl rfl KN Yi) (fun a hE=>?_)
   refine KG ?_
   refine hK_23 _ _ ?_
   refine KS (Xx22 != 0) hE rfl (fun hb=>?_) (fun hb=>?_)
   ·replace H:=M.ite_t hb H
    refine KH (fun K hK_24=>?_)
    refine KC ?_
    refine KB (v:=.int .i64 Xx22) rfl rfl hE rfl (KD hE rfl) (fun a hE=>?_)
    refine KB (v:=.int .i64 Xx22) rfl rfl hE rfl (KE hE rfl) (fun a hE=>?_)
    refine KG ?_
    refine hK_24 _ _ ?_
    refine Kg ?_
    exact hret _ _ _ Xx22 _ hE hR (KM hE rfl (RV.tmp rfl RV.nil)) rfl H
   ·replace H:=M.ite_f hb H
    refine Ka ?_
    refine hK_18 _ _ ?_
    refine KH (fun K hK_25=>?_)
    refine KH (fun K hK_26=>?_)
    refine KC ?_
    refine KB (v:=.int .i64 0) rfl rfl hE rfl (KE hE rfl) (fun a hE=>?_)
    refine KG ?_
    refine hK_26 _ _ ?_
    refine Kj ?_
    refine J7 (fun (s:Int)=>(⟨69,[]⟩:Frm)) (fun (s:Int)=>[(2,.pointer (some Xx2)),(3,.pointer (some Xx3)),(8,.int .i64 s)]) H (hE.cut (.cons rfl (.cons rfl (.cons rfl Subs.nil)))) hR (fun Y self1 hY_30 Xx27 a w hE hR H=>?_)
    replace hE:Env (⟨69,[]⟩:Frm) a [(2,.pointer (some Xx2)),(3,.pointer (some Xx3)),(8,.int .i64 Xx27)]:=hE
    replace H:(Uk Xx2 Xx3 self1 Xx27).wp w.heap Q:=H
    unfold Uk at H
    refine KH (fun K hK_31=>?_)
    refine KH (fun K hK_32=>?_)
    refine KC ?_
    refine KB (v:=.int .i64 Xx27) rfl rfl hE rfl (KD hE rfl) (fun a hE=>?_)
    refine KB (v:=.pointer (some ((Xx2).add 3))) rfl rfl hE rfl (KI hE rfl UU) (fun a hE=>?_)
    obtain ⟨Xx33,qXx33,H⟩:=H
    refine KB (v:=(Xx33:Sl).v) rfl rfl hE rfl (KU hE rfl sc22 qXx33) (fun a hE=>?_)
    refine KB (v:=.int .i64 (Xx33.len:Int)) rfl rfl hE rfl (UA hE rfl 24 un22) (fun a hE=>?_)
    refine KB (v:=.bool (decide (Xx27 < (Xx33.len:Int)))) rfl rfl hE rfl (KL hE rfl rfl KN JL) (fun a hE=>?_)
    refine KB (v:=.bool (decide (Xx27 < (Xx33.len:Int)))) rfl rfl hE rfl (KD hE rfl) (fun a hE=>?_)
    refine J5 (n:=(⟨69,[]⟩:Frm)) (w0:=w0) 6 (fun Xx34:Bool=>[(2,.pointer (some Xx2)),(3,.pointer (some Xx3)),(8,.int .i64 Xx27),(45,.bool Xx34)]) (M.unbind H) (fun Kr hKr H=>?_) ?_
    ·rcases Kq (decide (Xx27 < (Xx33.len:Int))) with hb | hb
     ·replace H:=M.ite_t hb H
      have hE:=hE.reb 39 (decide (Xx27 < (Xx33.len:Int))) true hb rfl
      refine t_on rfl hE rfl rfl rfl ?_
      refine KB (v:=.int .i64 Xx27) rfl rfl hE rfl (KD hE rfl) (fun a hE=>?_)
      refine t_on rfl hE rfl rfl rfl ?_
      refine KB (v:=.pointer (some ((Xx3).add 3))) rfl rfl hE rfl (KI hE rfl UU) (fun a hE=>?_)
      refine t_on rfl hE rfl rfl rfl ?_
      obtain ⟨Xx35,qXx35,H⟩:=H
      refine KB (v:=(Xx35:Sl).v) rfl rfl hE rfl (KU hE rfl sc22 qXx35) (fun a hE=>?_)
      refine t_on rfl hE rfl rfl rfl ?_
      refine KB (v:=.int .i64 (Xx35.len:Int)) rfl rfl hE rfl (UA hE rfl 24 un22) (fun a hE=>?_)
      refine t_on rfl hE rfl rfl rfl ?_
      refine KB (v:=.bool (decide (Xx27 < (Xx35.len:Int)))) rfl rfl hE rfl (KL hE rfl rfl KN JL) (fun a hE=>?_)
      refine KB rfl rfl hE rfl (Kc hE rfl rfl) (fun a hE=>?_)
      refine KG ?_
      exact hKr _ _ _ (hE.cut (.cons rfl (.cons rfl (.cons rfl (.cons rfl Subs.nil))))) hR H
     ·replace H:=M.ite_f hb H
      have hE:=hE.reb 39 (decide (Xx27 < (Xx33.len:Int))) false hb rfl
      refine Kf rfl hE rfl rfl rfl (fun a ea=>?_)
      have hE:=Env.put_some hE rfl ea; clear ea
      refine Kf rfl hE rfl rfl rfl (fun a ea=>?_)
      have hE:=Env.put_some hE rfl ea; clear ea
      refine Kf rfl hE rfl rfl rfl (fun a ea=>?_)
      have hE:=Env.put_some hE rfl ea; clear ea
      refine Kf rfl hE rfl rfl rfl (fun a ea=>?_)
      have hE:=Env.put_some hE rfl ea; clear ea
      refine Kf rfl hE rfl rfl rfl (fun a ea=>?_)
      have hE:=Env.put_some hE rfl ea; clear ea
      refine KB rfl rfl hE rfl (Kd hE rfl rfl) (fun a hE=>?_)
      refine KG ?_
      exact hKr _ _ _ (hE.cut (.cons rfl (.cons rfl (.cons rfl (.cons rfl Subs.nil))))) hR H
    ·intro Xx34 a w hE hR H
     refine KG ?_
     refine hK_32 _ _ ?_
     refine KS Xx34 hE rfl (fun hb=>?_) (fun hb=>?_)
     ·replace H:=M.ite_t hb H
      refine Ka ?_
      refine hK_31 _ _ ?_
      refine KH (fun K hK_36=>?_)
      refine Kj ?_
      refine KH (fun K hK_37=>?_)
      obtain ⟨Xx38,qXx38,H⟩:=H
      obtain ⟨Xx39,qXx39,H⟩:=H
      obtain ⟨Xx40,qXx40,H⟩:=H
      obtain ⟨Xx41,qXx41,H⟩:=H
      obtain ⟨Xx42,qXx42,H⟩:=H
      obtain ⟨Xx43,qXx43,H⟩:=H
      have hT:=Jf KHo rfl rfl
      refine Zq (fun w:World=>(fun h:Heap=>(KV h ((Xx2).add 3)=some ((Xx38:Sl).v))∧(Xx40.size=4∧∀ i,i < 4→KV h (Addr.add Xx39 i)=Xx40[i]?)∧(KV h ((Xx3).add 3)=some ((Xx41:Sl).v))∧(Xx43.size=4∧∀ i,i < 4→KV h (Addr.add Xx42 i)=Xx43[i]?)) w.heap) [10,11] #[false,false,false,false,false,false,false,false,false,false,false,false] mo hR rfl rfl (fun w' e=>by rw [e]; exact ⟨qXx38,qXx40,qXx41,qXx43⟩) (fun w hh hR hs=>?_)
      replace H:=M.at hh H; clear hh
      refine KF (i:=0) (v:=.pointer (some ((Xx2).add 3))) #[true,false,false,false,false,false,false,false,false,false,false,false] rfl rfl hT (by kernel_rfl) hE rfl (KA rfl) (fun w=>KI hE rfl UU) (fun a hE=>?_)
      refine KF (i:=2) (v:=.int .i64 Xx27) #[true,false,true,false,false,false,false,false,false,false,false,false] rfl rfl hT (by kernel_rfl) hE rfl (KA rfl) (fun w=>KD hE rfl) (fun a hE=>?_)
      refine KF (i:=5) (v:=.pointer (some ((Xx3).add 3))) #[true,false,true,false,false,true,false,false,false,false,false,false] rfl rfl hT (by kernel_rfl) hE rfl (KA rfl) (fun w=>KI hE rfl UU) (fun a hE=>?_)
      refine KF (i:=7) (v:=.int .i64 Xx27) #[true,false,true,false,false,true,false,true,false,false,false,false] rfl rfl hT (by kernel_rfl) hE rfl (KA rfl) (fun w=>KD hE rfl) (fun a hE=>?_)
      refine Kt (i:=1) (v:=(Xx38:Sl).v) #[true,true,true,false,false,true,false,true,false,false,false,false] rfl rfl hT (by kernel_rfl) hE rfl (KA rfl) hs (fun w s=>KU hE rfl sc22 s.1) (fun a hE=>?_)
      refine KF (i:=3) (v:=.pointer (some Xx39)) #[true,true,true,true,false,true,false,true,false,false,false,false] rfl rfl hT (by kernel_rfl) hE rfl (KA rfl) (fun w=>KR hE rfl rfl un22 sz24 qXx39) (fun a hE=>?_)
      refine Kt (i:=4) (v:=.agg Xx40) #[true,true,true,true,true,true,false,true,false,false,false,false] rfl rfl hT (by kernel_rfl) hE rfl (KA rfl) hs (fun w s=>ZN hE rfl ag24 s.2.1) (fun a hE=>?_)
      refine Kt (i:=6) (v:=(Xx41:Sl).v) #[true,true,true,true,true,true,true,true,false,false,false,false] rfl rfl hT (by kernel_rfl) hE rfl (KA rfl) hs (fun w s=>KU hE rfl sc22 s.2.2.1) (fun a hE=>?_)
      refine KF (i:=8) (v:=.pointer (some Xx42)) #[true,true,true,true,true,true,true,true,true,false,false,false] rfl rfl hT (by kernel_rfl) hE rfl (KA rfl) (fun w=>KR hE rfl rfl un22 sz24 qXx42) (fun a hE=>?_)
      refine Kt (i:=9) (v:=.agg Xx43) #[true,true,true,true,true,true,true,true,true,true,false,false] rfl rfl hT (by kernel_rfl) hE rfl (KA rfl) hs (fun w s=>ZN hE rfl ag24 s.2.2.2) (fun a hE=>?_)
      refine WM (i:=10) #[true,true,true,true,true,true,true,true,true,true,true,false] rfl rfl rfl hT (by kernel_rfl) rfl hE hR (KA rfl) UC rfl (Ud) (M.unbind H) (fun Xx44 a w ea hR H=>?_)
      have hE:=Env.put_some hE rfl ea; clear ea
      refine KF (i:=11) (v:=.int .i64 Xx44) #[true,true,true,true,true,true,true,true,true,true,true,true] rfl rfl hT (by kernel_rfl) hE rfl (KA rfl) (fun w=>KE hE rfl) (fun a hE=>?_)
      refine JM hT (by kernel_rfl) ?_
      refine hK_37 _ _ ?_
      refine KH (fun K hK_45=>?_)
      refine KC ?_
      refine KB (v:=.int .i64 Xx44) rfl rfl hE rfl (KD hE rfl) (fun a hE=>?_)
      refine KB (v:=.bool (Xx44 != 0)) rfl rfl hE rfl (KL hE rfl rfl KN Yi) (fun a hE=>?_)
      refine KG ?_
      refine hK_45 _ _ ?_
      refine KS (Xx44 != 0) hE rfl (fun hb=>?_) (fun hb=>?_)
      ·replace H:=M.ite_t hb H
       refine KH (fun K hK_46=>?_)
       refine KC ?_
       refine KB (v:=.int .i64 Xx44) rfl rfl hE rfl (KD hE rfl) (fun a hE=>?_)
       refine KB (v:=.int .i64 Xx44) rfl rfl hE rfl (KE hE rfl) (fun a hE=>?_)
       refine KG ?_
       refine hK_46 _ _ ?_
       refine Kg ?_
       exact hret _ _ _ Xx44 _ hE hR (KM hE rfl (RV.tmp rfl RV.nil)) rfl H
      ·replace H:=M.ite_f hb H
       refine Ka ?_
       refine hK_36 _ _ ?_
       refine KC ?_
       refine KB (v:=.int .i64 Xx27) rfl rfl hE rfl (KD hE rfl) (fun a hE=>?_)
       refine KB (v:=.int .i64 (IntKind.wrap .i64 (Xx27+1))) rfl rfl hE rfl (KL hE rfl rfl KN JE) (fun a hE=>?_)
       refine KB (v:=.int .i64 (IntKind.wrap .i64 (Xx27+1))) rfl rfl hE rfl (KE hE rfl) (fun a hE=>?_)
       refine KG ?_
       exact hY_30 (IntKind.wrap .i64 (Xx27+1)) _ _ (hE.cut (.cons rfl (.cons rfl (.cons rfl Subs.nil)))) hR H
     ·replace H:=M.ite_f hb H
      refine J6 ?_
      refine Xu.same ?_
      refine hK_25 _ _ ?_
      refine KH (fun K hK_47=>?_)
      refine KC ?_
      refine KB (v:=.pointer (some ((Xx2).add 3))) rfl rfl hE rfl (KI hE rfl UU) (fun a hE=>?_)
      obtain ⟨Xx48,qXx48,H⟩:=H
      refine KB (v:=(Xx48:Sl).v) rfl rfl hE rfl (KU hE rfl sc22 qXx48) (fun a hE=>?_)
      refine KB (v:=.int .i64 (Xx48.len:Int)) rfl rfl hE rfl (UA hE rfl 24 un22) (fun a hE=>?_)
      refine KB (v:=.pointer (some ((Xx3).add 3))) rfl rfl hE rfl (KI hE rfl UU) (fun a hE=>?_)
      obtain ⟨Xx49,qXx49,H⟩:=H
      refine KB (v:=(Xx49:Sl).v) rfl rfl hE rfl (KU hE rfl sc22 qXx49) (fun a hE=>?_)
      refine KB (v:=.int .i64 (Xx49.len:Int)) rfl rfl hE rfl (UA hE rfl 24 un22) (fun a hE=>?_)
      refine KZ hE hR Ut rfl (U7 (Xx48.len:Int) (Xx49.len:Int)) (M.unbind H) (fun Xx50 a w ea hR H=>?_)
      have hE:=Env.put_some hE rfl ea; clear ea
      refine KB (v:=.int .i64 Xx50) rfl rfl hE rfl (KE hE rfl) (fun a hE=>?_)
      refine KG ?_
      refine hK_47 _ _ ?_
      refine Kg ?_
      exact hret _ _ _ Xx50 _ hE hR (KM hE rfl (RV.tmp rfl RV.nil)) rfl H
def ZY (x0:Array Value) (x1:Array Value):M (Bool):=do
 let Xx2←mkB KJ x0
 let Xx3←mkB KJ x1
 let Xx5←ldG 4 Xx2
 let Xx6←ldG 4 Xx3
 let Xx7←JB Xx5 Xx6
 M.pure (Xx7 == 0)
theorem Ja (x0:Array Value) (x1:Array Value):ZK Go.Proofs.Tryz.prog 19 #[.agg x0,.agg x1] (fun (r:Bool)=>.bool r) (ZY x0 x1):=by
 refine KY [(0,.agg x0),(1,.agg x1)] Go.Proofs.Tryz.func19 rfl rfl (Nat.le_of_ble_eq_true rfl) (Ke ⟨rfl,rfl,trivial⟩) (fun w0 w Q R a hret hE hR H=>?_)
 unfold ZY at H
 refine KH (fun K hK_1=>?_)
 refine KC ?_
 obtain ⟨Xx2,qXx2,H⟩:=H
 refine ZR (v:=.pointer (some Xx2)) rfl rfl hE rfl hR (YP hE rfl qXx2) (fun a w hE hR hh=>?_)
 replace H:=M.at hh H; clear hh
 obtain ⟨Xx3,qXx3,H⟩:=H
 refine ZR (v:=.pointer (some Xx3)) rfl rfl hE rfl hR (YP hE rfl qXx3) (fun a w hE hR hh=>?_)
 replace H:=M.at hh H; clear hh
 refine KB (v:=.bool false) rfl rfl hE rfl (KE hE rfl) (fun a hE=>?_)
 refine KG ?_
 refine hK_1 _ _ ?_
 refine KH (fun K hK_4=>?_)
 refine KC ?_
 obtain ⟨Xx5,qXx5,H⟩:=H
 refine KB (v:=.agg Xx5) rfl rfl hE rfl (ZN hE rfl ag24 qXx5) (fun a hE=>?_)
 obtain ⟨Xx6,qXx6,H⟩:=H
 refine KB (v:=.agg Xx6) rfl rfl hE rfl (ZN hE rfl ag24 qXx6) (fun a hE=>?_)
 refine KZ hE hR UC rfl (UM Xx5 Xx6) (M.unbind H) (fun Xx7 a w ea hR H=>?_)
 have hE:=Env.put_some hE rfl ea; clear ea
 refine KB (v:=.bool (Xx7 == 0)) rfl rfl hE rfl (KL hE rfl rfl KN Z5) (fun a hE=>?_)
 refine KB (v:=.bool (Xx7 == 0)) rfl rfl hE rfl (KE hE rfl) (fun a hE=>?_)
 refine KG ?_
 refine hK_4 _ _ ?_
 refine Kg ?_
 exact hret _ _ _ (Xx7 == 0) _ hE hR (KM hE rfl (RV.tmp rfl RV.nil)) rfl H
def Xv (x0:Array Value) (x1:Array Value):M (Bool):=do
 let Xx2←mkB KJ x0
 let Xx3←mkB KJ x1
 let Xx5←ldG 4 Xx2
 let Xx6←ldG 4 Xx3
 let Xx7←Uu Xx5 Xx6
 M.pure (Xx7 == 0)
theorem KBp (x0:Array Value) (x1:Array Value):ZK Go.Proofs.Tryz.prog 15 #[.agg x0,.agg x1] (fun (r:Bool)=>.bool r) (Xv x0 x1):=by
 refine KY [(0,.agg x0),(1,.agg x1)] Go.Proofs.Tryz.func15 rfl rfl (Nat.le_of_ble_eq_true rfl) (Ke ⟨rfl,rfl,trivial⟩) (fun w0 w Q R a hret hE hR H=>?_)
 unfold Xv at H
 refine KH (fun K hK_1=>?_)
 refine KC ?_
 obtain ⟨Xx2,qXx2,H⟩:=H
 refine ZR (v:=.pointer (some Xx2)) rfl rfl hE rfl hR (YP hE rfl qXx2) (fun a w hE hR hh=>?_)
 replace H:=M.at hh H; clear hh
 obtain ⟨Xx3,qXx3,H⟩:=H
 refine ZR (v:=.pointer (some Xx3)) rfl rfl hE rfl hR (YP hE rfl qXx3) (fun a w hE hR hh=>?_)
 replace H:=M.at hh H; clear hh
 refine KB (v:=.bool false) rfl rfl hE rfl (KE hE rfl) (fun a hE=>?_)
 refine KG ?_
 refine hK_1 _ _ ?_
 refine KH (fun K hK_4=>?_)
 refine KC ?_
 obtain ⟨Xx5,qXx5,H⟩:=H
 refine KB (v:=.agg Xx5) rfl rfl hE rfl (ZN hE rfl ag24 qXx5) (fun a hE=>?_)
 obtain ⟨Xx6,qXx6,H⟩:=H
 refine KB (v:=.agg Xx6) rfl rfl hE rfl (ZN hE rfl ag24 qXx6) (fun a hE=>?_)
 refine KZ hE hR WL rfl (Wn Xx5 Xx6) (M.unbind H) (fun Xx7 a w ea hR H=>?_)
 have hE:=Env.put_some hE rfl ea; clear ea
 refine KB (v:=.bool (Xx7 == 0)) rfl rfl hE rfl (KL hE rfl rfl KN Z5) (fun a hE=>?_)
 refine KB (v:=.bool (Xx7 == 0)) rfl rfl hE rfl (KE hE rfl) (fun a hE=>?_)
 refine KG ?_
 refine hK_4 _ _ ?_
 refine Kg ?_
 exact hret _ _ _ (Xx7 == 0) _ hE hR (KM hE rfl (RV.tmp rfl RV.nil)) rfl H
def ZO (C5:Addr) (lp1:Nat):(Sl)→M Nat:=fun x=>match x with
 | Xx6=>do
  let _←beg lp1
  let Xx7←ldL C5
  let Xx8←bdL JN 1 #[(Xx6:Sl).v]
  let Xx9←apL JN 1 24 (#[.slice none 0 0]:Array Value) Xx7 Xx8
  stV C5 ((Xx9:Sl).v)
  M.pure 0
def ZZ (x0:Sl) (x1:Value):M (Sl):=do
 let Xx2←mkB XQ #[(x0:Sl).v]
 let j_11←rgF Go.Proofs.Tryz.prog (fun x:Sl=>[(x:Sl).v]) [] (ZO Xx2) x1
 let Xx13←ldL Xx2
 let _←shut (j_11.2::[])
 M.pure Xx13
theorem VC (x0:Sl) (x1:Value):ZK Go.Proofs.Tryz.prog 135 #[(x0:Sl).v,x1] (fun (r:Sl)=>(r:Sl).v) (ZZ x0 x1):=by
 refine KEL [(0,(x0:Sl).v),(1,x1)] Go.Proofs.Tryz.func135 rfl rfl (Nat.le_of_ble_eq_true rfl) (Ke ⟨rfl,rfl,trivial⟩) (fun w0 w Q R a hret hE hR H=>?_)
 unfold ZZ at H
 refine KH (fun K hK_1=>?_)
 refine KC ?_
 obtain ⟨Xx2,qXx2,H⟩:=H
 refine ZR (v:=.pointer (some Xx2)) rfl rfl hE rfl hR (YP hE rfl qXx2) (fun a w hE hR hh=>?_)
 replace H:=M.at hh H; clear hh
 refine KB (v:=(Sl.nil:Sl).v) rfl rfl hE rfl (KE hE rfl) (fun a hE=>?_)
 refine KG ?_
 refine hK_1 _ _ ?_
 refine KH (fun K hK_3=>?_)
 refine KH (fun K hK_4=>?_)
 refine KC ?_
 refine KB (v:=x1) rfl rfl hE rfl (KD hE rfl) (fun a hE=>?_)
 refine KG ?_
 refine hK_4 _ _ ?_
 refine Kj ?_
 refine KF4 (js:=[]) (enc:=(fun x:Sl=>[(x:Sl).v])) (Y:=(ZO Xx2)) hE hR rfl (fun x=>rfl) rfl (M.unbind H) (fun lp1 Xx6 Q w0 Rr hfin a w hE hR H=>?_) (fun j_11 a w hE hR H=>?_)
 ·skip
  replace hE:Env (⟨13,[]⟩:Frm) a [(2,.pointer (some Xx2)),(7,(Xx6:Sl).v)]:=Env.cut hE (.cons rfl (.cons rfl Subs.nil))
  replace H:(ZO Xx2 lp1 Xx6).wp w.heap Q:=H
  unfold ZO at H
  refine KC ?_
  refine KB (v:=(Xx6:Sl).v) rfl rfl hE rfl (KE hE rfl) (fun a hE=>?_)
  refine KG ?_
  refine KJN hR H (fun w hR H=>?_)
  refine Kj ?_
  refine KC ?_
  obtain ⟨Xx7,qXx7,H⟩:=H
  refine KB (v:=(Xx7:Sl).v) rfl rfl hE rfl (KU hE rfl sc89 qXx7) (fun a hE=>?_)
  refine KB (v:=(Xx6:Sl).v) rfl rfl hE rfl (KD hE rfl) (fun a hE=>?_)
  obtain ⟨Xx8,qXx8,H⟩:=H
  refine ZR (v:=(Xx8:Sl).v) rfl rfl hE rfl hR (YE (cells:=#[(Xx6:Sl).v]) hE rfl un89 sz22 zr22 rfl rfl qXx8) (fun a w hE hR hh=>?_)
  replace H:=M.at hh H; clear hh
  refine t_ex (fun Xx9=>(Xx9:Sl).v) rfl rfl hR (M.unbind H) (fun Q H=>Xm hE rfl rfl ap89 H) (fun Xx9 a w ea hR H=>?_)
  have hE:=Env.put_some hE rfl ea; clear ea
  obtain ⟨u_10,qu_10,H⟩:=H
  refine JI rfl rfl hE hR (JK hE rfl rfl sz89 qu_10) (fun a w hE hR hh=>?_)
  replace H:=M.at hh H; clear hh
  refine KG ?_
  exact hfin 0 _ _ hR H
 ·skip
  replace hE:Env (⟨13,(j_11.2::[])⟩:Frm) a [(2,.pointer (some Xx2)),(4,(Sl.nil:Sl).v)]:=Env.cut hE (.cons rfl (.cons rfl Subs.nil))
  refine KHa ?_
  refine hK_3 _ _ ?_
  refine KH (fun K hK_12=>?_)
  refine KC ?_
  obtain ⟨Xx13,qXx13,H⟩:=H
  refine KB (v:=(Xx13:Sl).v) rfl rfl hE rfl (KU hE rfl sc89 qXx13) (fun a hE=>?_)
  refine KB (v:=(Xx13:Sl).v) rfl rfl hE rfl (KE hE rfl) (fun a hE=>?_)
  refine KG ?_
  refine hK_12 _ _ ?_
  refine Kg ?_
  refine hret _ _ _ _ _ hE hR (M.unbind H) (fun w hR H=>?_)
  exact ⟨Xx13,_,KM hE rfl (RV.tmp rfl RV.nil),rfl,H⟩
def JV (x0:Value):M (Sl):=do
 let Xx3←ZZ Sl.nil x0
 M.pure Xx3
theorem Yp (x0:Value):ZK Go.Proofs.Tryz.prog 77 #[x0] (fun (r:Sl)=>(r:Sl).v) (JV x0):=by
 refine KY [(0,x0)] Go.Proofs.Tryz.func77 rfl rfl (Nat.le_of_ble_eq_true rfl) (Ke ⟨rfl,trivial⟩) (fun w0 w Q R a hret hE hR H=>?_)
 unfold JV at H
 refine KH (fun K hK_1=>?_)
 refine KC ?_
 refine KB (v:=(Sl.nil:Sl).v) rfl rfl hE rfl (KE hE rfl) (fun a hE=>?_)
 refine KG ?_
 refine hK_1 _ _ ?_
 refine KH (fun K hK_2=>?_)
 refine KC ?_
 refine KB (v:=x0) rfl rfl hE rfl (KD hE rfl) (fun a hE=>?_)
 refine KZ hE hR U5 rfl (VC Sl.nil x0) (M.unbind H) (fun Xx3 a w ea hR H=>?_)
 have hE:=Env.put_some hE rfl ea; clear ea
 refine KB (v:=(Xx3:Sl).v) rfl rfl hE rfl (KE hE rfl) (fun a hE=>?_)
 refine KG ?_
 refine hK_2 _ _ ?_
 refine Kg ?_
 exact hret _ _ _ Xx3 _ hE hR (KM hE rfl (RV.tmp rfl RV.nil)) rfl H
def JF (x0:Sl) (x1:Int):M (Value):=do
 let Xx2←mkB JN #[(x0:Sl).v]
 let Xx3←mkB Gm #[.int .i64 x1]
 let Xx6←ldI .i64 Xx3
 M.ite (decide (Xx6 < 1)) (do
  M.fail
  ) (do
  M.pure (Value.func (.func ZM) #[] #[.pointer (some Xx2),.pointer (some Xx3)])
  )
theorem WH (x0:Sl) (x1:Int):ZK Go.Proofs.Tryz.prog 78 #[(x0:Sl).v,.int .i64 x1] (fun (r:Value)=>r) (JF x0 x1):=by
 refine KY [(0,(x0:Sl).v),(1,.int .i64 x1)] Go.Proofs.Tryz.func78 rfl rfl (Nat.le_of_ble_eq_true rfl) (Ke ⟨rfl,rfl,trivial⟩) (fun w0 w Q R a hret hE hR H=>?_)
 unfold JF at H
 refine KH (fun K hK_1=>?_)
 refine KC ?_
 obtain ⟨Xx2,qXx2,H⟩:=H
 refine ZR (v:=.pointer (some Xx2)) rfl rfl hE rfl hR (YP hE rfl qXx2) (fun a w hE hR hh=>?_)
 replace H:=M.at hh H; clear hh
 obtain ⟨Xx3,qXx3,H⟩:=H
 refine ZR (v:=.pointer (some Xx3)) rfl rfl hE rfl hR (YP hE rfl qXx3) (fun a w hE hR hh=>?_)
 replace H:=M.at hh H; clear hh
 refine KB (v:=Value.nilFunc) rfl rfl hE rfl (KE hE rfl) (fun a hE=>?_)
 refine KG ?_
 refine hK_1 _ _ ?_
 refine KH (fun K hK_4=>?_)
 refine KH (fun K hK_5=>?_)
 refine KC ?_
 obtain ⟨Xx6,qXx6,H⟩:=H
 refine KB (v:=.int .i64 Xx6) rfl rfl hE rfl (KU hE rfl sc3 qXx6) (fun a hE=>?_)
 refine KB (v:=.bool (decide (Xx6 < 1))) rfl rfl hE rfl (KL hE rfl rfl KN JL) (fun a hE=>?_)
 refine KG ?_
 refine hK_5 _ _ ?_
 refine KS (decide (Xx6 < 1)) hE rfl (fun hb=>?_) (fun hb=>?_)
 ·replace H:=M.ite_t hb H
  exact False.elim H
 ·replace H:=M.ite_f hb H
  refine Ka ?_
  refine hK_4 _ _ ?_
  refine KH (fun K hK_7=>?_)
  refine KC ?_
  refine KB (v:=(Value.func (.func ZM) #[] #[.pointer (some Xx2),.pointer (some Xx3)])) rfl rfl hE rfl (qh hE rfl) (fun a hE=>?_)
  refine KB (v:=(Value.func (.func ZM) #[] #[.pointer (some Xx2),.pointer (some Xx3)])) rfl rfl hE rfl (KE hE rfl) (fun a hE=>?_)
  refine KG ?_
  refine hK_7 _ _ ?_
  refine Kg ?_
  exact hret _ _ _ (Value.func (.func ZM) #[] #[.pointer (some Xx2),.pointer (some Xx3)]) _ hE hR (KM hE rfl (RV.tmp rfl RV.nil)) rfl H
end Gx
