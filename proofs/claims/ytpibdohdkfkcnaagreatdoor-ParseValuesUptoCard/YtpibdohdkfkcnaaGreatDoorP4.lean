/- Printed by program: Go functions as Lean programs, each tied to its code. No condition. -/
import Derived.Test.YtpibdohdkfkcnaaGreatDoorP0
import Derived.Test.YtpibdohdkfkcnaaGreatDoorP1
import Derived.Test.YtpibdohdkfkcnaaGreatDoorP2
import Derived.Test.YtpibdohdkfkcnaaGreatDoorP3
set_option linter.unusedVariables false
set_option linter.unusedSimpArgs false
set_option maxRecDepth 100000
namespace Gx
open Go
theorem KMi:GS Go.Proofs.Tryz.f108 14 [[],[0],[],[2],[1,3],[],[5],[],[7],[6,8],[0,1,2,3,4,5,6],[10,4,0,1,2,3,4,5,6],[0,1,2,3,4,5,6,7,8,9,10,11],[12,9,11,0,1,2,3,4,5,6,7,8,9,10,11]] [[],[0],[],[2],[1,3],[],[5],[],[7],[6,8],[],[4,10],[],[9,12]] [[],[0],[],[2],[0,1,2,3],[],[5],[],[7],[5,6,7,8],[0,1,2,3,4,5,6],[0,1,2,3,4,5,6,10],[0,1,2,3,4,5,6,7,8,9,10,11],[0,1,2,3,4,5,6,7,8,9,10,11,12]]=true:=by kernel_rfl
def Ur (Cc45:Addr) (Cc46:Addr) (Cc47:Addr) (Cc48:Addr) (Cc49:Addr) (Cc50:Addr) (Cc51:Sl) (Cc52:Int) (self1:(Int)→M (Value⊕(Array Value))):(Int)→M (Value⊕(Array Value)):=fun s=>match s with
 |Xx44=>do
  M.ite (decide (Xx44<Cc52)) (do
   let Xx58←ixL Cc51 Xx44 2
   let Xx59←ldG 2 Xx58
   let Xx60←mkB ZI (#[.int .i64 0,.int .i64 0]:Array Value)
   M.need (Xx59.size=2)
   stG Xx60 Xx59
   let Xx62←ldI .i64 ((Xx60).add 1)
   let y_78←do
    M.both (do
     let Xx63←ldI .i64 ((Cc50).add 0)
     M.both (do
      let Xx64←ldI .i64 ((Xx60).add 0)
      let Xx65←ldI .i64 ((Cc50).add 1)
      M.pure (Xx63,Xx64,IntKind.wrap .i64 (Xx63+Xx64),Xx65,IntKind.wrap .i64 (Xx65+Xx62),(Cc50).add 0)
      ) (do
      let Xx66←ldI .i64 ((Cc50).add 1)
      let Xx67←ldI .i64 ((Xx60).add 0)
      M.pure (Xx63,Xx67,IntKind.wrap .i64 (Xx63+Xx67),Xx66,IntKind.wrap .i64 (Xx66+Xx62),(Cc50).add 0)
      )
     ) (do
     M.both (do
      let Xx68←ldI .i64 ((Xx60).add 0)
      M.both (do
       let Xx69←ldI .i64 ((Cc50).add 0)
       let Xx70←ldI .i64 ((Cc50).add 1)
       M.pure (Xx69,Xx68,IntKind.wrap .i64 (Xx69+Xx68),Xx70,IntKind.wrap .i64 (Xx70+Xx62),(Cc50).add 0)
       ) (do
       let Xx71←ldI .i64 ((Cc50).add 1)
       let Xx72←ldI .i64 ((Cc50).add 0)
       M.pure (Xx72,Xx68,IntKind.wrap .i64 (Xx72+Xx68),Xx71,IntKind.wrap .i64 (Xx71+Xx62),(Cc50).add 0)
       )
      ) (do
      let Xx73←ldI .i64 ((Cc50).add 1)
      M.both (do
       let Xx74←ldI .i64 ((Cc50).add 0)
       let Xx75←ldI .i64 ((Xx60).add 0)
       M.pure (Xx74,Xx75,IntKind.wrap .i64 (Xx74+Xx75),Xx73,IntKind.wrap .i64 (Xx73+Xx62),(Cc50).add 0)
       ) (do
       let Xx76←ldI .i64 ((Xx60).add 0)
       let Xx77←ldI .i64 ((Cc50).add 0)
       M.pure (Xx77,Xx76,IntKind.wrap .i64 (Xx77+Xx76),Xx73,IntKind.wrap .i64 (Xx73+Xx62),(Cc50).add 0)
       )
      )
     )
   stV y_78.2.2.2.2.2 (.int .i64 y_78.2.2.1)
   chk (fun h:Heap=>(KM h ((Xx60).add 1)=some (.int .i64 Xx62)))
   stV ((Cc50).add 1) (.int .i64 y_78.2.2.2.2.1)
   self1 (IntKind.wrap .i64 (Xx44+1))
   ) (do
   let Xx82←ldP Cc45
   let Xx83←ldG 2 Cc50
   thr (Jo Xx82 Xx83 (Value.func (.func UT) #[] #[.pointer (some Cc49),.pointer (some Cc48),.pointer (some Cc45),.pointer (some Cc46)])) fun Xx84=>do
    let Xx86←ldG 6 Cc48
    M.need (Xx86.size=6)
    stG Cc47 Xx86
    let Rr88←ldG 6 Cc47
    M.pure (.inr Rr88)
   )
def Ja (Cc20:Addr) (Cc21:Addr) (Cc22:Addr) (Cc23:Addr):M (Value⊕(Array Value)):=do
 let Xx25←ldP Cc20
 thr (Kc Xx25 (⟨#[40]⟩:ByteArray)) fun Xx26=>do
  let Xx28←ldI .i64 ((Cc23).add 0)
  let Xx29←XP Xx28
  let Xx30←mkB Vc (Array.replicate 10 (.int .i64 0):Array Value)
  M.need (Xx29.size=10)
  stG Xx30 Xx29
  let Xx33←mkB ZI (#[.int .i64 0,.int .i64 0]:Array Value)
  M.need ((#[.int .i64 0,.int .i64 0]:Array Value).size=2)
  stG Xx33 (#[.int .i64 0,.int .i64 0]:Array Value)
  let Xx37←ldG 2 ((Xx30).add 0)
  let Xx38←ldG 2 ((Xx30).add 2)
  let Xx39←ldG 2 ((Xx30).add 4)
  let Xx40←ldG 2 ((Xx30).add 6)
  let Xx41←ldG 2 ((Xx30).add 8)
  let y_43←XI 2 5 (#[.int .i64 0,.int .i64 0]:Array Value) [(0,.agg Xx37),(1,.agg Xx38),(2,.agg Xx39),(3,.agg Xx40),(4,.agg Xx41)]
  let Xx42←bdL ZI 5 y_43
  M.loop (Ur Cc20 Cc21 Cc22 Cc23 Xx30 Xx33 Xx42 (Xx42.len:Int)) 0
def UD (Cc15:Addr) (Cc16:Addr) (Cc17:Addr) (Cc18:Int) (Cc19:Addr):M (Value⊕(Array Value)):=do
 let Xx90←ldP Cc15
 let Xx91←nilP Xx90
 let Xx92←ldI .i64 ((Xx91).add 2)
 let Xx93←nilP Xx90
 stV ((Xx93).add 2) (.int .i64 (IntKind.wrap .i64 (Xx92+1)))
 let Xx96←ldP Cc15
 let Xx97←nilP Xx96
 let Xx98←ldI .i64 ((Xx97).add 2)
 M.ite (decide (Xx98>256)) (do
  thr (JH Cc18 3) fun Xx99=>do
   Ja Cc15 Cc16 Cc17 Cc19
  ) (do
  Ja Cc15 Cc16 Cc17 Cc19
  )
def UK (x0:Option Addr) (x1:Int):M (Value⊕(Array Value)):=do
 let Xx2←mkB JF #[.pointer x0]
 let Xx3←mkB VE #[.int .i64 x1]
 let Xx4←mkB Zm (#[.int .i64 0,.slice none 0 0,.slice none 0 0,.slice none 0 0,.slice none 0 0,.slice none 0 0]:Array Value)
 let Xx6←ldP Xx2
 let Xx7←ZN Xx6
 let Xx9←ldP Xx2
 thr (ZD Xx9 1) fun Xx10=>do
  let Xx11←fdS Xx10 1
  let Xx12←Xl (⟨#[86,32,69,32,105,110,106,101,99,116,32,97,100,100,86,32,111,117,116,32,105,110,32,98,111,116,104,32,111,117,116,69,32,105,110,69,32,98,111,116,104,69,32,111,117,116,86,32,105,110,86,32,98,111,116,104,86,32,104,97,115,32,104,97,115,75,101,121,32,104,97,115,78,111,116,32,104,97,115,76,97,98,101,108,32,104,97,115,73,100,32,105,115,32,119,104,101,114,101,32,110,111,116,32,97,110,100,32,111,114,32,100,101,100,117,112,32,115,105,109,112,108,101,80,97,116,104,32,108,105,109,105,116,32,115,107,105,112,32,114,97,110,103,101,32,116,97,105,108,32,105,100,32,108,97,98,101,108,32,118,97,108,117,101,115,32,118,97,108,117,101,77,97,112,32,99,111,110,115,116,97,110,116,32,99,111,117,110,116,32,115,117,109,32,109,105,110,32,109,97,120,32,102,111,108,100,32,117,110,102,111,108,100,32,112,97,116,104,32,97,115,32,115,101,108,101,99,116,32,111,114,100,101,114,32,111,114,100,101,114,68,101,115,99,32,111,114,100,101,114,66,121,32,111,114,100,101,114,66,121,68,101,115,99,32,103,114,111,117,112,67,111,117,110,116,32,108,111,111,112,115,32,117,110,105,111,110,32,99,111,97,108,101,115,99,101,32,111,112,116,105,111,110,97,108,32,99,104,111,111,115,101,32,116,105,109,101,115,32,117,110,116,105,108,32,101,109,105,116,32,97,100,100,69,32,112,114,111,112,101,114,116,121,32,100,114,111,112,32,105,100,101,110,116,105,116,121]⟩:ByteArray) Xx11
  let Xx13←mkB Zm (#[.int .i64 0,.slice none 0 0,.slice none 0 0,.slice none 0 0,.slice none 0 0,.slice none 0 0]:Array Value)
  M.need ((#[.int .i64 Xx12,.slice none 0 0,.slice none 0 0,.slice none 0 0,.slice none 0 0,.slice none 0 0]:Array Value).size=6)
  stG Xx13 (#[.int .i64 Xx12,.slice none 0 0,.slice none 0 0,.slice none 0 0,.slice none 0 0,.slice none 0 0]:Array Value)
  let Xx101←ldI .i64 ((Xx13).add 0)
  M.ite (Xx101==0) (do
   thr (JH Xx7 160) fun Xx102=>do
    UD Xx2 Xx3 Xx4 Xx7 Xx13
   ) (do
   UD Xx2 Xx3 Xx4 Xx7 Xx13
   )
theorem Xn (x0:Option Addr) (x1:Int):J3 Go.Proofs.Tryz.prog 108 #[.pointer x0,.int .i64 x1] (fun(r:Array Value)=>.agg r) (UK x0 x1):=by
 refine Zj [(0,.pointer x0),(1,.int .i64 x1)] Go.Proofs.Tryz.func108 rfl rfl (Nat.le_of_ble_eq_true rfl) (Z8 ⟨rfl,rfl,trivial⟩) (fun w0 w Q R X a hret hthr hE hR H=>?_)
 unfold UK at H
 refine KR (fun K hK_1=>?_)
 refine KC ?_
 obtain⟨Xx2,qXx2,H⟩:=H
 refine JM (v:=.pointer (some Xx2)) rfl rfl hE rfl hR (KFj hE rfl qXx2) (fun a w hE hR hh=>?_)
 replace H:=M.at hh H;clear hh
 obtain⟨Xx3,qXx3,H⟩:=H
 refine JM (v:=.pointer (some Xx3)) rfl rfl hE rfl hR (KFj hE rfl qXx3) (fun a w hE hR hh=>?_)
 replace H:=M.at hh H;clear hh
 obtain⟨Xx4,qXx4,H⟩:=H
 refine JM (v:=.pointer (some Xx4)) rfl rfl hE rfl hR (Z0 zr94 qXx4) (fun a w hE hR hh=>?_)
 replace H:=M.at hh H;clear hh
 refine KN ?_
 refine hK_1 _ _ ?_
 refine KR (fun K hK_5=>?_)
 refine KC ?_
 obtain⟨Xx6,qXx6,H⟩:=H
 refine KB (v:=.pointer Xx6) rfl rfl hE rfl (KS hE rfl sc98 qXx6) (fun a hE=>?_)
 refine Zd hE hR ZX rfl (Zg Xx6) (M.unbind H) (fun Xx7 a w ea hR H=>?_)
 have hE:=Env.put_some hE rfl ea;clear ea
 refine KB (v:=.int .i64 Xx7) rfl rfl hE rfl (KQ hE rfl) (fun a hE=>?_)
 refine KN ?_
 refine hK_5 _ _ ?_
 refine KR (fun K hK_8=>?_)
 refine KC ?_
 obtain⟨Xx9,qXx9,H⟩:=H
 refine KB (v:=.pointer Xx9) rfl rfl hE rfl (KS hE rfl sc98 qXx9) (fun a hE=>?_)
 refine KZ hE hR ZY rfl (Zh Xx9 1) H (fun _ _ hR HQ=>hthr _ _ hR HQ) (fun Xx10 a w ea hR H=>?_)
 have hE:=Env.put_some hE rfl ea;clear ea
 obtain⟨Xx11,qXx11,H⟩:=H
 refine KB (v:=.string Xx11) rfl rfl hE rfl (Ng hE rfl KIG sc9 qXx11) (fun a hE=>?_)
 refine Zd hE hR qo rfl (KAf (⟨#[86,32,69,32,105,110,106,101,99,116,32,97,100,100,86,32,111,117,116,32,105,110,32,98,111,116,104,32,111,117,116,69,32,105,110,69,32,98,111,116,104,69,32,111,117,116,86,32,105,110,86,32,98,111,116,104,86,32,104,97,115,32,104,97,115,75,101,121,32,104,97,115,78,111,116,32,104,97,115,76,97,98,101,108,32,104,97,115,73,100,32,105,115,32,119,104,101,114,101,32,110,111,116,32,97,110,100,32,111,114,32,100,101,100,117,112,32,115,105,109,112,108,101,80,97,116,104,32,108,105,109,105,116,32,115,107,105,112,32,114,97,110,103,101,32,116,97,105,108,32,105,100,32,108,97,98,101,108,32,118,97,108,117,101,115,32,118,97,108,117,101,77,97,112,32,99,111,110,115,116,97,110,116,32,99,111,117,110,116,32,115,117,109,32,109,105,110,32,109,97,120,32,102,111,108,100,32,117,110,102,111,108,100,32,112,97,116,104,32,97,115,32,115,101,108,101,99,116,32,111,114,100,101,114,32,111,114,100,101,114,68,101,115,99,32,111,114,100,101,114,66,121,32,111,114,100,101,114,66,121,68,101,115,99,32,103,114,111,117,112,67,111,117,110,116,32,108,111,111,112,115,32,117,110,105,111,110,32,99,111,97,108,101,115,99,101,32,111,112,116,105,111,110,97,108,32,99,104,111,111,115,101,32,116,105,109,101,115,32,117,110,116,105,108,32,101,109,105,116,32,97,100,100,69,32,112,114,111,112,101,114,116,121,32,100,114,111,112,32,105,100,101,110,116,105,116,121]⟩:ByteArray) Xx11) (M.unbind H) (fun Xx12 a w ea hR H=>?_)
 have hE:=Env.put_some hE rfl ea;clear ea
 refine KB (v:=.agg (#[.int .i64 Xx12,.slice none 0 0,.slice none 0 0,.slice none 0 0,.slice none 0 0,.slice none 0 0]:Array Value)) rfl rfl hE rfl (Vs hE rfl zr94 pl94 (by rfl)) (fun a hE=>?_)
 obtain⟨Xx13,qXx13,H⟩:=H
 refine JM (v:=.pointer (some Xx13)) rfl rfl hE rfl hR (Z0 zr94 qXx13) (fun a w hE hR hh=>?_)
 replace H:=M.at hh H;clear hh
 obtain⟨qz,H⟩:=H
 obtain⟨u_14,qu_14,H⟩:=H
 refine JA rfl rfl hE hR (Kh hE rfl rfl sz94 qz qu_14) (fun a w hE hR hh=>?_)
 replace H:=M.at hh H;clear hh
 refine KN ?_
 refine hK_8 _ _ ?_
 refine Kz (fun a w=>Env (⟨77,[]⟩:Frm) a [(2,.pointer (some Xx2)),(3,.pointer (some Xx3)),(4,.pointer (some Xx4)),(5,.int .i64 Xx7),(6,.pointer (some Xx13))]∧Rest w0 w∧(UD Xx2 Xx3 Xx4 Xx7 Xx13).wp w.heap Q) ?_ ?_
 ·rintro a w ⟨hE,hR,H⟩
  unfold UD at H
  refine Kz (fun a w=>Env (⟨77,[]⟩:Frm) a [(2,.pointer (some Xx2)),(3,.pointer (some Xx3)),(4,.pointer (some Xx4)),(6,.pointer (some Xx13))]∧Rest w0 w∧(Ja Xx2 Xx3 Xx4 Xx13).wp w.heap Q) ?_ ?_
  ·rintro a w ⟨hE,hR,H⟩
   unfold Ja at H
   refine KR (fun K hK_24=>?_)
   refine KC ?_
   obtain⟨Xx25,qXx25,H⟩:=H
   refine KB (v:=.pointer Xx25) rfl rfl hE rfl (KS hE rfl sc98 qXx25) (fun a hE=>?_)
   refine KZ hE hR Kg rfl (Kl Xx25 (⟨#[40]⟩:ByteArray)) H (fun _ _ hR HQ=>hthr _ _ hR HQ) (fun Xx26 a w ea hR H=>?_)
   have hE:=Env.put_some hE rfl ea;clear ea
   refine KN ?_
   refine hK_24 _ _ ?_
   refine KR (fun K hK_27=>?_)
   refine KC ?_
   refine KB (v:=.pointer (some ((Xx13).add 0))) rfl rfl hE rfl (KD hE rfl KNy) (fun a hE=>?_)
   obtain⟨Xx28,qXx28,H⟩:=H
   refine KB (v:=.int .i64 Xx28) rfl rfl hE rfl (KS hE rfl sc3 qXx28) (fun a hE=>?_)
   refine Zd hE hR KBx rfl (KCp Xx28) (M.unbind H) (fun Xx29 a w ea hR H=>?_)
   have hE:=Env.put_some hE rfl ea;clear ea
   obtain⟨Xx30,qXx30,H⟩:=H
   refine JM (v:=.pointer (some Xx30)) rfl rfl hE rfl hR (Z0 KRt qXx30) (fun a w hE hR hh=>?_)
   replace H:=M.at hh H;clear hh
   obtain⟨qz,H⟩:=H
   obtain⟨u_31,qu_31,H⟩:=H
   refine JA rfl rfl hE hR (Kh hE rfl rfl KRz qz qu_31) (fun a w hE hR hh=>?_)
   replace H:=M.at hh H;clear hh
   refine KN ?_
   refine hK_27 _ _ ?_
   refine KR (fun K hK_32=>?_)
   refine KC ?_
   refine KB (v:=.agg (#[.int .i64 0,.int .i64 0]:Array Value)) rfl rfl hE rfl (Gr KRu) (fun a hE=>?_)
   obtain⟨Xx33,qXx33,H⟩:=H
   refine JM (v:=.pointer (some Xx33)) rfl rfl hE rfl hR (Z0 KO1 qXx33) (fun a w hE hR hh=>?_)
   replace H:=M.at hh H;clear hh
   obtain⟨qz,H⟩:=H
   obtain⟨u_34,qu_34,H⟩:=H
   refine JA rfl rfl hE hR (Kh hE rfl rfl KMh qz qu_34) (fun a w hE hR hh=>?_)
   replace H:=M.at hh H;clear hh
   refine KN ?_
   refine hK_32 _ _ ?_
   refine KR (fun K hK_35=>?_)
   refine KR (fun K hK_36=>?_)
   refine KC ?_
   refine KB (v:=.pointer (some ((Xx30).add 0))) rfl rfl hE rfl (KD hE rfl KHL) (fun a hE=>?_)
   obtain⟨Xx37,qXx37,H⟩:=H
   refine KB (v:=.agg Xx37) rfl rfl hE rfl (Ui hE rfl KHI qXx37) (fun a hE=>?_)
   refine KB (v:=.pointer (some ((Xx30).add 2))) rfl rfl hE rfl (KD hE rfl KKc) (fun a hE=>?_)
   obtain⟨Xx38,qXx38,H⟩:=H
   refine KB (v:=.agg Xx38) rfl rfl hE rfl (Ui hE rfl KHI qXx38) (fun a hE=>?_)
   refine KB (v:=.pointer (some ((Xx30).add 4))) rfl rfl hE rfl (KD hE rfl KKd) (fun a hE=>?_)
   obtain⟨Xx39,qXx39,H⟩:=H
   refine KB (v:=.agg Xx39) rfl rfl hE rfl (Ui hE rfl KHI qXx39) (fun a hE=>?_)
   refine KB (v:=.pointer (some ((Xx30).add 6))) rfl rfl hE rfl (KD hE rfl KKe) (fun a hE=>?_)
   obtain⟨Xx40,qXx40,H⟩:=H
   refine KB (v:=.agg Xx40) rfl rfl hE rfl (Ui hE rfl KHI qXx40) (fun a hE=>?_)
   refine KB (v:=.pointer (some ((Xx30).add 8))) rfl rfl hE rfl (KD hE rfl KO3) (fun a hE=>?_)
   obtain⟨Xx41,qXx41,H⟩:=H
   refine KB (v:=.agg Xx41) rfl rfl hE rfl (Ui hE rfl KHI qXx41) (fun a hE=>?_)
   obtain⟨y_43,qy_43,H⟩:=H
   obtain⟨Xx42,qXx42,H⟩:=H
   refine JM (v:=(Xx42:Sl).v) rfl rfl hE rfl hR (J4 hE rfl KO0 KMh KO1 rfl qy_43 qXx42) (fun a w hE hR hh=>?_)
   replace H:=M.at hh H;clear hh
   refine KB (v:=.int .i64 (Xx42.len:Int)) rfl rfl hE rfl (KAy hE rfl 176 KO0) (fun a hE=>?_)
   refine KB (v:=.int .i64 0) rfl rfl hE rfl (KF hE rfl) (fun a hE=>?_)
   refine KN ?_
   refine hK_36 _ _ ?_
   refine J6 ?_
   refine zq (fun(s:Int)=>(⟨77,[]⟩:Frm)) (fun(s:Int)=>[(2,.pointer (some Xx2)),(3,.pointer (some Xx3)),(4,.pointer (some Xx4)),(6,.pointer (some Xx13)),(7,.pointer (some Xx30)),(8,.pointer (some Xx33)),(53,(Xx42:Sl).v),(54,.int .i64 (Xx42.len:Int)),(55,.int .i64 s)]) H (hE.cut (.cons rfl (.cons rfl (.cons rfl (.cons rfl (.cons rfl (.cons rfl (.cons rfl (.cons rfl (.cons rfl Subs.nil)))))))))) hR (fun Y self1 hY_53 Xx44 a w hE hR H=>?_)
   replace hE:Env (⟨77,[]⟩:Frm) a [(2,.pointer (some Xx2)),(3,.pointer (some Xx3)),(4,.pointer (some Xx4)),(6,.pointer (some Xx13)),(7,.pointer (some Xx30)),(8,.pointer (some Xx33)),(53,(Xx42:Sl).v),(54,.int .i64 (Xx42.len:Int)),(55,.int .i64 Xx44)]:=hE
   replace H:(Ur Xx2 Xx3 Xx4 Xx13 Xx30 Xx33 Xx42 (Xx42.len:Int) self1 Xx44).wp w.heap Q:=H
   unfold Ur at H
   refine KR (fun K hK_54=>?_)
   refine KC ?_
   refine KB (v:=.bool (decide (Xx44<(Xx42.len:Int)))) rfl rfl hE rfl (Kk hE rfl rfl Ki NU) (fun a hE=>?_)
   refine KN ?_
   refine hK_54 _ _ ?_
   refine KR (fun K hK_55=>?_)
   refine ZA (decide (Xx44<(Xx42.len:Int))) hE rfl (fun hb=>?_) (fun hb=>?_)
   ·replace H:=M.ite_t hb H
    refine Zq ?_
    refine hK_55 _ _ ?_
    refine KR (fun K hK_56=>?_)
    refine J6 ?_
    refine KR (fun K hK_57=>?_)
    refine KC ?_
    obtain⟨Xx58,qXx58,H⟩:=H
    refine KB (v:=.pointer (some Xx58)) rfl rfl hE rfl (Ua hE rfl rfl KO0 KMh qXx58) (fun a hE=>?_)
    obtain⟨Xx59,qXx59,H⟩:=H
    refine KB (v:=.agg Xx59) rfl rfl hE rfl (Ui hE rfl KHI qXx59) (fun a hE=>?_)
    obtain⟨Xx60,qXx60,H⟩:=H
    refine JM (v:=.pointer (some Xx60)) rfl rfl hE rfl hR (Z0 KO1 qXx60) (fun a w hE hR hh=>?_)
    replace H:=M.at hh H;clear hh
    obtain⟨qz,H⟩:=H
    obtain⟨u_61,qu_61,H⟩:=H
    refine JA rfl rfl hE hR (Kh hE rfl rfl KMh qz qu_61) (fun a w hE hR hh=>?_)
    replace H:=M.at hh H;clear hh
    refine KN ?_
    refine hK_57 _ _ ?_
    obtain⟨Xx62,qXx62,H⟩:=H
    have hT:=VT KMi rfl rfl
    refine Jv (fun w:World=>(fun h:Heap=>(KM h ((Xx60).add 1)=some (.int .i64 Xx62))) w.heap) [9,12,13] #[false,false,false,false,false,false,false,false,false,false,false,false,false,false] mo hR rfl rfl (fun w' e=>by rw [e];exact qXx62) (fun w hh hR hs=>?_)
    replace H:=M.at hh H;clear hh
    refine KG (i:=0) (v:=.pointer (some ((Xx33).add 0))) #[true,false,false,false,false,false,false,false,false,false,false,false,false,false] rfl rfl hT (by kernel_rfl) hE rfl (KA rfl) (fun w=>KD hE rfl NA) (fun a hE=>?_)
    refine KG (i:=2) (v:=.pointer (some ((Xx60).add 0))) #[true,false,true,false,false,false,false,false,false,false,false,false,false,false] rfl rfl hT (by kernel_rfl) hE rfl (KA rfl) (fun w=>KD hE rfl NA) (fun a hE=>?_)
    refine KG (i:=5) (v:=.pointer (some ((Xx33).add 1))) #[true,false,true,false,false,true,false,false,false,false,false,false,false,false] rfl rfl hT (by kernel_rfl) hE rfl (KA rfl) (fun w=>KD hE rfl GK) (fun a hE=>?_)
    refine KG (i:=7) (v:=.pointer (some ((Xx60).add 1))) #[true,false,true,false,false,true,false,true,false,false,false,false,false,false] rfl rfl hT (by kernel_rfl) hE rfl (KA rfl) (fun w=>KD hE rfl GK) (fun a hE=>?_)
    refine Zs (i:=8) (v:=.int .i64 Xx62) #[true,false,true,false,false,true,false,true,true,false,false,false,false,false] rfl rfl hT (by kernel_rfl) hE rfl (KA rfl) hs (fun w s=>KS hE rfl sc3 s) (fun a hE=>?_)
    refine KH3 (n:=(⟨77,[]⟩:Frm)) (w0:=w0) (fun y_78:Int×Int×Int×Int×Int×Addr=>[(2,.pointer (some Xx2)),(3,.pointer (some Xx3)),(4,.pointer (some Xx4)),(6,.pointer (some Xx13)),(7,.pointer (some Xx30)),(8,.pointer (some Xx33)),(53,(Xx42:Sl).v),(54,.int .i64 (Xx42.len:Int)),(55,.int .i64 Xx44),(56,.bool (decide (Xx44<(Xx42.len:Int)))),(57,.pointer (some Xx58)),(58,.agg Xx59),(10,.pointer (some Xx60)),(59,.pointer (some ((Xx33).add 0))),(61,.pointer (some ((Xx60).add 0))),(64,.pointer (some ((Xx33).add 1))),(66,.pointer (some ((Xx60).add 1))),(67,.int .i64 Xx62),(60,.int .i64 y_78.1),(62,.int .i64 y_78.2.1),(63,.int .i64 y_78.2.2.1),(65,.int .i64 y_78.2.2.2.1),(68,.int .i64 y_78.2.2.2.2.1),(69,.pointer (some y_78.2.2.2.2.2))]) 3 #[true,true,true,true,true,true,true,true,true,true,true,false,false,false] (M.unbind H) ?_ ?_
    ·intro y_78 a w hE hR H
     obtain⟨u_79,qu_79,H⟩:=H
     obtain⟨_,sA,H⟩:=H
     refine KJF (i:=11) #[true,true,true,true,true,true,true,true,true,true,true,true,false,false] rfl rfl hT (by kernel_rfl) rfl hE hR (KA rfl) (ZB hE rfl rfl sz3 qu_79)  (fun w' e=>by rw [e];exact sA) (fun a w hE hR hh hs=>?_)
     replace H:=M.at hh H;clear hh
     refine KG (i:=12) (v:=.pointer (some ((Xx33).add 1))) #[true,true,true,true,true,true,true,true,true,true,true,true,true,false] rfl rfl hT (by kernel_rfl) hE rfl (KA rfl) (fun w=>KD hE rfl GK) (fun a hE=>?_)
     obtain⟨u_80,qu_80,H⟩:=H
     refine YD (i:=13) #[true,true,true,true,true,true,true,true,true,true,true,true,true,true] rfl rfl hT (by kernel_rfl) rfl hE hR (KA rfl) (ZB hE rfl rfl sz3 qu_80)  (fun a w hE hR hh=>?_)
     replace H:=M.at hh H;clear hh
     refine VD hT (by kernel_rfl) ?_
     refine hK_56 _ _ ?_
     refine KC ?_
     refine KB (v:=.int .i64 (IntKind.wrap .i64 (Xx44+1))) rfl rfl hE rfl (Kk hE rfl rfl Ki Vp) (fun a hE=>?_)
     refine KB (v:=.int .i64 (IntKind.wrap .i64 (Xx44+1))) rfl rfl hE rfl (KF hE rfl) (fun a hE=>?_)
     refine KN ?_
     exact hY_53 (IntKind.wrap .i64 (Xx44+1)) _ _ (hE.cut (.cons rfl (.cons rfl (.cons rfl (.cons rfl (.cons rfl (.cons rfl (.cons rfl (.cons rfl (.cons rfl Subs.nil)))))))))) hR H
    ·intro hj H
     refine zu [1,3,6] hT (by kernel_rfl) rfl (fun i hi=>?_)
     simp only [List.mem_cons,List.not_mem_nil,or_false]at hi
     rcases hi with rfl|rfl|rfl
     ·replace H:=H.1
      obtain⟨Xx63,qXx63,H⟩:=H
      refine KDc (S:=fun w:World=>(fun h:Heap=>(KM h ((Xx60).add 1)=some (.int .i64 Xx62))) w.heap) (i:=1) (v:=.int .i64 Xx63) #[true,true,true,false,false,true,false,true,true,false,false,false,false,false] rfl rfl (by kernel_rfl) hE hR rfl (KA rfl) (KS hE rfl sc3 qXx63) ⟨rfl,rfl,rfl,Nat.le_refl _⟩ (fun w' e=>by rw [e];exact hs) (fun a w hE hR hh hs=>?_)
      replace H:=M.at hh H;clear hh
      refine zu [3,6] hT (by kernel_rfl) rfl (fun i hi=>?_)
      simp only [List.mem_cons,List.not_mem_nil,or_false]at hi
      rcases hi with rfl|rfl
      ·replace H:=H.1
       obtain⟨Xx64,qXx64,H⟩:=H
       refine KDc (S:=fun w:World=>(fun h:Heap=>(KM h ((Xx60).add 1)=some (.int .i64 Xx62))) w.heap) (i:=3) (v:=.int .i64 Xx64) #[true,true,true,true,false,true,false,true,true,false,false,false,false,false] rfl rfl (by kernel_rfl) hE hR rfl (KA rfl) (KS hE rfl sc3 qXx64) ⟨rfl,rfl,rfl,Nat.le_refl _⟩ (fun w' e=>by rw [e];exact hs) (fun a w hE hR hh hs=>?_)
       replace H:=M.at hh H;clear hh
       refine KG (i:=4) (v:=.int .i64 (IntKind.wrap .i64 (Xx63+Xx64))) #[true,true,true,true,true,true,false,true,true,false,false,false,false,false] rfl rfl hT (by kernel_rfl) hE rfl (KA rfl) (fun w=>Kk hE rfl rfl Ki Vp) (fun a hE=>?_)
       obtain⟨Xx65,qXx65,H⟩:=H
       refine KG7 (i:=6) (v:=.int .i64 Xx65) #[true,true,true,true,true,true,true,true,true,false,false,false,false,false] rfl rfl hT (by kernel_rfl) rfl hE hR rfl (KA rfl) (KS hE rfl sc3 qXx65) ⟨rfl,rfl,rfl,Nat.le_refl _⟩ (fun w' e=>by rw [e];exact hs) (fun a w hE hR hh hs=>?_)
       replace H:=M.at hh H;clear hh
       refine KG (i:=9) (v:=.int .i64 (IntKind.wrap .i64 (Xx65+Xx62))) #[true,true,true,true,true,true,true,true,true,true,false,false,false,false] rfl rfl hT (by kernel_rfl) hE rfl (KA rfl) (fun w=>Kk hE rfl rfl Ki Vp) (fun a hE=>?_)
       refine KG (i:=10) (v:=.pointer (some ((Xx33).add 0))) #[true,true,true,true,true,true,true,true,true,true,true,false,false,false] rfl rfl hT (by kernel_rfl) hE rfl (KA rfl) (fun w=>KD hE rfl NA) (fun a hE=>?_)
       exact hj _ _ _ (hE.cut (.cons rfl (.cons rfl (.cons rfl (.cons rfl (.cons rfl (.cons rfl (.cons rfl (.cons rfl (.cons rfl (.cons rfl (.cons rfl (.cons rfl (.cons rfl (.cons rfl (.cons rfl (.cons rfl (.cons rfl (.cons rfl (.cons rfl (.cons rfl (.cons rfl (.cons rfl (.cons rfl (.cons rfl Subs.nil))))))))))))))))))))))))) hR H
      ·replace H:=H.2
       obtain⟨Xx66,qXx66,H⟩:=H
       refine KDc (S:=fun w:World=>(fun h:Heap=>(KM h ((Xx60).add 1)=some (.int .i64 Xx62))) w.heap) (i:=6) (v:=.int .i64 Xx66) #[true,true,true,false,false,true,true,true,true,false,false,false,false,false] rfl rfl (by kernel_rfl) hE hR rfl (KA rfl) (KS hE rfl sc3 qXx66) ⟨rfl,rfl,rfl,Nat.le_refl _⟩ (fun w' e=>by rw [e];exact hs) (fun a w hE hR hh hs=>?_)
       replace H:=M.at hh H;clear hh
       refine KG (i:=9) (v:=.int .i64 (IntKind.wrap .i64 (Xx66+Xx62))) #[true,true,true,false,false,true,true,true,true,true,false,false,false,false] rfl rfl hT (by kernel_rfl) hE rfl (KA rfl) (fun w=>Kk hE rfl rfl Ki Vp) (fun a hE=>?_)
       obtain⟨Xx67,qXx67,H⟩:=H
       refine KG7 (i:=3) (v:=.int .i64 Xx67) #[true,true,true,true,false,true,true,true,true,true,false,false,false,false] rfl rfl hT (by kernel_rfl) rfl hE hR rfl (KA rfl) (KS hE rfl sc3 qXx67) ⟨rfl,rfl,rfl,Nat.le_refl _⟩ (fun w' e=>by rw [e];exact hs) (fun a w hE hR hh hs=>?_)
       replace H:=M.at hh H;clear hh
       refine KG (i:=4) (v:=.int .i64 (IntKind.wrap .i64 (Xx63+Xx67))) #[true,true,true,true,true,true,true,true,true,true,false,false,false,false] rfl rfl hT (by kernel_rfl) hE rfl (KA rfl) (fun w=>Kk hE rfl rfl Ki Vp) (fun a hE=>?_)
       refine KG (i:=10) (v:=.pointer (some ((Xx33).add 0))) #[true,true,true,true,true,true,true,true,true,true,true,false,false,false] rfl rfl hT (by kernel_rfl) hE rfl (KA rfl) (fun w=>KD hE rfl NA) (fun a hE=>?_)
       exact hj _ _ _ (hE.cut (.cons rfl (.cons rfl (.cons rfl (.cons rfl (.cons rfl (.cons rfl (.cons rfl (.cons rfl (.cons rfl (.cons rfl (.cons rfl (.cons rfl (.cons rfl (.cons rfl (.cons rfl (.cons rfl (.cons rfl (.cons rfl (.cons rfl (.cons rfl (.cons rfl (.cons rfl (.cons rfl (.cons rfl Subs.nil))))))))))))))))))))))))) hR H
     ·replace H:=H.2.1
      obtain⟨Xx68,qXx68,H⟩:=H
      refine KDc (S:=fun w:World=>(fun h:Heap=>(KM h ((Xx60).add 1)=some (.int .i64 Xx62))) w.heap) (i:=3) (v:=.int .i64 Xx68) #[true,false,true,true,false,true,false,true,true,false,false,false,false,false] rfl rfl (by kernel_rfl) hE hR rfl (KA rfl) (KS hE rfl sc3 qXx68) ⟨rfl,rfl,rfl,Nat.le_refl _⟩ (fun w' e=>by rw [e];exact hs) (fun a w hE hR hh hs=>?_)
      replace H:=M.at hh H;clear hh
      refine zu [1,6] hT (by kernel_rfl) rfl (fun i hi=>?_)
      simp only [List.mem_cons,List.not_mem_nil,or_false]at hi
      rcases hi with rfl|rfl
      ·replace H:=H.1
       obtain⟨Xx69,qXx69,H⟩:=H
       refine KDc (S:=fun w:World=>(fun h:Heap=>(KM h ((Xx60).add 1)=some (.int .i64 Xx62))) w.heap) (i:=1) (v:=.int .i64 Xx69) #[true,true,true,true,false,true,false,true,true,false,false,false,false,false] rfl rfl (by kernel_rfl) hE hR rfl (KA rfl) (KS hE rfl sc3 qXx69) ⟨rfl,rfl,rfl,Nat.le_refl _⟩ (fun w' e=>by rw [e];exact hs) (fun a w hE hR hh hs=>?_)
       replace H:=M.at hh H;clear hh
       refine KG (i:=4) (v:=.int .i64 (IntKind.wrap .i64 (Xx69+Xx68))) #[true,true,true,true,true,true,false,true,true,false,false,false,false,false] rfl rfl hT (by kernel_rfl) hE rfl (KA rfl) (fun w=>Kk hE rfl rfl Ki Vp) (fun a hE=>?_)
       obtain⟨Xx70,qXx70,H⟩:=H
       refine KG7 (i:=6) (v:=.int .i64 Xx70) #[true,true,true,true,true,true,true,true,true,false,false,false,false,false] rfl rfl hT (by kernel_rfl) rfl hE hR rfl (KA rfl) (KS hE rfl sc3 qXx70) ⟨rfl,rfl,rfl,Nat.le_refl _⟩ (fun w' e=>by rw [e];exact hs) (fun a w hE hR hh hs=>?_)
       replace H:=M.at hh H;clear hh
       refine KG (i:=9) (v:=.int .i64 (IntKind.wrap .i64 (Xx70+Xx62))) #[true,true,true,true,true,true,true,true,true,true,false,false,false,false] rfl rfl hT (by kernel_rfl) hE rfl (KA rfl) (fun w=>Kk hE rfl rfl Ki Vp) (fun a hE=>?_)
       refine KG (i:=10) (v:=.pointer (some ((Xx33).add 0))) #[true,true,true,true,true,true,true,true,true,true,true,false,false,false] rfl rfl hT (by kernel_rfl) hE rfl (KA rfl) (fun w=>KD hE rfl NA) (fun a hE=>?_)
       exact hj _ _ _ (hE.cut (.cons rfl (.cons rfl (.cons rfl (.cons rfl (.cons rfl (.cons rfl (.cons rfl (.cons rfl (.cons rfl (.cons rfl (.cons rfl (.cons rfl (.cons rfl (.cons rfl (.cons rfl (.cons rfl (.cons rfl (.cons rfl (.cons rfl (.cons rfl (.cons rfl (.cons rfl (.cons rfl (.cons rfl Subs.nil))))))))))))))))))))))))) hR H
      ·replace H:=H.2
       obtain⟨Xx71,qXx71,H⟩:=H
       refine KDc (S:=fun w:World=>(fun h:Heap=>(KM h ((Xx60).add 1)=some (.int .i64 Xx62))) w.heap) (i:=6) (v:=.int .i64 Xx71) #[true,false,true,true,false,true,true,true,true,false,false,false,false,false] rfl rfl (by kernel_rfl) hE hR rfl (KA rfl) (KS hE rfl sc3 qXx71) ⟨rfl,rfl,rfl,Nat.le_refl _⟩ (fun w' e=>by rw [e];exact hs) (fun a w hE hR hh hs=>?_)
       replace H:=M.at hh H;clear hh
       refine KG (i:=9) (v:=.int .i64 (IntKind.wrap .i64 (Xx71+Xx62))) #[true,false,true,true,false,true,true,true,true,true,false,false,false,false] rfl rfl hT (by kernel_rfl) hE rfl (KA rfl) (fun w=>Kk hE rfl rfl Ki Vp) (fun a hE=>?_)
       obtain⟨Xx72,qXx72,H⟩:=H
       refine KG7 (i:=1) (v:=.int .i64 Xx72) #[true,true,true,true,false,true,true,true,true,true,false,false,false,false] rfl rfl hT (by kernel_rfl) rfl hE hR rfl (KA rfl) (KS hE rfl sc3 qXx72) ⟨rfl,rfl,rfl,Nat.le_refl _⟩ (fun w' e=>by rw [e];exact hs) (fun a w hE hR hh hs=>?_)
       replace H:=M.at hh H;clear hh
       refine KG (i:=4) (v:=.int .i64 (IntKind.wrap .i64 (Xx72+Xx68))) #[true,true,true,true,true,true,true,true,true,true,false,false,false,false] rfl rfl hT (by kernel_rfl) hE rfl (KA rfl) (fun w=>Kk hE rfl rfl Ki Vp) (fun a hE=>?_)
       refine KG (i:=10) (v:=.pointer (some ((Xx33).add 0))) #[true,true,true,true,true,true,true,true,true,true,true,false,false,false] rfl rfl hT (by kernel_rfl) hE rfl (KA rfl) (fun w=>KD hE rfl NA) (fun a hE=>?_)
       exact hj _ _ _ (hE.cut (.cons rfl (.cons rfl (.cons rfl (.cons rfl (.cons rfl (.cons rfl (.cons rfl (.cons rfl (.cons rfl (.cons rfl (.cons rfl (.cons rfl (.cons rfl (.cons rfl (.cons rfl (.cons rfl (.cons rfl (.cons rfl (.cons rfl (.cons rfl (.cons rfl (.cons rfl (.cons rfl (.cons rfl Subs.nil))))))))))))))))))))))))) hR H
     ·replace H:=H.2.2
      obtain⟨Xx73,qXx73,H⟩:=H
      refine KDc (S:=fun w:World=>(fun h:Heap=>(KM h ((Xx60).add 1)=some (.int .i64 Xx62))) w.heap) (i:=6) (v:=.int .i64 Xx73) #[true,false,true,false,false,true,true,true,true,false,false,false,false,false] rfl rfl (by kernel_rfl) hE hR rfl (KA rfl) (KS hE rfl sc3 qXx73) ⟨rfl,rfl,rfl,Nat.le_refl _⟩ (fun w' e=>by rw [e];exact hs) (fun a w hE hR hh hs=>?_)
      replace H:=M.at hh H;clear hh
      refine KG (i:=9) (v:=.int .i64 (IntKind.wrap .i64 (Xx73+Xx62))) #[true,false,true,false,false,true,true,true,true,true,false,false,false,false] rfl rfl hT (by kernel_rfl) hE rfl (KA rfl) (fun w=>Kk hE rfl rfl Ki Vp) (fun a hE=>?_)
      refine zu [1,3] hT (by kernel_rfl) rfl (fun i hi=>?_)
      simp only [List.mem_cons,List.not_mem_nil,or_false]at hi
      rcases hi with rfl|rfl
      ·replace H:=H.1
       obtain⟨Xx74,qXx74,H⟩:=H
       refine KDc (S:=fun w:World=>(fun h:Heap=>(KM h ((Xx60).add 1)=some (.int .i64 Xx62))) w.heap) (i:=1) (v:=.int .i64 Xx74) #[true,true,true,false,false,true,true,true,true,true,false,false,false,false] rfl rfl (by kernel_rfl) hE hR rfl (KA rfl) (KS hE rfl sc3 qXx74) ⟨rfl,rfl,rfl,Nat.le_refl _⟩ (fun w' e=>by rw [e];exact hs) (fun a w hE hR hh hs=>?_)
       replace H:=M.at hh H;clear hh
       obtain⟨Xx75,qXx75,H⟩:=H
       refine KG7 (i:=3) (v:=.int .i64 Xx75) #[true,true,true,true,false,true,true,true,true,true,false,false,false,false] rfl rfl hT (by kernel_rfl) rfl hE hR rfl (KA rfl) (KS hE rfl sc3 qXx75) ⟨rfl,rfl,rfl,Nat.le_refl _⟩ (fun w' e=>by rw [e];exact hs) (fun a w hE hR hh hs=>?_)
       replace H:=M.at hh H;clear hh
       refine KG (i:=4) (v:=.int .i64 (IntKind.wrap .i64 (Xx74+Xx75))) #[true,true,true,true,true,true,true,true,true,true,false,false,false,false] rfl rfl hT (by kernel_rfl) hE rfl (KA rfl) (fun w=>Kk hE rfl rfl Ki Vp) (fun a hE=>?_)
       refine KG (i:=10) (v:=.pointer (some ((Xx33).add 0))) #[true,true,true,true,true,true,true,true,true,true,true,false,false,false] rfl rfl hT (by kernel_rfl) hE rfl (KA rfl) (fun w=>KD hE rfl NA) (fun a hE=>?_)
       exact hj _ _ _ (hE.cut (.cons rfl (.cons rfl (.cons rfl (.cons rfl (.cons rfl (.cons rfl (.cons rfl (.cons rfl (.cons rfl (.cons rfl (.cons rfl (.cons rfl (.cons rfl (.cons rfl (.cons rfl (.cons rfl (.cons rfl (.cons rfl (.cons rfl (.cons rfl (.cons rfl (.cons rfl (.cons rfl (.cons rfl Subs.nil))))))))))))))))))))))))) hR H
      ·replace H:=H.2
       obtain⟨Xx76,qXx76,H⟩:=H
       refine KDc (S:=fun w:World=>(fun h:Heap=>(KM h ((Xx60).add 1)=some (.int .i64 Xx62))) w.heap) (i:=3) (v:=.int .i64 Xx76) #[true,false,true,true,false,true,true,true,true,true,false,false,false,false] rfl rfl (by kernel_rfl) hE hR rfl (KA rfl) (KS hE rfl sc3 qXx76) ⟨rfl,rfl,rfl,Nat.le_refl _⟩ (fun w' e=>by rw [e];exact hs) (fun a w hE hR hh hs=>?_)
       replace H:=M.at hh H;clear hh
       obtain⟨Xx77,qXx77,H⟩:=H
       refine KG7 (i:=1) (v:=.int .i64 Xx77) #[true,true,true,true,false,true,true,true,true,true,false,false,false,false] rfl rfl hT (by kernel_rfl) rfl hE hR rfl (KA rfl) (KS hE rfl sc3 qXx77) ⟨rfl,rfl,rfl,Nat.le_refl _⟩ (fun w' e=>by rw [e];exact hs) (fun a w hE hR hh hs=>?_)
       replace H:=M.at hh H;clear hh
       refine KG (i:=4) (v:=.int .i64 (IntKind.wrap .i64 (Xx77+Xx76))) #[true,true,true,true,true,true,true,true,true,true,false,false,false,false] rfl rfl hT (by kernel_rfl) hE rfl (KA rfl) (fun w=>Kk hE rfl rfl Ki Vp) (fun a hE=>?_)
       refine KG (i:=10) (v:=.pointer (some ((Xx33).add 0))) #[true,true,true,true,true,true,true,true,true,true,true,false,false,false] rfl rfl hT (by kernel_rfl) hE rfl (KA rfl) (fun w=>KD hE rfl NA) (fun a hE=>?_)
       exact hj _ _ _ (hE.cut (.cons rfl (.cons rfl (.cons rfl (.cons rfl (.cons rfl (.cons rfl (.cons rfl (.cons rfl (.cons rfl (.cons rfl (.cons rfl (.cons rfl (.cons rfl (.cons rfl (.cons rfl (.cons rfl (.cons rfl (.cons rfl (.cons rfl (.cons rfl (.cons rfl (.cons rfl (.cons rfl (.cons rfl Subs.nil))))))))))))))))))))))))) hR H
   ·replace H:=M.ite_f hb H
    refine qh ?_
    refine Xu.same ?_
    refine hK_35 _ _ ?_
    refine KR (fun K hK_81=>?_)
    refine KC ?_
    obtain⟨Xx82,qXx82,H⟩:=H
    refine KB (v:=.pointer Xx82) rfl rfl hE rfl (KS hE rfl sc98 qXx82) (fun a hE=>?_)
    obtain⟨Xx83,qXx83,H⟩:=H
    refine KB (v:=.agg Xx83) rfl rfl hE rfl (Ui hE rfl KHI qXx83) (fun a hE=>?_)
    refine KB (v:=(Value.func (.func UT) #[] #[.pointer (some Xx30),.pointer (some Xx13),.pointer (some Xx2),.pointer (some Xx3)])) rfl rfl hE rfl (GU hE rfl) (fun a hE=>?_)
    refine KZ hE hR XC rfl (Xm Xx82 Xx83 (Value.func (.func UT) #[] #[.pointer (some Xx30),.pointer (some Xx13),.pointer (some Xx2),.pointer (some Xx3)])) H (fun _ _ hR HQ=>hthr _ _ hR HQ) (fun Xx84 a w ea hR H=>?_)
    have hE:=Env.put_some hE rfl ea;clear ea
    refine KN ?_
    refine hK_81 _ _ ?_
    refine KR (fun K hK_85=>?_)
    refine KC ?_
    obtain⟨Xx86,qXx86,H⟩:=H
    refine KB (v:=.agg Xx86) rfl rfl hE rfl (Ui hE rfl ag94 qXx86) (fun a hE=>?_)
    obtain⟨qz,H⟩:=H
    obtain⟨u_87,qu_87,H⟩:=H
    refine JA rfl rfl hE hR (Kh hE rfl rfl sz94 qz qu_87) (fun a w hE hR hh=>?_)
    replace H:=M.at hh H;clear hh
    refine KN ?_
    refine hK_85 _ _ ?_
    refine Uv ?_
    obtain⟨Rr88,qRr88,H⟩:=H
    exact hret _ _ _ Rr88 _ hE hR (Kn hE rfl (RV.cellG rfl ag94 qRr88 RV.nil)) rfl H
  ·skip
   refine KR (fun K hK_89=>?_)
   refine KC ?_
   obtain⟨Xx90,qXx90,H⟩:=H
   refine KB (v:=.pointer Xx90) rfl rfl hE rfl (KS hE rfl sc98 qXx90) (fun a hE=>?_)
   obtain⟨Xx91,qXx91,H⟩:=H
   refine KB (v:=.pointer (some Xx91)) rfl rfl hE rfl (KO hE (Zu rfl (congrArg Value.pointer qXx91))) (fun a hE=>?_)
   refine KB (v:=.pointer (some ((Xx91).add 2))) rfl rfl hE rfl (KD hE rfl KHK) (fun a hE=>?_)
   obtain⟨Xx92,qXx92,H⟩:=H
   refine KB (v:=.int .i64 Xx92) rfl rfl hE rfl (KS hE rfl sc3 qXx92) (fun a hE=>?_)
   refine KB (v:=.int .i64 (IntKind.wrap .i64 (Xx92+1))) rfl rfl hE rfl (Kk hE rfl rfl Ki Vp) (fun a hE=>?_)
   obtain⟨Xx93,qXx93,H⟩:=H
   refine KB (v:=.pointer (some Xx93)) rfl rfl hE rfl (KO hE (Zu rfl (congrArg Value.pointer qXx93))) (fun a hE=>?_)
   refine KB (v:=.pointer (some ((Xx93).add 2))) rfl rfl hE rfl (KD hE rfl KHK) (fun a hE=>?_)
   obtain⟨u_94,qu_94,H⟩:=H
   refine JA rfl rfl hE hR (ZB hE rfl rfl sz3 qu_94) (fun a w hE hR hh=>?_)
   replace H:=M.at hh H;clear hh
   refine KN ?_
   refine hK_89 _ _ ?_
   refine KR (fun K hK_95=>?_)
   refine KC ?_
   obtain⟨Xx96,qXx96,H⟩:=H
   refine KB (v:=.pointer Xx96) rfl rfl hE rfl (KS hE rfl sc98 qXx96) (fun a hE=>?_)
   obtain⟨Xx97,qXx97,H⟩:=H
   refine KB (v:=.pointer (some Xx97)) rfl rfl hE rfl (KO hE (Zu rfl (congrArg Value.pointer qXx97))) (fun a hE=>?_)
   refine KB (v:=.pointer (some ((Xx97).add 2))) rfl rfl hE rfl (KD hE rfl KHK) (fun a hE=>?_)
   obtain⟨Xx98,qXx98,H⟩:=H
   refine KB (v:=.int .i64 Xx98) rfl rfl hE rfl (KS hE rfl sc3 qXx98) (fun a hE=>?_)
   refine KB (v:=.bool (decide (Xx98>256))) rfl rfl hE rfl (Kk hE rfl rfl Ki qv) (fun a hE=>?_)
   refine KN ?_
   refine hK_95 _ _ ?_
   refine ZA (decide (Xx98>256)) hE rfl (fun hb=>?_) (fun hb=>?_)
   ·replace H:=M.ite_t hb H
    refine KC ?_
    refine KB (v:=.int .i64 Xx7) rfl rfl hE rfl (KF hE rfl) (fun a hE=>?_)
    refine KZ hE hR JB rfl (Ji Xx7 3) H (fun _ _ hR HQ=>hthr _ _ hR HQ) (fun Xx99 a w ea hR H=>?_)
    have hE:=Env.put_some hE rfl ea;clear ea
    refine KN ?_
    exact⟨hE.cut (.cons rfl (.cons rfl (.cons rfl (.cons rfl Subs.nil)))),hR,H⟩
   ·replace H:=M.ite_f hb H
    refine Zq ?_
    exact⟨hE.cut (.cons rfl (.cons rfl (.cons rfl (.cons rfl Subs.nil)))),hR,H⟩
 ·skip
  refine KR (fun K hK_100=>?_)
  refine KC ?_
  refine KB (v:=.pointer (some ((Xx13).add 0))) rfl rfl hE rfl (KD hE rfl KNy) (fun a hE=>?_)
  obtain⟨Xx101,qXx101,H⟩:=H
  refine KB (v:=.int .i64 Xx101) rfl rfl hE rfl (KS hE rfl sc3 qXx101) (fun a hE=>?_)
  refine KB (v:=.bool (Xx101==0)) rfl rfl hE rfl (Kk hE rfl rfl Ki W9) (fun a hE=>?_)
  refine KN ?_
  refine hK_100 _ _ ?_
  refine ZA (Xx101==0) hE rfl (fun hb=>?_) (fun hb=>?_)
  ·replace H:=M.ite_t hb H
   refine KC ?_
   refine KB (v:=.int .i64 Xx7) rfl rfl hE rfl (KF hE rfl) (fun a hE=>?_)
   refine KZ hE hR JB rfl (Ji Xx7 160) H (fun _ _ hR HQ=>hthr _ _ hR HQ) (fun Xx102 a w ea hR H=>?_)
   have hE:=Env.put_some hE rfl ea;clear ea
   refine KN ?_
   exact⟨hE.cut (.cons rfl (.cons rfl (.cons rfl (.cons rfl (.cons rfl Subs.nil))))),hR,H⟩
  ·replace H:=M.ite_f hb H
   refine Zq ?_
   exact⟨hE.cut (.cons rfl (.cons rfl (.cons rfl (.cons rfl (.cons rfl Subs.nil))))),hR,H⟩
def Ju (Cc10:Option Addr) (Cc11:Int) (self1:(Sl)→M (Value⊕(Sl))):(Sl)→M (Value⊕(Sl)):=fun s=>match s with
 |Xx9=>do
  let Xx15←ZQ Cc10 4 (⟨#[46]⟩:ByteArray)
  M.ite Xx15 (do
   thr (Kc Cc10 (⟨#[46]⟩:ByteArray)) fun Xx17=>do
    thr (UK Cc10 Cc11) fun Xx18=>do
     let y_20←XI 6 1 (#[.int .i64 0,.slice none 0 0,.slice none 0 0,.slice none 0 0,.slice none 0 0,.slice none 0 0]:Array Value) [(0,.agg Xx18)]
     let Xx19←bdL Zm 1 y_20
     let Xx21←apL Zm 6 128 (#[.int .i64 0,.slice none 0 0,.slice none 0 0,.slice none 0 0,.slice none 0 0,.slice none 0 0]:Array Value) Xx9 Xx19
     self1 Xx21
   ) (do
   M.pure (.inr Xx9)
   )
def Z9 (Cc2:Option Addr) (Cc3:Int):M (Value⊕(Sl)):=do
 thr (UK Cc2 Cc3) fun Xx5=>do
  let y_7←XI 6 1 (#[.int .i64 0,.slice none 0 0,.slice none 0 0,.slice none 0 0,.slice none 0 0,.slice none 0 0]:Array Value) [(0,.agg Xx5)]
  let Xx6←bdL Zm 1 y_7
  M.loop (Ju Cc2 Cc3) Xx6
def Zo (x0:Option Addr) (x1:Int):M (Value⊕(Sl)):=do
 M.ite (decide (x1>8)) (do
  let Xx24←ZN x0
  thr (JH Xx24 3) fun Xx25=>do
   Z9 x0 x1
  ) (do
  Z9 x0 x1
  )
theorem Wi (x0:Option Addr) (x1:Int):J3 Go.Proofs.Tryz.prog 67 #[.pointer x0,.int .i64 x1] (fun(r:Sl)=>(r:Sl).v) (Zo x0 x1):=by
 refine Zj [(0,.pointer x0),(1,.int .i64 x1)] Go.Proofs.Tryz.func67 rfl rfl (Nat.le_of_ble_eq_true rfl) (Z8 ⟨rfl,rfl,trivial⟩) (fun w0 w Q R X a hret hthr hE hR H=>?_)
 unfold Zo at H
 refine KR (fun K hK_1=>?_)
 refine KC ?_
 refine KB (v:=(Sl.nil:Sl).v) rfl rfl hE rfl (KQ hE rfl) (fun a hE=>?_)
 refine KN ?_
 refine hK_1 _ _ ?_
 refine Kz (fun a w=>Env (⟨26,[]⟩:Frm) a [(0,.pointer x0),(1,.int .i64 x1)]∧Rest w0 w∧(Z9 x0 x1).wp w.heap Q) ?_ ?_
 ·rintro a w ⟨hE,hR,H⟩
  unfold Z9 at H
  refine KR (fun K hK_4=>?_)
  refine KC ?_
  refine KB (v:=.pointer x0) rfl rfl hE rfl (KF hE rfl) (fun a hE=>?_)
  refine KB (v:=.int .i64 x1) rfl rfl hE rfl (KF hE rfl) (fun a hE=>?_)
  refine KZ hE hR XD rfl (Xn x0 x1) H (fun _ _ hR HQ=>hthr _ _ hR HQ) (fun Xx5 a w ea hR H=>?_)
  have hE:=Env.put_some hE rfl ea;clear ea
  obtain⟨y_7,qy_7,H⟩:=H
  obtain⟨Xx6,qXx6,H⟩:=H
  refine JM (v:=(Xx6:Sl).v) rfl rfl hE rfl hR (J4 hE rfl un43 sz94 zr94 rfl qy_7 qXx6) (fun a w hE hR hh=>?_)
  replace H:=M.at hh H;clear hh
  refine KB (v:=(Xx6:Sl).v) rfl rfl hE rfl (KQ hE rfl) (fun a hE=>?_)
  refine KN ?_
  refine hK_4 _ _ ?_
  refine KR (fun K hK_8=>?_)
  refine J6 ?_
  refine zq (fun(s:Sl)=>(⟨26,[]⟩:Frm)) (fun(s:Sl)=>[(0,.pointer x0),(1,.int .i64 x1),(5,(s:Sl).v)]) H (hE.cut (.cons rfl (.cons rfl (.cons rfl Subs.nil)))) hR (fun Y self1 hY_12 Xx9 a w hE hR H=>?_)
  replace hE:Env (⟨26,[]⟩:Frm) a [(0,.pointer x0),(1,.int .i64 x1),(5,(Xx9:Sl).v)]:=hE
  replace H:(Ju x0 x1 self1 Xx9).wp w.heap Q:=H
  unfold Ju at H
  refine KR (fun K hK_13=>?_)
  refine KR (fun K hK_14=>?_)
  refine KC ?_
  refine KB (v:=.pointer x0) rfl rfl hE rfl (KF hE rfl) (fun a hE=>?_)
  refine Zd hE hR ZP rfl (Za x0 4 (⟨#[46]⟩:ByteArray)) (M.unbind H) (fun Xx15 a w ea hR H=>?_)
  have hE:=Env.put_some hE rfl ea;clear ea
  refine KN ?_
  refine hK_14 _ _ ?_
  refine ZA Xx15 hE rfl (fun hb=>?_) (fun hb=>?_)
  ·replace H:=M.ite_t hb H
   refine Zq ?_
   refine hK_13 _ _ ?_
   refine J6 ?_
   refine KR (fun K hK_16=>?_)
   refine KC ?_
   refine KB (v:=.pointer x0) rfl rfl hE rfl (KF hE rfl) (fun a hE=>?_)
   refine KZ hE hR Kg rfl (Kl x0 (⟨#[46]⟩:ByteArray)) H (fun _ _ hR HQ=>Xu.ne rfl (Xu.ne rfl (hthr _ _ hR HQ))) (fun Xx17 a w ea hR H=>?_)
   have hE:=Env.put_some hE rfl ea;clear ea
   refine KN ?_
   refine hK_16 _ _ ?_
   refine KC ?_
   refine KB (v:=(Xx9:Sl).v) rfl rfl hE rfl (KF hE rfl) (fun a hE=>?_)
   refine KB (v:=.pointer x0) rfl rfl hE rfl (KF hE rfl) (fun a hE=>?_)
   refine KB (v:=.int .i64 x1) rfl rfl hE rfl (KF hE rfl) (fun a hE=>?_)
   refine KZ hE hR XD rfl (Xn x0 x1) H (fun _ _ hR HQ=>Xu.ne rfl (Xu.ne rfl (hthr _ _ hR HQ))) (fun Xx18 a w ea hR H=>?_)
   have hE:=Env.put_some hE rfl ea;clear ea
   obtain⟨y_20,qy_20,H⟩:=H
   obtain⟨Xx19,qXx19,H⟩:=H
   refine JM (v:=(Xx19:Sl).v) rfl rfl hE rfl hR (J4 hE rfl un43 sz94 zr94 rfl qy_20 qXx19) (fun a w hE hR hh=>?_)
   replace H:=M.at hh H;clear hh
   refine t_ex (fun Xx21=>(Xx21:Sl).v) rfl rfl hR (M.unbind H) (fun Q H=>GA hE rfl rfl ap43 H) (fun Xx21 a w ea hR H=>?_)
   have hE:=Env.put_some hE rfl ea;clear ea
   refine KB (v:=(Xx21:Sl).v) rfl rfl hE rfl (KQ hE rfl) (fun a hE=>?_)
   refine KN ?_
   exact hY_12 Xx21 _ _ (hE.cut (.cons rfl (.cons rfl (.cons rfl Subs.nil)))) hR H
  ·replace H:=M.ite_f hb H
   refine qh ?_
   refine Xu.same ?_
   refine hK_8 _ _ ?_
   refine KR (fun K hK_22=>?_)
   refine KC ?_
   refine KB (v:=(Xx9:Sl).v) rfl rfl hE rfl (KF hE rfl) (fun a hE=>?_)
   refine KB (v:=(Xx9:Sl).v) rfl rfl hE rfl (KQ hE rfl) (fun a hE=>?_)
   refine KN ?_
   refine hK_22 _ _ ?_
   refine Uv ?_
   exact hret _ _ _ Xx9 _ hE hR (Kn hE rfl (RV.tmp rfl RV.nil)) rfl H
 ·skip
  refine KR (fun K hK_23=>?_)
  refine KC ?_
  refine KB (v:=.int .i64 x1) rfl rfl hE rfl (KF hE rfl) (fun a hE=>?_)
  refine KB (v:=.bool (decide (x1>8))) rfl rfl hE rfl (Kk hE rfl rfl Ki qv) (fun a hE=>?_)
  refine KN ?_
  refine hK_23 _ _ ?_
  refine ZA (decide (x1>8)) hE rfl (fun hb=>?_) (fun hb=>?_)
  ·replace H:=M.ite_t hb H
   refine KC ?_
   refine KB (v:=.pointer x0) rfl rfl hE rfl (KF hE rfl) (fun a hE=>?_)
   refine Zd hE hR ZX rfl (Zg x0) (M.unbind H) (fun Xx24 a w ea hR H=>?_)
   have hE:=Env.put_some hE rfl ea;clear ea
   refine KZ hE hR JB rfl (Ji Xx24 3) H (fun _ _ hR HQ=>hthr _ _ hR HQ) (fun Xx25 a w ea hR H=>?_)
   have hE:=Env.put_some hE rfl ea;clear ea
   refine KN ?_
   exact⟨hE.cut (.cons rfl (.cons rfl Subs.nil)),hR,H⟩
  ·replace H:=M.ite_f hb H
   refine Zq ?_
   exact⟨hE.cut (.cons rfl (.cons rfl Subs.nil)),hR,H⟩
def NC (x0:Option Addr) (x1:Addr):M (Value⊕(Unit)):=do
 thr (UJ x0 1 (⟨#[103]⟩:ByteArray)) fun Xx2=>do
  thr (Kc x0 (⟨#[46]⟩:ByteArray)) fun Xx4=>do
   thr (Zo x0 1) fun Xx5=>do
    stV x1 ((Xx5:Sl).v)
    M.pure (.inr ())
theorem KCq (x0:Option Addr) (x1:Addr):J3 Go.Proofs.Tryz.prog 64 #[.pointer x0,.pointer (some x1)] (fun(r:Unit)=>.tuple #[]) (NC x0 x1):=by
 refine Zj [(0,.pointer x0),(1,.pointer (some x1))] Go.Proofs.Tryz.func64 rfl rfl (Nat.le_of_ble_eq_true rfl) (Z8 ⟨rfl,rfl,trivial⟩) (fun w0 w Q R X a hret hthr hE hR H=>?_)
 unfold NC at H
 refine KR (fun K hK_1=>?_)
 refine KC ?_
 refine KB (v:=.pointer x0) rfl rfl hE rfl (KF hE rfl) (fun a hE=>?_)
 refine KZ hE hR XE rfl (Xk x0 1 (⟨#[103]⟩:ByteArray)) H (fun _ _ hR HQ=>hthr _ _ hR HQ) (fun Xx2 a w ea hR H=>?_)
 have hE:=Env.put_some hE rfl ea;clear ea
 refine KN ?_
 refine hK_1 _ _ ?_
 refine KR (fun K hK_3=>?_)
 refine KC ?_
 refine KB (v:=.pointer x0) rfl rfl hE rfl (KF hE rfl) (fun a hE=>?_)
 refine KZ hE hR Kg rfl (Kl x0 (⟨#[46]⟩:ByteArray)) H (fun _ _ hR HQ=>hthr _ _ hR HQ) (fun Xx4 a w ea hR H=>?_)
 have hE:=Env.put_some hE rfl ea;clear ea
 refine KN ?_
 refine hK_3 _ _ ?_
 refine KC ?_
 refine KB (v:=.pointer x0) rfl rfl hE rfl (KF hE rfl) (fun a hE=>?_)
 refine KZ hE hR WS rfl (Wi x0 1) H (fun _ _ hR HQ=>hthr _ _ hR HQ) (fun Xx5 a w ea hR H=>?_)
 have hE:=Env.put_some hE rfl ea;clear ea
 obtain⟨u_6,qu_6,H⟩:=H
 refine JA rfl rfl hE hR (ZB hE rfl rfl sz43 qu_6) (fun a w hE hR hh=>?_)
 replace H:=M.at hh H;clear hh
 refine KN ?_
 exact hret _ _ _ () _ hE hR (Kn hE rfl RV.nil) rfl H
def Wu (Cc6:Addr) (Cc7:Addr):M (Array Value):=do
 let Xx9←ldG 4 Cc7
 M.need (Xx9.size=4)
 stG Cc6 Xx9
 let Rr11←ldG 4 Cc6
 M.pure Rr11
def Xa (x0:Bool):M (Array Value):=do
 let Xx2←mkB KH (#[.int .i64 0,.int .i64 0,.string ByteArray.empty,.slice none 0 0]:Array Value)
 let Xx4←mkB KH (#[.int .i64 0,.int .i64 0,.string ByteArray.empty,.slice none 0 0]:Array Value)
 M.need ((#[.int .i64 3,.int .i64 0,.string ByteArray.empty,.slice none 0 0]:Array Value).size=4)
 stG Xx4 (#[.int .i64 3,.int .i64 0,.string ByteArray.empty,.slice none 0 0]:Array Value)
 M.ite x0 (do
  stV ((Xx4).add 1) (.int .i64 1)
  Wu Xx2 Xx4
  ) (do
  Wu Xx2 Xx4
  )
theorem Nr (x0:Bool):ZG Go.Proofs.Tryz.prog 152 #[.bool x0] (fun(r:Array Value)=>.agg r) (Xa x0):=
 KU [] [] [.G] [(0,.B x0)] (.q .o (.q .o (.q .o (.j [(2,.A),(3,.A)] (fun(t:Addr×Addr)=>Wu t.1 t.2) .o)))) Go.Proofs.Tryz.func152 rfl rfl ⟨rfl,trivial⟩ rfl (by kernel_rfl) (by kernel_rfl)
end Gx
namespace Gx
open Go
def JI (Cc19:Option Addr) (Cc20:Addr) (Xx18:Int):M (Value⊕(Array Value×Bool)):=do
 thr (ZD Cc19 1) fun Xx22=>do
  thr (Kc Cc19 (⟨#[91]⟩:ByteArray)) fun Xx24=>do
   thr (ZD Cc19 2) fun Xx26=>do
    let Xx27←fdI .i64 Xx26 2
    let Xx28←mkB KH (#[.int .i64 0,.int .i64 0,.string ByteArray.empty,.slice none 0 0]:Array Value)
    M.need ((#[.int .i64 Xx18,.int .i64 Xx27,.string ByteArray.empty,.slice none 0 0]:Array Value).size=4)
    stG Xx28 (#[.int .i64 Xx18,.int .i64 Xx27,.string ByteArray.empty,.slice none 0 0]:Array Value)
    thr (Kc Cc19 (⟨#[93]⟩:ByteArray)) fun Xx31=>do
     let Xx33←ldG 4 Xx28
     M.need (Xx33.size=4)
     stG Cc20 Xx33
     let Rr35←ldG 4 Cc20
     M.pure (.inr (Rr35,true))
def Ug (x0:Option Addr):M (Value⊕(Array Value×Bool)):=do
 let Xx2←mkB KH (#[.int .i64 0,.int .i64 0,.string ByteArray.empty,.slice none 0 0]:Array Value)
 let Xx5←nilP x0
 let Xx6←ldL ((Xx5).add 0)
 M.ite ((Xx6.len:Int)==0) (do
  M.need ((#[.int .i64 0,.int .i64 0,.string ByteArray.empty,.slice none 0 0]:Array Value).size=4)
  stG Xx2 (#[.int .i64 0,.int .i64 0,.string ByteArray.empty,.slice none 0 0]:Array Value)
  let Rr9←ldG 4 Xx2
  M.pure (.inr (Rr9,false))
  ) (do
  let Xx11←nilP x0
  let Xx12←ldL ((Xx11).add 0)
  let Xx13←ixL Xx12 0 4
  let Xx14←ldG 4 Xx13
  let Xx15←mkB KX (#[.int .i64 0,.string ByteArray.empty,.int .i64 0,.int .i64 0]:Array Value)
  M.need (Xx14.size=4)
  stG Xx15 Xx14
  let Xx37←ldI .i64 ((Xx15).add 0)
  M.ite (Xx37==2) (do
   let Xx39←ldI .i64 ((Xx15).add 0)
   thr (ZD x0 Xx39) fun Xx40=>do
    let Xx41←fdI .i64 Xx40 2
    let Xx42←KAS Xx41
    M.need (Xx42.size=4)
    stG Xx2 Xx42
    let Rr44←ldG 4 Xx2
    M.pure (.inr (Rr44,true))
   ) (do
   let Xx46←ldI .i64 ((Xx15).add 0)
   M.ite (Xx46==3) (do
    let Xx48←ldI .i64 ((Xx15).add 0)
    thr (ZD x0 Xx48) fun Xx49=>do
     let Xx50←fdS Xx49 1
     let Xx51←KAT Xx50
     M.need (Xx51.size=4)
     stG Xx2 Xx51
     let Rr53←ldG 4 Xx2
     M.pure (.inr (Rr53,true))
    ) (do
    let Xx55←ZQ x0 1 (⟨#[116,114,117,101]⟩:ByteArray)
    let Xx56←M.ite Xx55 (do
     M.pure true
     ) (do
     let Xx57←ZQ x0 1 (⟨#[102,97,108,115,101]⟩:ByteArray)
     M.pure Xx57
     )
    M.ite Xx56 (do
     let Xx59←ldI .i64 ((Xx15).add 0)
     thr (ZD x0 Xx59) fun Xx60=>do
      let Xx61←fdS Xx60 1
      let Xx62←Xa (sEq Xx61 (⟨#[116,114,117,101]⟩:ByteArray))
      M.need (Xx62.size=4)
      stG Xx2 Xx62
      let Rr64←ldG 4 Xx2
      M.pure (.inr (Rr64,true))
     ) (do
     let Xx66←ZQ x0 1 (⟨#[118]⟩:ByteArray)
     M.ite Xx66 (do
      JI x0 Xx2 6
      ) (do
      let Xx68←ZQ x0 1 (⟨#[101]⟩:ByteArray)
      M.ite Xx68 (do
       JI x0 Xx2 7
       ) (do
       M.need ((#[.int .i64 0,.int .i64 0,.string ByteArray.empty,.slice none 0 0]:Array Value).size=4)
       stG Xx2 (#[.int .i64 0,.int .i64 0,.string ByteArray.empty,.slice none 0 0]:Array Value)
       let Rr71←ldG 4 Xx2
       M.pure (.inr (Rr71,false))
       )
      )
     )
    )
   )
  )
theorem qa (x0:Option Addr):J3 Go.Proofs.Tryz.prog 114 #[.pointer x0] (fun(r:Array Value×Bool)=>.tuple #[.agg r.1,.bool r.2]) (Ug x0):=by
 refine Zj [(0,.pointer x0)] Go.Proofs.Tryz.func114 rfl rfl (Nat.le_of_ble_eq_true rfl) (Z8 ⟨rfl,trivial⟩) (fun w0 w Q R X a hret hthr hE hR H=>?_)
 unfold Ug at H
 refine KR (fun K hK_1=>?_)
 refine KC ?_
 obtain⟨Xx2,qXx2,H⟩:=H
 refine JM (v:=.pointer (some Xx2)) rfl rfl hE rfl hR (Z0 zr54 qXx2) (fun a w hE hR hh=>?_)
 replace H:=M.at hh H;clear hh
 refine KB (v:=.bool false) rfl rfl hE rfl (KQ hE rfl) (fun a hE=>?_)
 refine KN ?_
 refine hK_1 _ _ ?_
 refine KR (fun K hK_3=>?_)
 refine KR (fun K hK_4=>?_)
 refine KC ?_
 refine KB (v:=.pointer x0) rfl rfl hE rfl (KF hE rfl) (fun a hE=>?_)
 obtain⟨Xx5,qXx5,H⟩:=H
 refine KB (v:=.pointer (some Xx5)) rfl rfl hE rfl (KO hE (Zu rfl (congrArg Value.pointer qXx5))) (fun a hE=>?_)
 refine KB (v:=.pointer (some ((Xx5).add 0))) rfl rfl hE rfl (KD hE rfl YO) (fun a hE=>?_)
 obtain⟨Xx6,qXx6,H⟩:=H
 refine KB (v:=(Xx6:Sl).v) rfl rfl hE rfl (KS hE rfl sc22 qXx6) (fun a hE=>?_)
 refine KB (v:=.int .i64 (Xx6.len:Int)) rfl rfl hE rfl (KAy hE rfl 29 un22) (fun a hE=>?_)
 refine KB (v:=.bool ((Xx6.len:Int)==0)) rfl rfl hE rfl (Kk hE rfl rfl Ki W9) (fun a hE=>?_)
 refine KN ?_
 refine hK_4 _ _ ?_
 refine ZA ((Xx6.len:Int)==0) hE rfl (fun hb=>?_) (fun hb=>?_)
 ·replace H:=M.ite_t hb H
  refine KR (fun K hK_7=>?_)
  refine KC ?_
  refine KB (v:=.agg (#[.int .i64 0,.int .i64 0,.string ByteArray.empty,.slice none 0 0]:Array Value)) rfl rfl hE rfl (Gr bd54) (fun a hE=>?_)
  obtain⟨qz,H⟩:=H
  obtain⟨u_8,qu_8,H⟩:=H
  refine JA rfl rfl hE hR (Kh hE rfl rfl sz54 qz qu_8) (fun a w hE hR hh=>?_)
  replace H:=M.at hh H;clear hh
  refine KB (v:=.bool false) rfl rfl hE rfl (KQ hE rfl) (fun a hE=>?_)
  refine KN ?_
  refine hK_7 _ _ ?_
  refine Uv ?_
  obtain⟨Rr9,qRr9,H⟩:=H
  exact hret _ _ _ (Rr9,false) _ hE hR (Kn hE rfl (RV.cellG rfl ag54 qRr9 (RV.tmp rfl RV.nil))) rfl H
 ·replace H:=M.ite_f hb H
  refine Zq ?_
  refine hK_3 _ _ ?_
  refine KR (fun K hK_10=>?_)
  refine KC ?_
  refine KB (v:=.pointer x0) rfl rfl hE rfl (KF hE rfl) (fun a hE=>?_)
  obtain⟨Xx11,qXx11,H⟩:=H
  refine KB (v:=.pointer (some Xx11)) rfl rfl hE rfl (KO hE (Zu rfl (congrArg Value.pointer qXx11))) (fun a hE=>?_)
  refine KB (v:=.pointer (some ((Xx11).add 0))) rfl rfl hE rfl (KD hE rfl YO) (fun a hE=>?_)
  obtain⟨Xx12,qXx12,H⟩:=H
  refine KB (v:=(Xx12:Sl).v) rfl rfl hE rfl (KS hE rfl sc22 qXx12) (fun a hE=>?_)
  obtain⟨Xx13,qXx13,H⟩:=H
  refine KB (v:=.pointer (some Xx13)) rfl rfl hE rfl (Ua hE rfl rfl un22 sz29 qXx13) (fun a hE=>?_)
  obtain⟨Xx14,qXx14,H⟩:=H
  refine KB (v:=.agg Xx14) rfl rfl hE rfl (Ui hE rfl ag29 qXx14) (fun a hE=>?_)
  obtain⟨Xx15,qXx15,H⟩:=H
  refine JM (v:=.pointer (some Xx15)) rfl rfl hE rfl hR (Z0 zr29 qXx15) (fun a w hE hR hh=>?_)
  replace H:=M.at hh H;clear hh
  obtain⟨qz,H⟩:=H
  obtain⟨u_16,qu_16,H⟩:=H
  refine JA rfl rfl hE hR (Kh hE rfl rfl sz29 qz qu_16) (fun a w hE hR hh=>?_)
  replace H:=M.at hh H;clear hh
  refine KN ?_
  refine hK_10 _ _ ?_
  refine KR (fun K hK_17=>?_)
  refine KC ?_
  refine KB (v:=.int .i64 0) rfl rfl hE rfl (KQ hE rfl) (fun a hE=>?_)
  refine KN ?_
  refine hK_17 _ _ ?_
  refine Kz (fun a w=>∃(Xx18:Int),Env (⟨73,[]⟩:Frm) a [(0,.pointer x0),(2,.pointer (some Xx2)),(5,.int .i64 Xx18)]∧Rest w0 w∧(JI x0 Xx2 Xx18).wp w.heap Q) ?_ ?_
  ·rintro a w ⟨Xx18,hE,hR,H⟩
   unfold JI at H
   refine KR (fun K hK_21=>?_)
   refine KC ?_
   refine KB (v:=.pointer x0) rfl rfl hE rfl (KF hE rfl) (fun a hE=>?_)
   refine KZ hE hR ZY rfl (Zh x0 1) H (fun _ _ hR HQ=>hthr _ _ hR HQ) (fun Xx22 a w ea hR H=>?_)
   have hE:=Env.put_some hE rfl ea;clear ea
   refine KN ?_
   refine hK_21 _ _ ?_
   refine KR (fun K hK_23=>?_)
   refine KC ?_
   refine KB (v:=.pointer x0) rfl rfl hE rfl (KF hE rfl) (fun a hE=>?_)
   refine KZ hE hR Kg rfl (Kl x0 (⟨#[91]⟩:ByteArray)) H (fun _ _ hR HQ=>hthr _ _ hR HQ) (fun Xx24 a w ea hR H=>?_)
   have hE:=Env.put_some hE rfl ea;clear ea
   refine KN ?_
   refine hK_23 _ _ ?_
   refine KR (fun K hK_25=>?_)
   refine KC ?_
   refine KB (v:=.int .i64 Xx18) rfl rfl hE rfl (KF hE rfl) (fun a hE=>?_)
   refine KB (v:=.pointer x0) rfl rfl hE rfl (KF hE rfl) (fun a hE=>?_)
   refine KZ hE hR ZY rfl (Zh x0 2) H (fun _ _ hR HQ=>hthr _ _ hR HQ) (fun Xx26 a w ea hR H=>?_)
   have hE:=Env.put_some hE rfl ea;clear ea
   obtain⟨Xx27,qXx27,H⟩:=H
   refine KB (v:=.int .i64 Xx27) rfl rfl hE rfl (Ng hE rfl KKh sc2 qXx27) (fun a hE=>?_)
   refine KB (v:=.agg (#[.int .i64 Xx18,.int .i64 Xx27,.string ByteArray.empty,.slice none 0 0]:Array Value)) rfl rfl hE rfl (Vs hE rfl zr54 pl54 (by rfl)) (fun a hE=>?_)
   obtain⟨Xx28,qXx28,H⟩:=H
   refine JM (v:=.pointer (some Xx28)) rfl rfl hE rfl hR (Z0 zr54 qXx28) (fun a w hE hR hh=>?_)
   replace H:=M.at hh H;clear hh
   obtain⟨qz,H⟩:=H
   obtain⟨u_29,qu_29,H⟩:=H
   refine JA rfl rfl hE hR (Kh hE rfl rfl sz54 qz qu_29) (fun a w hE hR hh=>?_)
   replace H:=M.at hh H;clear hh
   refine KN ?_
   refine hK_25 _ _ ?_
   refine KR (fun K hK_30=>?_)
   refine KC ?_
   refine KB (v:=.pointer x0) rfl rfl hE rfl (KF hE rfl) (fun a hE=>?_)
   refine KZ hE hR Kg rfl (Kl x0 (⟨#[93]⟩:ByteArray)) H (fun _ _ hR HQ=>hthr _ _ hR HQ) (fun Xx31 a w ea hR H=>?_)
   have hE:=Env.put_some hE rfl ea;clear ea
   refine KN ?_
   refine hK_30 _ _ ?_
   refine KR (fun K hK_32=>?_)
   refine KC ?_
   obtain⟨Xx33,qXx33,H⟩:=H
   refine KB (v:=.agg Xx33) rfl rfl hE rfl (Ui hE rfl ag54 qXx33) (fun a hE=>?_)
   obtain⟨qz,H⟩:=H
   obtain⟨u_34,qu_34,H⟩:=H
   refine JA rfl rfl hE hR (Kh hE rfl rfl sz54 qz qu_34) (fun a w hE hR hh=>?_)
   replace H:=M.at hh H;clear hh
   refine KB (v:=.bool true) rfl rfl hE rfl (KQ hE rfl) (fun a hE=>?_)
   refine KN ?_
   refine hK_32 _ _ ?_
   refine Uv ?_
   obtain⟨Rr35,qRr35,H⟩:=H
   exact hret _ _ _ (Rr35,true) _ hE hR (Kn hE rfl (RV.cellG rfl ag54 qRr35 (RV.tmp rfl RV.nil))) rfl H
  ·skip
   refine J6 ?_
   refine KR (fun K hK_36=>?_)
   refine KC ?_
   refine KB (v:=.pointer (some ((Xx15).add 0))) rfl rfl hE rfl (KD hE rfl KCh) (fun a hE=>?_)
   obtain⟨Xx37,qXx37,H⟩:=H
   refine KB (v:=.int .i64 Xx37) rfl rfl hE rfl (KS hE rfl sc3 qXx37) (fun a hE=>?_)
   refine KB (v:=.bool (Xx37==2)) rfl rfl hE rfl (Kk hE rfl rfl Ki W9) (fun a hE=>?_)
   refine KB (v:=.bool (Xx37==2)) rfl rfl hE rfl (KQ hE rfl) (fun a hE=>?_)
   refine KN ?_
   refine hK_36 _ _ ?_
   refine ZA (Xx37==2) hE rfl (fun hb=>?_) (fun hb=>?_)
   ·replace H:=M.ite_t hb H
    refine KR (fun K hK_38=>?_)
    refine KC ?_
    refine KB (v:=.pointer x0) rfl rfl hE rfl (KF hE rfl) (fun a hE=>?_)
    refine KB (v:=.pointer (some ((Xx15).add 0))) rfl rfl hE rfl (KD hE rfl KCh) (fun a hE=>?_)
    obtain⟨Xx39,qXx39,H⟩:=H
    refine KB (v:=.int .i64 Xx39) rfl rfl hE rfl (KS hE rfl sc3 qXx39) (fun a hE=>?_)
    refine KZ hE hR ZY rfl (Zh x0 Xx39) H (fun _ _ hR HQ=>Xu.ne rfl (hthr _ _ hR HQ)) (fun Xx40 a w ea hR H=>?_)
    have hE:=Env.put_some hE rfl ea;clear ea
    obtain⟨Xx41,qXx41,H⟩:=H
    refine KB (v:=.int .i64 Xx41) rfl rfl hE rfl (Ng hE rfl KKh sc2 qXx41) (fun a hE=>?_)
    refine Zd hE hR KBd rfl (KCk Xx41) (M.unbind H) (fun Xx42 a w ea hR H=>?_)
    have hE:=Env.put_some hE rfl ea;clear ea
    obtain⟨qz,H⟩:=H
    obtain⟨u_43,qu_43,H⟩:=H
    refine JA rfl rfl hE hR (Kh hE rfl rfl sz54 qz qu_43) (fun a w hE hR hh=>?_)
    replace H:=M.at hh H;clear hh
    refine KB (v:=.bool true) rfl rfl hE rfl (KQ hE rfl) (fun a hE=>?_)
    refine KN ?_
    refine hK_38 _ _ ?_
    refine Uv ?_
    obtain⟨Rr44,qRr44,H⟩:=H
    exact hret _ _ _ (Rr44,true) _ hE hR (Kn hE rfl (RV.cellG rfl ag54 qRr44 (RV.tmp rfl RV.nil))) rfl H
   ·replace H:=M.ite_f hb H
    refine KR (fun K hK_45=>?_)
    refine KC ?_
    refine KB (v:=.pointer (some ((Xx15).add 0))) rfl rfl hE rfl (KD hE rfl KCh) (fun a hE=>?_)
    obtain⟨Xx46,qXx46,H⟩:=H
    refine KB (v:=.int .i64 Xx46) rfl rfl hE rfl (KS hE rfl sc3 qXx46) (fun a hE=>?_)
    refine KB (v:=.bool (Xx46==3)) rfl rfl hE rfl (Kk hE rfl rfl Ki W9) (fun a hE=>?_)
    refine KB (v:=.bool (Xx46==3)) rfl rfl hE rfl (KQ hE rfl) (fun a hE=>?_)
    refine KN ?_
    refine hK_45 _ _ ?_
    refine ZA (Xx46==3) hE rfl (fun hb=>?_) (fun hb=>?_)
    ·replace H:=M.ite_t hb H
     refine KR (fun K hK_47=>?_)
     refine KC ?_
     refine KB (v:=.pointer x0) rfl rfl hE rfl (KF hE rfl) (fun a hE=>?_)
     refine KB (v:=.pointer (some ((Xx15).add 0))) rfl rfl hE rfl (KD hE rfl KCh) (fun a hE=>?_)
     obtain⟨Xx48,qXx48,H⟩:=H
     refine KB (v:=.int .i64 Xx48) rfl rfl hE rfl (KS hE rfl sc3 qXx48) (fun a hE=>?_)
     refine KZ hE hR ZY rfl (Zh x0 Xx48) H (fun _ _ hR HQ=>Xu.ne rfl (hthr _ _ hR HQ)) (fun Xx49 a w ea hR H=>?_)
     have hE:=Env.put_some hE rfl ea;clear ea
     obtain⟨Xx50,qXx50,H⟩:=H
     refine KB (v:=.string Xx50) rfl rfl hE rfl (Ng hE rfl KIG sc9 qXx50) (fun a hE=>?_)
     refine Zd hE hR KBe rfl (KCl Xx50) (M.unbind H) (fun Xx51 a w ea hR H=>?_)
     have hE:=Env.put_some hE rfl ea;clear ea
     obtain⟨qz,H⟩:=H
     obtain⟨u_52,qu_52,H⟩:=H
     refine JA rfl rfl hE hR (Kh hE rfl rfl sz54 qz qu_52) (fun a w hE hR hh=>?_)
     replace H:=M.at hh H;clear hh
     refine KB (v:=.bool true) rfl rfl hE rfl (KQ hE rfl) (fun a hE=>?_)
     refine KN ?_
     refine hK_47 _ _ ?_
     refine Uv ?_
     obtain⟨Rr53,qRr53,H⟩:=H
     exact hret _ _ _ (Rr53,true) _ hE hR (Kn hE rfl (RV.cellG rfl ag54 qRr53 (RV.tmp rfl RV.nil))) rfl H
    ·replace H:=M.ite_f hb H
     refine KR (fun K hK_54=>?_)
     refine KC ?_
     refine KB (v:=.pointer x0) rfl rfl hE rfl (KF hE rfl) (fun a hE=>?_)
     refine Zd hE hR ZP rfl (Za x0 1 (⟨#[116,114,117,101]⟩:ByteArray)) (M.unbind H) (fun Xx55 a w ea hR H=>?_)
     have hE:=Env.put_some hE rfl ea;clear ea
     refine KB (v:=.bool Xx55) rfl rfl hE rfl (KF hE rfl) (fun a hE=>?_)
     refine KAz (n:=(⟨73,[]⟩:Frm)) (w0:=w0) 3 (fun Xx56:Bool=>[(0,.pointer x0),(2,.pointer (some Xx2)),(4,.pointer (some Xx15)),(47,.bool Xx56)]) (M.unbind H) (fun Kr hKr H=>?_) ?_
     ·rcases Uj Xx55 with hb|hb
      ·replace H:=M.ite_t hb H
       have hE:=hE.reb 44 Xx55 true hb rfl
       refine Uw rfl hE rfl rfl rfl (fun a ea=>?_)
       have hE:=Env.put_some hE rfl ea;clear ea
       refine Uw rfl hE rfl rfl rfl (fun a ea=>?_)
       have hE:=Env.put_some hE rfl ea;clear ea
       refine KB rfl rfl hE rfl (Jj hE rfl rfl) (fun a hE=>?_)
       refine KN ?_
       exact hKr _ _ _ (hE.cut (.cons rfl (.cons rfl (.cons rfl (.cons rfl Subs.nil))))) hR H
      ·replace H:=M.ite_f hb H
       have hE:=hE.reb 44 Xx55 false hb rfl
       refine t_on rfl hE rfl rfl rfl ?_
       refine KB (v:=.pointer x0) rfl rfl hE rfl (KF hE rfl) (fun a hE=>?_)
       refine t_on rfl hE rfl rfl rfl ?_
       refine Zd hE hR ZP rfl (Za x0 1 (⟨#[102,97,108,115,101]⟩:ByteArray)) (M.unbind H) (fun Xx57 a w ea hR H=>?_)
       have hE:=Env.put_some hE rfl ea;clear ea
       refine KB rfl rfl hE rfl (Z3 hE rfl rfl) (fun a hE=>?_)
       refine KN ?_
       exact hKr _ _ _ (hE.cut (.cons rfl (.cons rfl (.cons rfl (.cons rfl Subs.nil))))) hR H
     ·intro Xx56 a w hE hR H
      refine KB (v:=.bool Xx56) rfl rfl hE rfl (KQ hE rfl) (fun a hE=>?_)
      refine KN ?_
      refine hK_54 _ _ ?_
      refine ZA Xx56 hE rfl (fun hb=>?_) (fun hb=>?_)
      ·replace H:=M.ite_t hb H
       refine KR (fun K hK_58=>?_)
       refine KC ?_
       refine KB (v:=.pointer x0) rfl rfl hE rfl (KF hE rfl) (fun a hE=>?_)
       refine KB (v:=.pointer (some ((Xx15).add 0))) rfl rfl hE rfl (KD hE rfl KCh) (fun a hE=>?_)
       obtain⟨Xx59,qXx59,H⟩:=H
       refine KB (v:=.int .i64 Xx59) rfl rfl hE rfl (KS hE rfl sc3 qXx59) (fun a hE=>?_)
       refine KZ hE hR ZY rfl (Zh x0 Xx59) H (fun _ _ hR HQ=>Xu.ne rfl (hthr _ _ hR HQ)) (fun Xx60 a w ea hR H=>?_)
       have hE:=Env.put_some hE rfl ea;clear ea
       obtain⟨Xx61,qXx61,H⟩:=H
       refine KB (v:=.string Xx61) rfl rfl hE rfl (Ng hE rfl KIG sc9 qXx61) (fun a hE=>?_)
       refine KB (v:=.bool (sEq Xx61 (⟨#[116,114,117,101]⟩:ByteArray))) rfl rfl hE rfl (Kk hE rfl rfl KFo KNo) (fun a hE=>?_)
       refine Zd hE hR G8 rfl (Nr (sEq Xx61 (⟨#[116,114,117,101]⟩:ByteArray))) (M.unbind H) (fun Xx62 a w ea hR H=>?_)
       have hE:=Env.put_some hE rfl ea;clear ea
       obtain⟨qz,H⟩:=H
       obtain⟨u_63,qu_63,H⟩:=H
       refine JA rfl rfl hE hR (Kh hE rfl rfl sz54 qz qu_63) (fun a w hE hR hh=>?_)
       replace H:=M.at hh H;clear hh
       refine KB (v:=.bool true) rfl rfl hE rfl (KQ hE rfl) (fun a hE=>?_)
       refine KN ?_
       refine hK_58 _ _ ?_
       refine Uv ?_
       obtain⟨Rr64,qRr64,H⟩:=H
       exact hret _ _ _ (Rr64,true) _ hE hR (Kn hE rfl (RV.cellG rfl ag54 qRr64 (RV.tmp rfl RV.nil))) rfl H
      ·replace H:=M.ite_f hb H
       refine KR (fun K hK_65=>?_)
       refine KC ?_
       refine KB (v:=.pointer x0) rfl rfl hE rfl (KF hE rfl) (fun a hE=>?_)
       refine Zd hE hR ZP rfl (Za x0 1 (⟨#[118]⟩:ByteArray)) (M.unbind H) (fun Xx66 a w ea hR H=>?_)
       have hE:=Env.put_some hE rfl ea;clear ea
       refine KB (v:=.bool Xx66) rfl rfl hE rfl (KQ hE rfl) (fun a hE=>?_)
       refine KN ?_
       refine hK_65 _ _ ?_
       refine ZA Xx66 hE rfl (fun hb=>?_) (fun hb=>?_)
       ·replace H:=M.ite_t hb H
        refine KC ?_
        refine KB (v:=.int .i64 6) rfl rfl hE rfl (KQ hE rfl) (fun a hE=>?_)
        refine KN ?_
        exact⟨6,hE.cut (.cons rfl (.cons rfl (.cons rfl Subs.nil))),hR,H⟩
       ·replace H:=M.ite_f hb H
        refine KR (fun K hK_67=>?_)
        refine KC ?_
        refine KB (v:=.pointer x0) rfl rfl hE rfl (KF hE rfl) (fun a hE=>?_)
        refine Zd hE hR ZP rfl (Za x0 1 (⟨#[101]⟩:ByteArray)) (M.unbind H) (fun Xx68 a w ea hR H=>?_)
        have hE:=Env.put_some hE rfl ea;clear ea
        refine KB (v:=.bool Xx68) rfl rfl hE rfl (KQ hE rfl) (fun a hE=>?_)
        refine KN ?_
        refine hK_67 _ _ ?_
        refine ZA Xx68 hE rfl (fun hb=>?_) (fun hb=>?_)
        ·replace H:=M.ite_t hb H
         refine KC ?_
         refine KB (v:=.int .i64 7) rfl rfl hE rfl (KQ hE rfl) (fun a hE=>?_)
         refine KN ?_
         exact⟨7,hE.cut (.cons rfl (.cons rfl (.cons rfl Subs.nil))),hR,H⟩
        ·replace H:=M.ite_f hb H
         refine KR (fun K hK_69=>?_)
         refine KC ?_
         refine KB (v:=.agg (#[.int .i64 0,.int .i64 0,.string ByteArray.empty,.slice none 0 0]:Array Value)) rfl rfl hE rfl (Gr bd54) (fun a hE=>?_)
         obtain⟨qz,H⟩:=H
         obtain⟨u_70,qu_70,H⟩:=H
         refine JA rfl rfl hE hR (Kh hE rfl rfl sz54 qz qu_70) (fun a w hE hR hh=>?_)
         replace H:=M.at hh H;clear hh
         refine KB (v:=.bool false) rfl rfl hE rfl (KQ hE rfl) (fun a hE=>?_)
         refine KN ?_
         refine hK_69 _ _ ?_
         refine Uv ?_
         obtain⟨Rr71,qRr71,H⟩:=H
         exact hret _ _ _ (Rr71,false) _ hE hR (Kn hE rfl (RV.cellG rfl ag54 qRr71 (RV.tmp rfl RV.nil))) rfl H
def ND (Cc6:Int) (Cc7:Sl) (Cc8:Int) (self1:(Int)→M (Int)):(Int)→M (Int):=fun s=>match s with
 |Xx5=>do
  M.ite (decide (Xx5<Cc8)) (do
   let Xx14←ixL Cc7 Xx5 1
   let Xx15←ldI .i64 Xx14
   M.ite (Xx15 !=Cc6) (do
    M.pure Xx15
    ) (do
    self1 (IntKind.wrap .i64 (Xx5+1))
    )
   ) (do
   M.pure Cc6
   )
def Gd (x0:Sl):M (Int):=do
 M.loop (ND 0 x0 (x0.len:Int)) 0
theorem KGF (x0:Sl):ZG Go.Proofs.Tryz.prog 171 #[(x0:Sl).v] (fun(r:Int)=>.int .i64 r) (Gd x0):=
 KU [] [] [.I .i64] [(0,.L x0)] (.q .o (.q .o (.q (.q .o (.b (.l [(3,.I .i64),(6,.L),(7,.I .i64)] [(8,.I .i64)] (fun(t:Int×Sl×Int)=>ND t.1 t.2.1 t.2.2) (fun _=>.o)))) .o))) Go.Proofs.Tryz.func171 rfl rfl ⟨rfl,trivial⟩ rfl (by kernel_rfl) (by kernel_rfl)
noncomputable def KGG:CalleeS Go.Proofs.Tryz.prog:=mkC KEi KEr [.L] [.I .i64] (fun(t:Sl)=>Gd t) (fun(t:Sl)=>KGF t)
def Wv (x0:Int):M (Bool):=do
 M.pure (x0 !=x0)
theorem KCr (x0:Int):ZG Go.Proofs.Tryz.prog 209 #[.int .i64 x0] (fun(r:Bool)=>.bool r) (Wv x0):=
 KU [] [] [.B] [(0,.I .i64 x0)] .o Go.Proofs.Tryz.func209 rfl rfl ⟨rfl,trivial⟩ rfl (by kernel_rfl) (by kernel_rfl)
noncomputable def KCs:CalleeS Go.Proofs.Tryz.prog:=mkC KBn KBt [.I .i64] [.B] (fun(t:Int)=>Wv t) (fun(t:Int)=>KCr t)
def V1 (x0:Int) (x1:Int):M (Int):=do
 let Xx3←Wv x0
 let Xx5←Wv x1
 M.ite Xx3 (do
  M.ite Xx5 (do
   M.pure 0
   ) (do
   M.pure (-1)
   )
  ) (do
  M.ite Xx5 (do
   M.pure 1
   ) (do
   M.ite (decide (x0<x1)) (do
    M.pure (-1)
    ) (do
    M.ite (decide (x0>x1)) (do
     M.pure 1
     ) (do
     M.pure 0
     )
    )
   )
  )
theorem KBE (x0:Int) (x1:Int):ZG Go.Proofs.Tryz.prog 172 #[.int .i64 x0,.int .i64 x1] (fun(r:Int)=>.int .i64 r) (V1 x0 x1):=
 KU [KCs] [] [.I .i64] [(0,.I .i64 x0),(1,.I .i64 x1)] .o Go.Proofs.Tryz.func172 rfl rfl ⟨rfl,rfl,trivial⟩ rfl (by kernel_rfl) (by kernel_rfl)
noncomputable def KBF:CalleeS Go.Proofs.Tryz.prog:=mkC KAA KAH [.I .i64,.I .i64] [.I .i64] (fun(t:Int×Int)=>V1 t.1 t.2) (fun(t:Int×Int)=>KBE t.1 t.2)
def V7 (x0:Int):M (Bool):=do
 M.pure (x0 !=x0)
theorem KBG (x0:Int):ZG Go.Proofs.Tryz.prog 210 #[.int .i64 x0] (fun(r:Bool)=>.bool r) (V7 x0):=
 KU [] [] [.B] [(0,.I .i64 x0)] .o Go.Proofs.Tryz.func210 rfl rfl ⟨rfl,trivial⟩ rfl (by kernel_rfl) (by kernel_rfl)
noncomputable def KBH:CalleeS Go.Proofs.Tryz.prog:=mkC KAB KAI [.I .i64] [.B] (fun(t:Int)=>V7 t) (fun(t:Int)=>KBG t)
def U4 (x0:Int) (x1:Int):M (Int):=do
 let Xx3←V7 x0
 let Xx5←V7 x1
 M.ite Xx3 (do
  M.ite Xx5 (do
   M.pure 0
   ) (do
   M.pure (-1)
   )
  ) (do
  M.ite Xx5 (do
   M.pure 1
   ) (do
   M.ite (decide (x0<x1)) (do
    M.pure (-1)
    ) (do
    M.ite (decide (x0>x1)) (do
     M.pure 1
     ) (do
     M.pure 0
     )
    )
   )
  )
theorem zb (x0:Int) (x1:Int):ZG Go.Proofs.Tryz.prog 173 #[.int .i64 x0,.int .i64 x1] (fun(r:Int)=>.int .i64 r) (U4 x0 x1):=
 KU [KBH] [] [.I .i64] [(0,.I .i64 x0),(1,.I .i64 x1)] .o Go.Proofs.Tryz.func173 rfl rfl ⟨rfl,rfl,trivial⟩ rfl (by kernel_rfl) (by kernel_rfl)
noncomputable def zc:CalleeS Go.Proofs.Tryz.prog:=mkC qH qO [.I .i64,.I .i64] [.I .i64] (fun(t:Int×Int)=>U4 t.1 t.2) (fun(t:Int×Int)=>zb t.1 t.2)
def Ww (x0:ByteArray) (x1:ByteArray):M (Int):=do
 let Xx3←Z4 x0 x1
 M.pure Xx3
theorem KBI (x0:ByteArray) (x1:ByteArray):ZG Go.Proofs.Tryz.prog 174 #[.string x0,.string x1] (fun(r:Int)=>.int .i64 r) (Ww x0 x1):=
 KU [mkC Wp Wr [.S,.S] [.I .i64] (fun(t:ByteArray×ByteArray)=>Z4 t.1 t.2) (fun(t:ByteArray×ByteArray)=>YA t.1 t.2)] [] [.I .i64] [(0,.S x0),(1,.S x1)] .o Go.Proofs.Tryz.func174 rfl rfl ⟨rfl,rfl,trivial⟩ rfl (by kernel_rfl) (by kernel_rfl)
noncomputable def KBJ:CalleeS Go.Proofs.Tryz.prog:=mkC KAE KAO [.S,.S] [.I .i64] (fun(t:ByteArray×ByteArray)=>Ww t.1 t.2) (fun(t:ByteArray×ByteArray)=>KBI t.1 t.2)
def Kj (Cc5:Sl) (Cc6:Sl) (Cc7:Value) (Cc8:Sl) (Cc9:Int) (self1:(Int)→M (Int)):(Int)→M (Int):=fun s=>match s with
 |Xx4=>do
  M.ite (decide (Xx4<Cc9)) (do
   let Xx15←ixL Cc8 Xx4 4
   let Xx16←ldG 4 Xx15
   let Xx17←mkB KH (#[.int .i64 0,.int .i64 0,.string ByteArray.empty,.slice none 0 0]:Array Value)
   M.need (Xx16.size=4)
   stG Xx17 Xx16
   M.ite (decide (Xx4≥(Cc6.len:Int))) (do
    M.pure 1
    ) (do
    let Xx23←ixL Cc6 Xx4 4
    let Xx24←ldG 4 Xx23
    let Xx25←mkB KH (#[.int .i64 0,.int .i64 0,.string ByteArray.empty,.slice none 0 0]:Array Value)
    M.need (Xx24.size=4)
    stG Xx25 Xx24
    let Xx28←ldG 4 Xx17
    let Xx29←ldG 4 Xx25
    let Xx30←X4 Go.Proofs.Tryz.prog (fun r:Int=>.int .i64 r) Cc7 [.agg Xx28,.agg Xx29]
    M.ite (Xx30 !=0) (do
     M.pure Xx30
     ) (do
     self1 (IntKind.wrap .i64 (Xx4+1))
     )
    )
   ) (do
   M.ite (decide ((Cc5.len:Int)<(Cc6.len:Int))) (do
    M.pure (-1)
    ) (do
    M.pure 0
    )
   )
def KW (x0:Sl) (x1:Sl) (x2:Value):M (Int):=do
 M.loop (Kj x0 x1 x2 x0 (x0.len:Int)) 0
theorem JN (x0:Sl) (x1:Sl) (x2:Value):ZG Go.Proofs.Tryz.prog 175 #[(x0:Sl).v,(x1:Sl).v,x2] (fun(r:Int)=>.int .i64 r) (KW x0 x1 x2):=
 KU [] [] [.I .i64] [(0,.L x0),(1,.L x1),(2,.V x2)] (.q .o (.q (.q .o (.b (.l [(0,.L),(1,.L),(2,.V),(11,.L),(12,.I .i64)] [(13,.I .i64)] (fun(t:Sl×Sl×Value×Sl×Int)=>Kj t.1 t.2.1 t.2.2.1 t.2.2.2.1 t.2.2.2.2) (fun _=>.o)))) .o)) Go.Proofs.Tryz.func175 rfl rfl ⟨rfl,rfl,rfl,trivial⟩ rfl (by kernel_rfl) (by kernel_rfl)
noncomputable def JO:CalleeS Go.Proofs.Tryz.prog:=mkC JK JL [.L,.L,.V] [.I .i64] (fun(t:Sl×Sl×Value)=>KW t.1 t.2.1 t.2.2) (fun(t:Sl×Sl×Value)=>JN t.1 t.2.1 t.2.2)
def WC (x0:Array Value) (x1:Array Value):M (Int):=do
 let Xx2←mkB KH x0
 let Xx3←mkB KH x1
 let Xx5←ldI .i64 ((Xx2).add 0)
 let Xx6←ldI .i64 ((Xx3).add 0)
 let Xx7←ldI .i64 ((Xx2).add 1)
 let Xx8←ldI .i64 ((Xx3).add 1)
 let Xx9←ldS ((Xx2).add 2)
 let Xx10←ldS ((Xx3).add 2)
 let Xx11←ldL ((Xx2).add 3)
 let Xx12←ldL ((Xx3).add 3)
 let Xx13←V1 Xx5 Xx6
 chk (fun h:Heap=>(KM h ((Xx2).add 0)=some (.int .i64 Xx5))∧(KM h ((Xx3).add 0)=some (.int .i64 Xx6))∧(KM h ((Xx2).add 1)=some (.int .i64 Xx7))∧(KM h ((Xx3).add 1)=some (.int .i64 Xx8))∧(KM h ((Xx2).add 2)=some (.string Xx9))∧(KM h ((Xx3).add 2)=some (.string Xx10))∧(KM h ((Xx2).add 3)=some ((Xx11:Sl).v))∧(KM h ((Xx3).add 3)=some ((Xx12:Sl).v)))
 let Xx14←U4 Xx7 Xx8
 chk (fun h:Heap=>(KM h ((Xx2).add 0)=some (.int .i64 Xx5))∧(KM h ((Xx3).add 0)=some (.int .i64 Xx6))∧(KM h ((Xx2).add 1)=some (.int .i64 Xx7))∧(KM h ((Xx3).add 1)=some (.int .i64 Xx8))∧(KM h ((Xx2).add 2)=some (.string Xx9))∧(KM h ((Xx3).add 2)=some (.string Xx10))∧(KM h ((Xx2).add 3)=some ((Xx11:Sl).v))∧(KM h ((Xx3).add 3)=some ((Xx12:Sl).v)))
 let Xx15←Ww Xx9 Xx10
 chk (fun h:Heap=>(KM h ((Xx2).add 0)=some (.int .i64 Xx5))∧(KM h ((Xx3).add 0)=some (.int .i64 Xx6))∧(KM h ((Xx2).add 1)=some (.int .i64 Xx7))∧(KM h ((Xx3).add 1)=some (.int .i64 Xx8))∧(KM h ((Xx2).add 2)=some (.string Xx9))∧(KM h ((Xx3).add 2)=some (.string Xx10))∧(KM h ((Xx2).add 3)=some ((Xx11:Sl).v))∧(KM h ((Xx3).add 3)=some ((Xx12:Sl).v)))
 let Xx16←KW Xx11 Xx12 (Value.func (.func NR) #[] #[])
 let Xx17←bdL VE 4 #[.int .i64 Xx13,.int .i64 Xx14,.int .i64 Xx15,.int .i64 Xx16]
 let Xx18←Gd Xx17
 M.pure Xx18
theorem Ns (x0:Array Value) (x1:Array Value):ZG Go.Proofs.Tryz.prog 124 #[.agg x0,.agg x1] (fun(r:Int)=>.int .i64 r) (WC x0 x1):=
 KU [KGG,KBF,zc,KBJ,JO] [] [.I .i64] [(0,.G x0),(1,.G x1)] (.q .o (.q (.r [0,1,0,4,10,0,32,0,128,336,0,1024,0,4096,10752,0,32768,0,131072,344064,541200,1572864,4194303] [0,1,0,4,10,0,32,0,128,320,0,1024,0,4096,10240,0,32768,0,131072,327680,541200,1048576,2097152] [0,1,0,4,15,0,32,0,128,511,0,1024,0,4096,16383,0,32768,0,131072,524287,1048575,2097151,4194303] (.pu 0 (.pu 2 (.pu 5 (.pu 7 (.pu 10 (.pu 12 (.pu 15 (.pu 17 (.pu 1 (.pu 3 (.pu 6 (.pu 8 (.pu 11 (.pu 13 (.pu 16 (.pu 18 (.st [19,20,21,22] (.on 4 (.on 9 (.on 14 (.on 19 (.on 20 (.on 21 (.pu 22 (.nx .dn)))))))))))))))))))))))))) .o)) Go.Proofs.Tryz.func124 rfl rfl ⟨rfl,rfl,trivial⟩ rfl (by kernel_rfl) (by kernel_rfl)
noncomputable def KCt:CalleeS Go.Proofs.Tryz.prog:=mkC NR NS [.G,.G] [.I .i64] (fun(t:Array Value×Array Value)=>WC t.1 t.2) (fun(t:Array Value×Array Value)=>Ns t.1 t.2)
def Zp (Cc5:Sl) (Cc6:Value) (Cc7:Int) (self1:(Int)→M (Int)):(Int)→M (Int):=fun s=>match s with
 |Xx4=>do
  M.ite (decide (Xx4<Cc7)) (do
   let Xx14←ixL Cc5 Xx4 4
   let Xx15←ldG 4 Xx14
   let Xx16←X4 Go.Proofs.Tryz.prog (fun r:Bool=>.bool r) Cc6 [.agg Xx15]
   M.ite Xx16 (do
    M.pure Xx4
    ) (do
    self1 (IntKind.wrap .i64 (Xx4+1))
    )
   ) (do
   M.pure (-1)
   )
def ZT (x0:Sl) (x1:Value):M (Int):=do
 M.loop (Zp x0 x1 (x0.len:Int)) 0
theorem Vn (x0:Sl) (x1:Value):ZG Go.Proofs.Tryz.prog 205 #[(x0:Sl).v,x1] (fun(r:Int)=>.int .i64 r) (ZT x0 x1):=
 KU [] [] [.I .i64] [(0,.L x0),(1,.V x1)] (.q .o (.q (.q .o (.b (.l [(0,.L),(1,.V),(7,.I .i64)] [(8,.I .i64)] (fun(t:Sl×Value×Int)=>Zp t.1 t.2.1 t.2.2) (fun _=>.o)))) .o)) Go.Proofs.Tryz.func205 rfl rfl ⟨rfl,rfl,trivial⟩ rfl (by kernel_rfl) (by kernel_rfl)
noncomputable def Vo:CalleeS Go.Proofs.Tryz.prog:=mkC Vf Vg [.L,.V] [.I .i64] (fun(t:Sl×Value)=>ZT t.1 t.2) (fun(t:Sl×Value)=>Vn t.1 t.2)
def Ko (x0:Sl) (x1:Value):M (Bool):=do
 let Xx3←ZT x0 x1
 M.pure (decide (Xx3≥0))
theorem VN (x0:Sl) (x1:Value):ZG Go.Proofs.Tryz.prog 165 #[(x0:Sl).v,x1] (fun(r:Bool)=>.bool r) (Ko x0 x1):=
 KU [Vo] [] [.B] [(0,.L x0),(1,.V x1)] .o Go.Proofs.Tryz.func165 rfl rfl ⟨rfl,rfl,trivial⟩ rfl (by kernel_rfl) (by kernel_rfl)
noncomputable def VO:CalleeS Go.Proofs.Tryz.prog:=mkC VA VB [.L,.V] [.B] (fun(t:Sl×Value)=>Ko t.1 t.2) (fun(t:Sl×Value)=>VN t.1 t.2)
def Yp (Cc12:Addr) (Cc13:Addr):M (Bool):=do
 let Xx15←ldI .i64 ((Cc12).add 1)
 let Xx16←M.ite (Xx15==0) (do
  let Xx17←ldS ((Cc12).add 2)
  M.pure (sEq Xx17 ByteArray.empty)
  ) (do
  M.pure false
  )
 let Xx18←M.ite Xx16 (do
  let Xx19←ldL ((Cc12).add 3)
  let Xx20←Ko Xx19 (Value.func (.func KDj) #[] #[.pointer (some Cc13)])
  M.pure (!Xx20)
  ) (do
  M.pure false
  )
 M.pure Xx18
def Nt (Cc61:Addr) (Cc62:Addr) (self1:(Int)→M (Bool)):(Int)→M (Bool):=fun s=>match s with
 |Xx60=>do
  let Xx66←ldL ((Cc61).add 3)
  M.ite (decide (Xx60<(Xx66.len:Int))) (do
   let Xx69←ldL ((Cc61).add 3)
   let Xx70←ixL Xx69 (IntKind.wrap .i64 (Xx60 - 2)) 4
   let Xx71←ldG 4 Xx70
   let Xx72←ldL ((Cc61).add 3)
   let Xx73←ixL Xx72 Xx60 4
   let Xx74←ldG 4 Xx73
   let Xx75←WC Xx71 Xx74
   M.ite (decide (Xx75≥0)) (do
    M.pure false
    ) (do
    self1 (IntKind.wrap .i64 (Xx60+2))
    )
   ) (do
   Yp Cc61 Cc62
   )
def Yq (Cc32:Addr) (Cc33:Addr) (Cc34:Bool) (Cc35:Int) (Xx31:Bool):M (Bool):=do
 M.ite Xx31 (do
  let Xx37←M.ite Cc34 (do
   let Xx38←ldI .i64 ((Cc32).add 1)
   M.pure (decide (Xx38≥1))
   ) (do
   M.pure false
   )
  let Xx39←M.ite Xx37 (do
   let Xx40←ldI .i64 ((Cc32).add 1)
   M.pure (decide (Xx40≤281474976710656))
   ) (do
   M.pure false
   )
  M.pure Xx39
  ) (do
  M.ite (Cc35==2) (do
   let Xx43←ldI .i64 ((Cc32).add 1)
   let Xx44←M.ite (Xx43==0) (do
    let Xx45←ldL ((Cc32).add 3)
    M.pure ((Xx45.len:Int)==0)
    ) (do
    M.pure false
    )
   let Xx46←M.ite Xx44 (do
    let Xx47←ldS ((Cc32).add 2)
    M.pure (decide ((Xx47.size:Int)≤128))
    ) (do
    M.pure false
    )
   M.pure Xx46
   ) (do
   M.ite (Cc35==4) (do
    let Xx50←ldL ((Cc32).add 3)
    M.ite (decide ((Xx50.len:Int)>256)) (do
     M.pure false
     ) (do
     Yp Cc32 Cc33
     )
    ) (do
    M.ite (Cc35==5) (do
     let Xx55←ldL ((Cc32).add 3)
     let Xx56←M.ite (decide ((Xx55.len:Int)>512)) (do
      M.pure true
      ) (do
      let Xx57←ldL ((Cc32).add 3)
      M.pure ((Int.tmod (Xx57.len:Int) 2)==1)
      )
     M.ite Xx56 (do
      M.pure false
      ) (do
      M.loop (Nt Cc32 Cc33) 2
      )
     ) (do
     M.pure false
     )
    )
   )
  )
def Xo (x0:Array Value) (x1:Int):M (Bool):=do
 let Xx2←mkB KH x0
 let Xx3←mkB VE #[.int .i64 x1]
 let Xx6←ldI .i64 Xx3
 M.ite (decide (Xx6>8)) (do
  M.pure false
  ) (do
  let Xx9←ldS ((Xx2).add 2)
  let Xx10←M.ite (sEq Xx9 ByteArray.empty) (do
   let Xx11←ldL ((Xx2).add 3)
   M.pure ((Xx11.len:Int)==0)
   ) (do
   M.pure false
   )
  let Xx22←ldI .i64 ((Xx2).add 0)
  M.ite (Xx22==1) (do
   M.pure Xx10
   ) (do
   M.ite (Xx22==3) (do
    let Xx27←M.ite Xx10 (do
     let Xx28←ldI .i64 ((Xx2).add 1)
     let Xx29←M.ite (Xx28==0) (do
      M.pure true
      ) (do
      let Xx30←ldI .i64 ((Xx2).add 1)
      M.pure (Xx30==1)
      )
     M.pure Xx29
     ) (do
     M.pure false
     )
    M.pure Xx27
    ) (do
    M.ite (Xx22==6) (do
     Yq Xx2 Xx3 Xx10 Xx22 (Xx22==6)
     ) (do
     Yq Xx2 Xx3 Xx10 Xx22 (Xx22==7)
     )
    )
   )
  )
theorem KHN (x0:Array Value) (x1:Int):ZG Go.Proofs.Tryz.prog 201 #[.agg x0,.int .i64 x1] (fun(r:Bool)=>.bool r) (Xo x0 x1):=
 KU [KCt,VO] [] [.B] [(0,.G x0),(1,.I .i64 x1)] (.q .o (.q .o (.q .o (.q (.q .o (.b (.q .o (.q .o (.q .o (.q .o (.q .o (.j [(2,.A),(3,.A),(5,.B),(19,.I .i64),(36,.B)] (fun(t:Addr×Addr×Bool×Int×Bool)=>Yq t.1 t.2.1 t.2.2.1 t.2.2.2.1 t.2.2.2.2) (.q .o (.q .o (.q .o (.q .o (.q .o (.q .o (.q (.q .o (.q .o (.b (.l [(2,.A),(3,.A)] [(6,.I .i64)] (fun(t:Addr×Addr)=>Nt t.1 t.2) (fun _=>.q .o (.q (.b (.q (.r [0,1,0,4,10,16,0,64,0,384,512,1056,2048] [0,1,0,4,10,16,0,64,0,384,512,1056,2048] [0,1,0,4,15,31,0,64,0,448,960,2047,4095] (.pu 0 (.pu 2 (.pu 3 (.pu 6 (.pu 8 (.pu 1 (.pu 4 (.pu 5 (.pu 7 (.pu 9 (.pu 10 (.st [11,12] (.on 11 (.pu 12 (.nx .dn)))))))))))))))) .o)) .o)))))) .o))))))))))))))) (.j [(2,.A),(3,.A)] (fun(t:Addr×Addr)=>Yp t.1 t.2) .o))))) Go.Proofs.Tryz.func201 rfl rfl ⟨rfl,rfl,trivial⟩ rfl (by kernel_rfl) (by kernel_rfl)
noncomputable def KCu:CalleeS Go.Proofs.Tryz.prog:=mkC KF0 KF4 [.G,.I .i64] [.B] (fun(t:Array Value×Int)=>Xo t.1 t.2) (fun(t:Array Value×Int)=>KHN t.1 t.2)
def YR (x0:Array Value):M (Int):=do
 let Xx2←mkB KH x0
 let Xx5←ldG 4 Xx2
 let Xx6←Xo Xx5 1
 M.ite (!Xx6) (do
  M.pure 20
  ) (do
  M.pure 0
  )
theorem KFA (x0:Array Value):ZG Go.Proofs.Tryz.prog 153 #[.agg x0] (fun(r:Int)=>.int .i64 r) (YR x0):=
 KU [KCu] [] [.I .i64] [(0,.G x0)] .o Go.Proofs.Tryz.func153 rfl rfl ⟨rfl,trivial⟩ rfl (by kernel_rfl) (by kernel_rfl)
noncomputable def KAg:CalleeS Go.Proofs.Tryz.prog:=mkC KDh KDn [.G] [.I .i64] (fun(t:Array Value)=>YR t) (fun(t:Array Value)=>KFA t)
def Ya (x0:Array Value):M (Bool):=do
 let Xx2←mkB KH x0
 let Xx4←ldG 4 Xx2
 let Xx5←YR Xx4
 M.pure (Xx5 !=0)
theorem KB1 (x0:Array Value):ZG Go.Proofs.Tryz.prog 116 #[.agg x0] (fun(r:Bool)=>.bool r) (Ya x0):=
 KU [KAg] [] [.B] [(0,.G x0)] .o Go.Proofs.Tryz.func116 rfl rfl ⟨rfl,trivial⟩ rfl (by kernel_rfl) (by kernel_rfl)
def Jy (Cc16:Addr) (Cc17:Addr):M (Value⊕(Array Value)):=do
 let Xx19←ldG 4 Cc17
 M.need (Xx19.size=4)
 stG Cc16 Xx19
 let Rr21←ldG 4 Cc16
 M.pure (.inr Rr21)
def ZR (Cc13:Addr) (Cc14:Int) (Cc15:Addr):M (Value⊕(Array Value)):=do
 let Xx23←ldG 4 Cc15
 let Xx24←Ya Xx23
 M.ite Xx24 (do
  thr (JH Cc14 160) fun Xx25=>do
   Jy Cc13 Cc15
  ) (do
  Jy Cc13 Cc15
  )
def Jz (Cc5:Option Addr) (Cc6:Int) (Cc7:Addr) (Cc8:Int):M (Value⊕(Array Value)):=do
 thr (Ug Cc5) fun Xx10=>do
  let Xx11←mkB KH (#[.int .i64 0,.int .i64 0,.string ByteArray.empty,.slice none 0 0]:Array Value)
  M.need (Xx10.1.size=4)
  stG Xx11 Xx10.1
  M.ite Xx10.2 (do
   ZR Cc7 Cc8 Xx11
   ) (do
   let Xx28←ZQ Cc5 4 (⟨#[91]⟩:ByteArray)
   M.ite Xx28 (do
    thr (Kc Cc5 (⟨#[91]⟩:ByteArray)) fun Xx30=>do
     thr (GR Go.Proofs.Tryz.prog WJ #[.pointer Cc5,.string (⟨#[93]⟩:ByteArray),.bool false,.int .i64 Cc6] (fun r:Sl=>(r:Sl).v)) fun Xx31=>do
      M.need ((#[.int .i64 4,.int .i64 0,.string ByteArray.empty,(Xx31:Sl).v]:Array Value).size=4)
      stG Xx11 (#[.int .i64 4,.int .i64 0,.string ByteArray.empty,(Xx31:Sl).v]:Array Value)
      ZR Cc7 Cc8 Xx11
    ) (do
    let Xx34←ZQ Cc5 4 (⟨#[123]⟩:ByteArray)
    M.ite Xx34 (do
     thr (Kc Cc5 (⟨#[123]⟩:ByteArray)) fun Xx36=>do
      thr (GR Go.Proofs.Tryz.prog WJ #[.pointer Cc5,.string (⟨#[125]⟩:ByteArray),.bool true,.int .i64 Cc6] (fun r:Sl=>(r:Sl).v)) fun Xx37=>do
       M.need ((#[.int .i64 5,.int .i64 0,.string ByteArray.empty,(Xx37:Sl).v]:Array Value).size=4)
       stG Xx11 (#[.int .i64 5,.int .i64 0,.string ByteArray.empty,(Xx37:Sl).v]:Array Value)
       ZR Cc7 Cc8 Xx11
     ) (do
     thr (JH Cc8 160) fun Xx39=>do
      ZR Cc7 Cc8 Xx11
     )
    )
   )
def Kt (x0:Option Addr) (x1:Int):M (Value⊕(Array Value)):=do
 let Xx2←mkB KH (#[.int .i64 0,.int .i64 0,.string ByteArray.empty,.slice none 0 0]:Array Value)
 let Xx4←ZN x0
 M.ite (decide (x1>8)) (do
  thr (JH Xx4 160) fun Xx41=>do
   Jz x0 x1 Xx2 Xx4
  ) (do
  Jz x0 x1 Xx2 Xx4
  )
theorem Z1 (x0:Option Addr) (x1:Int):J3 Go.Proofs.Tryz.prog 73 #[.pointer x0,.int .i64 x1] (fun(r:Array Value)=>.agg r) (Kt x0 x1):=by
 refine Zj [(0,.pointer x0),(1,.int .i64 x1)] Go.Proofs.Tryz.func73 rfl rfl (Nat.le_of_ble_eq_true rfl) (Z8 ⟨rfl,rfl,trivial⟩) (fun w0 w Q R X a hret hthr hE hR H=>?_)
 unfold Kt at H
 refine KR (fun K hK_1=>?_)
 refine KC ?_
 obtain⟨Xx2,qXx2,H⟩:=H
 refine JM (v:=.pointer (some Xx2)) rfl rfl hE rfl hR (Z0 zr54 qXx2) (fun a w hE hR hh=>?_)
 replace H:=M.at hh H;clear hh
 refine KN ?_
 refine hK_1 _ _ ?_
 refine KR (fun K hK_3=>?_)
 refine KC ?_
 refine KB (v:=.pointer x0) rfl rfl hE rfl (KF hE rfl) (fun a hE=>?_)
 refine Zd hE hR ZX rfl (Zg x0) (M.unbind H) (fun Xx4 a w ea hR H=>?_)
 have hE:=Env.put_some hE rfl ea;clear ea
 refine KB (v:=.int .i64 Xx4) rfl rfl hE rfl (KQ hE rfl) (fun a hE=>?_)
 refine KN ?_
 refine hK_3 _ _ ?_
 refine Kz (fun a w=>Env (⟨46,[]⟩:Frm) a [(0,.pointer x0),(1,.int .i64 x1),(4,.pointer (some Xx2)),(5,.int .i64 Xx4)]∧Rest w0 w∧(Jz x0 x1 Xx2 Xx4).wp w.heap Q) ?_ ?_
 ·rintro a w ⟨hE,hR,H⟩
  unfold Jz at H
  refine KR (fun K hK_9=>?_)
  refine KC ?_
  refine KB (v:=.pointer x0) rfl rfl hE rfl (KF hE rfl) (fun a hE=>?_)
  refine KZ hE hR Nl rfl (qa x0) H (fun _ _ hR HQ=>hthr _ _ hR HQ) (fun Xx10 a w ea hR H=>?_)
  have hE:=Env.put_some hE rfl ea;clear ea
  refine KB (v:=.tuple #[.agg Xx10.1,.bool Xx10.2]) rfl rfl hE rfl (KF hE rfl) (fun a hE=>?_)
  refine KB (v:=.agg Xx10.1) rfl rfl hE rfl (JQ hE rfl rfl) (fun a hE=>?_)
  refine KB (v:=.bool Xx10.2) rfl rfl hE rfl (JQ hE rfl rfl) (fun a hE=>?_)
  obtain⟨Xx11,qXx11,H⟩:=H
  refine JM (v:=.pointer (some Xx11)) rfl rfl hE rfl hR (Z0 zr54 qXx11) (fun a w hE hR hh=>?_)
  replace H:=M.at hh H;clear hh
  obtain⟨qz,H⟩:=H
  obtain⟨u_12,qu_12,H⟩:=H
  refine JA rfl rfl hE hR (Kh hE rfl rfl sz54 qz qu_12) (fun a w hE hR hh=>?_)
  replace H:=M.at hh H;clear hh
  refine KB (v:=.bool Xx10.2) rfl rfl hE rfl (KQ hE rfl) (fun a hE=>?_)
  refine KN ?_
  refine hK_9 _ _ ?_
  refine Kz (fun a w=>Env (⟨46,[]⟩:Frm) a [(4,.pointer (some Xx2)),(5,.int .i64 Xx4),(6,.pointer (some Xx11))]∧Rest w0 w∧(ZR Xx2 Xx4 Xx11).wp w.heap Q) ?_ ?_
  ·rintro a w ⟨hE,hR,H⟩
   unfold ZR at H
   refine Kz (fun a w=>Env (⟨46,[]⟩:Frm) a [(4,.pointer (some Xx2)),(6,.pointer (some Xx11))]∧Rest w0 w∧(Jy Xx2 Xx11).wp w.heap Q) ?_ ?_
   ·rintro a w ⟨hE,hR,H⟩
    unfold Jy at H
    refine KR (fun K hK_18=>?_)
    refine KC ?_
    obtain⟨Xx19,qXx19,H⟩:=H
    refine KB (v:=.agg Xx19) rfl rfl hE rfl (Ui hE rfl ag54 qXx19) (fun a hE=>?_)
    obtain⟨qz,H⟩:=H
    obtain⟨u_20,qu_20,H⟩:=H
    refine JA rfl rfl hE hR (Kh hE rfl rfl sz54 qz qu_20) (fun a w hE hR hh=>?_)
    replace H:=M.at hh H;clear hh
    refine KN ?_
    refine hK_18 _ _ ?_
    refine Uv ?_
    obtain⟨Rr21,qRr21,H⟩:=H
    exact hret _ _ _ Rr21 _ hE hR (Kn hE rfl (RV.cellG rfl ag54 qRr21 RV.nil)) rfl H
   ·skip
    refine KR (fun K hK_22=>?_)
    refine KC ?_
    obtain⟨Xx23,qXx23,H⟩:=H
    refine KB (v:=.agg Xx23) rfl rfl hE rfl (Ui hE rfl ag54 qXx23) (fun a hE=>?_)
    refine Zd hE hR KA8 rfl (KB1 Xx23) (M.unbind H) (fun Xx24 a w ea hR H=>?_)
    have hE:=Env.put_some hE rfl ea;clear ea
    refine KN ?_
    refine hK_22 _ _ ?_
    refine ZA Xx24 hE rfl (fun hb=>?_) (fun hb=>?_)
    ·replace H:=M.ite_t hb H
     refine KC ?_
     refine KB (v:=.int .i64 Xx4) rfl rfl hE rfl (KF hE rfl) (fun a hE=>?_)
     refine KZ hE hR JB rfl (Ji Xx4 160) H (fun _ _ hR HQ=>hthr _ _ hR HQ) (fun Xx25 a w ea hR H=>?_)
     have hE:=Env.put_some hE rfl ea;clear ea
     refine KN ?_
     exact⟨hE.cut (.cons rfl (.cons rfl Subs.nil)),hR,H⟩
    ·replace H:=M.ite_f hb H
     refine Zq ?_
     exact⟨hE.cut (.cons rfl (.cons rfl Subs.nil)),hR,H⟩
  ·skip
   refine J6 ?_
   refine KR (fun K hK_26=>?_)
   refine KC ?_
   refine KB (v:=.bool Xx10.2) rfl rfl hE rfl (KF hE rfl) (fun a hE=>?_)
   refine KB (v:=.bool Xx10.2) rfl rfl hE rfl (KQ hE rfl) (fun a hE=>?_)
   refine KN ?_
   refine hK_26 _ _ ?_
   refine ZA Xx10.2 hE rfl (fun hb=>?_) (fun hb=>?_)
   ·replace H:=M.ite_t hb H
    refine Zq ?_
    exact⟨hE.cut (.cons rfl (.cons rfl (.cons rfl Subs.nil))),hR,H⟩
   ·replace H:=M.ite_f hb H
    refine KR (fun K hK_27=>?_)
    refine KC ?_
    refine KB (v:=.pointer x0) rfl rfl hE rfl (KF hE rfl) (fun a hE=>?_)
    refine Zd hE hR ZP rfl (Za x0 4 (⟨#[91]⟩:ByteArray)) (M.unbind H) (fun Xx28 a w ea hR H=>?_)
    have hE:=Env.put_some hE rfl ea;clear ea
    refine KB (v:=.bool Xx28) rfl rfl hE rfl (KQ hE rfl) (fun a hE=>?_)
    refine KN ?_
    refine hK_27 _ _ ?_
    refine ZA Xx28 hE rfl (fun hb=>?_) (fun hb=>?_)
    ·replace H:=M.ite_t hb H
     refine KR (fun K hK_29=>?_)
     refine KC ?_
     refine KB (v:=.pointer x0) rfl rfl hE rfl (KF hE rfl) (fun a hE=>?_)
     refine KZ hE hR Kg rfl (Kl x0 (⟨#[91]⟩:ByteArray)) H (fun _ _ hR HQ=>Xu.ne rfl (hthr _ _ hR HQ)) (fun Xx30 a w ea hR H=>?_)
     have hE:=Env.put_some hE rfl ea;clear ea
     refine KN ?_
     refine hK_29 _ _ ?_
     refine KC ?_
     refine KB (v:=.pointer x0) rfl rfl hE rfl (KF hE rfl) (fun a hE=>?_)
     refine KB (v:=.int .i64 x1) rfl rfl hE rfl (KF hE rfl) (fun a hE=>?_)
     refine KZ hE hR XB rfl (VC) H (fun _ _ hR HQ=>Xu.ne rfl (hthr _ _ hR HQ)) (fun Xx31 a w ea hR H=>?_)
     have hE:=Env.put_some hE rfl ea;clear ea
     refine KB (v:=.agg (#[.int .i64 4,.int .i64 0,.string ByteArray.empty,(Xx31:Sl).v]:Array Value)) rfl rfl hE rfl (Vs hE rfl zr54 pl54 (by rfl)) (fun a hE=>?_)
     obtain⟨qz,H⟩:=H
     obtain⟨u_32,qu_32,H⟩:=H
     refine JA rfl rfl hE hR (Kh hE rfl rfl sz54 qz qu_32) (fun a w hE hR hh=>?_)
     replace H:=M.at hh H;clear hh
     refine KN ?_
     exact⟨hE.cut (.cons rfl (.cons rfl (.cons rfl Subs.nil))),hR,H⟩
    ·replace H:=M.ite_f hb H
     refine KR (fun K hK_33=>?_)
     refine KC ?_
     refine KB (v:=.pointer x0) rfl rfl hE rfl (KF hE rfl) (fun a hE=>?_)
     refine Zd hE hR ZP rfl (Za x0 4 (⟨#[123]⟩:ByteArray)) (M.unbind H) (fun Xx34 a w ea hR H=>?_)
     have hE:=Env.put_some hE rfl ea;clear ea
     refine KB (v:=.bool Xx34) rfl rfl hE rfl (KQ hE rfl) (fun a hE=>?_)
     refine KN ?_
     refine hK_33 _ _ ?_
     refine ZA Xx34 hE rfl (fun hb=>?_) (fun hb=>?_)
     ·replace H:=M.ite_t hb H
      refine KR (fun K hK_35=>?_)
      refine KC ?_
      refine KB (v:=.pointer x0) rfl rfl hE rfl (KF hE rfl) (fun a hE=>?_)
      refine KZ hE hR Kg rfl (Kl x0 (⟨#[123]⟩:ByteArray)) H (fun _ _ hR HQ=>Xu.ne rfl (hthr _ _ hR HQ)) (fun Xx36 a w ea hR H=>?_)
      have hE:=Env.put_some hE rfl ea;clear ea
      refine KN ?_
      refine hK_35 _ _ ?_
      refine KC ?_
      refine KB (v:=.pointer x0) rfl rfl hE rfl (KF hE rfl) (fun a hE=>?_)
      refine KB (v:=.int .i64 x1) rfl rfl hE rfl (KF hE rfl) (fun a hE=>?_)
      refine KZ hE hR XB rfl (VC) H (fun _ _ hR HQ=>Xu.ne rfl (hthr _ _ hR HQ)) (fun Xx37 a w ea hR H=>?_)
      have hE:=Env.put_some hE rfl ea;clear ea
      refine KB (v:=.agg (#[.int .i64 5,.int .i64 0,.string ByteArray.empty,(Xx37:Sl).v]:Array Value)) rfl rfl hE rfl (Vs hE rfl zr54 pl54 (by rfl)) (fun a hE=>?_)
      obtain⟨qz,H⟩:=H
      obtain⟨u_38,qu_38,H⟩:=H
      refine JA rfl rfl hE hR (Kh hE rfl rfl sz54 qz qu_38) (fun a w hE hR hh=>?_)
      replace H:=M.at hh H;clear hh
      refine KN ?_
      exact⟨hE.cut (.cons rfl (.cons rfl (.cons rfl Subs.nil))),hR,H⟩
     ·replace H:=M.ite_f hb H
      refine KC ?_
      refine KB (v:=.int .i64 Xx4) rfl rfl hE rfl (KF hE rfl) (fun a hE=>?_)
      refine KZ hE hR JB rfl (Ji Xx4 160) H (fun _ _ hR HQ=>Xu.ne rfl (hthr _ _ hR HQ)) (fun Xx39 a w ea hR H=>?_)
      have hE:=Env.put_some hE rfl ea;clear ea
      refine KN ?_
      exact⟨hE.cut (.cons rfl (.cons rfl (.cons rfl Subs.nil))),hR,H⟩
 ·skip
  refine KR (fun K hK_40=>?_)
  refine KC ?_
  refine KB (v:=.int .i64 x1) rfl rfl hE rfl (KF hE rfl) (fun a hE=>?_)
  refine KB (v:=.bool (decide (x1>8))) rfl rfl hE rfl (Kk hE rfl rfl Ki qv) (fun a hE=>?_)
  refine KN ?_
  refine hK_40 _ _ ?_
  refine ZA (decide (x1>8)) hE rfl (fun hb=>?_) (fun hb=>?_)
  ·replace H:=M.ite_t hb H
   refine KC ?_
   refine KB (v:=.int .i64 Xx4) rfl rfl hE rfl (KF hE rfl) (fun a hE=>?_)
   refine KZ hE hR JB rfl (Ji Xx4 160) H (fun _ _ hR HQ=>hthr _ _ hR HQ) (fun Xx41 a w ea hR H=>?_)
   have hE:=Env.put_some hE rfl ea;clear ea
   refine KN ?_
   exact⟨hE.cut (.cons rfl (.cons rfl (.cons rfl (.cons rfl Subs.nil)))),hR,H⟩
  ·replace H:=M.ite_f hb H
   refine Zq ?_
   exact⟨hE.cut (.cons rfl (.cons rfl (.cons rfl (.cons rfl Subs.nil)))),hR,H⟩
def NE (x0:Option Addr) (x1:Addr):M (Value⊕(Unit)):=do
 thr (Kt x0 1) fun Xx1=>do
  M.need (Xx1.size=4)
  stG x1 Xx1
  M.pure (.inr ())
theorem KCv (x0:Option Addr) (x1:Addr):J3 Go.Proofs.Tryz.prog 72 #[.pointer x0,.pointer (some x1)] (fun(r:Unit)=>.tuple #[]) (NE x0 x1):=by
 refine Zj [(0,.pointer x0),(1,.pointer (some x1))] Go.Proofs.Tryz.func72 rfl rfl (Nat.le_of_ble_eq_true rfl) (Z8 ⟨rfl,rfl,trivial⟩) (fun w0 w Q R X a hret hthr hE hR H=>?_)
 unfold NE at H
 refine KC ?_
 refine KB (v:=.pointer x0) rfl rfl hE rfl (KF hE rfl) (fun a hE=>?_)
 refine KZ hE hR Ze rfl (Z1 x0 1) H (fun _ _ hR HQ=>hthr _ _ hR HQ) (fun Xx1 a w ea hR H=>?_)
 have hE:=Env.put_some hE rfl ea;clear ea
 obtain⟨qz,H⟩:=H
 obtain⟨u_2,qu_2,H⟩:=H
 refine JA rfl rfl hE hR (Kh hE rfl rfl sz54 qz qu_2) (fun a w hE hR hh=>?_)
 replace H:=M.at hh H;clear hh
 refine KN ?_
 exact hret _ _ _ () _ hE hR (Kn hE rfl RV.nil) rfl H
end Gx
namespace Gx
open Go
def Wj (x0:Int):M (Bool):=do
 let Xx3←M.ite (decide (x0≥97)) (do
  M.pure (decide (x0≤122))
  ) (do
  M.pure false
  )
 let Xx4←M.ite Xx3 (do
  M.pure true
  ) (do
  let Xx5←M.ite (decide (x0≥65)) (do
   M.pure (decide (x0≤90))
   ) (do
   M.pure false
   )
  M.pure Xx5
  )
 let Xx6←M.ite Xx4 (do
  M.pure true
  ) (do
  M.pure (x0==95)
  )
 M.pure Xx6
theorem KDs (x0:Int):ZG Go.Proofs.Tryz.prog 177 #[.int .u8 x0] (fun(r:Bool)=>.bool r) (Wj x0):=
 KU [] [] [.B] [(0,.I .u8 x0)] .o Go.Proofs.Tryz.func177 rfl rfl ⟨rfl,trivial⟩ rfl (by kernel_rfl) (by kernel_rfl)
noncomputable def qp:CalleeS Go.Proofs.Tryz.prog:=mkC KCb KCe [.I .u8] [.B] (fun(t:Int)=>Wj t) (fun(t:Int)=>KDs t)
def Ge (x0:Int):M (Bool):=do
 let Xx3←Wj x0
 let Xx4←M.ite Xx3 (do
  M.pure true
  ) (do
  let Xx5←M.ite (decide (x0≥48)) (do
   M.pure (decide (x0≤57))
   ) (do
   M.pure false
   )
  M.pure Xx5
  )
 M.pure Xx4
theorem KGH (x0:Int):ZG Go.Proofs.Tryz.prog 212 #[.int .u8 x0] (fun(r:Bool)=>.bool r) (Ge x0):=
 KU [qp] [] [.B] [(0,.I .u8 x0)] .o Go.Proofs.Tryz.func212 rfl rfl ⟨rfl,trivial⟩ rfl (by kernel_rfl) (by kernel_rfl)
noncomputable def KGI:CalleeS Go.Proofs.Tryz.prog:=mkC KEl KEu [.I .u8] [.B] (fun(t:Int)=>Ge t) (fun(t:Int)=>KGH t)
def Nu (Cc5:ByteArray) (Cc6:Int) (self1:(Int)→M (Int)):(Int)→M (Int):=fun s=>match s with
 |Xx4=>do
  let Xx10←M.ite (decide (Xx4<(Cc5.size:Int))) (do
   let Xx11←ixS Cc5 Xx4
   let Xx12←Ge Xx11
   M.pure Xx12
   ) (do
   M.pure false
   )
  M.ite Xx10 (do
   self1 (IntKind.wrap .i64 (Xx4+1))
   ) (do
   M.pure (IntKind.wrap .i64 (Xx4 - Cc6))
   )
def Xp (x0:ByteArray) (x1:Int):M (Int):=do
 M.loop (Nu x0 x1) x1
theorem KHO (x0:ByteArray) (x1:Int):ZG Go.Proofs.Tryz.prog 178 #[.string x0,.int .i64 x1] (fun(r:Int)=>.int .i64 r) (Xp x0 x1):=
 KU [KGI] [] [.I .i64] [(0,.S x0),(1,.I .i64 x1)] (.q .o (.q .o (.q (.b (.l [(0,.S),(1,.I .i64)] [(5,.I .i64)] (fun(t:ByteArray×Int)=>Nu t.1 t.2) (fun _=>.o))) .o))) Go.Proofs.Tryz.func178 rfl rfl ⟨rfl,rfl,trivial⟩ rfl (by kernel_rfl) (by kernel_rfl)
noncomputable def KHP:CalleeS Go.Proofs.Tryz.prog:=mkC KFy KF2 [.S,.I .i64] [.I .i64] (fun(t:ByteArray×Int)=>Xp t.1 t.2) (fun(t:ByteArray×Int)=>KHO t.1 t.2)
def XQ (self1:(Int)→M (Int)) (Xx9:Int):M (Int):=do
 self1 (IntKind.wrap .i64 (Xx9+1))
def NF (Cc5:ByteArray) (self1:(Int)→M (Int)):(Int)→M (Int):=fun s=>match s with
 |Xx4=>do
  M.ite (decide (Xx4<(Cc5.size:Int))) (do
   let Xx12←ixS Cc5 Xx4
   M.ite (Xx12==92) (do
    XQ self1 (IntKind.wrap .i64 (Xx4+1))
    ) (do
    M.ite (Xx12==39) (do
     M.pure (IntKind.wrap .i64 (Xx4+1))
     ) (do
     XQ self1 Xx4
     )
    )
   ) (do
   M.pure 0
   )
def Gf (x0:ByteArray):M (Int):=do
 M.loop (NF x0) 1
theorem KGJ (x0:ByteArray):ZG Go.Proofs.Tryz.prog 179 #[.string x0] (fun(r:Int)=>.int .i64 r) (Gf x0):=
 KU [] [] [.I .i64] [(0,.S x0)] (.q .o (.q (.q .o (.b (.l [(0,.S)] [(3,.I .i64)] (fun(t:ByteArray)=>NF t) (fun self1=>.q .o (.q .o (.j [(0,.S),(3,.I .i64)] (fun(t:ByteArray×Int)=>XQ self1 t.2) .o)))))) .o)) Go.Proofs.Tryz.func179 rfl rfl ⟨rfl,trivial⟩ rfl (by kernel_rfl) (by kernel_rfl)
noncomputable def KGK:CalleeS Go.Proofs.Tryz.prog:=mkC KEj KEs [.S] [.I .i64] (fun(t:ByteArray)=>Gf t) (fun(t:ByteArray)=>KGJ t)
def YS (x0:ByteArray):M (Array Value×Int×Int):=do
 let Xx2←mkB KH (#[.int .i64 0,.int .i64 0,.string ByteArray.empty,.slice none 0 0]:Array Value)
 let Xx4←X3 Go.Proofs.Tryz.prog XL #[.string x0] (fun r:Array Value×Int×Bool=>.tuple #[.agg r.1,.int .i64 r.2.1,.bool r.2.2])
 let Xx5←mkB KH (#[.int .i64 0,.int .i64 0,.string ByteArray.empty,.slice none 0 0]:Array Value)
 M.need (Xx4.1.size=4)
 stG Xx5 Xx4.1
 M.ite (!Xx4.2.2) (do
  M.need ((#[.int .i64 0,.int .i64 0,.string ByteArray.empty,.slice none 0 0]:Array Value).size=4)
  stG Xx2 (#[.int .i64 0,.int .i64 0,.string ByteArray.empty,.slice none 0 0]:Array Value)
  let Rr11←ldG 4 Xx2
  M.pure (Rr11,Xx4.2.1,22)
  ) (do
  let Xx13←ldG 4 Xx5
  let Xx14←YR Xx13
  M.ite (Xx14 !=0) (do
   M.need ((#[.int .i64 0,.int .i64 0,.string ByteArray.empty,.slice none 0 0]:Array Value).size=4)
   stG Xx2 (#[.int .i64 0,.int .i64 0,.string ByteArray.empty,.slice none 0 0]:Array Value)
   let Rr17←ldG 4 Xx2
   M.pure (Rr17,0,20)
   ) (do
   let Xx19←ldG 4 Xx5
   M.need (Xx19.size=4)
   stG Xx2 Xx19
   let Rr21←ldG 4 Xx2
   M.pure (Rr21,0,0)
   )
  )
theorem KFB (x0:ByteArray):ZG Go.Proofs.Tryz.prog 180 #[.string x0] (fun(r:Array Value×Int×Int)=>.tuple #[.agg r.1,.int .i64 r.2.1,.int .i64 r.2.2]) (YS x0):=
 KU [KAg,mkC XL KE0 [.S] [.G,.I .i64,.B] (fun(t:ByteArray)=>X3 Go.Proofs.Tryz.prog XL #[.string t] (fun r:Array Value×Int×Bool=>.tuple #[.agg r.1,.int .i64 r.2.1,.bool r.2.2])) (fun(t:ByteArray)=>VG)] [] [.G,.I .i64,.I .i64] [(0,.S x0)] .o Go.Proofs.Tryz.func180 rfl rfl ⟨rfl,trivial⟩ rfl (by kernel_rfl) (by kernel_rfl)
noncomputable def KFC:CalleeS Go.Proofs.Tryz.prog:=mkC KDi KDo [.S] [.G,.I .i64,.I .i64] (fun(t:ByteArray)=>YS t) (fun(t:ByteArray)=>KFB t)
def Gg (Cc42:ByteArray) (Cc43:Addr) (Xx41:Int):M (Array Value×Int):=do
 let Xx45←slS Cc42 0 Xx41
 let Xx46←YS Xx45
 let Xx47←mkB KH (#[.int .i64 0,.int .i64 0,.string ByteArray.empty,.slice none 0 0]:Array Value)
 M.need (Xx46.1.size=4)
 stG Xx47 Xx46.1
 let Xx51←M.ite (Xx46.2.2 !=0) (do
  M.pure true
  ) (do
  let Xx52←ldI .i64 ((Xx47).add 0)
  M.pure (Xx52 !=1)
  )
 M.ite Xx51 (do
  M.need ((#[.int .i64 0,.string ByteArray.empty,.int .i64 0,.int .i64 0]:Array Value).size=4)
  stG Cc43 (#[.int .i64 0,.string ByteArray.empty,.int .i64 0,.int .i64 0]:Array Value)
  let Rr55←ldG 4 Cc43
  M.pure (Rr55,0)
  ) (do
  let Xx57←ldI .i64 ((Xx47).add 1)
  M.need ((#[.int .i64 2,.string ByteArray.empty,.int .i64 Xx57,.int .i64 0]:Array Value).size=4)
  stG Cc43 (#[.int .i64 2,.string ByteArray.empty,.int .i64 Xx57,.int .i64 0]:Array Value)
  let Rr59←ldG 4 Cc43
  M.pure (Rr59,Xx41)
  )
def KCw (x0:ByteArray):M (Array Value×Int):=do
 let Xx2←mkB KX (#[.int .i64 0,.string ByteArray.empty,.int .i64 0,.int .i64 0]:Array Value)
 let Xx5←ixS x0 0
 let Xx7←XZ Xx5
 M.ite Xx7 (do
  let Xx9←slS x0 0 1
  M.need ((#[.int .i64 4,.string Xx9,.int .i64 0,.int .i64 0]:Array Value).size=4)
  stG Xx2 (#[.int .i64 4,.string Xx9,.int .i64 0,.int .i64 0]:Array Value)
  let Rr11←ldG 4 Xx2
  M.pure (Rr11,1)
  ) (do
  let Xx13←Wj Xx5
  M.ite Xx13 (do
   let Xx15←Xp x0 0
   let Xx17←slS x0 0 Xx15
   M.need ((#[.int .i64 1,.string Xx17,.int .i64 0,.int .i64 0]:Array Value).size=4)
   stG Xx2 (#[.int .i64 1,.string Xx17,.int .i64 0,.int .i64 0]:Array Value)
   let Rr19←ldG 4 Xx2
   M.pure (Rr19,Xx15)
   ) (do
   M.ite (Xx5==39) (do
    let Xx22←Gf x0
    let Xx24←slS x0 0 Xx22
    let Xx25←YS Xx24
    let Xx26←mkB KH (#[.int .i64 0,.int .i64 0,.string ByteArray.empty,.slice none 0 0]:Array Value)
    M.need (Xx25.1.size=4)
    stG Xx26 Xx25.1
    let Xx30←M.ite (Xx25.2.2 !=0) (do
     M.pure true
     ) (do
     let Xx31←ldI .i64 ((Xx26).add 0)
     M.pure (Xx31 !=2)
     )
    M.ite Xx30 (do
     M.need ((#[.int .i64 0,.string ByteArray.empty,.int .i64 0,.int .i64 0]:Array Value).size=4)
     stG Xx2 (#[.int .i64 0,.string ByteArray.empty,.int .i64 0,.int .i64 0]:Array Value)
     let Rr34←ldG 4 Xx2
     M.pure (Rr34,0)
     ) (do
     let Xx36←ldS ((Xx26).add 2)
     M.need ((#[.int .i64 3,.string Xx36,.int .i64 0,.int .i64 0]:Array Value).size=4)
     stG Xx2 (#[.int .i64 3,.string Xx36,.int .i64 0,.int .i64 0]:Array Value)
     let Rr38←ldG 4 Xx2
     M.pure (Rr38,Xx22)
     )
    ) (do
    let Xx40←Xp x0 0
    let Xx61←ixS x0 0
    M.ite (Xx61==45) (do
     let Xx62←Xp x0 1
     Gg x0 Xx2 (IntKind.wrap .i64 (1+Xx62))
     ) (do
     Gg x0 Xx2 Xx40
     )
    )
   )
  )
theorem KGL (x0:ByteArray):ZG Go.Proofs.Tryz.prog 126 #[.string x0] (fun(r:Array Value×Int)=>.tuple #[.agg r.1,.int .i64 r.2]) (KCw x0):=
 KU [qp,KHP,KGK,KFC,KBg] [] [.G,.I .i64] [(0,.S x0)] (.q .o (.q .o (.q .o (.q .o (.j [(0,.S),(2,.A),(10,.I .i64)] (fun(t:ByteArray×Addr×Int)=>Gg t.1 t.2.1 t.2.2) .o))))) Go.Proofs.Tryz.func126 rfl rfl ⟨rfl,trivial⟩ rfl (by kernel_rfl) (by kernel_rfl)
noncomputable def KN2:Array Oper:=KJ3 Go.Proofs.Tryz.f93 3
def KN3:List (List Nat):=[[],[0],[1],[2],[],[4],[5],[6],[3,7],[8],[9],[10],[10],[],[13,11,9,0,1,2,3,4,5,6,7,8,9,10,11,13],[12,14,0,1,2,3,4,5,6,7,8,9,10,11,12,13,14]]
def KN4:List (List Nat):=[[],[0],[1],[2],[],[4],[5],[6],[3,7],[8],[9],[10],[10],[],[11,13],[12]]
def KN5:List (List Nat):=[[],[0],[0,1],[0,1,2],[],[4],[4,5],[4,5,6],[0,1,2,3,4,5,6,7],[0,1,2,3,4,5,6,7,8],[0,1,2,3,4,5,6,7,8,9],[0,1,2,3,4,5,6,7,8,9,10],[0,1,2,3,4,5,6,7,8,9,10],[],[0,1,2,3,4,5,6,7,8,9,10,11,13],[0,1,2,3,4,5,6,7,8,9,10,11,12,13,14]]
theorem KQp:GS Go.Proofs.Tryz.f93 3 KN3 KN4 KN5=true:=by kernel_rfl
theorem KO5:KFm 16 KN3 KN4 KN5 [0,1,2,4,0,16,32,64,136,256,512,1024,1024,0,12287,32767] [0,1,2,4,0,16,32,64,136,256,512,1024,1024,0,10240,4096] [0,1,3,7,0,16,48,112,255,511,1023,2047,2047,0,12287,32767]=true:=by kernel_rfl
def UZ (x0:Option Addr):M (Array Value×Bool):=do
 let Xx2←mkB KX (#[.int .i64 0,.string ByteArray.empty,.int .i64 0,.int .i64 0]:Array Value)
 let Xx5←Ud x0
 M.ite (!Xx5) (do
  M.need ((#[.int .i64 0,.string ByteArray.empty,.int .i64 0,.int .i64 0]:Array Value).size=4)
  stG Xx2 (#[.int .i64 0,.string ByteArray.empty,.int .i64 0,.int .i64 0]:Array Value)
  let Rr8←ldG 4 Xx2
  M.pure (Rr8,false)
  ) (do
  let Xx10←nilP x0
  let Xx11←nilP x0
  let Xx12←ldS ((Xx10).add 0)
  let Xx13←ldI .i64 ((Xx11).add 1)
  let Xx14←slS Xx12 Xx13 Xx12.size
  let y_19←do
   M.both (do
    let Xx15←KCw Xx14
    chk (fun h:Heap=>(KM h ((Xx10).add 0)=some (.string Xx12))∧(KM h ((Xx11).add 1)=some (.int .i64 Xx13)))
    let Xx16←mkB KX (#[.int .i64 0,.string ByteArray.empty,.int .i64 0,.int .i64 0]:Array Value)
    chk (fun h:Heap=>(KM h ((Xx10).add 0)=some (.string Xx12))∧(KM h ((Xx11).add 1)=some (.int .i64 Xx13)))
    M.pure (Xx16,Xx15,Xx15,Xx15.1,Xx15.2)
    ) (do
    let Xx17←mkB KX (#[.int .i64 0,.string ByteArray.empty,.int .i64 0,.int .i64 0]:Array Value)
    chk (fun h:Heap=>(KM h ((Xx10).add 0)=some (.string Xx12))∧(KM h ((Xx11).add 1)=some (.int .i64 Xx13)))
    let Xx18←KCw Xx14
    M.pure (Xx17,Xx18,Xx18,Xx18.1,Xx18.2)
    )
  M.need (y_19.2.2.2.1.size=4)
  stG y_19.1 y_19.2.2.2.1
  let Xx22←nilP x0
  let Xx23←ldI .i64 ((Xx22).add 1)
  stV ((y_19.1).add 3) (.int .i64 Xx23)
  let Xx27←M.ite (y_19.2.2.2.2==0) (do
   M.pure true
   ) (do
   let Xx28←ldG 4 y_19.1
   let Xx29←Np Xx28
   M.pure (Xx29 !=0)
   )
  M.ite Xx27 (do
   M.need ((#[.int .i64 0,.string ByteArray.empty,.int .i64 0,.int .i64 0]:Array Value).size=4)
   stG Xx2 (#[.int .i64 0,.string ByteArray.empty,.int .i64 0,.int .i64 0]:Array Value)
   let Rr32←ldG 4 Xx2
   M.pure (Rr32,false)
   ) (do
   let Xx34←nilP x0
   let Xx35←ldI .i64 ((Xx34).add 1)
   let Xx36←nilP x0
   stV ((Xx36).add 1) (.int .i64 (IntKind.wrap .i64 (Xx35+y_19.2.2.2.2)))
   let Xx39←ldG 4 y_19.1
   M.need (Xx39.size=4)
   stG Xx2 Xx39
   let Rr41←ldG 4 Xx2
   M.pure (Rr41,true)
   )
  )
theorem KAh (x0:Option Addr):ZG Go.Proofs.Tryz.prog 93 #[.pointer x0] (fun(r:Array Value×Bool)=>.tuple #[.agg r.1,.bool r.2]) (UZ x0):=by
 refine KHy [(0,.pointer x0)] Go.Proofs.Tryz.func93 rfl rfl (Nat.le_of_ble_eq_true rfl) (Z8 ⟨rfl,trivial⟩) (fun w0 w Q R a hret hE hR H=>?_)
 unfold UZ at H
 refine KR (fun K hK_1=>?_)
 refine KC ?_
 obtain⟨Xx2,qXx2,H⟩:=H
 refine JM (v:=.pointer (some Xx2)) rfl rfl hE rfl hR (Z0 zr29 qXx2) (fun a w hE hR hh=>?_)
 replace H:=M.at hh H;clear hh
 refine KB (v:=.bool false) rfl rfl hE rfl (KQ hE rfl) (fun a hE=>?_)
 refine KN ?_
 refine hK_1 _ _ ?_
 refine KR (fun K hK_3=>?_)
 refine KR (fun K hK_4=>?_)
 refine KC ?_
 refine KB (v:=.pointer x0) rfl rfl hE rfl (KF hE rfl) (fun a hE=>?_)
 refine Zd hE hR Yk rfl (XG x0) (M.unbind H) (fun Xx5 a w ea hR H=>?_)
 have hE:=Env.put_some hE rfl ea;clear ea
 refine KB (v:=.bool (!Xx5)) rfl rfl hE rfl (r_un hE rfl KJA) (fun a hE=>?_)
 refine KN ?_
 refine hK_4 _ _ ?_
 refine ZA (!Xx5) hE rfl (fun hb=>?_) (fun hb=>?_)
 ·replace H:=M.ite_t hb H
  refine KR (fun K hK_6=>?_)
  refine KC ?_
  refine KB (v:=.agg (#[.int .i64 0,.string ByteArray.empty,.int .i64 0,.int .i64 0]:Array Value)) rfl rfl hE rfl (Gr bd29) (fun a hE=>?_)
  obtain⟨qz,H⟩:=H
  obtain⟨u_7,qu_7,H⟩:=H
  refine JA rfl rfl hE hR (Kh hE rfl rfl sz29 qz qu_7) (fun a w hE hR hh=>?_)
  replace H:=M.at hh H;clear hh
  refine KB (v:=.bool false) rfl rfl hE rfl (KQ hE rfl) (fun a hE=>?_)
  refine KN ?_
  refine hK_6 _ _ ?_
  refine Uv ?_
  obtain⟨Rr8,qRr8,H⟩:=H
  exact hret _ _ _ (Rr8,false) _ hE hR (Kn hE rfl (RV.cellG rfl ag29 qRr8 (RV.tmp rfl RV.nil))) rfl H
 ·replace H:=M.ite_f hb H
  refine Zq ?_
  refine hK_3 _ _ ?_
  refine KR (fun K hK_9=>?_)
  obtain⟨Xx10,qXx10,H⟩:=H
  obtain⟨Xx11,qXx11,H⟩:=H
  obtain⟨Xx12,qXx12,H⟩:=H
  obtain⟨Xx13,qXx13,H⟩:=H
  obtain⟨Xx14,qXx14,H⟩:=H
  refine NP (rops:=KN2) (by kernel_rfl) ?_
  have hT:Tab KN2 _ _ _:=VT KQp rfl (by kernel_rfl)
  have hM:=TabM.of KO5
  refine Jv (m:=16) (fun w:World=>(fun h:Heap=>(KM h ((Xx10).add 0)=some (.string Xx12))∧(KM h ((Xx11).add 1)=some (.int .i64 Xx13))) w.heap) [8,9,10,11,12,14,15] (unb 16 0) mo hR (by kernel_rfl) (by kernel_rfl) (fun w' e=>by rw [e];exact⟨qXx12,qXx13⟩) (fun w hh hR hs=>?_)
  replace H:=M.at hh H;clear hh
  refine KG (i:=0) (v:=.pointer x0) (unb 16 1) rfl rfl hT (anyM hM (by kernel_rfl)) hE rfl (KA rfl) (fun w=>KF hE rfl) (fun a hE=>?_)
  refine KG (i:=1) (v:=.pointer (some Xx10)) (unb 16 3) rfl rfl hT (anyM hM (by kernel_rfl)) hE rfl (KA rfl) (fun w=>KO hE (Zu rfl (congrArg Value.pointer qXx10))) (fun a hE=>?_)
  refine KG (i:=2) (v:=.pointer (some ((Xx10).add 0))) (unb 16 7) rfl rfl hT (anyM hM (by kernel_rfl)) hE rfl (KA rfl) (fun w=>KD hE rfl KQm) (fun a hE=>?_)
  refine KG (i:=4) (v:=.pointer x0) (unb 16 23) rfl rfl hT (anyM hM (by kernel_rfl)) hE rfl (KA rfl) (fun w=>KF hE rfl) (fun a hE=>?_)
  refine KG (i:=5) (v:=.pointer (some Xx11)) (unb 16 55) rfl rfl hT (anyM hM (by kernel_rfl)) hE rfl (KA rfl) (fun w=>KO hE (Zu rfl (congrArg Value.pointer qXx11))) (fun a hE=>?_)
  refine KG (i:=6) (v:=.pointer (some ((Xx11).add 1))) (unb 16 119) rfl rfl hT (anyM hM (by kernel_rfl)) hE rfl (KA rfl) (fun w=>KD hE rfl KF5) (fun a hE=>?_)
  refine Zs (i:=3) (v:=.string Xx12) (unb 16 127) rfl rfl hT (YH hM (by kernel_rfl)) hE rfl (KA rfl) hs (fun w s=>KS hE rfl sc9 s.1) (fun a hE=>?_)
  refine Zs (i:=7) (v:=.int .i64 Xx13) (unb 16 255) rfl rfl hT (YH hM (by kernel_rfl)) hE rfl (KA rfl) hs (fun w s=>KS hE rfl sc3 s.2) (fun a hE=>?_)
  refine KG (i:=8) (v:=.string Xx14) (unb 16 511) rfl rfl hT (anyM hM (by kernel_rfl)) hE rfl (KA rfl) (fun w=>KD1 hE rfl rfl un9 qXx14) (fun a hE=>?_)
  refine KH3 (n:=(⟨45,[]⟩:Frm)) (w0:=w0) (fun y_19:Addr×(Array Value×Int)×(Array Value×Int)×Array Value×Int=>[(0,.pointer x0),(2,.pointer (some Xx2)),(3,.bool false),(6,.pointer x0),(7,.bool Xx5),(8,.bool (!Xx5)),(11,.pointer x0),(12,.pointer (some Xx10)),(13,.pointer (some ((Xx10).add 0))),(15,.pointer x0),(16,.pointer (some Xx11)),(17,.pointer (some ((Xx11).add 1))),(14,.string Xx12),(18,.int .i64 Xx13),(19,.string Xx14),(4,.pointer (some y_19.1)),(10,.tuple #[.agg y_19.2.1.1,.int .i64 y_19.2.1.2]),(20,.tuple #[.agg y_19.2.2.1.1,.int .i64 y_19.2.2.1.2]),(21,.agg y_19.2.2.2.1),(22,.int .i64 y_19.2.2.2.2)]) 2 (unb 16 16383) (M.unbind H) ?_ ?_
  ·intro y_19 a w hE hR H
   obtain⟨qz,H⟩:=H
   obtain⟨u_20,qu_20,H⟩:=H
   refine YD (i:=14) (unb 16 32767) rfl rfl hT (oneM hM (by kernel_rfl)) rfl hE hR (KA rfl) (Kh hE rfl rfl sz29 qz qu_20)  (fun a w hE hR hh=>?_)
   replace H:=M.at hh H;clear hh
   refine KG (i:=15) (v:=.int .i64 y_19.2.2.2.2) (unb 16 65535) rfl rfl hT (anyM hM (by kernel_rfl)) hE rfl (KA rfl) (fun w=>KQ hE rfl) (fun a hE=>?_)
   refine VD hT (KA0 hM (by kernel_rfl)) ?_
   refine hK_9 _ _ ?_
   refine KR (fun K hK_21=>?_)
   refine KC ?_
   refine KB (v:=.pointer x0) rfl rfl hE rfl (KF hE rfl) (fun a hE=>?_)
   obtain⟨Xx22,qXx22,H⟩:=H
   refine KB (v:=.pointer (some Xx22)) rfl rfl hE rfl (KO hE (Zu rfl (congrArg Value.pointer qXx22))) (fun a hE=>?_)
   refine KB (v:=.pointer (some ((Xx22).add 1))) rfl rfl hE rfl (KD hE rfl KF5) (fun a hE=>?_)
   obtain⟨Xx23,qXx23,H⟩:=H
   refine KB (v:=.int .i64 Xx23) rfl rfl hE rfl (KS hE rfl sc3 qXx23) (fun a hE=>?_)
   refine KB (v:=.pointer (some ((y_19.1).add 3))) rfl rfl hE rfl (KD hE rfl KNx) (fun a hE=>?_)
   obtain⟨u_24,qu_24,H⟩:=H
   refine JA rfl rfl hE hR (ZB hE rfl rfl sz3 qu_24) (fun a w hE hR hh=>?_)
   replace H:=M.at hh H;clear hh
   refine KN ?_
   refine hK_21 _ _ ?_
   refine KR (fun K hK_25=>?_)
   refine KR (fun K hK_26=>?_)
   refine KC ?_
   refine KB (v:=.int .i64 y_19.2.2.2.2) rfl rfl hE rfl (KF hE rfl) (fun a hE=>?_)
   refine KB (v:=.bool (y_19.2.2.2.2==0)) rfl rfl hE rfl (Kk hE rfl rfl Ki W9) (fun a hE=>?_)
   refine KB (v:=.bool (y_19.2.2.2.2==0)) rfl rfl hE rfl (KF hE rfl) (fun a hE=>?_)
   refine KAz (n:=(⟨45,[]⟩:Frm)) (w0:=w0) 4 (fun Xx27:Bool=>[(0,.pointer x0),(2,.pointer (some Xx2)),(4,.pointer (some y_19.1)),(5,.int .i64 y_19.2.2.2.2),(34,.bool Xx27)]) (M.unbind H) (fun Kr hKr H=>?_) ?_
   ·rcases Uj (y_19.2.2.2.2==0)with hb|hb
    ·replace H:=M.ite_t hb H
     have hE:=hE.reb 30 (y_19.2.2.2.2==0) true hb rfl
     refine Uw rfl hE rfl rfl rfl (fun a ea=>?_)
     have hE:=Env.put_some hE rfl ea;clear ea
     refine Uw rfl hE rfl rfl rfl (fun a ea=>?_)
     have hE:=Env.put_some hE rfl ea;clear ea
     refine Uw rfl hE rfl rfl rfl (fun a ea=>?_)
     have hE:=Env.put_some hE rfl ea;clear ea
     refine KB rfl rfl hE rfl (Jj hE rfl rfl) (fun a hE=>?_)
     refine KN ?_
     exact hKr _ _ _ (hE.cut (.cons rfl (.cons rfl (.cons rfl (.cons rfl (.cons rfl Subs.nil)))))) hR H
    ·replace H:=M.ite_f hb H
     have hE:=hE.reb 30 (y_19.2.2.2.2==0) false hb rfl
     refine t_on rfl hE rfl rfl rfl ?_
     obtain⟨Xx28,qXx28,H⟩:=H
     refine KB (v:=.agg Xx28) rfl rfl hE rfl (Ui hE rfl ag29 qXx28) (fun a hE=>?_)
     refine t_on rfl hE rfl rfl rfl ?_
     refine Zd hE hR KF1 rfl (KHM Xx28) (M.unbind H) (fun Xx29 a w ea hR H=>?_)
     have hE:=Env.put_some hE rfl ea;clear ea
     refine t_on rfl hE rfl rfl rfl ?_
     refine KB (v:=.bool (Xx29 !=0)) rfl rfl hE rfl (Kk hE rfl rfl Ki KDZ) (fun a hE=>?_)
     refine KB rfl rfl hE rfl (Z3 hE rfl rfl) (fun a hE=>?_)
     refine KN ?_
     exact hKr _ _ _ (hE.cut (.cons rfl (.cons rfl (.cons rfl (.cons rfl (.cons rfl Subs.nil)))))) hR H
   ·intro Xx27 a w hE hR H
    refine KN ?_
    refine hK_26 _ _ ?_
    refine ZA Xx27 hE rfl (fun hb=>?_) (fun hb=>?_)
    ·replace H:=M.ite_t hb H
     refine KR (fun K hK_30=>?_)
     refine KC ?_
     refine KB (v:=.agg (#[.int .i64 0,.string ByteArray.empty,.int .i64 0,.int .i64 0]:Array Value)) rfl rfl hE rfl (Gr bd29) (fun a hE=>?_)
     obtain⟨qz,H⟩:=H
     obtain⟨u_31,qu_31,H⟩:=H
     refine JA rfl rfl hE hR (Kh hE rfl rfl sz29 qz qu_31) (fun a w hE hR hh=>?_)
     replace H:=M.at hh H;clear hh
     refine KB (v:=.bool false) rfl rfl hE rfl (KQ hE rfl) (fun a hE=>?_)
     refine KN ?_
     refine hK_30 _ _ ?_
     refine Uv ?_
     obtain⟨Rr32,qRr32,H⟩:=H
     exact hret _ _ _ (Rr32,false) _ hE hR (Kn hE rfl (RV.cellG rfl ag29 qRr32 (RV.tmp rfl RV.nil))) rfl H
    ·replace H:=M.ite_f hb H
     refine Zq ?_
     refine hK_25 _ _ ?_
     refine KR (fun K hK_33=>?_)
     refine KC ?_
     refine KB (v:=.pointer x0) rfl rfl hE rfl (KF hE rfl) (fun a hE=>?_)
     obtain⟨Xx34,qXx34,H⟩:=H
     refine KB (v:=.pointer (some Xx34)) rfl rfl hE rfl (KO hE (Zu rfl (congrArg Value.pointer qXx34))) (fun a hE=>?_)
     refine KB (v:=.pointer (some ((Xx34).add 1))) rfl rfl hE rfl (KD hE rfl KF5) (fun a hE=>?_)
     obtain⟨Xx35,qXx35,H⟩:=H
     refine KB (v:=.int .i64 Xx35) rfl rfl hE rfl (KS hE rfl sc3 qXx35) (fun a hE=>?_)
     refine KB (v:=.int .i64 y_19.2.2.2.2) rfl rfl hE rfl (KF hE rfl) (fun a hE=>?_)
     refine KB (v:=.int .i64 (IntKind.wrap .i64 (Xx35+y_19.2.2.2.2))) rfl rfl hE rfl (Kk hE rfl rfl Ki Vp) (fun a hE=>?_)
     obtain⟨Xx36,qXx36,H⟩:=H
     refine KB (v:=.pointer (some Xx36)) rfl rfl hE rfl (KO hE (Zu rfl (congrArg Value.pointer qXx36))) (fun a hE=>?_)
     refine KB (v:=.pointer (some ((Xx36).add 1))) rfl rfl hE rfl (KD hE rfl KF5) (fun a hE=>?_)
     obtain⟨u_37,qu_37,H⟩:=H
     refine JA rfl rfl hE hR (ZB hE rfl rfl sz3 qu_37) (fun a w hE hR hh=>?_)
     replace H:=M.at hh H;clear hh
     refine KN ?_
     refine hK_33 _ _ ?_
     refine KR (fun K hK_38=>?_)
     refine KC ?_
     obtain⟨Xx39,qXx39,H⟩:=H
     refine KB (v:=.agg Xx39) rfl rfl hE rfl (Ui hE rfl ag29 qXx39) (fun a hE=>?_)
     obtain⟨qz,H⟩:=H
     obtain⟨u_40,qu_40,H⟩:=H
     refine JA rfl rfl hE hR (Kh hE rfl rfl sz29 qz qu_40) (fun a w hE hR hh=>?_)
     replace H:=M.at hh H;clear hh
     refine KB (v:=.bool true) rfl rfl hE rfl (KQ hE rfl) (fun a hE=>?_)
     refine KN ?_
     refine hK_38 _ _ ?_
     refine Uv ?_
     obtain⟨Rr41,qRr41,H⟩:=H
     exact hret _ _ _ (Rr41,true) _ hE hR (Kn hE rfl (RV.cellG rfl ag29 qRr41 (RV.tmp rfl RV.nil))) rfl H
  ·intro hj H
   refine zu [9,13] hT (by kernel_rfl) rfl (fun i hi=>?_)
   simp only [List.mem_cons,List.not_mem_nil,or_false]at hi
   rcases hi with rfl|rfl
   ·replace H:=H.1
    refine KP1 (S:=fun w:World=>(fun h:Heap=>(KM h ((Xx10).add 0)=some (.string Xx12))∧(KM h ((Xx11).add 1)=some (.int .i64 Xx13))) w.heap) (i:=9) (unb 16 1023) rfl rfl rfl (by kernel_rfl) hE hR (KA rfl) KD7 rfl (KGL Xx14) (M.unbind H) (fun r h H w' e=>by obtain⟨_,sA,H⟩:=H;rw [e];exact sA) (fun Xx15 a w ea hR H hs=>?_)
    obtain⟨_,sA,H⟩:=H;clear sA
    have hE:=Env.put_some hE rfl ea;clear ea
    refine KG (i:=10) (v:=.tuple #[.agg Xx15.1,.int .i64 Xx15.2]) (unb 16 2047) rfl rfl hT (anyM hM (by kernel_rfl)) hE rfl (KA rfl) (fun w=>KF hE rfl) (fun a hE=>?_)
    refine KG (i:=11) (v:=.agg Xx15.1) (unb 16 4095) rfl rfl hT (anyM hM (by kernel_rfl)) hE rfl (KA rfl) (fun w=>JQ hE rfl rfl) (fun a hE=>?_)
    refine KG (i:=12) (v:=.int .i64 Xx15.2) (unb 16 8191) rfl rfl hT (anyM hM (by kernel_rfl)) hE rfl (KA rfl) (fun w=>JQ hE rfl rfl) (fun a hE=>?_)
    obtain⟨Xx16,qXx16,H⟩:=H
    obtain⟨_,sA,H⟩:=H
    refine KCQ (i:=13) (v:=.pointer (some Xx16)) (unb 16 16383) rfl rfl hT (oneM hM (by kernel_rfl)) rfl hE hR rfl (KA rfl) (Z0 zr29 qXx16)  (fun w' e=>by rw [e];exact sA) (fun a w hE hR hh hs=>?_)
    replace H:=M.at hh H;clear hh
    exact hj _ _ _ (hE.cut (.cons rfl (.cons rfl (.cons rfl (.cons rfl (.cons rfl (.cons rfl (.cons rfl (.cons rfl (.cons rfl (.cons rfl (.cons rfl (.cons rfl (.cons rfl (.cons rfl (.cons rfl (.cons rfl (.cons rfl (.cons rfl (.cons rfl (.cons rfl Subs.nil))))))))))))))))))))) hR H
   ·replace H:=H.2
    obtain⟨Xx17,qXx17,H⟩:=H
    obtain⟨_,sA,H⟩:=H
    refine KJ5 (S:=fun w:World=>(fun h:Heap=>(KM h ((Xx10).add 0)=some (.string Xx12))∧(KM h ((Xx11).add 1)=some (.int .i64 Xx13))) w.heap) (i:=13) (v:=.pointer (some Xx17)) (unb 16 8703) rfl rfl (by kernel_rfl) hE hR rfl (KA rfl) (Z0 zr29 qXx17)  (fun w' e=>by rw [e];exact sA) (fun a w hE hR hh hs=>?_)
    replace H:=M.at hh H;clear hh
    refine KJ4 (i:=9) (unb 16 9215) rfl rfl rfl hT (oneM hM (by kernel_rfl)) rfl hE hR (KA rfl) KD7 rfl (KGL Xx14) (M.unbind H) (fun Xx18 a w ea hR H=>?_)
    have hE:=Env.put_some hE rfl ea;clear ea
    refine KG (i:=10) (v:=.tuple #[.agg Xx18.1,.int .i64 Xx18.2]) (unb 16 10239) rfl rfl hT (anyM hM (by kernel_rfl)) hE rfl (KA rfl) (fun w=>KF hE rfl) (fun a hE=>?_)
    refine KG (i:=11) (v:=.agg Xx18.1) (unb 16 12287) rfl rfl hT (anyM hM (by kernel_rfl)) hE rfl (KA rfl) (fun w=>JQ hE rfl rfl) (fun a hE=>?_)
    refine KG (i:=12) (v:=.int .i64 Xx18.2) (unb 16 16383) rfl rfl hT (anyM hM (by kernel_rfl)) hE rfl (KA rfl) (fun w=>JQ hE rfl rfl) (fun a hE=>?_)
    exact hj _ _ _ (hE.cut (.cons rfl (.cons rfl (.cons rfl (.cons rfl (.cons rfl (.cons rfl (.cons rfl (.cons rfl (.cons rfl (.cons rfl (.cons rfl (.cons rfl (.cons rfl (.cons rfl (.cons rfl (.cons rfl (.cons rfl (.cons rfl (.cons rfl (.cons rfl Subs.nil))))))))))))))))))))) hR H
noncomputable def KAi:CalleeS Go.Proofs.Tryz.prog:=mkC q8 zH [.P] [.G,.B] (fun(t:Option Addr)=>UZ t) (fun(t:Option Addr)=>KAh t)
def WP (Cc1:Value) (Cc2:Addr) (self1:(Unit)→M (Unit)):(Unit)→M (Unit):=fun s=>match s with
 |()=>do
  let Xx5←ldP Cc2
  let Xx6←UZ Xx5
  let Xx7←mkB KX (#[.int .i64 0,.string ByteArray.empty,.int .i64 0,.int .i64 0]:Array Value)
  M.need (Xx6.1.size=4)
  stG Xx7 Xx6.1
  let Xx10←M.ite (!Xx6.2) (do
   M.pure true
   ) (do
   let Xx11←ldG 4 Xx7
   let Xx12←X4 Go.Proofs.Tryz.prog (fun r:Bool=>.bool r) Cc1 [.agg Xx11]
   M.pure (!Xx12)
   )
  M.ite Xx10 (do
   M.pure ()
   ) (do
   self1 ()
   )
def Gh (x0:Value) (x1:Addr):M (Unit):=do
 M.loop (WP x0 x1) ()
theorem zd (x0:Value) (x1:Addr):ZG Go.Proofs.Tryz.prog 92 #[x0,.pointer (some x1)] (fun(r:Unit)=>.tuple #[]) (Gh x0 x1):=
 KU [KAi] [6] [] [(0,.V x0),(1,.A x1)] (.b (.l [(0,.V),(1,.A)] [] (fun(t:Value×Addr)=>WP t.1 t.2) (fun _=>.o))) Go.Proofs.Tryz.func92 rfl rfl ⟨rfl,rfl,trivial⟩ rfl (by kernel_rfl) (by kernel_rfl)
def Wx (Cc5:Sl) (Cc6:Int) (self1:(Int)→M (Bool)):(Int)→M (Bool):=fun s=>match s with
 |Xx4=>do
  M.ite (decide (Xx4<(Cc5.len:Int))) (do
   let Xx12←ixL Cc5 Xx4 4
   let Xx13←ldG 4 Xx12
   let Xx14←X3 Go.Proofs.Tryz.prog Vk #[.agg Xx13,.int .i64 (IntKind.wrap .i64 (Cc6+1))] (fun r:Bool=>.bool r)
   M.ite (!Xx14) (do
    M.pure false
    ) (do
    self1 (IntKind.wrap .i64 (Xx4+1))
    )
   ) (do
   M.pure true
   )
def Xq (x0:Sl) (x1:Int):M (Bool):=do
 M.loop (Wx x0 x1) 0
theorem KBK (x0:Sl) (x1:Int):ZG Go.Proofs.Tryz.prog 109 #[(x0:Sl).v,.int .i64 x1] (fun(r:Bool)=>.bool r) (Xq x0 x1):=
 KU [mkC Vk GE [.G,.I .i64] [.B] (fun(t:Array Value×Int)=>X3 Go.Proofs.Tryz.prog Vk #[.agg t.1,.int .i64 t.2] (fun r:Bool=>.bool r)) (fun(t:Array Value×Int)=>VG)] [] [.B] [(0,.L x0),(1,.I .i64 x1)] (.q .o (.q (.q .o (.b (.l [(0,.L),(1,.I .i64)] [(5,.I .i64)] (fun(t:Sl×Int)=>Wx t.1 t.2) (fun _=>.o)))) .o)) Go.Proofs.Tryz.func109 rfl rfl ⟨rfl,rfl,trivial⟩ rfl (by kernel_rfl) (by kernel_rfl)
def Jb (self1:(ByteArray×Int)→M (ByteArray)) (Cc19:Int) (Xx14:ByteArray):M (ByteArray):=do
 self1 (Xx14,IntKind.wrap .i64 (Cc19+1))
def WQ (Cc7:Sl) (Cc8:Int) (Cc9:ByteArray) (Cc10:ByteArray) (self1:(ByteArray×Int)→M (ByteArray)):(ByteArray×Int)→M (ByteArray):=fun s=>match s with
 |(Xx5,Xx6)=>do
  M.ite (decide (Xx6<(Cc7.len:Int))) (do
   let Xx21←ixL Cc7 Xx6 4
   let Xx22←ldG 4 Xx21
   let Xx23←X3 Go.Proofs.Tryz.prog VK #[.agg Xx22,.int .i64 (IntKind.wrap .i64 (Cc8+1))] (fun r:ByteArray=>.string r)
   let Xx24←sCat Xx5 Xx23
   let Xx26←M.ite (decide ((IntKind.wrap .i64 (Xx6+1))<(Cc7.len:Int))) (do
    M.pure ((Int.tmod Xx6 2)==0)
    ) (do
    M.pure false
    )
   M.ite Xx26 (do
    let Xx27←sCat Xx24 Cc9
    Jb self1 Xx6 Xx27
    ) (do
    M.ite (decide ((IntKind.wrap .i64 (Xx6+1))<(Cc7.len:Int))) (do
     let Xx29←sCat Xx24 Cc10
     Jb self1 Xx6 Xx29
     ) (do
     Jb self1 Xx6 Xx24
     )
    )
   ) (do
   M.pure Xx5
   )
def YT (x0:Sl) (x1:Int) (x2:ByteArray) (x3:ByteArray):M (ByteArray):=do
 M.loop (WQ x0 x1 x2 x3) (ByteArray.empty,0)
theorem Xs (x0:Sl) (x1:Int) (x2:ByteArray) (x3:ByteArray):ZG Go.Proofs.Tryz.prog 113 #[(x0:Sl).v,.int .i64 x1,.string x2,.string x3] (fun(r:ByteArray)=>.string r) (YT x0 x1 x2 x3):=
 KU [mkC VK Xf [.G,.I .i64] [.S] (fun(t:Array Value×Int)=>X3 Go.Proofs.Tryz.prog VK #[.agg t.1,.int .i64 t.2] (fun r:ByteArray=>.string r)) (fun(t:Array Value×Int)=>VG)] [] [.S] [(0,.L x0),(1,.I .i64 x1),(2,.S x2),(3,.S x3)] (.q .o (.q .o (.q (.q .o (.b (.l [(0,.L),(1,.I .i64),(2,.S),(3,.S)] [(9,.S),(10,.I .i64)] (fun(t:Sl×Int×ByteArray×ByteArray)=>WQ t.1 t.2.1 t.2.2.1 t.2.2.2) (fun self1=>.q .o (.q .o (.j [(0,.L),(1,.I .i64),(2,.S),(3,.S),(10,.I .i64),(9,.S)] (fun(t:Sl×Int×ByteArray×ByteArray×Int×ByteArray)=>Jb self1 t.2.2.2.2.1 t.2.2.2.2.2) .o)))))) .o))) Go.Proofs.Tryz.func113 rfl rfl ⟨rfl,rfl,rfl,rfl,trivial⟩ rfl (by kernel_rfl) (by kernel_rfl)
def Jc (self1:(Sl)→M (Value⊕(Sl))) (Cc13:Option Addr) (Cc15:Bool) (Cc16:Int) (Cc17:Sl):M (Value⊕(Sl)):=do
 thr (GR Go.Proofs.Tryz.prog Vu #[.pointer Cc13,.int .i64 (IntKind.wrap .i64 (Cc16+1))] (fun r:Array Value=>.agg r)) fun Xx19=>do
  let y_21←XI 4 1 (#[.int .i64 0,.int .i64 0,.string ByteArray.empty,.slice none 0 0]:Array Value) [(0,.agg Xx19)]
  let Xx20←bdL KH 1 y_21
  let Xx22←apL KH 4 56 (#[.int .i64 0,.int .i64 0,.string ByteArray.empty,.slice none 0 0]:Array Value) Cc17 Xx20
  M.ite Cc15 (do
   thr (Kc Cc13 (⟨#[58]⟩:ByteArray)) fun Xx25=>do
    thr (GR Go.Proofs.Tryz.prog Vu #[.pointer Cc13,.int .i64 (IntKind.wrap .i64 (Cc16+1))] (fun r:Array Value=>.agg r)) fun Xx26=>do
     let y_28←XI 4 1 (#[.int .i64 0,.int .i64 0,.string ByteArray.empty,.slice none 0 0]:Array Value) [(0,.agg Xx26)]
     let Xx27←bdL KH 1 y_28
     let Xx29←apL KH 4 56 (#[.int .i64 0,.int .i64 0,.string ByteArray.empty,.slice none 0 0]:Array Value) Xx22 Xx27
     self1 Xx29
   ) (do
   self1 Xx22
   )
def Us (Cc5:Option Addr) (Cc6:ByteArray) (Cc7:Bool) (Cc8:Int) (self1:(Sl)→M (Value⊕(Sl))):(Sl)→M (Value⊕(Sl)):=fun s=>match s with
 |Xx4=>do
  let Xx12←ZQ Cc5 4 Cc6
  M.ite (!Xx12) (do
   M.ite (decide ((Xx4.len:Int)>0)) (do
    thr (Kc Cc5 (⟨#[44]⟩:ByteArray)) fun Xx31=>do
     Jc self1 Cc5 Cc7 Cc8 Xx4
    ) (do
    Jc self1 Cc5 Cc7 Cc8 Xx4
    )
   ) (do
   thr (Kc Cc5 Cc6) fun Xx33=>do
    M.pure (.inr Xx4)
   )
def WD (x0:Option Addr) (x1:ByteArray) (x2:Bool) (x3:Int):M (Value⊕(Sl)):=do
 M.loop (Us x0 x1 x2 x3) Sl.nil
theorem ze (x0:Option Addr) (x1:ByteArray) (x2:Bool) (x3:Int):J3 Go.Proofs.Tryz.prog 115 #[.pointer x0,.string x1,.bool x2,.int .i64 x3] (fun(r:Sl)=>(r:Sl).v) (WD x0 x1 x2 x3):=by
 refine Zj [(0,.pointer x0),(1,.string x1),(2,.bool x2),(3,.int .i64 x3)] Go.Proofs.Tryz.func115 rfl rfl (Nat.le_of_ble_eq_true rfl) (Z8 ⟨rfl,rfl,rfl,rfl,trivial⟩) (fun w0 w Q R X a hret hthr hE hR H=>?_)
 unfold WD at H
 refine KR (fun K hK_1=>?_)
 refine KC ?_
 refine KB (v:=(Sl.nil:Sl).v) rfl rfl hE rfl (KQ hE rfl) (fun a hE=>?_)
 refine KN ?_
 refine hK_1 _ _ ?_
 refine KR (fun K hK_2=>?_)
 refine KC ?_
 refine KB (v:=(Sl.nil:Sl).v) rfl rfl hE rfl (KQ hE rfl) (fun a hE=>?_)
 refine KN ?_
 refine hK_2 _ _ ?_
 refine KR (fun K hK_3=>?_)
 refine J6 ?_
 refine zq (fun(s:Sl)=>(⟨40,[]⟩:Frm)) (fun(s:Sl)=>[(0,.pointer x0),(1,.string x1),(2,.bool x2),(3,.int .i64 x3),(9,(s:Sl).v)]) H (hE.cut (.cons rfl (.cons rfl (.cons rfl (.cons rfl (.cons rfl Subs.nil)))))) hR (fun Y self1 hY_9 Xx4 a w hE hR H=>?_)
 replace hE:Env (⟨40,[]⟩:Frm) a [(0,.pointer x0),(1,.string x1),(2,.bool x2),(3,.int .i64 x3),(9,(Xx4:Sl).v)]:=hE
 replace H:(Us x0 x1 x2 x3 self1 Xx4).wp w.heap Q:=H
 unfold Us at H
 refine KR (fun K hK_10=>?_)
 refine KR (fun K hK_11=>?_)
 refine KC ?_
 refine KB (v:=.pointer x0) rfl rfl hE rfl (KF hE rfl) (fun a hE=>?_)
 refine KB (v:=.string x1) rfl rfl hE rfl (KF hE rfl) (fun a hE=>?_)
 refine Zd hE hR ZP rfl (Za x0 4 x1) (M.unbind H) (fun Xx12 a w ea hR H=>?_)
 have hE:=Env.put_some hE rfl ea;clear ea
 refine KB (v:=.bool (!Xx12)) rfl rfl hE rfl (r_un hE rfl KJA) (fun a hE=>?_)
 refine KN ?_
 refine hK_11 _ _ ?_
 refine ZA (!Xx12) hE rfl (fun hb=>?_) (fun hb=>?_)
 ·replace H:=M.ite_t hb H
  refine Zq ?_
  refine hK_10 _ _ ?_
  refine J6 ?_
  refine Kz (fun a w=>Env (⟨40,[]⟩:Frm) a [(0,.pointer x0),(1,.string x1),(2,.bool x2),(3,.int .i64 x3),(9,(Xx4:Sl).v)]∧Rest w0 w∧(Jc self1 x0 x2 x3 Xx4).wp w.heap Q) ?_ ?_
  ·rintro a w ⟨hE,hR,H⟩
   unfold Jc at H
   refine KR (fun K hK_18=>?_)
   refine KC ?_
   refine KB (v:=(Xx4:Sl).v) rfl rfl hE rfl (KF hE rfl) (fun a hE=>?_)
   refine KB (v:=.pointer x0) rfl rfl hE rfl (KF hE rfl) (fun a hE=>?_)
   refine KB (v:=.int .i64 x3) rfl rfl hE rfl (KF hE rfl) (fun a hE=>?_)
   refine KB (v:=.int .i64 (IntKind.wrap .i64 (x3+1))) rfl rfl hE rfl (Kk hE rfl rfl Ki Vp) (fun a hE=>?_)
   refine KZ hE hR Ze rfl (VC) H (fun _ _ hR HQ=>Xu.ne rfl (Xu.ne rfl (hthr _ _ hR HQ))) (fun Xx19 a w ea hR H=>?_)
   have hE:=Env.put_some hE rfl ea;clear ea
   obtain⟨y_21,qy_21,H⟩:=H
   obtain⟨Xx20,qXx20,H⟩:=H
   refine JM (v:=(Xx20:Sl).v) rfl rfl hE rfl hR (J4 hE rfl un52 sz54 zr54 rfl qy_21 qXx20) (fun a w hE hR hh=>?_)
   replace H:=M.at hh H;clear hh
   refine t_ex (fun Xx22=>(Xx22:Sl).v) rfl rfl hR (M.unbind H) (fun Q H=>GA hE rfl rfl ap52 H) (fun Xx22 a w ea hR H=>?_)
   have hE:=Env.put_some hE rfl ea;clear ea
   refine KB (v:=(Xx22:Sl).v) rfl rfl hE rfl (KQ hE rfl) (fun a hE=>?_)
   refine KN ?_
   refine hK_18 _ _ ?_
   refine KR (fun K hK_23=>?_)
   refine KC ?_
   refine KB (v:=.bool x2) rfl rfl hE rfl (KF hE rfl) (fun a hE=>?_)
   refine KN ?_
   refine hK_23 _ _ ?_
   refine ZA x2 hE rfl (fun hb=>?_) (fun hb=>?_)
   ·replace H:=M.ite_t hb H
    refine KR (fun K hK_24=>?_)
    refine KC ?_
    refine KB (v:=.pointer x0) rfl rfl hE rfl (KF hE rfl) (fun a hE=>?_)
    refine KZ hE hR Kg rfl (Kl x0 (⟨#[58]⟩:ByteArray)) H (fun _ _ hR HQ=>Xu.ne rfl (Xu.ne rfl (hthr _ _ hR HQ))) (fun Xx25 a w ea hR H=>?_)
    have hE:=Env.put_some hE rfl ea;clear ea
    refine KN ?_
    refine hK_24 _ _ ?_
    refine KC ?_
    refine KB (v:=(Xx22:Sl).v) rfl rfl hE rfl (KF hE rfl) (fun a hE=>?_)
    refine KB (v:=.pointer x0) rfl rfl hE rfl (KF hE rfl) (fun a hE=>?_)
    refine KB (v:=.int .i64 x3) rfl rfl hE rfl (KF hE rfl) (fun a hE=>?_)
    refine KB (v:=.int .i64 (IntKind.wrap .i64 (x3+1))) rfl rfl hE rfl (Kk hE rfl rfl Ki Vp) (fun a hE=>?_)
    refine KZ hE hR Ze rfl (VC) H (fun _ _ hR HQ=>Xu.ne rfl (Xu.ne rfl (hthr _ _ hR HQ))) (fun Xx26 a w ea hR H=>?_)
    have hE:=Env.put_some hE rfl ea;clear ea
    obtain⟨y_28,qy_28,H⟩:=H
    obtain⟨Xx27,qXx27,H⟩:=H
    refine JM (v:=(Xx27:Sl).v) rfl rfl hE rfl hR (J4 hE rfl un52 sz54 zr54 rfl qy_28 qXx27) (fun a w hE hR hh=>?_)
    replace H:=M.at hh H;clear hh
    refine t_ex (fun Xx29=>(Xx29:Sl).v) rfl rfl hR (M.unbind H) (fun Q H=>GA hE rfl rfl ap52 H) (fun Xx29 a w ea hR H=>?_)
    have hE:=Env.put_some hE rfl ea;clear ea
    refine KB (v:=(Xx29:Sl).v) rfl rfl hE rfl (KQ hE rfl) (fun a hE=>?_)
    refine KN ?_
    exact hY_9 Xx29 _ _ (hE.cut (.cons rfl (.cons rfl (.cons rfl (.cons rfl (.cons rfl Subs.nil)))))) hR H
   ·replace H:=M.ite_f hb H
    refine Zq ?_
    exact hY_9 Xx22 _ _ (hE.cut (.cons rfl (.cons rfl (.cons rfl (.cons rfl (.cons rfl Subs.nil)))))) hR H
  ·skip
   refine KR (fun K hK_30=>?_)
   refine KC ?_
   refine KB (v:=(Xx4:Sl).v) rfl rfl hE rfl (KF hE rfl) (fun a hE=>?_)
   refine KB (v:=.int .i64 (Xx4.len:Int)) rfl rfl hE rfl (KAy hE rfl 54 un52) (fun a hE=>?_)
   refine KB (v:=.bool (decide ((Xx4.len:Int)>0))) rfl rfl hE rfl (Kk hE rfl rfl Ki qv) (fun a hE=>?_)
   refine KN ?_
   refine hK_30 _ _ ?_
   refine ZA (decide ((Xx4.len:Int)>0)) hE rfl (fun hb=>?_) (fun hb=>?_)
   ·replace H:=M.ite_t hb H
    refine KC ?_
    refine KB (v:=.pointer x0) rfl rfl hE rfl (KF hE rfl) (fun a hE=>?_)
    refine KZ hE hR Kg rfl (Kl x0 (⟨#[44]⟩:ByteArray)) H (fun _ _ hR HQ=>Xu.ne rfl (Xu.ne rfl (hthr _ _ hR HQ))) (fun Xx31 a w ea hR H=>?_)
    have hE:=Env.put_some hE rfl ea;clear ea
    refine KN ?_
    exact⟨hE.cut (.cons rfl (.cons rfl (.cons rfl (.cons rfl (.cons rfl Subs.nil))))),hR,H⟩
   ·replace H:=M.ite_f hb H
    refine Zq ?_
    exact⟨hE.cut (.cons rfl (.cons rfl (.cons rfl (.cons rfl (.cons rfl Subs.nil))))),hR,H⟩
 ·replace H:=M.ite_f hb H
  refine qh ?_
  refine Xu.same ?_
  refine hK_3 _ _ ?_
  refine KR (fun K hK_32=>?_)
  refine KC ?_
  refine KB (v:=.pointer x0) rfl rfl hE rfl (KF hE rfl) (fun a hE=>?_)
  refine KB (v:=.string x1) rfl rfl hE rfl (KF hE rfl) (fun a hE=>?_)
  refine KZ hE hR Kg rfl (Kl x0 x1) H (fun _ _ hR HQ=>hthr _ _ hR HQ) (fun Xx33 a w ea hR H=>?_)
  have hE:=Env.put_some hE rfl ea;clear ea
  refine KN ?_
  refine hK_32 _ _ ?_
  refine KR (fun K hK_34=>?_)
  refine KC ?_
  refine KB (v:=(Xx4:Sl).v) rfl rfl hE rfl (KF hE rfl) (fun a hE=>?_)
  refine KB (v:=(Xx4:Sl).v) rfl rfl hE rfl (KQ hE rfl) (fun a hE=>?_)
  refine KN ?_
  refine hK_34 _ _ ?_
  refine Uv ?_
  exact hret _ _ _ Xx4 _ hE hR (Kn hE rfl (RV.tmp rfl RV.nil)) rfl H
def NG (x0:ByteArray):M (Bool):=do
 let Xx3←XY x0
 M.pure (!Xx3)
theorem KCx (x0:ByteArray):ZG Go.Proofs.Tryz.prog 160 #[.string x0] (fun(r:Bool)=>.bool r) (NG x0):=
 KU [KBf] [] [.B] [(0,.S x0)] .o Go.Proofs.Tryz.func160 rfl rfl ⟨rfl,trivial⟩ rfl (by kernel_rfl) (by kernel_rfl)
def UE (Cc7:ByteArray):M (Value⊕(ByteArray)):=do
 M.pure (.inr Cc7)
def U5 (x0:Option Addr):M (Value⊕(ByteArray)):=do
 let Xx3←ZN x0
 thr (ZD x0 3) fun Xx5=>do
  let Xx6←fdS Xx5 1
  let Xx10←NG Xx6
  M.ite Xx10 (do
   thr (JH Xx3 160) fun Xx11=>do
    UE Xx6
   ) (do
   UE Xx6
   )
theorem zf (x0:Option Addr):J3 Go.Proofs.Tryz.prog 148 #[.pointer x0] (fun(r:ByteArray)=>.string r) (U5 x0):=by
 refine Zj [(0,.pointer x0)] Go.Proofs.Tryz.func148 rfl rfl (Nat.le_of_ble_eq_true rfl) (Z8 ⟨rfl,trivial⟩) (fun w0 w Q R X a hret hthr hE hR H=>?_)
 unfold U5 at H
 refine KR (fun K hK_1=>?_)
 refine KC ?_
 refine KB (v:=.string ByteArray.empty) rfl rfl hE rfl (KQ hE rfl) (fun a hE=>?_)
 refine KN ?_
 refine hK_1 _ _ ?_
 refine KR (fun K hK_2=>?_)
 refine KC ?_
 refine KB (v:=.pointer x0) rfl rfl hE rfl (KF hE rfl) (fun a hE=>?_)
 refine Zd hE hR ZX rfl (Zg x0) (M.unbind H) (fun Xx3 a w ea hR H=>?_)
 have hE:=Env.put_some hE rfl ea;clear ea
 refine KB (v:=.int .i64 Xx3) rfl rfl hE rfl (KQ hE rfl) (fun a hE=>?_)
 refine KN ?_
 refine hK_2 _ _ ?_
 refine KR (fun K hK_4=>?_)
 refine KC ?_
 refine KB (v:=.pointer x0) rfl rfl hE rfl (KF hE rfl) (fun a hE=>?_)
 refine KZ hE hR ZY rfl (Zh x0 3) H (fun _ _ hR HQ=>hthr _ _ hR HQ) (fun Xx5 a w ea hR H=>?_)
 have hE:=Env.put_some hE rfl ea;clear ea
 obtain⟨Xx6,qXx6,H⟩:=H
 refine KB (v:=.string Xx6) rfl rfl hE rfl (Ng hE rfl KIG sc9 qXx6) (fun a hE=>?_)
 refine KB (v:=.string Xx6) rfl rfl hE rfl (KQ hE rfl) (fun a hE=>?_)
 refine KN ?_
 refine hK_4 _ _ ?_
 refine Kz (fun a w=>Env (⟨15,[]⟩:Frm) a [(4,.string Xx6)]∧Rest w0 w∧(UE Xx6).wp w.heap Q) ?_ ?_
 ·rintro a w ⟨hE,hR,H⟩
  unfold UE at H
  refine KR (fun K hK_8=>?_)
  refine KC ?_
  refine KB (v:=.string Xx6) rfl rfl hE rfl (KF hE rfl) (fun a hE=>?_)
  refine KB (v:=.string Xx6) rfl rfl hE rfl (KQ hE rfl) (fun a hE=>?_)
  refine KN ?_
  refine hK_8 _ _ ?_
  refine Uv ?_
  exact hret _ _ _ Xx6 _ hE hR (Kn hE rfl (RV.tmp rfl RV.nil)) rfl H
 ·skip
  refine KR (fun K hK_9=>?_)
  refine KC ?_
  refine KB (v:=.string Xx6) rfl rfl hE rfl (KF hE rfl) (fun a hE=>?_)
  refine Zd hE hR KBw rfl (KCx Xx6) (M.unbind H) (fun Xx10 a w ea hR H=>?_)
  have hE:=Env.put_some hE rfl ea;clear ea
  refine KN ?_
  refine hK_9 _ _ ?_
  refine ZA Xx10 hE rfl (fun hb=>?_) (fun hb=>?_)
  ·replace H:=M.ite_t hb H
   refine KC ?_
   refine KB (v:=.int .i64 Xx3) rfl rfl hE rfl (KF hE rfl) (fun a hE=>?_)
   refine KZ hE hR JB rfl (Ji Xx3 160) H (fun _ _ hR HQ=>hthr _ _ hR HQ) (fun Xx11 a w ea hR H=>?_)
   have hE:=Env.put_some hE rfl ea;clear ea
   refine KN ?_
   exact⟨hE.cut (.cons rfl Subs.nil),hR,H⟩
  ·replace H:=M.ite_f hb H
   refine Zq ?_
   exact⟨hE.cut (.cons rfl Subs.nil),hR,H⟩
def Nv (x0:Int):M (Bool):=do
 let Xx3←M.ite (decide (x0<0)) (do
  M.pure true
  ) (do
  M.pure (decide (x0>9007199254740992))
  )
 M.pure Xx3
theorem KDt (x0:Int):ZG Go.Proofs.Tryz.prog 162 #[.int .i64 x0] (fun(r:Bool)=>.bool r) (Nv x0):=
 KU [] [] [.B] [(0,.I .i64 x0)] .o Go.Proofs.Tryz.func162 rfl rfl ⟨rfl,trivial⟩ rfl (by kernel_rfl) (by kernel_rfl)
def UQ (Cc7:Int):M (Value⊕(Int)):=do
 M.pure (.inr Cc7)
def VY (x0:Option Addr):M (Value⊕(Int)):=do
 let Xx3←ZN x0
 thr (ZD x0 2) fun Xx5=>do
  let Xx6←fdI .i64 Xx5 2
  let Xx10←Nv Xx6
  M.ite Xx10 (do
   thr (JH Xx3 160) fun Xx11=>do
    UQ Xx6
   ) (do
   UQ Xx6
   )
theorem KAj (x0:Option Addr):J3 Go.Proofs.Tryz.prog 149 #[.pointer x0] (fun(r:Int)=>.int .i64 r) (VY x0):=by
 refine Zj [(0,.pointer x0)] Go.Proofs.Tryz.func149 rfl rfl (Nat.le_of_ble_eq_true rfl) (Z8 ⟨rfl,trivial⟩) (fun w0 w Q R X a hret hthr hE hR H=>?_)
 unfold VY at H
 refine KR (fun K hK_1=>?_)
 refine KC ?_
 refine KB (v:=.int .i64 0) rfl rfl hE rfl (KQ hE rfl) (fun a hE=>?_)
 refine KN ?_
 refine hK_1 _ _ ?_
 refine KR (fun K hK_2=>?_)
 refine KC ?_
 refine KB (v:=.pointer x0) rfl rfl hE rfl (KF hE rfl) (fun a hE=>?_)
 refine Zd hE hR ZX rfl (Zg x0) (M.unbind H) (fun Xx3 a w ea hR H=>?_)
 have hE:=Env.put_some hE rfl ea;clear ea
 refine KB (v:=.int .i64 Xx3) rfl rfl hE rfl (KQ hE rfl) (fun a hE=>?_)
 refine KN ?_
 refine hK_2 _ _ ?_
 refine KR (fun K hK_4=>?_)
 refine KC ?_
 refine KB (v:=.pointer x0) rfl rfl hE rfl (KF hE rfl) (fun a hE=>?_)
 refine KZ hE hR ZY rfl (Zh x0 2) H (fun _ _ hR HQ=>hthr _ _ hR HQ) (fun Xx5 a w ea hR H=>?_)
 have hE:=Env.put_some hE rfl ea;clear ea
 obtain⟨Xx6,qXx6,H⟩:=H
 refine KB (v:=.int .i64 Xx6) rfl rfl hE rfl (Ng hE rfl KKh sc2 qXx6) (fun a hE=>?_)
 refine KB (v:=.int .i64 Xx6) rfl rfl hE rfl (KQ hE rfl) (fun a hE=>?_)
 refine KN ?_
 refine hK_4 _ _ ?_
 refine Kz (fun a w=>Env (⟨15,[]⟩:Frm) a [(4,.int .i64 Xx6)]∧Rest w0 w∧(UQ Xx6).wp w.heap Q) ?_ ?_
 ·rintro a w ⟨hE,hR,H⟩
  unfold UQ at H
  refine KR (fun K hK_8=>?_)
  refine KC ?_
  refine KB (v:=.int .i64 Xx6) rfl rfl hE rfl (KF hE rfl) (fun a hE=>?_)
  refine KB (v:=.int .i64 Xx6) rfl rfl hE rfl (KQ hE rfl) (fun a hE=>?_)
  refine KN ?_
  refine hK_8 _ _ ?_
  refine Uv ?_
  exact hret _ _ _ Xx6 _ hE hR (Kn hE rfl (RV.tmp rfl RV.nil)) rfl H
 ·skip
  refine KR (fun K hK_9=>?_)
  refine KC ?_
  refine KB (v:=.int .i64 Xx6) rfl rfl hE rfl (KF hE rfl) (fun a hE=>?_)
  refine Zd hE hR KCf rfl (KDt Xx6) (M.unbind H) (fun Xx10 a w ea hR H=>?_)
  have hE:=Env.put_some hE rfl ea;clear ea
  refine KN ?_
  refine hK_9 _ _ ?_
  refine ZA Xx10 hE rfl (fun hb=>?_) (fun hb=>?_)
  ·replace H:=M.ite_t hb H
   refine KC ?_
   refine KB (v:=.int .i64 Xx3) rfl rfl hE rfl (KF hE rfl) (fun a hE=>?_)
   refine KZ hE hR JB rfl (Ji Xx3 160) H (fun _ _ hR HQ=>hthr _ _ hR HQ) (fun Xx11 a w ea hR H=>?_)
   have hE:=Env.put_some hE rfl ea;clear ea
   refine KN ?_
   exact⟨hE.cut (.cons rfl Subs.nil),hR,H⟩
  ·replace H:=M.ite_f hb H
   refine Zq ?_
   exact⟨hE.cut (.cons rfl Subs.nil),hR,H⟩
end Gx
