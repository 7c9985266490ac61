/- Printed by program: Go functions as Lean programs, each tied to its code. No condition. -/
import Derived.Test.YtpibdohdkfkcnaaGreatDoorP0
import Derived.Test.YtpibdohdkfkcnaaGreatDoorP1
import Derived.Test.YtpibdohdkfkcnaaGreatDoorP2
import Derived.Test.YtpibdohdkfkcnaaGreatDoorP3
import Derived.Test.YtpibdohdkfkcnaaGreatDoorP4
set_option linter.unusedVariables false
set_option linter.unusedSimpArgs false
set_option maxRecDepth 100000
namespace Gx
open Go
def U6 (Cc6:Addr) (Cc7:Int) (Xx5:Bool):M (Array Value):=do
 M.ite Xx5 (do
  let Xx9←U3 0
  M.need (Xx9.size=2)
  stG Cc6 Xx9
  let Rr11←ldG 2 Cc6
  M.pure Rr11
  ) (do
  M.ite (Cc7==9) (do
   let Xx14←Zk 2
   M.need (Xx14.size=2)
   stG Cc6 Xx14
   let Rr16←ldG 2 Cc6
   M.pure Rr16
   ) (do
   let Xx18←Zk 1
   M.need (Xx18.size=2)
   stG Cc6 Xx18
   let Rr20←ldG 2 Cc6
   M.pure Rr20
   )
  )
def Yc (x0:Int):M (Array Value):=do
 let Xx2←mkB ZI (#[.int .i64 0,.int .i64 0]:Array Value)
 M.ite (x0==7) (do
  U6 Xx2 x0 (x0==7)
  ) (do
  U6 Xx2 x0 (x0==8)
  )
theorem KB2 (x0:Int):ZG Go.Proofs.Tryz.prog 198 #[.int .i64 x0] (fun(r:Array Value)=>.agg r) (Yc x0):=
 KU [KBh,KBi] [] [.G] [(0,.I .i64 x0)] (.q .o (.q (.q .o (.b (.q .o (.j [(2,.A),(3,.I .i64),(4,.B)] (fun(t:Addr×Int×Bool)=>U6 t.1 t.2.1 t.2.2) .o)))) .o)) Go.Proofs.Tryz.func198 rfl rfl ⟨rfl,trivial⟩ rfl (by kernel_rfl) (by kernel_rfl)
theorem KO6:GS Go.Proofs.Tryz.f150 9 [[],[],[1],[],[0,2,3,2]] [[],[],[1],[],[0,2,3]] [[],[],[1],[],[0,1,2,3]]=true:=by kernel_rfl
def Jd (Cc6:Addr) (Cc7:Addr) (Xx5:Int):M (Value⊕(Array Value)):=do
 M.ite (Xx5==0) (do
  let Xx11←ldP Cc6
  thr (Kt Xx11 1) fun Xx12=>do
   let y_14←XI 4 1 (#[.int .i64 0,.int .i64 0,.string ByteArray.empty,.slice none 0 0]:Array Value) [(0,.agg Xx12)]
   let Xx13←bdL KH 1 y_14
   M.need ((#[.int .i64 1,(Xx13:Sl).v]:Array Value).size=2)
   stG Cc7 (#[.int .i64 1,(Xx13:Sl).v]:Array Value)
   let Rr16←ldG 2 Cc7
   M.pure (.inr Rr16)
  ) (do
  let Xx18←mkB Vw (#[.int .i64 0,.slice none 0 0]:Array Value)
  M.need ((#[.int .i64 Xx5,.slice none 0 0]:Array Value).size=2)
  stG Xx18 (#[.int .i64 Xx5,.slice none 0 0]:Array Value)
  let Xx21←ldP Cc6
  thr (ZD Xx21 1) fun Xx22=>do
   let Xx24←ldP Cc6
   thr (Kc Xx24 (⟨#[40]⟩:ByteArray)) fun Xx25=>do
    let Xx27←ldP Cc6
    let Xx28←Yc Xx5
    chk (fun h:Heap=>(KM h Cc6=some (.pointer Xx27)))
    thr (Jo Xx27 Xx28 (Value.func (.func Ve) #[] #[.pointer (some Xx18),.pointer (some Cc6)])) fun Xx29=>do
     let Xx31←ldG 2 Xx18
     M.need (Xx31.size=2)
     stG Cc7 Xx31
     let Rr33←ldG 2 Cc7
     M.pure (.inr Rr33)
  )
def U7 (x0:Option Addr):M (Value⊕(Array Value)):=do
 let Xx2←mkB JF #[.pointer x0]
 let Xx3←mkB Vw (#[.int .i64 0,.slice none 0 0]:Array Value)
 let Xx35←ldP Xx2
 let Xx36←nilP Xx35
 let Xx37←ldL ((Xx36).add 0)
 let Xx38←M.ite (decide ((Xx37.len:Int)>0)) (do
  let Xx39←ldP Xx2
  let Xx40←nilP Xx39
  let Xx41←ldL ((Xx40).add 0)
  let Xx42←ixL Xx41 0 4
  let Xx43←ldI .i64 ((Xx42).add 0)
  M.pure (Xx43==1)
  ) (do
  M.pure false
  )
 M.ite Xx38 (do
  let Xx44←ldP Xx2
  let Xx45←nilP Xx44
  let Xx46←ldL ((Xx45).add 0)
  let Xx47←ixL Xx46 0 4
  let Xx48←ldS ((Xx47).add 1)
  let Xx49←Xl (⟨#[101,113,32,110,101,113,32,108,116,32,108,116,101,32,103,116,32,103,116,101,32,119,105,116,104,105,110,32,119,105,116,104,111,117,116,32,98,101,116,119,101,101,110]⟩:ByteArray) Xx48
  Jd Xx2 Xx3 Xx49
  ) (do
  Jd Xx2 Xx3 0
  )
theorem zg (x0:Option Addr):J3 Go.Proofs.Tryz.prog 150 #[.pointer x0] (fun(r:Array Value)=>.agg r) (U7 x0):=by
 refine Zj [(0,.pointer x0)] Go.Proofs.Tryz.func150 rfl rfl (Nat.le_of_ble_eq_true rfl) (Z8 ⟨rfl,trivial⟩) (fun w0 w Q R X a hret hthr hE hR H=>?_)
 unfold U7 at H
 refine KR (fun K hK_1=>?_)
 refine KC ?_
 obtain⟨Xx2,qXx2,H⟩:=H
 refine JM (v:=.pointer (some Xx2)) rfl rfl hE rfl hR (KFj hE rfl qXx2) (fun a w hE hR hh=>?_)
 replace H:=M.at hh H;clear hh
 obtain⟨Xx3,qXx3,H⟩:=H
 refine JM (v:=.pointer (some Xx3)) rfl rfl hE rfl hR (Z0 KKa qXx3) (fun a w hE hR hh=>?_)
 replace H:=M.at hh H;clear hh
 refine KN ?_
 refine hK_1 _ _ ?_
 refine KR (fun K hK_4=>?_)
 refine KC ?_
 refine KB (v:=.int .i64 0) rfl rfl hE rfl (KQ hE rfl) (fun a hE=>?_)
 refine KN ?_
 refine hK_4 _ _ ?_
 refine Kz (fun a w=>∃(Xx5:Int),Env (⟨47,[]⟩:Frm) a [(1,.pointer (some Xx2)),(2,.pointer (some Xx3)),(3,.int .i64 Xx5)]∧Rest w0 w∧(Jd Xx2 Xx3 Xx5).wp w.heap Q) ?_ ?_
 ·rintro a w ⟨Xx5,hE,hR,H⟩
  unfold Jd at H
  refine KR (fun K hK_8=>?_)
  refine KR (fun K hK_9=>?_)
  refine KC ?_
  refine KB (v:=.int .i64 Xx5) rfl rfl hE rfl (KF hE rfl) (fun a hE=>?_)
  refine KB (v:=.bool (Xx5==0)) rfl rfl hE rfl (Kk hE rfl rfl Ki W9) (fun a hE=>?_)
  refine KN ?_
  refine hK_9 _ _ ?_
  refine ZA (Xx5==0) hE rfl (fun hb=>?_) (fun hb=>?_)
  ·replace H:=M.ite_t hb H
   refine KR (fun K hK_10=>?_)
   refine KC ?_
   obtain⟨Xx11,qXx11,H⟩:=H
   refine KB (v:=.pointer Xx11) rfl rfl hE rfl (KS hE rfl sc98 qXx11) (fun a hE=>?_)
   refine KZ hE hR Ze rfl (Z1 Xx11 1) H (fun _ _ hR HQ=>hthr _ _ hR HQ) (fun Xx12 a w ea hR H=>?_)
   have hE:=Env.put_some hE rfl ea;clear ea
   obtain⟨y_14,qy_14,H⟩:=H
   obtain⟨Xx13,qXx13,H⟩:=H
   refine JM (v:=(Xx13:Sl).v) rfl rfl hE rfl hR (J4 hE rfl un52 sz54 zr54 rfl qy_14 qXx13) (fun a w hE hR hh=>?_)
   replace H:=M.at hh H;clear hh
   refine KB (v:=.agg (#[.int .i64 1,(Xx13:Sl).v]:Array Value)) rfl rfl hE rfl (Vs hE rfl KKa KQn (by rfl)) (fun a hE=>?_)
   obtain⟨qz,H⟩:=H
   obtain⟨u_15,qu_15,H⟩:=H
   refine JA rfl rfl hE hR (Kh hE rfl rfl KMg qz qu_15) (fun a w hE hR hh=>?_)
   replace H:=M.at hh H;clear hh
   refine KN ?_
   refine hK_10 _ _ ?_
   refine Uv ?_
   obtain⟨Rr16,qRr16,H⟩:=H
   exact hret _ _ _ Rr16 _ hE hR (Kn hE rfl (RV.cellG rfl KO2 qRr16 RV.nil)) rfl H
  ·replace H:=M.ite_f hb H
   refine Zq ?_
   refine hK_8 _ _ ?_
   refine KR (fun K hK_17=>?_)
   refine KC ?_
   refine KB (v:=.int .i64 Xx5) rfl rfl hE rfl (KF hE rfl) (fun a hE=>?_)
   refine KB (v:=.agg (#[.int .i64 Xx5,.slice none 0 0]:Array Value)) rfl rfl hE rfl (Vs hE rfl KKa KQn (by rfl)) (fun a hE=>?_)
   obtain⟨Xx18,qXx18,H⟩:=H
   refine JM (v:=.pointer (some Xx18)) rfl rfl hE rfl hR (Z0 KKa qXx18) (fun a w hE hR hh=>?_)
   replace H:=M.at hh H;clear hh
   obtain⟨qz,H⟩:=H
   obtain⟨u_19,qu_19,H⟩:=H
   refine JA rfl rfl hE hR (Kh hE rfl rfl KMg qz qu_19) (fun a w hE hR hh=>?_)
   replace H:=M.at hh H;clear hh
   refine KN ?_
   refine hK_17 _ _ ?_
   refine KR (fun K hK_20=>?_)
   refine KC ?_
   obtain⟨Xx21,qXx21,H⟩:=H
   refine KB (v:=.pointer Xx21) rfl rfl hE rfl (KS hE rfl sc98 qXx21) (fun a hE=>?_)
   refine KZ hE hR ZY rfl (Zh Xx21 1) H (fun _ _ hR HQ=>hthr _ _ hR HQ) (fun Xx22 a w ea hR H=>?_)
   have hE:=Env.put_some hE rfl ea;clear ea
   refine KN ?_
   refine hK_20 _ _ ?_
   refine KR (fun K hK_23=>?_)
   refine KC ?_
   obtain⟨Xx24,qXx24,H⟩:=H
   refine KB (v:=.pointer Xx24) rfl rfl hE rfl (KS hE rfl sc98 qXx24) (fun a hE=>?_)
   refine KZ hE hR Kg rfl (Kl Xx24 (⟨#[40]⟩:ByteArray)) H (fun _ _ hR HQ=>hthr _ _ hR HQ) (fun Xx25 a w ea hR H=>?_)
   have hE:=Env.put_some hE rfl ea;clear ea
   refine KN ?_
   refine hK_23 _ _ ?_
   refine KR (fun K hK_26=>?_)
   obtain⟨Xx27,qXx27,H⟩:=H
   have hT:=VT KO6 rfl rfl
   refine Jv (fun w:World=>(fun h:Heap=>(KM h Xx2=some (.pointer Xx27))) w.heap) [4] #[false,false,false,false,false] mo hR rfl rfl (fun w' e=>by rw [e];exact qXx27) (fun w hh hR hs=>?_)
   replace H:=M.at hh H;clear hh
   refine KG (i:=1) (v:=.int .i64 Xx5) #[false,true,false,false,false] rfl rfl hT (by kernel_rfl) hE rfl (KA rfl) (fun w=>KF hE rfl) (fun a hE=>?_)
   refine KG (i:=3) (v:=(Value.func (.func Ve) #[] #[.pointer (some Xx18),.pointer (some Xx2)])) #[false,true,false,true,false] rfl rfl hT (by kernel_rfl) hE rfl (KA rfl) (fun w=>GU hE rfl) (fun a hE=>?_)
   refine Zs (i:=0) (v:=.pointer Xx27) #[true,true,false,true,false] rfl rfl hT (by kernel_rfl) hE rfl (KA rfl) hs (fun w s=>KS hE rfl sc98 s) (fun a hE=>?_)
   refine KP0 (i:=2) #[true,true,true,true,false] rfl rfl rfl hT (by kernel_rfl) rfl hE hR (KA rfl) KA9 rfl (KB2 Xx5) (M.unbind H) (fun r h H w' e=>by obtain⟨_,sA,H⟩:=H;rw [e];exact sA) (fun Xx28 a w ea hR H hs=>?_)
   obtain⟨_,sA,H⟩:=H;clear sA
   have hE:=Env.put_some hE rfl ea;clear ea
   refine KMT (i:=4) #[true,true,true,true,true] rfl rfl rfl hT (by kernel_rfl) rfl hE hR (KA rfl) XC rfl (Xm Xx27 Xx28 (Value.func (.func Ve) #[] #[.pointer (some Xx18),.pointer (some Xx2)])) H (fun _ _ hR HQ=>hthr _ _ hR HQ) (fun Xx29 a w ea hR H=>?_)
   have hE:=Env.put_some hE rfl ea;clear ea
   refine VD hT (by kernel_rfl) ?_
   refine hK_26 _ _ ?_
   refine KR (fun K hK_30=>?_)
   refine KC ?_
   obtain⟨Xx31,qXx31,H⟩:=H
   refine KB (v:=.agg Xx31) rfl rfl hE rfl (Ui hE rfl KO2 qXx31) (fun a hE=>?_)
   obtain⟨qz,H⟩:=H
   obtain⟨u_32,qu_32,H⟩:=H
   refine JA rfl rfl hE hR (Kh hE rfl rfl KMg qz qu_32) (fun a w hE hR hh=>?_)
   replace H:=M.at hh H;clear hh
   refine KN ?_
   refine hK_30 _ _ ?_
   refine Uv ?_
   obtain⟨Rr33,qRr33,H⟩:=H
   exact hret _ _ _ Rr33 _ hE hR (Kn hE rfl (RV.cellG rfl KO2 qRr33 RV.nil)) rfl H
 ·skip
  refine KR (fun K hK_34=>?_)
  refine KC ?_
  obtain⟨Xx35,qXx35,H⟩:=H
  refine KB (v:=.pointer Xx35) rfl rfl hE rfl (KS hE rfl sc98 qXx35) (fun a hE=>?_)
  obtain⟨Xx36,qXx36,H⟩:=H
  refine KB (v:=.pointer (some Xx36)) rfl rfl hE rfl (KO hE (Zu rfl (congrArg Value.pointer qXx36))) (fun a hE=>?_)
  refine KB (v:=.pointer (some ((Xx36).add 0))) rfl rfl hE rfl (KD hE rfl YO) (fun a hE=>?_)
  obtain⟨Xx37,qXx37,H⟩:=H
  refine KB (v:=(Xx37:Sl).v) rfl rfl hE rfl (KS hE rfl sc22 qXx37) (fun a hE=>?_)
  refine KB (v:=.int .i64 (Xx37.len:Int)) rfl rfl hE rfl (KAy hE rfl 29 un22) (fun a hE=>?_)
  refine KB (v:=.bool (decide ((Xx37.len:Int)>0))) rfl rfl hE rfl (Kk hE rfl rfl Ki qv) (fun a hE=>?_)
  refine KB (v:=.bool (decide ((Xx37.len:Int)>0))) rfl rfl hE rfl (KF hE rfl) (fun a hE=>?_)
  refine KAz (n:=(⟨47,[]⟩:Frm)) (w0:=w0) 9 (fun Xx38:Bool=>[(1,.pointer (some Xx2)),(2,.pointer (some Xx3)),(3,.int .i64 0),(20,.bool Xx38)]) (M.unbind H) (fun Kr hKr H=>?_) ?_
  ·rcases Uj (decide ((Xx37.len:Int)>0))with hb|hb
   ·replace H:=M.ite_t hb H
    have hE:=hE.reb 11 (decide ((Xx37.len:Int)>0)) true hb rfl
    refine t_on rfl hE rfl rfl rfl ?_
    obtain⟨Xx39,qXx39,H⟩:=H
    refine KB (v:=.pointer Xx39) rfl rfl hE rfl (KS hE rfl sc98 qXx39) (fun a hE=>?_)
    refine t_on rfl hE rfl rfl rfl ?_
    obtain⟨Xx40,qXx40,H⟩:=H
    refine KB (v:=.pointer (some Xx40)) rfl rfl hE rfl (KO hE (Zu rfl (congrArg Value.pointer qXx40))) (fun a hE=>?_)
    refine t_on rfl hE rfl rfl rfl ?_
    refine KB (v:=.pointer (some ((Xx40).add 0))) rfl rfl hE rfl (KD hE rfl YO) (fun a hE=>?_)
    refine t_on rfl hE rfl rfl rfl ?_
    obtain⟨Xx41,qXx41,H⟩:=H
    refine KB (v:=(Xx41:Sl).v) rfl rfl hE rfl (KS hE rfl sc22 qXx41) (fun a hE=>?_)
    refine t_on rfl hE rfl rfl rfl ?_
    obtain⟨Xx42,qXx42,H⟩:=H
    refine KB (v:=.pointer (some Xx42)) rfl rfl hE rfl (Ua hE rfl rfl un22 sz29 qXx42) (fun a hE=>?_)
    refine t_on rfl hE rfl rfl rfl ?_
    refine KB (v:=.pointer (some ((Xx42).add 0))) rfl rfl hE rfl (KD hE rfl KCh) (fun a hE=>?_)
    refine t_on rfl hE rfl rfl rfl ?_
    obtain⟨Xx43,qXx43,H⟩:=H
    refine KB (v:=.int .i64 Xx43) rfl rfl hE rfl (KS hE rfl sc3 qXx43) (fun a hE=>?_)
    refine t_on rfl hE rfl rfl rfl ?_
    refine KB (v:=.bool (Xx43==1)) rfl rfl hE rfl (Kk hE rfl rfl Ki W9) (fun a hE=>?_)
    refine KB rfl rfl hE rfl (Jj hE rfl rfl) (fun a hE=>?_)
    refine KN ?_
    exact hKr _ _ _ (hE.cut (.cons rfl (.cons rfl (.cons rfl (.cons rfl Subs.nil))))) hR H
   ·replace H:=M.ite_f hb H
    have hE:=hE.reb 11 (decide ((Xx37.len:Int)>0)) false hb rfl
    refine Uw rfl hE rfl rfl rfl (fun a ea=>?_)
    have hE:=Env.put_some hE rfl ea;clear ea
    refine Uw rfl hE rfl rfl rfl (fun a ea=>?_)
    have hE:=Env.put_some hE rfl ea;clear ea
    refine Uw rfl hE rfl rfl rfl (fun a ea=>?_)
    have hE:=Env.put_some hE rfl ea;clear ea
    refine Uw rfl hE rfl rfl rfl (fun a ea=>?_)
    have hE:=Env.put_some hE rfl ea;clear ea
    refine Uw rfl hE rfl rfl rfl (fun a ea=>?_)
    have hE:=Env.put_some hE rfl ea;clear ea
    refine Uw rfl hE rfl rfl rfl (fun a ea=>?_)
    have hE:=Env.put_some hE rfl ea;clear ea
    refine Uw rfl hE rfl rfl rfl (fun a ea=>?_)
    have hE:=Env.put_some hE rfl ea;clear ea
    refine Uw rfl hE rfl rfl rfl (fun a ea=>?_)
    have hE:=Env.put_some hE rfl ea;clear ea
    refine KB rfl rfl hE rfl (Z3 hE rfl rfl) (fun a hE=>?_)
    refine KN ?_
    exact hKr _ _ _ (hE.cut (.cons rfl (.cons rfl (.cons rfl (.cons rfl Subs.nil))))) hR H
  ·intro Xx38 a w hE hR H
   refine KN ?_
   refine hK_34 _ _ ?_
   refine ZA Xx38 hE rfl (fun hb=>?_) (fun hb=>?_)
   ·replace H:=M.ite_t hb H
    refine KC ?_
    obtain⟨Xx44,qXx44,H⟩:=H
    refine KB (v:=.pointer Xx44) rfl rfl hE rfl (KS hE rfl sc98 qXx44) (fun a hE=>?_)
    obtain⟨Xx45,qXx45,H⟩:=H
    refine KB (v:=.pointer (some Xx45)) rfl rfl hE rfl (KO hE (Zu rfl (congrArg Value.pointer qXx45))) (fun a hE=>?_)
    refine KB (v:=.pointer (some ((Xx45).add 0))) rfl rfl hE rfl (KD hE rfl YO) (fun a hE=>?_)
    obtain⟨Xx46,qXx46,H⟩:=H
    refine KB (v:=(Xx46:Sl).v) rfl rfl hE rfl (KS hE rfl sc22 qXx46) (fun a hE=>?_)
    obtain⟨Xx47,qXx47,H⟩:=H
    refine KB (v:=.pointer (some Xx47)) rfl rfl hE rfl (Ua hE rfl rfl un22 sz29 qXx47) (fun a hE=>?_)
    refine KB (v:=.pointer (some ((Xx47).add 1))) rfl rfl hE rfl (KD hE rfl KQl) (fun a hE=>?_)
    obtain⟨Xx48,qXx48,H⟩:=H
    refine KB (v:=.string Xx48) rfl rfl hE rfl (KS hE rfl sc9 qXx48) (fun a hE=>?_)
    refine Zd hE hR qo rfl (KAf (⟨#[101,113,32,110,101,113,32,108,116,32,108,116,101,32,103,116,32,103,116,101,32,119,105,116,104,105,110,32,119,105,116,104,111,117,116,32,98,101,116,119,101,101,110]⟩:ByteArray) Xx48) (M.unbind H) (fun Xx49 a w ea hR H=>?_)
    have hE:=Env.put_some hE rfl ea;clear ea
    refine KB (v:=.int .i64 Xx49) rfl rfl hE rfl (KQ hE rfl) (fun a hE=>?_)
    refine KN ?_
    exact⟨Xx49,hE.cut (.cons rfl (.cons rfl (.cons rfl Subs.nil))),hR,H⟩
   ·replace H:=M.ite_f hb H
    refine Zq ?_
    exact⟨0,hE.cut (.cons rfl (.cons rfl (.cons rfl Subs.nil))),hR,H⟩
theorem KO7:GS Go.Proofs.Tryz.f147 2 [[],[0],[],[2],[3],[1,4,3],[0,1,2,3,4,5],[6,5,5,0,1,2,3,4,5]] [[],[0],[],[2],[3],[1,4],[],[5,6]] [[],[0],[],[2],[2,3],[0,1,2,3,4],[0,1,2,3,4,5],[0,1,2,3,4,5,6]]=true:=by kernel_rfl
theorem KO8:GS Go.Proofs.Tryz.f147 4 [[],[0],[],[2],[3],[1,4,3],[0,1,2,3,4,5],[6,5,5,0,1,2,3,4,5]] [[],[0],[],[2],[3],[1,4],[],[5,6]] [[],[0],[],[2],[2,3],[0,1,2,3,4],[0,1,2,3,4,5],[0,1,2,3,4,5,6]]=true:=by kernel_rfl
theorem KO9:GS Go.Proofs.Tryz.f147 6 [[],[0],[],[2],[3],[1,4,3],[0,1,2,3,4,5],[6,5,5,0,1,2,3,4,5]] [[],[0],[],[2],[3],[1,4],[],[5,6]] [[],[0],[],[2],[2,3],[0,1,2,3,4],[0,1,2,3,4,5],[0,1,2,3,4,5,6]]=true:=by kernel_rfl
theorem KPA:GS Go.Proofs.Tryz.f147 8 [[],[0],[],[2],[1],[],[1,5,3,0,1,2,3,4,5],[6,4,0,1,2,3,4,5,6],[7,3,6,0,1,2,3,4,5,6],[0,1,2,3,4,5,6],[9,6,6,0,1,2,3,4,5,6]] [[],[0],[],[2],[1],[],[1,5],[4,6],[3,7],[],[6,9]] [[],[0],[],[2],[0,1],[],[0,1,2,3,4,5],[0,1,2,3,4,5,6],[0,1,2,3,4,5,6,7],[0,1,2,3,4,5,6],[0,1,2,3,4,5,6,9]]=true:=by kernel_rfl
theorem KPB:GS Go.Proofs.Tryz.f147 0 [[],[0],[],[],[3],[2,4],[5],[1,6,5],[0,1,2,3,4,5,6,7],[8,7,7,0,1,2,3,4,5,6,7]] [[],[0],[],[],[3],[2,4],[5],[1,6],[],[7,8]] [[],[0],[],[],[3],[2,3,4],[2,3,4,5],[0,1,2,3,4,5,6],[0,1,2,3,4,5,6,7],[0,1,2,3,4,5,6,7,8]]=true:=by kernel_rfl
def VP (x0:Int) (x1:Addr) (x2:Addr) (x3:Addr) (x4:Addr):M (Value⊕(Unit)):=do
 let Xx2←ldI .i64 (((x1).add 0).add 1)
 M.ite (decide (x0<Xx2)) (do
  let Xx3←ldL ((x2).add 1)
  let Xx4←ldP x3
  thr (U5 Xx4) fun Xx5=>do
   chk (fun h:Heap=>(KM h ((x2).add 1)=some ((Xx3:Sl).v))∧(KM h x3=some (.pointer Xx4)))
   let Xx6←bdL Yj 1 #[.string Xx5]
   chk (fun h:Heap=>(KM h ((x2).add 1)=some ((Xx3:Sl).v))∧(KM h x3=some (.pointer Xx4)))
   let Xx7←apL Yj 1 16 (#[.string ByteArray.empty]:Array Value) Xx3 Xx6
   stV ((x2).add 1) ((Xx7:Sl).v)
   M.pure (.inr ())
  ) (do
  let Xx10←ldI .i64 (((x1).add 0).add 1)
  let Xx11←ldI .i64 (((x1).add 2).add 1)
  M.ite (decide (x0<(IntKind.wrap .i64 (Xx10+Xx11)))) (do
   let Xx12←ldL ((x2).add 2)
   let Xx13←ldP x3
   thr (VY Xx13) fun Xx14=>do
    chk (fun h:Heap=>(KM h ((x2).add 2)=some ((Xx12:Sl).v))∧(KM h x3=some (.pointer Xx13)))
    let Xx15←bdL KIF 1 #[.int .i64 Xx14]
    chk (fun h:Heap=>(KM h ((x2).add 2)=some ((Xx12:Sl).v))∧(KM h x3=some (.pointer Xx13)))
    let Xx16←apL KIF 1 8 (#[.int .i64 0]:Array Value) Xx12 Xx15
    stV ((x2).add 2) ((Xx16:Sl).v)
    M.pure (.inr ())
   ) (do
   let Xx19←ldL ((x2).add 3)
   let Xx20←ldI .i64 (((x1).add 4).add 1)
   M.ite (decide ((Xx19.len:Int)<Xx20)) (do
    let Xx21←ldL ((x2).add 3)
    let Xx22←ldP x3
    thr (U7 Xx22) fun Xx23=>do
     chk (fun h:Heap=>(KM h ((x2).add 3)=some ((Xx21:Sl).v))∧(KM h x3=some (.pointer Xx22)))
     let y_25←XI 2 1 (#[.int .i64 0,.slice none 0 0]:Array Value) [(0,.agg Xx23)]
     let Xx24←bdL Vw 1 y_25
     chk (fun h:Heap=>(KM h ((x2).add 3)=some ((Xx21:Sl).v))∧(KM h x3=some (.pointer Xx22)))
     let Xx26←apL Vw 2 32 (#[.int .i64 0,.slice none 0 0]:Array Value) Xx21 Xx24
     stV ((x2).add 3) ((Xx26:Sl).v)
     M.pure (.inr ())
    ) (do
    let Xx29←ldL ((x2).add 4)
    let Xx30←ldI .i64 (((x1).add 6).add 1)
    M.ite (decide ((Xx29.len:Int)<Xx30)) (do
     let Xx31←ldL ((x2).add 4)
     let Xx32←ldP x3
     thr (do
      M.both (do
       thr (Kt Xx32 1) fun Xx33=>do
        chk (fun h:Heap=>(KM h ((x2).add 4)=some ((Xx31:Sl).v))∧(KM h x3=some (.pointer Xx32)))
        let y_35←XI 4 1 (#[.int .i64 0,.int .i64 0,.string ByteArray.empty,.slice none 0 0]:Array Value) [(0,.agg (#[.int .i64 0,.int .i64 0,.string ByteArray.empty,.slice none 0 0]:Array Value))]
        let Xx34←bdL KH 1 y_35
        chk (fun h:Heap=>(KM h ((x2).add 4)=some ((Xx31:Sl).v))∧(KM h x3=some (.pointer Xx32)))
        M.pure (.inr (Xx33,Xx34))
       ) (do
       let y_37←XI 4 1 (#[.int .i64 0,.int .i64 0,.string ByteArray.empty,.slice none 0 0]:Array Value) [(0,.agg (#[.int .i64 0,.int .i64 0,.string ByteArray.empty,.slice none 0 0]:Array Value))]
       let Xx36←bdL KH 1 y_37
       chk (fun h:Heap=>(KM h ((x2).add 4)=some ((Xx31:Sl).v))∧(KM h x3=some (.pointer Xx32)))
       thr (Kt Xx32 1) fun Xx38=>do
        chk (fun h:Heap=>(KM h ((x2).add 4)=some ((Xx31:Sl).v))∧(KM h x3=some (.pointer Xx32)))
        M.pure (.inr (Xx38,Xx36))
       )
      ) fun y_39=>do
      let Xx40←apL KH 4 56 (#[.int .i64 0,.int .i64 0,.string ByteArray.empty,.slice none 0 0]:Array Value) Xx31 y_39.2
      let Xx41←ixL Xx40 (Xx31.len:Int) 4
      let y_46←do
       M.both (do
        M.need (y_39.1.size=4)
        stG Xx41 y_39.1
        stV ((x2).add 4) ((Xx40:Sl).v)
        M.pure ()
        ) (do
        stV ((x2).add 4) ((Xx40:Sl).v)
        M.need (y_39.1.size=4)
        stG Xx41 y_39.1
        M.pure ()
        )
      M.pure (.inr ())
     ) (do
     let Xx47←ldL ((x2).add 5)
     let Xx48←ldP x3
     let Xx49←ldI .i64 x4
     thr (Zo Xx48 (IntKind.wrap .i64 (Xx49+1))) fun Xx50=>do
      chk (fun h:Heap=>(KM h ((x2).add 5)=some ((Xx47:Sl).v))∧(KM h x3=some (.pointer Xx48))∧(KM h x4=some (.int .i64 Xx49)))
      let Xx51←bdL YZ 1 #[(Xx50:Sl).v]
      chk (fun h:Heap=>(KM h ((x2).add 5)=some ((Xx47:Sl).v))∧(KM h x3=some (.pointer Xx48))∧(KM h x4=some (.int .i64 Xx49)))
      let Xx52←apL YZ 1 24 (#[.slice none 0 0]:Array Value) Xx47 Xx51
      stV ((x2).add 5) ((Xx52:Sl).v)
      M.pure (.inr ())
     )
    )
   )
  )
theorem Nw (x0:Int) (x1:Addr) (x2:Addr) (x3:Addr) (x4:Addr):J3 Go.Proofs.Tryz.prog 147 #[.int .i64 x0,.pointer (some x1),.pointer (some x2),.pointer (some x3),.pointer (some x4)] (fun(r:Unit)=>.tuple #[]) (VP x0 x1 x2 x3 x4):=by
 refine Zj [(0,.int .i64 x0),(1,.pointer (some x1)),(2,.pointer (some x2)),(3,.pointer (some x3)),(4,.pointer (some x4))] Go.Proofs.Tryz.func147 rfl rfl (Nat.le_of_ble_eq_true rfl) (Z8 ⟨rfl,rfl,rfl,rfl,rfl,trivial⟩) (fun w0 w Q R X a hret hthr hE hR H=>?_)
 unfold VP at H
 refine J6 ?_
 refine KR (fun K hK_1=>?_)
 refine KC ?_
 refine KB (v:=.int .i64 x0) rfl rfl hE rfl (KF hE rfl) (fun a hE=>?_)
 refine KB (v:=.pointer (some ((x1).add 0))) rfl rfl hE rfl (KD hE rfl KHL) (fun a hE=>?_)
 refine KB (v:=.pointer (some (((x1).add 0).add 1))) rfl rfl hE rfl (KD hE rfl GK) (fun a hE=>?_)
 obtain⟨Xx2,qXx2,H⟩:=H
 refine KB (v:=.int .i64 Xx2) rfl rfl hE rfl (KS hE rfl sc3 qXx2) (fun a hE=>?_)
 refine KB (v:=.bool (decide (x0<Xx2))) rfl rfl hE rfl (Kk hE rfl rfl Ki NU) (fun a hE=>?_)
 refine KB (v:=.bool (decide (x0<Xx2))) rfl rfl hE rfl (KQ hE rfl) (fun a hE=>?_)
 refine KN ?_
 refine hK_1 _ _ ?_
 refine ZA (decide (x0<Xx2)) hE rfl (fun hb=>?_) (fun hb=>?_)
 ·replace H:=M.ite_t hb H
  obtain⟨Xx3,qXx3,H⟩:=H
  obtain⟨Xx4,qXx4,H⟩:=H
  have hT:=VT KO7 rfl rfl
  refine Jv (fun w:World=>(fun h:Heap=>(KM h ((x2).add 1)=some ((Xx3:Sl).v))∧(KM h x3=some (.pointer Xx4))) w.heap) [5,6,7] #[false,false,false,false,false,false,false,false] mo hR rfl rfl (fun w' e=>by rw [e];exact⟨qXx3,qXx4⟩) (fun w hh hR hs=>?_)
  replace H:=M.at hh H;clear hh
  refine KG (i:=0) (v:=.pointer (some ((x2).add 1))) #[true,false,false,false,false,false,false,false] rfl rfl hT (by kernel_rfl) hE rfl (KA rfl) (fun w=>KD hE rfl KNz) (fun a hE=>?_)
  refine Zs (i:=1) (v:=(Xx3:Sl).v) #[true,true,false,false,false,false,false,false] rfl rfl hT (by kernel_rfl) hE rfl (KA rfl) hs (fun w s=>KS hE rfl sc89 s.1) (fun a hE=>?_)
  refine Zs (i:=2) (v:=.pointer Xx4) #[true,true,true,false,false,false,false,false] rfl rfl hT (by kernel_rfl) hE rfl (KA rfl) hs (fun w s=>KS hE rfl sc98 s.2) (fun a hE=>?_)
  refine KA6 (i:=3) #[true,true,true,true,false,false,false,false] rfl rfl rfl hT (by kernel_rfl) rfl hE hR (KA rfl) qQ rfl (zf Xx4) H (fun r h H w' e=>by obtain⟨_,sA,H⟩:=H;rw [e];exact sA) (fun _ _ hR HQ=>Xu.ne rfl (hthr _ _ hR HQ)) (fun Xx5 a w ea hR H hs=>?_)
  obtain⟨_,sA,H⟩:=H;clear sA
  have hE:=Env.put_some hE rfl ea;clear ea
  obtain⟨Xx6,qXx6,H⟩:=H
  obtain⟨_,sA,H⟩:=H
  refine KCQ (i:=4) (v:=(Xx6:Sl).v) #[true,true,true,true,true,false,false,false] rfl rfl hT (by kernel_rfl) rfl hE hR rfl (KA rfl) (J4 (cells:=#[.string Xx5]) hE rfl un89 sz9 zr9 rfl rfl qXx6)  (fun w' e=>by rw [e];exact sA) (fun a w hE hR hh hs=>?_)
  replace H:=M.at hh H;clear hh
  refine KJE (i:=5) (fun Xx7=>(Xx7:Sl).v) #[true,true,true,true,true,true,false,false] rfl rfl hT (by kernel_rfl) rfl hR (KA rfl) (M.unbind H) (fun Q H=>GA hE rfl rfl ap89 H) (fun Xx7 a w ea hR H=>?_)
  have hE:=Env.put_some hE rfl ea;clear ea
  refine KG (i:=6) (v:=.pointer (some ((x2).add 1))) #[true,true,true,true,true,true,true,false] rfl rfl hT (by kernel_rfl) hE rfl (KA rfl) (fun w=>KD hE rfl KNz) (fun a hE=>?_)
  obtain⟨u_8,qu_8,H⟩:=H
  refine YD (i:=7) #[true,true,true,true,true,true,true,true] rfl rfl hT (by kernel_rfl) rfl hE hR (KA rfl) (ZB hE rfl rfl sz89 qu_8)  (fun a w hE hR hh=>?_)
  replace H:=M.at hh H;clear hh
  refine VD hT (by kernel_rfl) ?_
  exact hret _ _ _ () _ hE hR (Kn hE rfl RV.nil) rfl H
 ·replace H:=M.ite_f hb H
  refine KR (fun K hK_9=>?_)
  refine KC ?_
  refine KB (v:=.int .i64 x0) rfl rfl hE rfl (KF hE rfl) (fun a hE=>?_)
  refine KB (v:=.pointer (some ((x1).add 0))) rfl rfl hE rfl (KD hE rfl KHL) (fun a hE=>?_)
  refine KB (v:=.pointer (some (((x1).add 0).add 1))) rfl rfl hE rfl (KD hE rfl GK) (fun a hE=>?_)
  obtain⟨Xx10,qXx10,H⟩:=H
  refine KB (v:=.int .i64 Xx10) rfl rfl hE rfl (KS hE rfl sc3 qXx10) (fun a hE=>?_)
  refine KB (v:=.pointer (some ((x1).add 2))) rfl rfl hE rfl (KD hE rfl KKc) (fun a hE=>?_)
  refine KB (v:=.pointer (some (((x1).add 2).add 1))) rfl rfl hE rfl (KD hE rfl GK) (fun a hE=>?_)
  obtain⟨Xx11,qXx11,H⟩:=H
  refine KB (v:=.int .i64 Xx11) rfl rfl hE rfl (KS hE rfl sc3 qXx11) (fun a hE=>?_)
  refine KB (v:=.int .i64 (IntKind.wrap .i64 (Xx10+Xx11))) rfl rfl hE rfl (Kk hE rfl rfl Ki Vp) (fun a hE=>?_)
  refine KB (v:=.bool (decide (x0<(IntKind.wrap .i64 (Xx10+Xx11))))) rfl rfl hE rfl (Kk hE rfl rfl Ki NU) (fun a hE=>?_)
  refine KB (v:=.bool (decide (x0<(IntKind.wrap .i64 (Xx10+Xx11))))) rfl rfl hE rfl (KQ hE rfl) (fun a hE=>?_)
  refine KN ?_
  refine hK_9 _ _ ?_
  refine ZA (decide (x0<(IntKind.wrap .i64 (Xx10+Xx11)))) hE rfl (fun hb=>?_) (fun hb=>?_)
  ·replace H:=M.ite_t hb H
   obtain⟨Xx12,qXx12,H⟩:=H
   obtain⟨Xx13,qXx13,H⟩:=H
   have hT:=VT KO8 rfl rfl
   refine Jv (fun w:World=>(fun h:Heap=>(KM h ((x2).add 2)=some ((Xx12:Sl).v))∧(KM h x3=some (.pointer Xx13))) w.heap) [5,6,7] #[false,false,false,false,false,false,false,false] mo hR rfl rfl (fun w' e=>by rw [e];exact⟨qXx12,qXx13⟩) (fun w hh hR hs=>?_)
   replace H:=M.at hh H;clear hh
   refine KG (i:=0) (v:=.pointer (some ((x2).add 2))) #[true,false,false,false,false,false,false,false] rfl rfl hT (by kernel_rfl) hE rfl (KA rfl) (fun w=>KD hE rfl KN0) (fun a hE=>?_)
   refine Zs (i:=1) (v:=(Xx12:Sl).v) #[true,true,false,false,false,false,false,false] rfl rfl hT (by kernel_rfl) hE rfl (KA rfl) hs (fun w s=>KS hE rfl sc90 s.1) (fun a hE=>?_)
   refine Zs (i:=2) (v:=.pointer Xx13) #[true,true,true,false,false,false,false,false] rfl rfl hT (by kernel_rfl) hE rfl (KA rfl) hs (fun w s=>KS hE rfl sc98 s.2) (fun a hE=>?_)
   refine KA6 (i:=3) #[true,true,true,true,false,false,false,false] rfl rfl rfl hT (by kernel_rfl) rfl hE hR (KA rfl) zI rfl (KAj Xx13) H (fun r h H w' e=>by obtain⟨_,sA,H⟩:=H;rw [e];exact sA) (fun _ _ hR HQ=>Xu.ne rfl (hthr _ _ hR HQ)) (fun Xx14 a w ea hR H hs=>?_)
   obtain⟨_,sA,H⟩:=H;clear sA
   have hE:=Env.put_some hE rfl ea;clear ea
   obtain⟨Xx15,qXx15,H⟩:=H
   obtain⟨_,sA,H⟩:=H
   refine KCQ (i:=4) (v:=(Xx15:Sl).v) #[true,true,true,true,true,false,false,false] rfl rfl hT (by kernel_rfl) rfl hE hR rfl (KA rfl) (J4 (cells:=#[.int .i64 Xx14]) hE rfl un90 sz2 zr2 rfl rfl qXx15)  (fun w' e=>by rw [e];exact sA) (fun a w hE hR hh hs=>?_)
   replace H:=M.at hh H;clear hh
   refine KJE (i:=5) (fun Xx16=>(Xx16:Sl).v) #[true,true,true,true,true,true,false,false] rfl rfl hT (by kernel_rfl) rfl hR (KA rfl) (M.unbind H) (fun Q H=>GA hE rfl rfl ap90 H) (fun Xx16 a w ea hR H=>?_)
   have hE:=Env.put_some hE rfl ea;clear ea
   refine KG (i:=6) (v:=.pointer (some ((x2).add 2))) #[true,true,true,true,true,true,true,false] rfl rfl hT (by kernel_rfl) hE rfl (KA rfl) (fun w=>KD hE rfl KN0) (fun a hE=>?_)
   obtain⟨u_17,qu_17,H⟩:=H
   refine YD (i:=7) #[true,true,true,true,true,true,true,true] rfl rfl hT (by kernel_rfl) rfl hE hR (KA rfl) (ZB hE rfl rfl sz90 qu_17)  (fun a w hE hR hh=>?_)
   replace H:=M.at hh H;clear hh
   refine VD hT (by kernel_rfl) ?_
   exact hret _ _ _ () _ hE hR (Kn hE rfl RV.nil) rfl H
  ·replace H:=M.ite_f hb H
   refine KR (fun K hK_18=>?_)
   refine KC ?_
   refine KB (v:=.pointer (some ((x2).add 3))) rfl rfl hE rfl (KD hE rfl KKf) (fun a hE=>?_)
   obtain⟨Xx19,qXx19,H⟩:=H
   refine KB (v:=(Xx19:Sl).v) rfl rfl hE rfl (KS hE rfl sc91 qXx19) (fun a hE=>?_)
   refine KB (v:=.int .i64 (Xx19.len:Int)) rfl rfl hE rfl (KAy hE rfl 123 un91) (fun a hE=>?_)
   refine KB (v:=.pointer (some ((x1).add 4))) rfl rfl hE rfl (KD hE rfl KKd) (fun a hE=>?_)
   refine KB (v:=.pointer (some (((x1).add 4).add 1))) rfl rfl hE rfl (KD hE rfl GK) (fun a hE=>?_)
   obtain⟨Xx20,qXx20,H⟩:=H
   refine KB (v:=.int .i64 Xx20) rfl rfl hE rfl (KS hE rfl sc3 qXx20) (fun a hE=>?_)
   refine KB (v:=.bool (decide ((Xx19.len:Int)<Xx20))) rfl rfl hE rfl (Kk hE rfl rfl Ki NU) (fun a hE=>?_)
   refine KB (v:=.bool (decide ((Xx19.len:Int)<Xx20))) rfl rfl hE rfl (KQ hE rfl) (fun a hE=>?_)
   refine KN ?_
   refine hK_18 _ _ ?_
   refine ZA (decide ((Xx19.len:Int)<Xx20)) hE rfl (fun hb=>?_) (fun hb=>?_)
   ·replace H:=M.ite_t hb H
    obtain⟨Xx21,qXx21,H⟩:=H
    obtain⟨Xx22,qXx22,H⟩:=H
    have hT:=VT KO9 rfl rfl
    refine Jv (fun w:World=>(fun h:Heap=>(KM h ((x2).add 3)=some ((Xx21:Sl).v))∧(KM h x3=some (.pointer Xx22))) w.heap) [5,6,7] #[false,false,false,false,false,false,false,false] mo hR rfl rfl (fun w' e=>by rw [e];exact⟨qXx21,qXx22⟩) (fun w hh hR hs=>?_)
    replace H:=M.at hh H;clear hh
    refine KG (i:=0) (v:=.pointer (some ((x2).add 3))) #[true,false,false,false,false,false,false,false] rfl rfl hT (by kernel_rfl) hE rfl (KA rfl) (fun w=>KD hE rfl KKf) (fun a hE=>?_)
    refine Zs (i:=1) (v:=(Xx21:Sl).v) #[true,true,false,false,false,false,false,false] rfl rfl hT (by kernel_rfl) hE rfl (KA rfl) hs (fun w s=>KS hE rfl sc91 s.1) (fun a hE=>?_)
    refine Zs (i:=2) (v:=.pointer Xx22) #[true,true,true,false,false,false,false,false] rfl rfl hT (by kernel_rfl) hE rfl (KA rfl) hs (fun w s=>KS hE rfl sc98 s.2) (fun a hE=>?_)
    refine KA6 (i:=3) #[true,true,true,true,false,false,false,false] rfl rfl rfl hT (by kernel_rfl) rfl hE hR (KA rfl) qR rfl (zg Xx22) H (fun r h H w' e=>by obtain⟨_,sA,H⟩:=H;rw [e];exact sA) (fun _ _ hR HQ=>Xu.ne rfl (hthr _ _ hR HQ)) (fun Xx23 a w ea hR H hs=>?_)
    obtain⟨_,sA,H⟩:=H;clear sA
    have hE:=Env.put_some hE rfl ea;clear ea
    obtain⟨y_25,qy_25,H⟩:=H
    obtain⟨Xx24,qXx24,H⟩:=H
    obtain⟨_,sA,H⟩:=H
    refine KCQ (i:=4) (v:=(Xx24:Sl).v) #[true,true,true,true,true,false,false,false] rfl rfl hT (by kernel_rfl) rfl hE hR rfl (KA rfl) (J4 hE rfl un91 KMg KKa rfl qy_25 qXx24)  (fun w' e=>by rw [e];exact sA) (fun a w hE hR hh hs=>?_)
    replace H:=M.at hh H;clear hh
    refine KJE (i:=5) (fun Xx26=>(Xx26:Sl).v) #[true,true,true,true,true,true,false,false] rfl rfl hT (by kernel_rfl) rfl hR (KA rfl) (M.unbind H) (fun Q H=>GA hE rfl rfl ap91 H) (fun Xx26 a w ea hR H=>?_)
    have hE:=Env.put_some hE rfl ea;clear ea
    refine KG (i:=6) (v:=.pointer (some ((x2).add 3))) #[true,true,true,true,true,true,true,false] rfl rfl hT (by kernel_rfl) hE rfl (KA rfl) (fun w=>KD hE rfl KKf) (fun a hE=>?_)
    obtain⟨u_27,qu_27,H⟩:=H
    refine YD (i:=7) #[true,true,true,true,true,true,true,true] rfl rfl hT (by kernel_rfl) rfl hE hR (KA rfl) (ZB hE rfl rfl sz91 qu_27)  (fun a w hE hR hh=>?_)
    replace H:=M.at hh H;clear hh
    refine VD hT (by kernel_rfl) ?_
    exact hret _ _ _ () _ hE hR (Kn hE rfl RV.nil) rfl H
   ·replace H:=M.ite_f hb H
    refine KR (fun K hK_28=>?_)
    refine KC ?_
    refine KB (v:=.pointer (some ((x2).add 4))) rfl rfl hE rfl (KD hE rfl KKg) (fun a hE=>?_)
    obtain⟨Xx29,qXx29,H⟩:=H
    refine KB (v:=(Xx29:Sl).v) rfl rfl hE rfl (KS hE rfl sc52 qXx29) (fun a hE=>?_)
    refine KB (v:=.int .i64 (Xx29.len:Int)) rfl rfl hE rfl (KAy hE rfl 54 un52) (fun a hE=>?_)
    refine KB (v:=.pointer (some ((x1).add 6))) rfl rfl hE rfl (KD hE rfl KKe) (fun a hE=>?_)
    refine KB (v:=.pointer (some (((x1).add 6).add 1))) rfl rfl hE rfl (KD hE rfl GK) (fun a hE=>?_)
    obtain⟨Xx30,qXx30,H⟩:=H
    refine KB (v:=.int .i64 Xx30) rfl rfl hE rfl (KS hE rfl sc3 qXx30) (fun a hE=>?_)
    refine KB (v:=.bool (decide ((Xx29.len:Int)<Xx30))) rfl rfl hE rfl (Kk hE rfl rfl Ki NU) (fun a hE=>?_)
    refine KB (v:=.bool (decide ((Xx29.len:Int)<Xx30))) rfl rfl hE rfl (KQ hE rfl) (fun a hE=>?_)
    refine KN ?_
    refine hK_28 _ _ ?_
    refine ZA (decide ((Xx29.len:Int)<Xx30)) hE rfl (fun hb=>?_) (fun hb=>?_)
    ·replace H:=M.ite_t hb H
     obtain⟨Xx31,qXx31,H⟩:=H
     obtain⟨Xx32,qXx32,H⟩:=H
     have hT:=VT KPA rfl rfl
     refine Jv (fun w:World=>(fun h:Heap=>(KM h ((x2).add 4)=some ((Xx31:Sl).v))∧(KM h x3=some (.pointer Xx32))) w.heap) [6,7,8,9,10] #[false,false,false,false,false,false,false,false,false,false,false] mo hR rfl rfl (fun w' e=>by rw [e];exact⟨qXx31,qXx32⟩) (fun w hh hR hs=>?_)
     replace H:=M.at hh H;clear hh
     refine KG (i:=0) (v:=.pointer (some ((x2).add 4))) #[true,false,false,false,false,false,false,false,false,false,false] rfl rfl hT (by kernel_rfl) hE rfl (KA rfl) (fun w=>KD hE rfl KKg) (fun a hE=>?_)
     refine Zs (i:=1) (v:=(Xx31:Sl).v) #[true,true,false,false,false,false,false,false,false,false,false] rfl rfl hT (by kernel_rfl) hE rfl (KA rfl) hs (fun w s=>KS hE rfl sc52 s.1) (fun a hE=>?_)
     refine KG (i:=4) (v:=.int .i64 (Xx31.len:Int)) #[true,true,false,false,true,false,false,false,false,false,false] rfl rfl hT (by kernel_rfl) hE rfl (KA rfl) (fun w=>KAy hE rfl 54 un52) (fun a hE=>?_)
     refine Zs (i:=2) (v:=.pointer Xx32) #[true,true,true,false,true,false,false,false,false,false,false] rfl rfl hT (by kernel_rfl) hE rfl (KA rfl) hs (fun w s=>KS hE rfl sc98 s.2) (fun a hE=>?_)
     refine KKO (n:=(⟨77,[]⟩:Frm)) (w0:=w0) (fun y_39:Array Value×Sl=>[(0,.int .i64 x0),(1,.pointer (some x1)),(2,.pointer (some x2)),(3,.pointer (some x3)),(4,.pointer (some x4)),(16,.int .i64 x0),(17,.pointer (some ((x1).add 0))),(18,.pointer (some (((x1).add 0).add 1))),(19,.int .i64 Xx2),(20,.bool (decide (x0<Xx2))),(15,.bool (decide (x0<Xx2))),(29,.int .i64 x0),(30,.pointer (some ((x1).add 0))),(31,.pointer (some (((x1).add 0).add 1))),(32,.int .i64 Xx10),(33,.pointer (some ((x1).add 2))),(34,.pointer (some (((x1).add 2).add 1))),(35,.int .i64 Xx11),(36,.int .i64 (IntKind.wrap .i64 (Xx10+Xx11))),(37,.bool (decide (x0<(IntKind.wrap .i64 (Xx10+Xx11))))),(28,.bool (decide (x0<(IntKind.wrap .i64 (Xx10+Xx11))))),(46,.pointer (some ((x2).add 3))),(47,(Xx19:Sl).v),(48,.int .i64 (Xx19.len:Int)),(49,.pointer (some ((x1).add 4))),(50,.pointer (some (((x1).add 4).add 1))),(51,.int .i64 Xx20),(52,.bool (decide ((Xx19.len:Int)<Xx20))),(45,.bool (decide ((Xx19.len:Int)<Xx20))),(61,.pointer (some ((x2).add 4))),(62,(Xx29:Sl).v),(63,.int .i64 (Xx29.len:Int)),(64,.pointer (some ((x1).add 6))),(65,.pointer (some (((x1).add 6).add 1))),(66,.int .i64 Xx30),(67,.bool (decide ((Xx29.len:Int)<Xx30))),(60,.bool (decide ((Xx29.len:Int)<Xx30))),(68,.pointer (some ((x2).add 4))),(69,(Xx31:Sl).v),(72,.int .i64 (Xx31.len:Int)),(70,.pointer Xx32),(71,.agg y_39.1),(73,(y_39.2:Sl).v)]) 5 #[true,true,true,true,true,true,false,false,false,false,false] H ?_ ?_
     ·intro y_39 a w hE hR H
      refine KJE (i:=6) (fun Xx40=>(Xx40:Sl).v) #[true,true,true,true,true,true,true,false,false,false,false] rfl rfl hT (by kernel_rfl) rfl hR (KA rfl) (M.unbind H) (fun Q H=>GA hE rfl rfl ap52 H) (fun Xx40 a w ea hR H=>?_)
      have hE:=Env.put_some hE rfl ea;clear ea
      obtain⟨Xx41,qXx41,H⟩:=H
      refine KG (i:=7) (v:=.pointer (some Xx41)) #[true,true,true,true,true,true,true,true,false,false,false] rfl rfl hT (by kernel_rfl) hE rfl (KA rfl) (fun w=>Ua hE rfl rfl un52 sz54 qXx41) (fun a hE=>?_)
      refine KG (i:=9) (v:=.pointer (some ((x2).add 4))) #[true,true,true,true,true,true,true,true,false,true,false] rfl rfl hT (by kernel_rfl) hE rfl (KA rfl) (fun w=>KD hE rfl KKg) (fun a hE=>?_)
      refine KEV (fun w:World=>(fun h:Heap=>True) w.heap) [8,10] (by kernel_rfl) ?_
      have hs:(fun h:Heap=>True) w.heap:=trivial
      refine KH3 (n:=(⟨77,[]⟩:Frm)) (w0:=w0) (fun y_46:Unit=>[(0,.int .i64 x0),(1,.pointer (some x1)),(2,.pointer (some x2)),(3,.pointer (some x3)),(4,.pointer (some x4)),(16,.int .i64 x0),(17,.pointer (some ((x1).add 0))),(18,.pointer (some (((x1).add 0).add 1))),(19,.int .i64 Xx2),(20,.bool (decide (x0<Xx2))),(15,.bool (decide (x0<Xx2))),(29,.int .i64 x0),(30,.pointer (some ((x1).add 0))),(31,.pointer (some (((x1).add 0).add 1))),(32,.int .i64 Xx10),(33,.pointer (some ((x1).add 2))),(34,.pointer (some (((x1).add 2).add 1))),(35,.int .i64 Xx11),(36,.int .i64 (IntKind.wrap .i64 (Xx10+Xx11))),(37,.bool (decide (x0<(IntKind.wrap .i64 (Xx10+Xx11))))),(28,.bool (decide (x0<(IntKind.wrap .i64 (Xx10+Xx11))))),(46,.pointer (some ((x2).add 3))),(47,(Xx19:Sl).v),(48,.int .i64 (Xx19.len:Int)),(49,.pointer (some ((x1).add 4))),(50,.pointer (some (((x1).add 4).add 1))),(51,.int .i64 Xx20),(52,.bool (decide ((Xx19.len:Int)<Xx20))),(45,.bool (decide ((Xx19.len:Int)<Xx20))),(61,.pointer (some ((x2).add 4))),(62,(Xx29:Sl).v),(63,.int .i64 (Xx29.len:Int)),(64,.pointer (some ((x1).add 6))),(65,.pointer (some (((x1).add 6).add 1))),(66,.int .i64 Xx30),(67,.bool (decide ((Xx29.len:Int)<Xx30))),(60,.bool (decide ((Xx29.len:Int)<Xx30))),(68,.pointer (some ((x2).add 4))),(69,(Xx31:Sl).v),(72,.int .i64 (Xx31.len:Int)),(70,.pointer Xx32),(71,.agg y_39.1),(73,(y_39.2:Sl).v),(74,(Xx40:Sl).v),(75,.pointer (some Xx41)),(76,.pointer (some ((x2).add 4)))]) 0 #[true,true,true,true,true,true,true,true,true,true,true] (M.unbind H) ?_ ?_
      ·intro y_46 a w hE hR H
       refine VD hT (by kernel_rfl) ?_
       exact hret _ _ _ () _ hE hR (Kn hE rfl RV.nil) rfl H
      ·intro hj H
       refine zu [8,10] hT (by kernel_rfl) rfl (fun i hi=>?_)
       simp only [List.mem_cons,List.not_mem_nil,or_false]at hi
       rcases hi with rfl|rfl
       ·replace H:=H.1
        obtain⟨qz,H⟩:=H
        obtain⟨u_42,qu_42,H⟩:=H
        refine KMX (S:=fun w:World=>(fun h:Heap=>True) w.heap) (i:=8) #[true,true,true,true,true,true,true,true,true,true,false] rfl rfl (by kernel_rfl) hE hR (KA rfl) (Kh hE rfl rfl sz54 qz qu_42)  (fun _ _=>trivial) (fun a w hE hR hh hs=>?_)
        replace H:=M.at hh H;clear hh
        obtain⟨u_43,qu_43,H⟩:=H
        refine YD (i:=10) #[true,true,true,true,true,true,true,true,true,true,true] rfl rfl hT (by kernel_rfl) rfl hE hR (KA rfl) (ZB hE rfl rfl sz52 qu_43)  (fun a w hE hR hh=>?_)
        replace H:=M.at hh H;clear hh
        exact hj () _ _ (hE.cut (.cons rfl (.cons rfl (.cons rfl (.cons rfl (.cons rfl (.cons rfl (.cons rfl (.cons rfl (.cons rfl (.cons rfl (.cons rfl (.cons rfl (.cons rfl (.cons rfl (.cons rfl (.cons rfl (.cons rfl (.cons rfl (.cons rfl (.cons rfl (.cons rfl (.cons rfl (.cons rfl (.cons rfl (.cons rfl (.cons rfl (.cons rfl (.cons rfl (.cons rfl (.cons rfl (.cons rfl (.cons rfl (.cons rfl (.cons rfl (.cons rfl (.cons rfl (.cons rfl (.cons rfl (.cons rfl (.cons rfl (.cons rfl (.cons rfl (.cons rfl (.cons rfl (.cons rfl (.cons rfl Subs.nil))))))))))))))))))))))))))))))))))))))))))))))) hR H
       ·replace H:=H.2
        obtain⟨u_44,qu_44,H⟩:=H
        refine KMX (S:=fun w:World=>(fun h:Heap=>True) w.heap) (i:=10) #[true,true,true,true,true,true,true,true,false,true,true] rfl rfl (by kernel_rfl) hE hR (KA rfl) (ZB hE rfl rfl sz52 qu_44)  (fun _ _=>trivial) (fun a w hE hR hh hs=>?_)
        replace H:=M.at hh H;clear hh
        obtain⟨qz,H⟩:=H
        obtain⟨u_45,qu_45,H⟩:=H
        refine YD (i:=8) #[true,true,true,true,true,true,true,true,true,true,true] rfl rfl hT (by kernel_rfl) rfl hE hR (KA rfl) (Kh hE rfl rfl sz54 qz qu_45)  (fun a w hE hR hh=>?_)
        replace H:=M.at hh H;clear hh
        exact hj () _ _ (hE.cut (.cons rfl (.cons rfl (.cons rfl (.cons rfl (.cons rfl (.cons rfl (.cons rfl (.cons rfl (.cons rfl (.cons rfl (.cons rfl (.cons rfl (.cons rfl (.cons rfl (.cons rfl (.cons rfl (.cons rfl (.cons rfl (.cons rfl (.cons rfl (.cons rfl (.cons rfl (.cons rfl (.cons rfl (.cons rfl (.cons rfl (.cons rfl (.cons rfl (.cons rfl (.cons rfl (.cons rfl (.cons rfl (.cons rfl (.cons rfl (.cons rfl (.cons rfl (.cons rfl (.cons rfl (.cons rfl (.cons rfl (.cons rfl (.cons rfl (.cons rfl (.cons rfl (.cons rfl (.cons rfl Subs.nil))))))))))))))))))))))))))))))))))))))))))))))) hR H
     ·intro hj H
      refine zu [3,5] hT (by kernel_rfl) rfl (fun i hi=>?_)
      simp only [List.mem_cons,List.not_mem_nil,or_false]at hi
      rcases hi with rfl|rfl
      ·replace H:=H.1
       refine KKN (S:=fun w:World=>(fun h:Heap=>(KM h ((x2).add 4)=some ((Xx31:Sl).v))∧(KM h x3=some (.pointer Xx32))) w.heap) (i:=3) #[true,true,true,true,true,false,false,false,false,false,false] rfl rfl rfl (by kernel_rfl) hE hR (KA rfl) Ze rfl (Z1 Xx32 1) H (fun r h H w' e=>by obtain⟨_,sA,H⟩:=H;rw [e];exact sA) (fun _ _ hR HQ=>Xu.ne rfl (hthr _ _ hR HQ)) (fun Xx33 a w ea hR H hs=>?_)
       obtain⟨_,sA,H⟩:=H;clear sA
       have hE:=Env.put_some hE rfl ea;clear ea
       obtain⟨y_35,qy_35,H⟩:=H
       obtain⟨Xx34,qXx34,H⟩:=H
       obtain⟨_,sA,H⟩:=H
       refine KCQ (i:=5) (v:=(Xx34:Sl).v) #[true,true,true,true,true,true,false,false,false,false,false] rfl rfl hT (by kernel_rfl) rfl hE hR rfl (KA rfl) (J4 hE rfl un52 sz54 zr54 rfl qy_35 qXx34)  (fun w' e=>by rw [e];exact sA) (fun a w hE hR hh hs=>?_)
       replace H:=M.at hh H;clear hh
       exact hj (Xx33,Xx34) _ _ (hE.cut (.cons rfl (.cons rfl (.cons rfl (.cons rfl (.cons rfl (.cons rfl (.cons rfl (.cons rfl (.cons rfl (.cons rfl (.cons rfl (.cons rfl (.cons rfl (.cons rfl (.cons rfl (.cons rfl (.cons rfl (.cons rfl (.cons rfl (.cons rfl (.cons rfl (.cons rfl (.cons rfl (.cons rfl (.cons rfl (.cons rfl (.cons rfl (.cons rfl (.cons rfl (.cons rfl (.cons rfl (.cons rfl (.cons rfl (.cons rfl (.cons rfl (.cons rfl (.cons rfl (.cons rfl (.cons rfl (.cons rfl (.cons rfl (.cons rfl (.cons rfl Subs.nil)))))))))))))))))))))))))))))))))))))))))))) hR (KB7 H)
      ·replace H:=H.2
       obtain⟨y_37,qy_37,H⟩:=H
       obtain⟨Xx36,qXx36,H⟩:=H
       obtain⟨_,sA,H⟩:=H
       refine KJ5 (S:=fun w:World=>(fun h:Heap=>(KM h ((x2).add 4)=some ((Xx31:Sl).v))∧(KM h x3=some (.pointer Xx32))) w.heap) (i:=5) (v:=(Xx36:Sl).v) #[true,true,true,false,true,true,false,false,false,false,false] rfl rfl (by kernel_rfl) hE hR rfl (KA rfl) (J4 hE rfl un52 sz54 zr54 rfl qy_37 qXx36)  (fun w' e=>by rw [e];exact sA) (fun a w hE hR hh hs=>?_)
       replace H:=M.at hh H;clear hh
       refine KA6 (i:=3) #[true,true,true,true,true,true,false,false,false,false,false] rfl rfl rfl hT (by kernel_rfl) rfl hE hR (KA rfl) Ze rfl (Z1 Xx32 1) H (fun r h H w' e=>by obtain⟨_,sA,H⟩:=H;rw [e];exact sA) (fun _ _ hR HQ=>Xu.ne rfl (hthr _ _ hR HQ)) (fun Xx38 a w ea hR H hs=>?_)
       obtain⟨_,sA,H⟩:=H;clear sA
       have hE:=Env.put_some hE rfl ea;clear ea
       exact hj (Xx38,Xx36) _ _ (hE.cut (.cons rfl (.cons rfl (.cons rfl (.cons rfl (.cons rfl (.cons rfl (.cons rfl (.cons rfl (.cons rfl (.cons rfl (.cons rfl (.cons rfl (.cons rfl (.cons rfl (.cons rfl (.cons rfl (.cons rfl (.cons rfl (.cons rfl (.cons rfl (.cons rfl (.cons rfl (.cons rfl (.cons rfl (.cons rfl (.cons rfl (.cons rfl (.cons rfl (.cons rfl (.cons rfl (.cons rfl (.cons rfl (.cons rfl (.cons rfl (.cons rfl (.cons rfl (.cons rfl (.cons rfl (.cons rfl (.cons rfl (.cons rfl (.cons rfl (.cons rfl Subs.nil)))))))))))))))))))))))))))))))))))))))))))) hR (KB7 H)
    ·replace H:=M.ite_f hb H
     obtain⟨Xx47,qXx47,H⟩:=H
     obtain⟨Xx48,qXx48,H⟩:=H
     obtain⟨Xx49,qXx49,H⟩:=H
     have hT:=VT KPB rfl rfl
     refine Jv (fun w:World=>(fun h:Heap=>(KM h ((x2).add 5)=some ((Xx47:Sl).v))∧(KM h x3=some (.pointer Xx48))∧(KM h x4=some (.int .i64 Xx49))) w.heap) [7,8,9] #[false,false,false,false,false,false,false,false,false,false] mo hR rfl rfl (fun w' e=>by rw [e];exact⟨qXx47,qXx48,qXx49⟩) (fun w hh hR hs=>?_)
     replace H:=M.at hh H;clear hh
     refine KG (i:=0) (v:=.pointer (some ((x2).add 5))) #[true,false,false,false,false,false,false,false,false,false] rfl rfl hT (by kernel_rfl) hE rfl (KA rfl) (fun w=>KD hE rfl KN1) (fun a hE=>?_)
     refine Zs (i:=1) (v:=(Xx47:Sl).v) #[true,true,false,false,false,false,false,false,false,false] rfl rfl hT (by kernel_rfl) hE rfl (KA rfl) hs (fun w s=>KS hE rfl sc92 s.1) (fun a hE=>?_)
     refine Zs (i:=2) (v:=.pointer Xx48) #[true,true,true,false,false,false,false,false,false,false] rfl rfl hT (by kernel_rfl) hE rfl (KA rfl) hs (fun w s=>KS hE rfl sc98 s.2.1) (fun a hE=>?_)
     refine Zs (i:=3) (v:=.int .i64 Xx49) #[true,true,true,true,false,false,false,false,false,false] rfl rfl hT (by kernel_rfl) hE rfl (KA rfl) hs (fun w s=>KS hE rfl sc3 s.2.2) (fun a hE=>?_)
     refine KG (i:=4) (v:=.int .i64 (IntKind.wrap .i64 (Xx49+1))) #[true,true,true,true,true,false,false,false,false,false] rfl rfl hT (by kernel_rfl) hE rfl (KA rfl) (fun w=>Kk hE rfl rfl Ki Vp) (fun a hE=>?_)
     refine KA6 (i:=5) #[true,true,true,true,true,true,false,false,false,false] rfl rfl rfl hT (by kernel_rfl) rfl hE hR (KA rfl) WS rfl (Wi Xx48 (IntKind.wrap .i64 (Xx49+1))) H (fun r h H w' e=>by obtain⟨_,sA,H⟩:=H;rw [e];exact sA) (fun _ _ hR HQ=>Xu.ne rfl (hthr _ _ hR HQ)) (fun Xx50 a w ea hR H hs=>?_)
     obtain⟨_,sA,H⟩:=H;clear sA
     have hE:=Env.put_some hE rfl ea;clear ea
     obtain⟨Xx51,qXx51,H⟩:=H
     obtain⟨_,sA,H⟩:=H
     refine KCQ (i:=6) (v:=(Xx51:Sl).v) #[true,true,true,true,true,true,true,false,false,false] rfl rfl hT (by kernel_rfl) rfl hE hR rfl (KA rfl) (J4 (cells:=#[(Xx50:Sl).v]) hE rfl un92 sz43 zr43 rfl rfl qXx51)  (fun w' e=>by rw [e];exact sA) (fun a w hE hR hh hs=>?_)
     replace H:=M.at hh H;clear hh
     refine KJE (i:=7) (fun Xx52=>(Xx52:Sl).v) #[true,true,true,true,true,true,true,true,false,false] rfl rfl hT (by kernel_rfl) rfl hR (KA rfl) (M.unbind H) (fun Q H=>GA hE rfl rfl ap92 H) (fun Xx52 a w ea hR H=>?_)
     have hE:=Env.put_some hE rfl ea;clear ea
     refine KG (i:=8) (v:=.pointer (some ((x2).add 5))) #[true,true,true,true,true,true,true,true,true,false] rfl rfl hT (by kernel_rfl) hE rfl (KA rfl) (fun w=>KD hE rfl KN1) (fun a hE=>?_)
     obtain⟨u_53,qu_53,H⟩:=H
     refine YD (i:=9) #[true,true,true,true,true,true,true,true,true,true] rfl rfl hT (by kernel_rfl) rfl hE hR (KA rfl) (ZB hE rfl rfl sz92 qu_53)  (fun a w hE hR hh=>?_)
     replace H:=M.at hh H;clear hh
     refine VD hT (by kernel_rfl) ?_
     exact hret _ _ _ () _ hE hR (Kn hE rfl RV.nil) rfl H
end Gx
namespace Gx
open Go
theorem KPC:GS Go.Proofs.Tryz.f199 0 [[],[0],[],[2],[1],[],[1,5,3,0,1,2,3,4,5],[6,4,0,1,2,3,4,5,6],[7,3,6,0,1,2,3,4,5,6],[0,1,2,3,4,5,6],[9,6,6,0,1,2,3,4,5,6]] [[],[0],[],[2],[1],[],[1,5],[4,6],[3,7],[],[6,9]] [[],[0],[],[2],[0,1],[],[0,1,2,3,4,5],[0,1,2,3,4,5,6],[0,1,2,3,4,5,6,7],[0,1,2,3,4,5,6],[0,1,2,3,4,5,6,9]]=true:=by kernel_rfl
def We (x0:Int) (x1:Addr) (x2:Addr):M (Value⊕(Unit)):=do
 let Xx1←ldL ((x1).add 1)
 let Xx2←ldP x2
 thr (do
  M.both (do
   thr (Kt Xx2 1) fun Xx3=>do
    chk (fun h:Heap=>(KM h ((x1).add 1)=some ((Xx1:Sl).v))∧(KM h x2=some (.pointer Xx2)))
    let y_5←XI 4 1 (#[.int .i64 0,.int .i64 0,.string ByteArray.empty,.slice none 0 0]:Array Value) [(0,.agg (#[.int .i64 0,.int .i64 0,.string ByteArray.empty,.slice none 0 0]:Array Value))]
    let Xx4←bdL KH 1 y_5
    chk (fun h:Heap=>(KM h ((x1).add 1)=some ((Xx1:Sl).v))∧(KM h x2=some (.pointer Xx2)))
    M.pure (.inr (Xx3,Xx4))
   ) (do
   let y_7←XI 4 1 (#[.int .i64 0,.int .i64 0,.string ByteArray.empty,.slice none 0 0]:Array Value) [(0,.agg (#[.int .i64 0,.int .i64 0,.string ByteArray.empty,.slice none 0 0]:Array Value))]
   let Xx6←bdL KH 1 y_7
   chk (fun h:Heap=>(KM h ((x1).add 1)=some ((Xx1:Sl).v))∧(KM h x2=some (.pointer Xx2)))
   thr (Kt Xx2 1) fun Xx8=>do
    chk (fun h:Heap=>(KM h ((x1).add 1)=some ((Xx1:Sl).v))∧(KM h x2=some (.pointer Xx2)))
    M.pure (.inr (Xx8,Xx6))
   )
  ) fun y_9=>do
  let Xx10←apL KH 4 56 (#[.int .i64 0,.int .i64 0,.string ByteArray.empty,.slice none 0 0]:Array Value) Xx1 y_9.2
  let Xx11←ixL Xx10 (Xx1.len:Int) 4
  let y_16←do
   M.both (do
    M.need (y_9.1.size=4)
    stG Xx11 y_9.1
    stV ((x1).add 1) ((Xx10:Sl).v)
    M.pure ()
    ) (do
    stV ((x1).add 1) ((Xx10:Sl).v)
    M.need (y_9.1.size=4)
    stG Xx11 y_9.1
    M.pure ()
    )
  M.pure (.inr ())
theorem Nx (x0:Int) (x1:Addr) (x2:Addr):J3 Go.Proofs.Tryz.prog 199 #[.int .i64 x0,.pointer (some x1),.pointer (some x2)] (fun(r:Unit)=>.tuple #[]) (We x0 x1 x2):=by
 refine Zj [(0,.int .i64 x0),(1,.pointer (some x1)),(2,.pointer (some x2))] Go.Proofs.Tryz.func199 rfl rfl (Nat.le_of_ble_eq_true rfl) (Z8 ⟨rfl,rfl,rfl,trivial⟩) (fun w0 w Q R X a hret hthr hE hR H=>?_)
 unfold We at H
 obtain⟨Xx1,qXx1,H⟩:=H
 obtain⟨Xx2,qXx2,H⟩:=H
 have hT:=VT KPC rfl rfl
 refine Jv (fun w:World=>(fun h:Heap=>(KM h ((x1).add 1)=some ((Xx1:Sl).v))∧(KM h x2=some (.pointer Xx2))) w.heap) [6,7,8,9,10] #[false,false,false,false,false,false,false,false,false,false,false] mo hR rfl rfl (fun w' e=>by rw [e];exact⟨qXx1,qXx2⟩) (fun w hh hR hs=>?_)
 replace H:=M.at hh H;clear hh
 refine KG (i:=0) (v:=.pointer (some ((x1).add 1))) #[true,false,false,false,false,false,false,false,false,false,false] rfl rfl hT (by kernel_rfl) hE rfl (KA rfl) (fun w=>KD hE rfl KKb) (fun a hE=>?_)
 refine Zs (i:=1) (v:=(Xx1:Sl).v) #[true,true,false,false,false,false,false,false,false,false,false] rfl rfl hT (by kernel_rfl) hE rfl (KA rfl) hs (fun w s=>KS hE rfl sc52 s.1) (fun a hE=>?_)
 refine KG (i:=4) (v:=.int .i64 (Xx1.len:Int)) #[true,true,false,false,true,false,false,false,false,false,false] rfl rfl hT (by kernel_rfl) hE rfl (KA rfl) (fun w=>KAy hE rfl 54 un52) (fun a hE=>?_)
 refine Zs (i:=2) (v:=.pointer Xx2) #[true,true,true,false,true,false,false,false,false,false,false] rfl rfl hT (by kernel_rfl) hE rfl (KA rfl) hs (fun w s=>KS hE rfl sc98 s.2) (fun a hE=>?_)
 refine KKO (n:=(⟨13,[]⟩:Frm)) (w0:=w0) (fun y_9:Array Value×Sl=>[(0,.int .i64 x0),(1,.pointer (some x1)),(2,.pointer (some x2)),(4,.pointer (some ((x1).add 1))),(5,(Xx1:Sl).v),(8,.int .i64 (Xx1.len:Int)),(6,.pointer Xx2),(7,.agg y_9.1),(9,(y_9.2:Sl).v)]) 5 #[true,true,true,true,true,true,false,false,false,false,false] H ?_ ?_
 ·intro y_9 a w hE hR H
  refine KJE (i:=6) (fun Xx10=>(Xx10:Sl).v) #[true,true,true,true,true,true,true,false,false,false,false] rfl rfl hT (by kernel_rfl) rfl hR (KA rfl) (M.unbind H) (fun Q H=>GA hE rfl rfl ap52 H) (fun Xx10 a w ea hR H=>?_)
  have hE:=Env.put_some hE rfl ea;clear ea
  obtain⟨Xx11,qXx11,H⟩:=H
  refine KG (i:=7) (v:=.pointer (some Xx11)) #[true,true,true,true,true,true,true,true,false,false,false] rfl rfl hT (by kernel_rfl) hE rfl (KA rfl) (fun w=>Ua hE rfl rfl un52 sz54 qXx11) (fun a hE=>?_)
  refine KG (i:=9) (v:=.pointer (some ((x1).add 1))) #[true,true,true,true,true,true,true,true,false,true,false] rfl rfl hT (by kernel_rfl) hE rfl (KA rfl) (fun w=>KD hE rfl KKb) (fun a hE=>?_)
  refine KEV (fun w:World=>(fun h:Heap=>True) w.heap) [8,10] (by kernel_rfl) ?_
  have hs:(fun h:Heap=>True) w.heap:=trivial
  refine KH3 (n:=(⟨13,[]⟩:Frm)) (w0:=w0) (fun y_16:Unit=>[(0,.int .i64 x0),(1,.pointer (some x1)),(2,.pointer (some x2)),(4,.pointer (some ((x1).add 1))),(5,(Xx1:Sl).v),(8,.int .i64 (Xx1.len:Int)),(6,.pointer Xx2),(7,.agg y_9.1),(9,(y_9.2:Sl).v),(10,(Xx10:Sl).v),(11,.pointer (some Xx11)),(12,.pointer (some ((x1).add 1)))]) 0 #[true,true,true,true,true,true,true,true,true,true,true] (M.unbind H) ?_ ?_
  ·intro y_16 a w hE hR H
   refine VD hT (by kernel_rfl) ?_
   exact hret _ _ _ () _ hE hR (Kn hE rfl RV.nil) rfl H
  ·intro hj H
   refine zu [8,10] hT (by kernel_rfl) rfl (fun i hi=>?_)
   simp only [List.mem_cons,List.not_mem_nil,or_false]at hi
   rcases hi with rfl|rfl
   ·replace H:=H.1
    obtain⟨qz,H⟩:=H
    obtain⟨u_12,qu_12,H⟩:=H
    refine KMX (S:=fun w:World=>(fun h:Heap=>True) w.heap) (i:=8) #[true,true,true,true,true,true,true,true,true,true,false] rfl rfl (by kernel_rfl) hE hR (KA rfl) (Kh hE rfl rfl sz54 qz qu_12)  (fun _ _=>trivial) (fun a w hE hR hh hs=>?_)
    replace H:=M.at hh H;clear hh
    obtain⟨u_13,qu_13,H⟩:=H
    refine YD (i:=10) #[true,true,true,true,true,true,true,true,true,true,true] rfl rfl hT (by kernel_rfl) rfl hE hR (KA rfl) (ZB hE rfl rfl sz52 qu_13)  (fun a w hE hR hh=>?_)
    replace H:=M.at hh H;clear hh
    exact hj () _ _ (hE.cut (.cons rfl (.cons rfl (.cons rfl (.cons rfl (.cons rfl (.cons rfl (.cons rfl (.cons rfl (.cons rfl (.cons rfl (.cons rfl (.cons rfl Subs.nil))))))))))))) hR H
   ·replace H:=H.2
    obtain⟨u_14,qu_14,H⟩:=H
    refine KMX (S:=fun w:World=>(fun h:Heap=>True) w.heap) (i:=10) #[true,true,true,true,true,true,true,true,false,true,true] rfl rfl (by kernel_rfl) hE hR (KA rfl) (ZB hE rfl rfl sz52 qu_14)  (fun _ _=>trivial) (fun a w hE hR hh hs=>?_)
    replace H:=M.at hh H;clear hh
    obtain⟨qz,H⟩:=H
    obtain⟨u_15,qu_15,H⟩:=H
    refine YD (i:=8) #[true,true,true,true,true,true,true,true,true,true,true] rfl rfl hT (by kernel_rfl) rfl hE hR (KA rfl) (Kh hE rfl rfl sz54 qz qu_15)  (fun a w hE hR hh=>?_)
    replace H:=M.at hh H;clear hh
    exact hj () _ _ (hE.cut (.cons rfl (.cons rfl (.cons rfl (.cons rfl (.cons rfl (.cons rfl (.cons rfl (.cons rfl (.cons rfl (.cons rfl (.cons rfl (.cons rfl Subs.nil))))))))))))) hR H
 ·intro hj H
  refine zu [3,5] hT (by kernel_rfl) rfl (fun i hi=>?_)
  simp only [List.mem_cons,List.not_mem_nil,or_false]at hi
  rcases hi with rfl|rfl
  ·replace H:=H.1
   refine KKN (S:=fun w:World=>(fun h:Heap=>(KM h ((x1).add 1)=some ((Xx1:Sl).v))∧(KM h x2=some (.pointer Xx2))) w.heap) (i:=3) #[true,true,true,true,true,false,false,false,false,false,false] rfl rfl rfl (by kernel_rfl) hE hR (KA rfl) Ze rfl (Z1 Xx2 1) H (fun r h H w' e=>by obtain⟨_,sA,H⟩:=H;rw [e];exact sA) (fun _ _ hR HQ=>hthr _ _ hR HQ) (fun Xx3 a w ea hR H hs=>?_)
   obtain⟨_,sA,H⟩:=H;clear sA
   have hE:=Env.put_some hE rfl ea;clear ea
   obtain⟨y_5,qy_5,H⟩:=H
   obtain⟨Xx4,qXx4,H⟩:=H
   obtain⟨_,sA,H⟩:=H
   refine KCQ (i:=5) (v:=(Xx4:Sl).v) #[true,true,true,true,true,true,false,false,false,false,false] rfl rfl hT (by kernel_rfl) rfl hE hR rfl (KA rfl) (J4 hE rfl un52 sz54 zr54 rfl qy_5 qXx4)  (fun w' e=>by rw [e];exact sA) (fun a w hE hR hh hs=>?_)
   replace H:=M.at hh H;clear hh
   exact hj (Xx3,Xx4) _ _ (hE.cut (.cons rfl (.cons rfl (.cons rfl (.cons rfl (.cons rfl (.cons rfl (.cons rfl (.cons rfl (.cons rfl Subs.nil)))))))))) hR (KB7 H)
  ·replace H:=H.2
   obtain⟨y_7,qy_7,H⟩:=H
   obtain⟨Xx6,qXx6,H⟩:=H
   obtain⟨_,sA,H⟩:=H
   refine KJ5 (S:=fun w:World=>(fun h:Heap=>(KM h ((x1).add 1)=some ((Xx1:Sl).v))∧(KM h x2=some (.pointer Xx2))) w.heap) (i:=5) (v:=(Xx6:Sl).v) #[true,true,true,false,true,true,false,false,false,false,false] rfl rfl (by kernel_rfl) hE hR rfl (KA rfl) (J4 hE rfl un52 sz54 zr54 rfl qy_7 qXx6)  (fun w' e=>by rw [e];exact sA) (fun a w hE hR hh hs=>?_)
   replace H:=M.at hh H;clear hh
   refine KA6 (i:=3) #[true,true,true,true,true,true,false,false,false,false,false] rfl rfl rfl hT (by kernel_rfl) rfl hE hR (KA rfl) Ze rfl (Z1 Xx2 1) H (fun r h H w' e=>by obtain⟨_,sA,H⟩:=H;rw [e];exact sA) (fun _ _ hR HQ=>hthr _ _ hR HQ) (fun Xx8 a w ea hR H hs=>?_)
   obtain⟨_,sA,H⟩:=H;clear sA
   have hE:=Env.put_some hE rfl ea;clear ea
   exact hj (Xx8,Xx6) _ _ (hE.cut (.cons rfl (.cons rfl (.cons rfl (.cons rfl (.cons rfl (.cons rfl (.cons rfl (.cons rfl (.cons rfl Subs.nil)))))))))) hR (KB7 H)
def KCy (x0:Array Value) (x1:Addr):M (Bool):=do
 let Xx2←mkB KH x0
 let Xx4←ldG 4 Xx2
 let Xx5←ldI .i64 x1
 let Xx6←Xo Xx4 (IntKind.wrap .i64 (Xx5+1))
 M.pure (!Xx6)
theorem KFD (x0:Array Value) (x1:Addr):ZG Go.Proofs.Tryz.prog 221 #[.agg x0,.pointer (some x1)] (fun(r:Bool)=>.bool r) (KCy x0 x1):=
 KU [KCu] [] [.B] [(0,.G x0),(1,.A x1)] .o Go.Proofs.Tryz.func221 rfl rfl ⟨rfl,rfl,trivial⟩ rfl (by kernel_rfl) (by kernel_rfl)
def ZE (x0:Option Addr):M (Value⊕(Unit)):=do
 let Xx1←nilP x0
 let Xx2←ldI .i64 ((Xx1).add 1)
 M.pure (.inl (Value.iface JP (.agg (#[.int .i64 Xx2]:Array Value))))
theorem ZS (x0:Option Addr):J3 Go.Proofs.Tryz.prog 228 #[.pointer x0] (fun(r:Unit)=>.tuple #[]) (ZE x0):=by
 refine Zj [(0,.pointer x0)] Go.Proofs.Tryz.func228 rfl rfl (Nat.le_of_ble_eq_true rfl) (Z8 ⟨rfl,trivial⟩) (fun w0 w Q R X a hret hthr hE hR H=>?_)
 unfold ZE at H
 refine KC ?_
 refine KB (v:=.pointer x0) rfl rfl hE rfl (KF hE rfl) (fun a hE=>?_)
 obtain⟨Xx1,qXx1,H⟩:=H
 refine KB (v:=.pointer (some Xx1)) rfl rfl hE rfl (KO hE (Zu rfl (congrArg Value.pointer qXx1))) (fun a hE=>?_)
 refine KB (v:=.pointer (some ((Xx1).add 1))) rfl rfl hE rfl (KD hE rfl Zn) (fun a hE=>?_)
 obtain⟨Xx2,qXx2,H⟩:=H
 refine KB (v:=.int .i64 Xx2) rfl rfl hE rfl (KS hE rfl sc3 qXx2) (fun a hE=>?_)
 refine KB (v:=.agg (#[.int .i64 Xx2]:Array Value)) rfl rfl hE rfl (Vs hE rfl KQk KRy (by rfl)) (fun a hE=>?_)
 refine KB (v:=(Value.iface JP (.agg (#[.int .i64 Xx2]:Array Value)))) rfl rfl hE rfl (KCX hE rfl KRw) (fun a hE=>?_)
 exact KKL hE rfl (hthr _ _ hR H)
def Ku (x0:Option Addr):M (Int):=do
 let Xx4←nilP x0
 let Xx5←nilP x0
 let Xx6←ldI .i64 ((Xx4).add 1)
 let Xx7←ldS ((Xx5).add 0)
 M.ite (decide (Xx6<(Xx7.size:Int))) (do
  let Xx9←nilP x0
  let Xx10←nilP x0
  let Xx11←ldS ((Xx9).add 0)
  let Xx12←ldI .i64 ((Xx10).add 1)
  let Xx13←ixS Xx11 Xx12
  M.pure Xx13
  ) (do
  M.pure 0
  )
theorem ZF (x0:Option Addr):ZG Go.Proofs.Tryz.prog 240 #[.pointer x0] (fun(r:Int)=>.int .u8 r) (Ku x0):=
 KU [] [0,3,7,13,17] [.I .u8] [(0,.P x0)] (.q .o (.q (.q (.r [0,1,2,4,0,16,32,64,128,264] [0,1,2,4,0,16,32,64,128,264] [0,1,3,7,0,16,48,112,240,511] (.pu 0 (.pu 1 (.pu 2 (.pu 4 (.pu 5 (.pu 6 (.pu 3 (.pu 7 (.pu 8 (.pu 9 (.st [9] .dn)))))))))))) (.q (.q (.r [0,1,2,4,0,16,32,64,136,511] [0,1,2,4,0,16,32,64,136,256] [0,1,3,7,0,16,48,112,255,511] (.pu 0 (.pu 1 (.pu 2 (.pu 4 (.pu 5 (.pu 6 (.pu 3 (.pu 7 (.pu 8 (.pu 9 (.st [8,9] .dn)))))))))))) .o) .o)) .o)) Go.Proofs.Tryz.func240 rfl rfl ⟨rfl,trivial⟩ rfl (by kernel_rfl) (by kernel_rfl)
def YU (x0:Int):M (Bool):=do
 let Xx3←M.ite (decide (x0≥48)) (do
  M.pure (decide (x0≤57))
  ) (do
  M.pure false
  )
 M.pure Xx3
theorem NH (x0:Int):ZG Go.Proofs.Tryz.prog 241 #[.int .u8 x0] (fun(r:Bool)=>.bool r) (YU x0):=
 KU [] [] [.B] [(0,.I .u8 x0)] .o Go.Proofs.Tryz.func241 rfl rfl ⟨rfl,trivial⟩ rfl (by kernel_rfl) (by kernel_rfl)
end Gx
namespace Gx
open Go
noncomputable def KKk:Array Oper:=KJ3 Go.Proofs.Tryz.f242 9
def KKl:List (List Nat):=[[],[0],[1],[2],[],[],[5],[6],[7],[8],[3,4,9],[10],[11],[12],[12],[13,11,0,1,2,3,4,5,6,7,8,9,10,11,12,13],[14,15,0,1,2,3,4,5,6,7,8,9,10,11,12,13,14,15]]
def KKm:List (List Nat):=[[],[0],[1],[2],[],[],[5],[6],[7],[8],[3,4,9],[10],[11],[12],[12],[13],[14]]
def KKn:List (List Nat):=[[],[0],[0,1],[0,1,2],[],[],[5],[5,6],[5,6,7],[5,6,7,8],[0,1,2,3,4,5,6,7,8,9],[0,1,2,3,4,5,6,7,8,9,10],[0,1,2,3,4,5,6,7,8,9,10,11],[0,1,2,3,4,5,6,7,8,9,10,11,12],[0,1,2,3,4,5,6,7,8,9,10,11,12],[0,1,2,3,4,5,6,7,8,9,10,11,12,13],[0,1,2,3,4,5,6,7,8,9,10,11,12,13,14,15]]
theorem KPD:GS Go.Proofs.Tryz.f242 9 KKl KKm KKn=true:=by kernel_rfl
theorem KMj:KFm 17 KKl KKm KKn [0,1,2,4,0,0,32,64,128,256,536,1024,2048,4096,4096,16383,65535] [0,1,2,4,0,0,32,64,128,256,536,1024,2048,4096,4096,8192,16384] [0,1,3,7,0,0,32,96,224,480,1023,2047,4095,8191,8191,16383,65535]=true:=by kernel_rfl
def Jl (self1:(Int)→M (Value⊕(Int))) (Cc29:Option Addr) (Cc31:Int) (Cc32:Int) (Cc33:Int):M (Value⊕(Int)):=do
 M.ite (Cc33 !=0) (do
  M.pure (.inr Cc31)
  ) (do
  let Xx38←nilP Cc29
  let Xx39←ldI .i64 ((Xx38).add 1)
  let Xx40←nilP Cc29
  stV ((Xx40).add 1) (.int .i64 (IntKind.wrap .i64 (Xx39+1)))
  self1 Cc32
  )
def UV (Cc15:Option Addr) (Cc16:Int) (self1:(Int)→M (Value⊕(Int))):(Int)→M (Value⊕(Int)):=fun s=>match s with
 |Xx14=>do
  let Xx20←Ku Cc15
  let Xx21←YU Xx20
  M.ite Xx21 (do
   let Xx23←nilP Cc15
   let Xx24←nilP Cc15
   let Xx25←ldS ((Xx23).add 0)
   let Xx26←ldI .i64 ((Xx24).add 1)
   let Xx27←slS Xx25 Cc16 (IntKind.wrap .i64 (Xx26+1))
   let Xx28←X3 Go.Proofs.Tryz.prog KFz #[.string Xx27] (fun r:Int×Int=>.tuple #[.int .i64 r.1,.int .i64 r.2])
   M.ite (Xx28.2==7) (do
    thr (ZE Cc15) fun Xx43=>do
     Jl self1 Cc15 Xx14 Xx28.1 Xx28.2
    ) (do
    Jl self1 Cc15 Xx14 Xx28.1 Xx28.2
    )
   ) (do
   M.pure (.inr Xx14)
   )
def Z6 (Cc10:Option Addr) (Cc11:Int):M (Value⊕(Int)):=do
 M.loop (UV Cc10 Cc11) 0
def Z7 (Cc5:Option Addr) (Cc6:Int):M (Value⊕(Int)):=do
 let Xx8←nilP Cc5
 let Xx9←ldI .i64 ((Xx8).add 1)
 let Xx46←Ku Cc5
 let Xx47←YU Xx46
 let Xx48←M.ite (!Xx47) (do
  M.pure true
  ) (do
  let Xx49←M.ite (decide (Xx9>Cc6)) (do
   let Xx50←Ku Cc5
   M.pure (Xx50==48)
   ) (do
   M.pure false
   )
  M.pure Xx49
  )
 M.ite Xx48 (do
  thr (ZE Cc5) fun Xx51=>do
   Z6 Cc5 Cc6
  ) (do
  Z6 Cc5 Cc6
  )
def Jp (x0:Option Addr):M (Value⊕(Int)):=do
 let Xx3←nilP x0
 let Xx4←ldI .i64 ((Xx3).add 1)
 let Xx53←Ku x0
 M.ite (Xx53==45) (do
  let Xx54←nilP x0
  let Xx55←ldI .i64 ((Xx54).add 1)
  let Xx56←nilP x0
  stV ((Xx56).add 1) (.int .i64 (IntKind.wrap .i64 (Xx55+1)))
  Z7 x0 Xx4
  ) (do
  Z7 x0 Xx4
  )
theorem Yr (x0:Option Addr):J3 Go.Proofs.Tryz.prog 242 #[.pointer x0] (fun(r:Int)=>.int .i64 r) (Jp x0):=by
 refine Zj [(0,.pointer x0)] Go.Proofs.Tryz.func242 rfl rfl (Nat.le_of_ble_eq_true rfl) (Z8 ⟨rfl,trivial⟩) (fun w0 w Q R X a hret hthr hE hR H=>?_)
 unfold Jp at H
 refine KR (fun K hK_1=>?_)
 refine KC ?_
 refine KB (v:=.int .i64 0) rfl rfl hE rfl (KQ hE rfl) (fun a hE=>?_)
 refine KN ?_
 refine hK_1 _ _ ?_
 refine KR (fun K hK_2=>?_)
 refine KC ?_
 refine KB (v:=.pointer x0) rfl rfl hE rfl (KF hE rfl) (fun a hE=>?_)
 obtain⟨Xx3,qXx3,H⟩:=H
 refine KB (v:=.pointer (some Xx3)) rfl rfl hE rfl (KO hE (Zu rfl (congrArg Value.pointer qXx3))) (fun a hE=>?_)
 refine KB (v:=.pointer (some ((Xx3).add 1))) rfl rfl hE rfl (KD hE rfl Zn) (fun a hE=>?_)
 obtain⟨Xx4,qXx4,H⟩:=H
 refine KB (v:=.int .i64 Xx4) rfl rfl hE rfl (KS hE rfl sc3 qXx4) (fun a hE=>?_)
 refine KB (v:=.int .i64 Xx4) rfl rfl hE rfl (KQ hE rfl) (fun a hE=>?_)
 refine KN ?_
 refine hK_2 _ _ ?_
 refine Kz (fun a w=>Env (⟨76,[]⟩:Frm) a [(0,.pointer x0),(3,.int .i64 Xx4)]∧Rest w0 w∧(Z7 x0 Xx4).wp w.heap Q) ?_ ?_
 ·rintro a w ⟨hE,hR,H⟩
  unfold Z7 at H
  refine KR (fun K hK_7=>?_)
  refine KC ?_
  refine KB (v:=.pointer x0) rfl rfl hE rfl (KF hE rfl) (fun a hE=>?_)
  obtain⟨Xx8,qXx8,H⟩:=H
  refine KB (v:=.pointer (some Xx8)) rfl rfl hE rfl (KO hE (Zu rfl (congrArg Value.pointer qXx8))) (fun a hE=>?_)
  refine KB (v:=.pointer (some ((Xx8).add 1))) rfl rfl hE rfl (KD hE rfl Zn) (fun a hE=>?_)
  obtain⟨Xx9,qXx9,H⟩:=H
  refine KB (v:=.int .i64 Xx9) rfl rfl hE rfl (KS hE rfl sc3 qXx9) (fun a hE=>?_)
  refine KB (v:=.int .i64 Xx4) rfl rfl hE rfl (KF hE rfl) (fun a hE=>?_)
  refine KB (v:=.bool (decide (Xx9>Xx4))) rfl rfl hE rfl (Kk hE rfl rfl Ki qv) (fun a hE=>?_)
  refine KB (v:=.bool (decide (Xx9>Xx4))) rfl rfl hE rfl (KQ hE rfl) (fun a hE=>?_)
  refine KN ?_
  refine hK_7 _ _ ?_
  refine Kz (fun a w=>Env (⟨76,[]⟩:Frm) a [(0,.pointer x0),(3,.int .i64 Xx4)]∧Rest w0 w∧(Z6 x0 Xx4).wp w.heap Q) ?_ ?_
  ·rintro a w ⟨hE,hR,H⟩
   unfold Z6 at H
   refine KR (fun K hK_12=>?_)
   refine KC ?_
   refine KB (v:=.int .i64 0) rfl rfl hE rfl (KQ hE rfl) (fun a hE=>?_)
   refine KN ?_
   refine hK_12 _ _ ?_
   refine KR (fun K hK_13=>?_)
   refine J6 ?_
   refine zq (fun(s:Int)=>(⟨76,[]⟩:Frm)) (fun(s:Int)=>[(0,.pointer x0),(3,.int .i64 Xx4),(5,.int .i64 s)]) H (hE.cut (.cons rfl (.cons rfl (.cons rfl Subs.nil)))) hR (fun Y self1 hY_17 Xx14 a w hE hR H=>?_)
   replace hE:Env (⟨76,[]⟩:Frm) a [(0,.pointer x0),(3,.int .i64 Xx4),(5,.int .i64 Xx14)]:=hE
   replace H:(UV x0 Xx4 self1 Xx14).wp w.heap Q:=H
   unfold UV at H
   refine KR (fun K hK_18=>?_)
   refine KR (fun K hK_19=>?_)
   refine KC ?_
   refine KB (v:=.pointer x0) rfl rfl hE rfl (KF hE rfl) (fun a hE=>?_)
   refine Zd hE hR Kv rfl (ZF x0) (M.unbind H) (fun Xx20 a w ea hR H=>?_)
   have hE:=Env.put_some hE rfl ea;clear ea
   refine Zd hE hR GJ rfl (NH Xx20) (M.unbind H) (fun Xx21 a w ea hR H=>?_)
   have hE:=Env.put_some hE rfl ea;clear ea
   refine KN ?_
   refine hK_19 _ _ ?_
   refine ZA Xx21 hE rfl (fun hb=>?_) (fun hb=>?_)
   ·replace H:=M.ite_t hb H
    refine Zq ?_
    refine hK_18 _ _ ?_
    refine J6 ?_
    refine KR (fun K hK_22=>?_)
    obtain⟨Xx23,qXx23,H⟩:=H
    obtain⟨Xx24,qXx24,H⟩:=H
    obtain⟨Xx25,qXx25,H⟩:=H
    obtain⟨Xx26,qXx26,H⟩:=H
    obtain⟨Xx27,qXx27,H⟩:=H
    refine NP (rops:=KKk) (by kernel_rfl) ?_
    have hT:Tab KKk _ _ _:=VT KPD rfl (by kernel_rfl)
    have hM:=TabM.of KMj
    refine Jv (m:=17) (fun w:World=>(fun h:Heap=>(KM h ((Xx23).add 0)=some (.string Xx25))∧(KM h ((Xx24).add 1)=some (.int .i64 Xx26))) w.heap) [10,11,12,13,14,15,16] (unb 17 0) mo hR (by kernel_rfl) (by kernel_rfl) (fun w' e=>by rw [e];exact⟨qXx25,qXx26⟩) (fun w hh hR hs=>?_)
    replace H:=M.at hh H;clear hh
    refine KG (i:=0) (v:=.pointer x0) (unb 17 1) rfl rfl hT (anyM hM (by kernel_rfl)) hE rfl (KA rfl) (fun w=>KF hE rfl) (fun a hE=>?_)
    refine KG (i:=1) (v:=.pointer (some Xx23)) (unb 17 3) rfl rfl hT (anyM hM (by kernel_rfl)) hE rfl (KA rfl) (fun w=>KO hE (Zu rfl (congrArg Value.pointer qXx23))) (fun a hE=>?_)
    refine KG (i:=2) (v:=.pointer (some ((Xx23).add 0))) (unb 17 7) rfl rfl hT (anyM hM (by kernel_rfl)) hE rfl (KA rfl) (fun w=>KD hE rfl Y3) (fun a hE=>?_)
    refine KG (i:=4) (v:=.int .i64 Xx4) (unb 17 23) rfl rfl hT (anyM hM (by kernel_rfl)) hE rfl (KA rfl) (fun w=>KF hE rfl) (fun a hE=>?_)
    refine KG (i:=5) (v:=.pointer x0) (unb 17 55) rfl rfl hT (anyM hM (by kernel_rfl)) hE rfl (KA rfl) (fun w=>KF hE rfl) (fun a hE=>?_)
    refine KG (i:=6) (v:=.pointer (some Xx24)) (unb 17 119) rfl rfl hT (anyM hM (by kernel_rfl)) hE rfl (KA rfl) (fun w=>KO hE (Zu rfl (congrArg Value.pointer qXx24))) (fun a hE=>?_)
    refine KG (i:=7) (v:=.pointer (some ((Xx24).add 1))) (unb 17 247) rfl rfl hT (anyM hM (by kernel_rfl)) hE rfl (KA rfl) (fun w=>KD hE rfl Zn) (fun a hE=>?_)
    refine Zs (i:=3) (v:=.string Xx25) (unb 17 255) rfl rfl hT (YH hM (by kernel_rfl)) hE rfl (KA rfl) hs (fun w s=>KS hE rfl sc9 s.1) (fun a hE=>?_)
    refine Zs (i:=8) (v:=.int .i64 Xx26) (unb 17 511) rfl rfl hT (YH hM (by kernel_rfl)) hE rfl (KA rfl) hs (fun w s=>KS hE rfl sc3 s.2) (fun a hE=>?_)
    refine KG (i:=9) (v:=.int .i64 (IntKind.wrap .i64 (Xx26+1))) (unb 17 1023) rfl rfl hT (anyM hM (by kernel_rfl)) hE rfl (KA rfl) (fun w=>Kk hE rfl rfl Ki Vp) (fun a hE=>?_)
    refine KG (i:=10) (v:=.string Xx27) (unb 17 2047) rfl rfl hT (anyM hM (by kernel_rfl)) hE rfl (KA rfl) (fun w=>KCS hE rfl rfl rfl un9 qXx27) (fun a hE=>?_)
    refine KJ4 (i:=11) (unb 17 4095) rfl rfl rfl hT (oneM hM (by kernel_rfl)) rfl hE hR (KA rfl) KF3 rfl (VG) (M.unbind H) (fun Xx28 a w ea hR H=>?_)
    have hE:=Env.put_some hE rfl ea;clear ea
    refine KG (i:=12) (v:=.tuple #[.int .i64 Xx28.1,.int .i64 Xx28.2]) (unb 17 8191) rfl rfl hT (anyM hM (by kernel_rfl)) hE rfl (KA rfl) (fun w=>KF hE rfl) (fun a hE=>?_)
    refine KG (i:=13) (v:=.int .i64 Xx28.1) (unb 17 16383) rfl rfl hT (anyM hM (by kernel_rfl)) hE rfl (KA rfl) (fun w=>JQ hE rfl rfl) (fun a hE=>?_)
    refine KG (i:=14) (v:=.int .i64 Xx28.2) (unb 17 32767) rfl rfl hT (anyM hM (by kernel_rfl)) hE rfl (KA rfl) (fun w=>JQ hE rfl rfl) (fun a hE=>?_)
    refine KG (i:=15) (v:=.int .i64 Xx28.1) (unb 17 65535) rfl rfl hT (anyM hM (by kernel_rfl)) hE rfl (KA rfl) (fun w=>KQ hE rfl) (fun a hE=>?_)
    refine KG (i:=16) (v:=.int .i64 Xx28.2) (unb 17 131071) rfl rfl hT (anyM hM (by kernel_rfl)) hE rfl (KA rfl) (fun w=>KQ hE rfl) (fun a hE=>?_)
    refine VD hT (KA0 hM (by kernel_rfl)) ?_
    refine hK_22 _ _ ?_
    refine Kz (fun a w=>Env (⟨76,[]⟩:Frm) a [(0,.pointer x0),(3,.int .i64 Xx4),(5,.int .i64 Xx14),(6,.int .i64 Xx28.1),(7,.int .i64 Xx28.2)]∧Rest w0 w∧(Jl self1 x0 Xx14 Xx28.1 Xx28.2).wp w.heap Q) ?_ ?_
    ·rintro a w ⟨hE,hR,H⟩
     unfold Jl at H
     refine KR (fun K hK_34=>?_)
     refine KR (fun K hK_35=>?_)
     refine KC ?_
     refine KB (v:=.int .i64 Xx28.2) rfl rfl hE rfl (KF hE rfl) (fun a hE=>?_)
     refine KB (v:=.bool (Xx28.2 !=0)) rfl rfl hE rfl (Kk hE rfl rfl Ki KDZ) (fun a hE=>?_)
     refine KN ?_
     refine hK_35 _ _ ?_
     refine ZA (Xx28.2 !=0) hE rfl (fun hb=>?_) (fun hb=>?_)
     ·replace H:=M.ite_t hb H
      refine KR (fun K hK_36=>?_)
      refine KC ?_
      refine KB (v:=.int .i64 Xx14) rfl rfl hE rfl (KF hE rfl) (fun a hE=>?_)
      refine KB (v:=.int .i64 Xx14) rfl rfl hE rfl (KQ hE rfl) (fun a hE=>?_)
      refine KN ?_
      refine hK_36 _ _ ?_
      refine Uv ?_
      exact hret _ _ _ Xx14 _ hE hR (Kn hE rfl (RV.tmp rfl RV.nil)) rfl H
     ·replace H:=M.ite_f hb H
      refine Zq ?_
      refine hK_34 _ _ ?_
      refine KR (fun K hK_37=>?_)
      refine KC ?_
      refine KB (v:=.int .i64 Xx28.1) rfl rfl hE rfl (KF hE rfl) (fun a hE=>?_)
      refine KB (v:=.int .i64 Xx28.1) rfl rfl hE rfl (KQ hE rfl) (fun a hE=>?_)
      refine KN ?_
      refine hK_37 _ _ ?_
      refine KC ?_
      refine KB (v:=.pointer x0) rfl rfl hE rfl (KF hE rfl) (fun a hE=>?_)
      obtain⟨Xx38,qXx38,H⟩:=H
      refine KB (v:=.pointer (some Xx38)) rfl rfl hE rfl (KO hE (Zu rfl (congrArg Value.pointer qXx38))) (fun a hE=>?_)
      refine KB (v:=.pointer (some ((Xx38).add 1))) rfl rfl hE rfl (KD hE rfl Zn) (fun a hE=>?_)
      obtain⟨Xx39,qXx39,H⟩:=H
      refine KB (v:=.int .i64 Xx39) rfl rfl hE rfl (KS hE rfl sc3 qXx39) (fun a hE=>?_)
      refine KB (v:=.int .i64 (IntKind.wrap .i64 (Xx39+1))) rfl rfl hE rfl (Kk hE rfl rfl Ki Vp) (fun a hE=>?_)
      obtain⟨Xx40,qXx40,H⟩:=H
      refine KB (v:=.pointer (some Xx40)) rfl rfl hE rfl (KO hE (Zu rfl (congrArg Value.pointer qXx40))) (fun a hE=>?_)
      refine KB (v:=.pointer (some ((Xx40).add 1))) rfl rfl hE rfl (KD hE rfl Zn) (fun a hE=>?_)
      obtain⟨u_41,qu_41,H⟩:=H
      refine JA rfl rfl hE hR (ZB hE rfl rfl sz3 qu_41) (fun a w hE hR hh=>?_)
      replace H:=M.at hh H;clear hh
      refine KN ?_
      exact hY_17 Xx28.1 _ _ (hE.cut (.cons rfl (.cons rfl (.cons rfl Subs.nil)))) hR H
    ·skip
     refine KR (fun K hK_42=>?_)
     refine KC ?_
     refine KB (v:=.int .i64 Xx28.2) rfl rfl hE rfl (KF hE rfl) (fun a hE=>?_)
     refine KB (v:=.bool (Xx28.2==7)) rfl rfl hE rfl (Kk hE rfl rfl Ki W9) (fun a hE=>?_)
     refine KN ?_
     refine hK_42 _ _ ?_
     refine ZA (Xx28.2==7) hE rfl (fun hb=>?_) (fun hb=>?_)
     ·replace H:=M.ite_t hb H
      refine KC ?_
      refine KB (v:=.pointer x0) rfl rfl hE rfl (KF hE rfl) (fun a hE=>?_)
      refine KZ hE hR ZK rfl (ZS x0) H (fun _ _ hR HQ=>Xu.ne rfl (Xu.ne rfl (hthr _ _ hR HQ))) (fun Xx43 a w ea hR H=>?_)
      have hE:=Env.put_some hE rfl ea;clear ea
      refine KN ?_
      exact⟨hE.cut (.cons rfl (.cons rfl (.cons rfl (.cons rfl (.cons rfl Subs.nil))))),hR,H⟩
     ·replace H:=M.ite_f hb H
      refine Zq ?_
      exact⟨hE.cut (.cons rfl (.cons rfl (.cons rfl (.cons rfl (.cons rfl Subs.nil))))),hR,H⟩
   ·replace H:=M.ite_f hb H
    refine qh ?_
    refine Xu.same ?_
    refine hK_13 _ _ ?_
    refine KR (fun K hK_44=>?_)
    refine KC ?_
    refine KB (v:=.int .i64 Xx14) rfl rfl hE rfl (KF hE rfl) (fun a hE=>?_)
    refine KB (v:=.int .i64 Xx14) rfl rfl hE rfl (KQ hE rfl) (fun a hE=>?_)
    refine KN ?_
    refine hK_44 _ _ ?_
    refine Uv ?_
    exact hret _ _ _ Xx14 _ hE hR (Kn hE rfl (RV.tmp rfl RV.nil)) rfl H
  ·skip
   refine KR (fun K hK_45=>?_)
   refine KC ?_
   refine KB (v:=.pointer x0) rfl rfl hE rfl (KF hE rfl) (fun a hE=>?_)
   refine Zd hE hR Kv rfl (ZF x0) (M.unbind H) (fun Xx46 a w ea hR H=>?_)
   have hE:=Env.put_some hE rfl ea;clear ea
   refine Zd hE hR GJ rfl (NH Xx46) (M.unbind H) (fun Xx47 a w ea hR H=>?_)
   have hE:=Env.put_some hE rfl ea;clear ea
   refine KB (v:=.bool (!Xx47)) rfl rfl hE rfl (r_un hE rfl KJA) (fun a hE=>?_)
   refine KB (v:=.bool (!Xx47)) rfl rfl hE rfl (KF hE rfl) (fun a hE=>?_)
   refine KAz (n:=(⟨76,[]⟩:Frm)) (w0:=w0) 7 (fun Xx48:Bool=>[(0,.pointer x0),(3,.int .i64 Xx4),(39,.bool Xx48)]) (M.unbind H) (fun Kr hKr H=>?_) ?_
   ·rcases Uj (!Xx47)with hb|hb
    ·replace H:=M.ite_t hb H
     have hE:=hE.reb 32 (!Xx47) true hb rfl
     refine Uw rfl hE rfl rfl rfl (fun a ea=>?_)
     have hE:=Env.put_some hE rfl ea;clear ea
     refine Uw rfl hE rfl rfl rfl (fun a ea=>?_)
     have hE:=Env.put_some hE rfl ea;clear ea
     refine KH1 rfl hE rfl rfl (fun b hb=>by cases hb) (fun a ea=>?_)
     have hE:=Env.put_some hE rfl ea;clear ea
     refine KH1 rfl hE rfl rfl (fun b hb=>by cases hb) (fun a ea=>?_)
     have hE:=Env.put_some hE rfl ea;clear ea
     refine KH1 rfl hE rfl rfl (fun b hb=>by cases hb) (fun a ea=>?_)
     have hE:=Env.put_some hE rfl ea;clear ea
     refine Uw rfl hE rfl rfl rfl (fun a ea=>?_)
     have hE:=Env.put_some hE rfl ea;clear ea
     refine KB rfl rfl hE rfl (Jj hE rfl rfl) (fun a hE=>?_)
     refine KN ?_
     exact hKr _ _ _ (hE.cut (.cons rfl (.cons rfl (.cons rfl Subs.nil)))) hR H
    ·replace H:=M.ite_f hb H
     have hE:=hE.reb 32 (!Xx47) false hb rfl
     refine t_on rfl hE rfl rfl rfl ?_
     refine KB (v:=.bool (decide (Xx9>Xx4))) rfl rfl hE rfl (KF hE rfl) (fun a hE=>?_)
     refine t_on rfl hE rfl rfl rfl ?_
     refine KB (v:=.bool (decide (Xx9>Xx4))) rfl rfl hE rfl (KF hE rfl) (fun a hE=>?_)
     refine KAz (n:=(⟨76,[]⟩:Frm)) (w0:=w0) 4 (fun Xx49:Bool=>[(0,.pointer x0),(3,.int .i64 Xx4),(32,.bool false),(38,.bool Xx49)]) (M.unbind H) (fun Kr hKr H=>?_) ?_
     ·rcases Uj (decide (Xx9>Xx4))with hb|hb
      ·replace H:=M.ite_t hb H
       have hE:=hE.reb 34 (decide (Xx9>Xx4)) true hb rfl
       refine t_on rfl hE rfl rfl rfl ?_
       refine KB (v:=.pointer x0) rfl rfl hE rfl (KF hE rfl) (fun a hE=>?_)
       refine t_on rfl hE rfl rfl rfl ?_
       refine Zd hE hR Kv rfl (ZF x0) (M.unbind H) (fun Xx50 a w ea hR H=>?_)
       have hE:=Env.put_some hE rfl ea;clear ea
       refine t_on rfl hE rfl rfl rfl ?_
       refine KB (v:=.bool (Xx50==48)) rfl rfl hE rfl (Kk hE rfl rfl Ki W9) (fun a hE=>?_)
       refine t_on rfl hE rfl rfl rfl ?_
       refine KB rfl rfl hE rfl (Jj hE rfl rfl) (fun a hE=>?_)
       refine KN ?_
       exact hKr _ _ _ (hE.cut (.cons rfl (.cons rfl (.cons rfl (.cons rfl Subs.nil))))) hR H
      ·replace H:=M.ite_f hb H
       have hE:=hE.reb 34 (decide (Xx9>Xx4)) false hb rfl
       refine Uw rfl hE rfl rfl rfl (fun a ea=>?_)
       have hE:=Env.put_some hE rfl ea;clear ea
       refine Uw rfl hE rfl rfl rfl (fun a ea=>?_)
       have hE:=Env.put_some hE rfl ea;clear ea
       refine Uw rfl hE rfl rfl rfl (fun a ea=>?_)
       have hE:=Env.put_some hE rfl ea;clear ea
       refine t_on rfl hE rfl rfl rfl ?_
       refine KB rfl rfl hE rfl (Z3 hE rfl rfl) (fun a hE=>?_)
       refine KN ?_
       exact hKr _ _ _ (hE.cut (.cons rfl (.cons rfl (.cons rfl (.cons rfl Subs.nil))))) hR H
     ·intro Xx49 a w hE hR H
      refine KB rfl rfl hE rfl (Z3 hE rfl rfl) (fun a hE=>?_)
      refine KN ?_
      exact hKr _ _ _ (hE.cut (.cons rfl (.cons rfl (.cons rfl Subs.nil)))) hR H
   ·intro Xx48 a w hE hR H
    refine KN ?_
    refine hK_45 _ _ ?_
    refine ZA Xx48 hE rfl (fun hb=>?_) (fun hb=>?_)
    ·replace H:=M.ite_t hb H
     refine KC ?_
     refine KB (v:=.pointer x0) rfl rfl hE rfl (KF hE rfl) (fun a hE=>?_)
     refine KZ hE hR ZK rfl (ZS x0) H (fun _ _ hR HQ=>hthr _ _ hR HQ) (fun Xx51 a w ea hR H=>?_)
     have hE:=Env.put_some hE rfl ea;clear ea
     refine KN ?_
     exact⟨hE.cut (.cons rfl (.cons rfl Subs.nil)),hR,H⟩
    ·replace H:=M.ite_f hb H
     refine Zq ?_
     exact⟨hE.cut (.cons rfl (.cons rfl Subs.nil)),hR,H⟩
 ·skip
  refine KR (fun K hK_52=>?_)
  refine KC ?_
  refine KB (v:=.pointer x0) rfl rfl hE rfl (KF hE rfl) (fun a hE=>?_)
  refine Zd hE hR Kv rfl (ZF x0) (M.unbind H) (fun Xx53 a w ea hR H=>?_)
  have hE:=Env.put_some hE rfl ea;clear ea
  refine KB (v:=.bool (Xx53==45)) rfl rfl hE rfl (Kk hE rfl rfl Ki W9) (fun a hE=>?_)
  refine KN ?_
  refine hK_52 _ _ ?_
  refine ZA (Xx53==45) hE rfl (fun hb=>?_) (fun hb=>?_)
  ·replace H:=M.ite_t hb H
   refine KC ?_
   refine KB (v:=.pointer x0) rfl rfl hE rfl (KF hE rfl) (fun a hE=>?_)
   obtain⟨Xx54,qXx54,H⟩:=H
   refine KB (v:=.pointer (some Xx54)) rfl rfl hE rfl (KO hE (Zu rfl (congrArg Value.pointer qXx54))) (fun a hE=>?_)
   refine KB (v:=.pointer (some ((Xx54).add 1))) rfl rfl hE rfl (KD hE rfl Zn) (fun a hE=>?_)
   obtain⟨Xx55,qXx55,H⟩:=H
   refine KB (v:=.int .i64 Xx55) rfl rfl hE rfl (KS hE rfl sc3 qXx55) (fun a hE=>?_)
   refine KB (v:=.int .i64 (IntKind.wrap .i64 (Xx55+1))) rfl rfl hE rfl (Kk hE rfl rfl Ki Vp) (fun a hE=>?_)
   obtain⟨Xx56,qXx56,H⟩:=H
   refine KB (v:=.pointer (some Xx56)) rfl rfl hE rfl (KO hE (Zu rfl (congrArg Value.pointer qXx56))) (fun a hE=>?_)
   refine KB (v:=.pointer (some ((Xx56).add 1))) rfl rfl hE rfl (KD hE rfl Zn) (fun a hE=>?_)
   obtain⟨u_57,qu_57,H⟩:=H
   refine JA rfl rfl hE hR (ZB hE rfl rfl sz3 qu_57) (fun a w hE hR hh=>?_)
   replace H:=M.at hh H;clear hh
   refine KN ?_
   exact⟨hE.cut (.cons rfl (.cons rfl Subs.nil)),hR,H⟩
  ·replace H:=M.ite_f hb H
   refine Zq ?_
   exact⟨hE.cut (.cons rfl (.cons rfl Subs.nil)),hR,H⟩
def UF (self1:(Int)→M (Value⊕(Unit))) (Cc11:Option Addr) (Cc14:Int):M (Value⊕(Unit)):=do
 let Xx15←nilP Cc11
 let Xx16←ldI .i64 ((Xx15).add 1)
 let Xx17←nilP Cc11
 stV ((Xx17).add 1) (.int .i64 (IntKind.wrap .i64 (Xx16+1)))
 self1 (IntKind.wrap .i64 (Cc14+1))
def Z2 (self1:(Int)→M (Value⊕(Unit))) (Cc20:Option Addr) (Cc23:Int) (Xx19:Bool):M (Value⊕(Unit)):=do
 M.ite Xx19 (do
  thr (ZE Cc20) fun Xx24=>do
   UF self1 Cc20 Cc23
  ) (do
  UF self1 Cc20 Cc23
  )
noncomputable def KFE:Array Oper:=KJ3 Go.Proofs.Tryz.f244 3
def KKo:List (List Nat):=[[],[0],[1],[2],[],[4],[5],[6],[7],[3,8],[9],[10],[11,10],[12,10],[13,10],[10],[15,10],[16,10],[17,10],[14,18,10],[10],[10],[20,21,10],[19,22,10],[10,23]]
def KKp:List (List Nat):=[[],[0],[1],[2],[],[4],[5],[6],[7],[3,8],[9],[10],[10,11],[10,12],[10,13],[10],[10,15],[10,16],[10,17],[10,14,18],[10],[10],[10,20,21],[10,19,22],[10,23]]
def KKq:List (List Nat):=[[],[0],[0,1],[0,1,2],[],[4],[4,5],[4,5,6],[4,5,6,7],[0,1,2,3,4,5,6,7,8],[0,1,2,3,4,5,6,7,8,9],[0,1,2,3,4,5,6,7,8,9,10],[0,1,2,3,4,5,6,7,8,9,10,11],[0,1,2,3,4,5,6,7,8,9,10,11,12],[0,1,2,3,4,5,6,7,8,9,10,11,12,13],[0,1,2,3,4,5,6,7,8,9,10],[0,1,2,3,4,5,6,7,8,9,10,15],[0,1,2,3,4,5,6,7,8,9,10,15,16],[0,1,2,3,4,5,6,7,8,9,10,15,16,17],[0,1,2,3,4,5,6,7,8,9,10,11,12,13,14,15,16,17,18],[0,1,2,3,4,5,6,7,8,9,10],[0,1,2,3,4,5,6,7,8,9,10],[0,1,2,3,4,5,6,7,8,9,10,20,21],[0,1,2,3,4,5,6,7,8,9,10,11,12,13,14,15,16,17,18,19,20,21,22],[0,1,2,3,4,5,6,7,8,9,10,11,12,13,14,15,16,17,18,19,20,21,22,23]]
theorem KKr:GS Go.Proofs.Tryz.f244 3 KKo KKp KKq=true:=by kernel_rfl
theorem KIH:KFm 25 KKo KKp KKq [0,1,2,4,0,16,32,64,128,264,512,1024,3072,5120,9216,1024,33792,66560,132096,279552,1024,1024,3146752,4719616,8389632] [0,1,2,4,0,16,32,64,128,264,512,1024,3072,5120,9216,1024,33792,66560,132096,279552,1024,1024,3146752,4719616,8389632] [0,1,3,7,0,16,48,112,240,511,1023,2047,4095,8191,16383,2047,34815,100351,231423,524287,2047,2047,3147775,8388607,16777215]=true:=by kernel_rfl
def Ut (Cc3:Option Addr) (Cc4:ByteArray) (Cc5:Int) (self1:(Int)→M (Value⊕(Unit))):(Int)→M (Value⊕(Unit)):=fun s=>match s with
 |Xx2=>do
  M.ite (decide (Xx2<Cc5)) (do
   let Xx25←nilP Cc3
   let Xx26←nilP Cc3
   let Xx27←ldI .i64 ((Xx25).add 1)
   let Xx28←ldS ((Xx26).add 0)
   M.ite (decide (Xx27≥(Xx28.size:Int))) (do
    Z2 self1 Cc3 Xx2 true
    ) (do
    let Xx30←nilP Cc3
    let Xx31←nilP Cc3
    let Xx32←ixS Cc4 Xx2
    let Xx33←ldS ((Xx30).add 0)
    let Xx34←ldI .i64 ((Xx31).add 1)
    let Xx35←ixS Xx33 Xx34
    Z2 self1 Cc3 Xx2 (Xx35 !=Xx32)
    )
   ) (do
   M.pure (.inr ())
   )
def ZO (x0:Option Addr) (x1:ByteArray):M (Value⊕(Unit)):=do
 M.loop (Ut x0 x1 (x1.size:Int)) 0
theorem Zx (x0:Option Addr) (x1:ByteArray):J3 Go.Proofs.Tryz.prog 244 #[.pointer x0,.string x1] (fun(r:Unit)=>.tuple #[]) (ZO x0 x1):=by
 refine Zj [(0,.pointer x0),(1,.string x1)] Go.Proofs.Tryz.func244 rfl rfl (Nat.le_of_ble_eq_true rfl) (Z8 ⟨rfl,rfl,trivial⟩) (fun w0 w Q R X a hret hthr hE hR H=>?_)
 unfold ZO at H
 refine KR (fun K hK_1=>?_)
 refine KC ?_
 refine KB (v:=.string x1) rfl rfl hE rfl (KF hE rfl) (fun a hE=>?_)
 refine KB (v:=.int .i64 (x1.size:Int)) rfl rfl hE rfl (Yg hE rfl un9) (fun a hE=>?_)
 refine KB (v:=.int .i64 0) rfl rfl hE rfl (KF hE rfl) (fun a hE=>?_)
 refine KN ?_
 refine hK_1 _ _ ?_
 refine J6 ?_
 refine zq (fun(s:Int)=>(⟨45,[]⟩:Frm)) (fun(s:Int)=>[(0,.pointer x0),(1,.string x1),(6,.int .i64 (x1.size:Int)),(7,.int .i64 s)]) H (hE.cut (.cons rfl (.cons rfl (.cons rfl (.cons rfl Subs.nil))))) hR (fun Y self1 hY_6 Xx2 a w hE hR H=>?_)
 replace hE:Env (⟨45,[]⟩:Frm) a [(0,.pointer x0),(1,.string x1),(6,.int .i64 (x1.size:Int)),(7,.int .i64 Xx2)]:=hE
 replace H:(Ut x0 x1 (x1.size:Int) self1 Xx2).wp w.heap Q:=H
 unfold Ut at H
 refine KR (fun K hK_7=>?_)
 refine KC ?_
 refine KB (v:=.bool (decide (Xx2<(x1.size:Int)))) rfl rfl hE rfl (Kk hE rfl rfl Ki NU) (fun a hE=>?_)
 refine KN ?_
 refine hK_7 _ _ ?_
 refine KR (fun K hK_8=>?_)
 refine ZA (decide (Xx2<(x1.size:Int))) hE rfl (fun hb=>?_) (fun hb=>?_)
 ·replace H:=M.ite_t hb H
  refine Zq ?_
  refine hK_8 _ _ ?_
  refine KR (fun K hK_9=>?_)
  refine J6 ?_
  refine KR (fun K hK_10=>?_)
  refine KC ?_
  refine KB (v:=.int .i64 Xx2) rfl rfl hE rfl (KF hE rfl) (fun a hE=>?_)
  refine KB (v:=.int .i64 Xx2) rfl rfl hE rfl (KQ hE rfl) (fun a hE=>?_)
  refine KN ?_
  refine hK_10 _ _ ?_
  refine Kz (fun a w=>Env (⟨45,[]⟩:Frm) a [(0,.pointer x0),(1,.string x1),(6,.int .i64 (x1.size:Int)),(7,.int .i64 Xx2)]∧Rest w0 w∧(UF self1 x0 Xx2).wp w.heap Q) ?_ ?_
  ·rintro a w ⟨hE,hR,H⟩
   unfold UF at H
   refine KC ?_
   refine KB (v:=.pointer x0) rfl rfl hE rfl (KF hE rfl) (fun a hE=>?_)
   obtain⟨Xx15,qXx15,H⟩:=H
   refine KB (v:=.pointer (some Xx15)) rfl rfl hE rfl (KO hE (Zu rfl (congrArg Value.pointer qXx15))) (fun a hE=>?_)
   refine KB (v:=.pointer (some ((Xx15).add 1))) rfl rfl hE rfl (KD hE rfl Zn) (fun a hE=>?_)
   obtain⟨Xx16,qXx16,H⟩:=H
   refine KB (v:=.int .i64 Xx16) rfl rfl hE rfl (KS hE rfl sc3 qXx16) (fun a hE=>?_)
   refine KB (v:=.int .i64 (IntKind.wrap .i64 (Xx16+1))) rfl rfl hE rfl (Kk hE rfl rfl Ki Vp) (fun a hE=>?_)
   obtain⟨Xx17,qXx17,H⟩:=H
   refine KB (v:=.pointer (some Xx17)) rfl rfl hE rfl (KO hE (Zu rfl (congrArg Value.pointer qXx17))) (fun a hE=>?_)
   refine KB (v:=.pointer (some ((Xx17).add 1))) rfl rfl hE rfl (KD hE rfl Zn) (fun a hE=>?_)
   obtain⟨u_18,qu_18,H⟩:=H
   refine JA rfl rfl hE hR (ZB hE rfl rfl sz3 qu_18) (fun a w hE hR hh=>?_)
   replace H:=M.at hh H;clear hh
   refine KN ?_
   refine hK_9 _ _ ?_
   refine KC ?_
   refine KB (v:=.int .i64 (IntKind.wrap .i64 (Xx2+1))) rfl rfl hE rfl (Kk hE rfl rfl Ki Vp) (fun a hE=>?_)
   refine KB (v:=.int .i64 (IntKind.wrap .i64 (Xx2+1))) rfl rfl hE rfl (KF hE rfl) (fun a hE=>?_)
   refine KN ?_
   exact hY_6 (IntKind.wrap .i64 (Xx2+1)) _ _ (hE.cut (.cons rfl (.cons rfl (.cons rfl (.cons rfl Subs.nil))))) hR H
  ·skip
   refine Kz (fun a w=>∃(Xx19:Bool),Env (⟨45,[]⟩:Frm) a [(0,.pointer x0),(1,.string x1),(6,.int .i64 (x1.size:Int)),(7,.int .i64 Xx2),(34,.bool Xx19)]∧Rest w0 w∧(Z2 self1 x0 Xx2 Xx19).wp w.heap Q) ?_ ?_
   ·rintro a w ⟨Xx19,hE,hR,H⟩
    unfold Z2 at H
    refine ZA Xx19 hE rfl (fun hb=>?_) (fun hb=>?_)
    ·replace H:=M.ite_t hb H
     refine KC ?_
     refine KB (v:=.pointer x0) rfl rfl hE rfl (KF hE rfl) (fun a hE=>?_)
     refine KZ hE hR ZK rfl (ZS x0) H (fun _ _ hR HQ=>Xu.ne rfl (Xu.ne rfl (hthr _ _ hR HQ))) (fun Xx24 a w ea hR H=>?_)
     have hE:=Env.put_some hE rfl ea;clear ea
     refine KN ?_
     exact⟨hE.cut (.cons rfl (.cons rfl (.cons rfl (.cons rfl Subs.nil)))),hR,H⟩
    ·replace H:=M.ite_f hb H
     refine Zq ?_
     exact⟨hE.cut (.cons rfl (.cons rfl (.cons rfl (.cons rfl Subs.nil)))),hR,H⟩
   ·skip
    obtain⟨Xx25,qXx25,H⟩:=H
    obtain⟨Xx26,qXx26,H⟩:=H
    obtain⟨Xx27,qXx27,H⟩:=H
    obtain⟨Xx28,qXx28,H⟩:=H
    rcases Uj (decide (Xx27≥(Xx28.size:Int)))with hb_29|hb_29
    ·replace H:=M.ite_t hb_29 H
     refine NP (rops:=KFE) (by kernel_rfl) ?_
     have hT:Tab KFE _ _ _:=VT KKr rfl (by kernel_rfl)
     have hM:=TabM.of KIH
     refine Jv (m:=25) (fun w:World=>(fun h:Heap=>(KM h ((Xx25).add 1)=some (.int .i64 Xx27))∧(KM h ((Xx26).add 0)=some (.string Xx28))) w.heap) [9,10,11,12,13,14,15,16,17,18,19,20,21,22,23,24] (unb 25 0) mo hR (by kernel_rfl) (by kernel_rfl) (fun w' e=>by rw [e];exact⟨qXx27,qXx28⟩) (fun w hh hR hs=>?_)
     replace H:=M.at hh H;clear hh
     refine KG (i:=0) (v:=.pointer x0) (unb 25 1) rfl rfl hT (anyM hM (by kernel_rfl)) hE rfl (KA rfl) (fun w=>KF hE rfl) (fun a hE=>?_)
     refine KG (i:=1) (v:=.pointer (some Xx25)) (unb 25 3) rfl rfl hT (anyM hM (by kernel_rfl)) hE rfl (KA rfl) (fun w=>KO hE (Zu rfl (congrArg Value.pointer qXx25))) (fun a hE=>?_)
     refine KG (i:=2) (v:=.pointer (some ((Xx25).add 1))) (unb 25 7) rfl rfl hT (anyM hM (by kernel_rfl)) hE rfl (KA rfl) (fun w=>KD hE rfl Zn) (fun a hE=>?_)
     refine KG (i:=4) (v:=.pointer x0) (unb 25 23) rfl rfl hT (anyM hM (by kernel_rfl)) hE rfl (KA rfl) (fun w=>KF hE rfl) (fun a hE=>?_)
     refine KG (i:=5) (v:=.pointer (some Xx26)) (unb 25 55) rfl rfl hT (anyM hM (by kernel_rfl)) hE rfl (KA rfl) (fun w=>KO hE (Zu rfl (congrArg Value.pointer qXx26))) (fun a hE=>?_)
     refine KG (i:=6) (v:=.pointer (some ((Xx26).add 0))) (unb 25 119) rfl rfl hT (anyM hM (by kernel_rfl)) hE rfl (KA rfl) (fun w=>KD hE rfl Y3) (fun a hE=>?_)
     refine Zs (i:=3) (v:=.int .i64 Xx27) (unb 25 127) rfl rfl hT (YH hM (by kernel_rfl)) hE rfl (KA rfl) hs (fun w s=>KS hE rfl sc3 s.1) (fun a hE=>?_)
     refine Zs (i:=7) (v:=.string Xx28) (unb 25 255) rfl rfl hT (YH hM (by kernel_rfl)) hE rfl (KA rfl) hs (fun w s=>KS hE rfl sc9 s.2) (fun a hE=>?_)
     refine KG (i:=8) (v:=.int .i64 (Xx28.size:Int)) (unb 25 511) rfl rfl hT (anyM hM (by kernel_rfl)) hE rfl (KA rfl) (fun w=>Yg hE rfl un9) (fun a hE=>?_)
     refine KG (i:=9) (v:=.bool (decide (Xx27≥(Xx28.size:Int)))) (unb 25 1023) rfl rfl hT (anyM hM (by kernel_rfl)) hE rfl (KA rfl) (fun w=>Kk hE rfl rfl Ki KBm) (fun a hE=>?_)
     refine KG (i:=10) (v:=.bool (decide (Xx27≥(Xx28.size:Int)))) (unb 25 2047) rfl rfl hT (anyM hM (by kernel_rfl)) hE rfl (KA rfl) (fun w=>KF hE rfl) (fun a hE=>?_)
     have hE:=hE.reb 20 (decide (Xx27≥(Xx28.size:Int))) true hb_29 rfl
     replace hE:=hE.cut (l':=[(0,.pointer x0),(1,.string x1),(6,.int .i64 (x1.size:Int)),(7,.int .i64 Xx2),(4,.int .i64 Xx2),(20,.bool true)]) (.cons rfl (.cons rfl (.cons rfl (.cons rfl (.cons rfl (.cons rfl Subs.nil))))))
     refine zy [(11,some 21),(12,some 22),(13,some 23),(14,some 24),(15,some 25),(16,some 26),(17,some 27),(18,some 28),(19,some 29),(20,some 30),(21,some 31),(22,some 32),(23,some 33)] 1 hT hM hE (by kernel_rfl) (m':=16777215) (by kernel_rfl) (fun a hE=>?_)
     refine KG (i:=24) (v:=.bool true) (unb 25 33554431) rfl rfl hT (anyM hM (by kernel_rfl)) hE rfl (KA rfl) (fun w=>Jj hE rfl rfl) (fun a hE=>?_)
     refine VD hT (KA0 hM (by kernel_rfl)) ?_
     exact⟨true,hE.cut (.cons rfl (.cons rfl (.cons rfl (.cons rfl (.cons rfl Subs.nil))))),hR,H⟩
    ·replace H:=M.ite_f hb_29 H
     obtain⟨Xx30,qXx30,H⟩:=H
     obtain⟨Xx31,qXx31,H⟩:=H
     obtain⟨Xx32,qXx32,H⟩:=H
     obtain⟨Xx33,qXx33,H⟩:=H
     obtain⟨Xx34,qXx34,H⟩:=H
     obtain⟨Xx35,qXx35,H⟩:=H
     refine NP (rops:=KFE) (by kernel_rfl) ?_
     have hT:Tab KFE _ _ _:=VT KKr rfl (by kernel_rfl)
     have hM:=TabM.of KIH
     refine Jv (m:=25) (fun w:World=>(fun h:Heap=>(KM h ((Xx25).add 1)=some (.int .i64 Xx27))∧(KM h ((Xx26).add 0)=some (.string Xx28))∧(KM h ((Xx30).add 0)=some (.string Xx33))∧(KM h ((Xx31).add 1)=some (.int .i64 Xx34))) w.heap) [19,23,24] (unb 25 0) mo hR (by kernel_rfl) (by kernel_rfl) (fun w' e=>by rw [e];exact⟨qXx27,qXx28,qXx33,qXx34⟩) (fun w hh hR hs=>?_)
     replace H:=M.at hh H;clear hh
     refine KG (i:=0) (v:=.pointer x0) (unb 25 1) rfl rfl hT (anyM hM (by kernel_rfl)) hE rfl (KA rfl) (fun w=>KF hE rfl) (fun a hE=>?_)
     refine KG (i:=1) (v:=.pointer (some Xx25)) (unb 25 3) rfl rfl hT (anyM hM (by kernel_rfl)) hE rfl (KA rfl) (fun w=>KO hE (Zu rfl (congrArg Value.pointer qXx25))) (fun a hE=>?_)
     refine KG (i:=2) (v:=.pointer (some ((Xx25).add 1))) (unb 25 7) rfl rfl hT (anyM hM (by kernel_rfl)) hE rfl (KA rfl) (fun w=>KD hE rfl Zn) (fun a hE=>?_)
     refine KG (i:=4) (v:=.pointer x0) (unb 25 23) rfl rfl hT (anyM hM (by kernel_rfl)) hE rfl (KA rfl) (fun w=>KF hE rfl) (fun a hE=>?_)
     refine KG (i:=5) (v:=.pointer (some Xx26)) (unb 25 55) rfl rfl hT (anyM hM (by kernel_rfl)) hE rfl (KA rfl) (fun w=>KO hE (Zu rfl (congrArg Value.pointer qXx26))) (fun a hE=>?_)
     refine KG (i:=6) (v:=.pointer (some ((Xx26).add 0))) (unb 25 119) rfl rfl hT (anyM hM (by kernel_rfl)) hE rfl (KA rfl) (fun w=>KD hE rfl Y3) (fun a hE=>?_)
     refine Zs (i:=3) (v:=.int .i64 Xx27) (unb 25 127) rfl rfl hT (YH hM (by kernel_rfl)) hE rfl (KA rfl) hs (fun w s=>KS hE rfl sc3 s.1) (fun a hE=>?_)
     refine Zs (i:=7) (v:=.string Xx28) (unb 25 255) rfl rfl hT (YH hM (by kernel_rfl)) hE rfl (KA rfl) hs (fun w s=>KS hE rfl sc9 s.2.1) (fun a hE=>?_)
     refine KG (i:=8) (v:=.int .i64 (Xx28.size:Int)) (unb 25 511) rfl rfl hT (anyM hM (by kernel_rfl)) hE rfl (KA rfl) (fun w=>Yg hE rfl un9) (fun a hE=>?_)
     refine KG (i:=9) (v:=.bool (decide (Xx27≥(Xx28.size:Int)))) (unb 25 1023) rfl rfl hT (anyM hM (by kernel_rfl)) hE rfl (KA rfl) (fun w=>Kk hE rfl rfl Ki KBm) (fun a hE=>?_)
     refine KG (i:=10) (v:=.bool (decide (Xx27≥(Xx28.size:Int)))) (unb 25 2047) rfl rfl hT (anyM hM (by kernel_rfl)) hE rfl (KA rfl) (fun w=>KF hE rfl) (fun a hE=>?_)
     have hE:=hE.reb 20 (decide (Xx27≥(Xx28.size:Int))) false hb_29 rfl
     replace hE:=hE.cut (l':=[(0,.pointer x0),(1,.string x1),(6,.int .i64 (x1.size:Int)),(7,.int .i64 Xx2),(4,.int .i64 Xx2),(20,.bool false)]) (.cons rfl (.cons rfl (.cons rfl (.cons rfl (.cons rfl (.cons rfl Subs.nil))))))
     refine KG (i:=11) (v:=.pointer x0) (unb 25 4095) rfl rfl hT (anyM hM (by kernel_rfl)) hE rfl (Ka rfl hE rfl rfl rfl) (fun w=>KF hE rfl) (fun a hE=>?_)
     refine KG (i:=12) (v:=.pointer (some Xx30)) (unb 25 8191) rfl rfl hT (anyM hM (by kernel_rfl)) hE rfl (Ka rfl hE rfl rfl rfl) (fun w=>KO hE (Zu rfl (congrArg Value.pointer qXx30))) (fun a hE=>?_)
     refine KG (i:=13) (v:=.pointer (some ((Xx30).add 0))) (unb 25 16383) rfl rfl hT (anyM hM (by kernel_rfl)) hE rfl (Ka rfl hE rfl rfl rfl) (fun w=>KD hE rfl Y3) (fun a hE=>?_)
     refine KG (i:=15) (v:=.pointer x0) (unb 25 49151) rfl rfl hT (anyM hM (by kernel_rfl)) hE rfl (Ka rfl hE rfl rfl rfl) (fun w=>KF hE rfl) (fun a hE=>?_)
     refine KG (i:=16) (v:=.pointer (some Xx31)) (unb 25 114687) rfl rfl hT (anyM hM (by kernel_rfl)) hE rfl (Ka rfl hE rfl rfl rfl) (fun w=>KO hE (Zu rfl (congrArg Value.pointer qXx31))) (fun a hE=>?_)
     refine KG (i:=17) (v:=.pointer (some ((Xx31).add 1))) (unb 25 245759) rfl rfl hT (anyM hM (by kernel_rfl)) hE rfl (Ka rfl hE rfl rfl rfl) (fun w=>KD hE rfl Zn) (fun a hE=>?_)
     refine KG (i:=20) (v:=.string x1) (unb 25 1294335) rfl rfl hT (anyM hM (by kernel_rfl)) hE rfl (Ka rfl hE rfl rfl rfl) (fun w=>KF hE rfl) (fun a hE=>?_)
     refine KG (i:=21) (v:=.int .i64 Xx2) (unb 25 3391487) rfl rfl hT (anyM hM (by kernel_rfl)) hE rfl (Ka rfl hE rfl rfl rfl) (fun w=>KF hE rfl) (fun a hE=>?_)
     refine KG (i:=22) (v:=.int .u8 Xx32) (unb 25 7585791) rfl rfl hT (anyM hM (by kernel_rfl)) hE rfl (Ka rfl hE rfl rfl rfl) (fun w=>KES hE rfl rfl un9 qXx32) (fun a hE=>?_)
     refine Zs (i:=14) (v:=.string Xx33) (unb 25 7602175) rfl rfl hT (YH hM (by kernel_rfl)) hE rfl (Ka rfl hE rfl rfl rfl) hs (fun w s=>KS hE rfl sc9 s.2.2.1) (fun a hE=>?_)
     refine Zs (i:=18) (v:=.int .i64 Xx34) (unb 25 7864319) rfl rfl hT (YH hM (by kernel_rfl)) hE rfl (Ka rfl hE rfl rfl rfl) hs (fun w s=>KS hE rfl sc3 s.2.2.2) (fun a hE=>?_)
     refine KG (i:=19) (v:=.int .u8 Xx35) (unb 25 8388607) rfl rfl hT (anyM hM (by kernel_rfl)) hE rfl (Ka rfl hE rfl rfl rfl) (fun w=>KES hE rfl rfl un9 qXx35) (fun a hE=>?_)
     refine KG (i:=23) (v:=.bool (Xx35 !=Xx32)) (unb 25 16777215) rfl rfl hT (anyM hM (by kernel_rfl)) hE rfl (Ka rfl hE rfl rfl rfl) (fun w=>Kk hE rfl rfl Ki KDZ) (fun a hE=>?_)
     refine KG (i:=24) (v:=.bool (Xx35 !=Xx32)) (unb 25 33554431) rfl rfl hT (anyM hM (by kernel_rfl)) hE rfl (KA rfl) (fun w=>Z3 hE rfl rfl) (fun a hE=>?_)
     refine VD hT (KA0 hM (by kernel_rfl)) ?_
     exact⟨Xx35 !=Xx32,hE.cut (.cons rfl (.cons rfl (.cons rfl (.cons rfl (.cons rfl Subs.nil))))),hR,H⟩
 ·replace H:=M.ite_f hb H
  refine qh ?_
  refine Xu.same ?_
  exact hret _ _ _ () _ hE hR (Kn hE rfl RV.nil) rfl H
end Gx
namespace Gx
open Go
def JU (Cc28:Option Addr) (Cc29:Int) (Cc30:Int):M (Value⊕(Int)):=do
 let Xx32←nilP Cc28
 let Xx33←ldI .i64 ((Xx32).add 1)
 let Xx34←nilP Cc28
 stV ((Xx34).add 1) (.int .i64 (IntKind.wrap .i64 (Xx33+1)))
 M.pure (.inr (IntKind.wrap .u8 (iOr .i64 (iShl .i64 Cc29 4) Cc30)))
def Kx (Cc38:Option Addr) (Cc39:Int) (Cc40:Int) (Xx37:Bool):M (Value⊕(Int)):=do
 M.ite Xx37 (do
  thr (ZE Cc38) fun Xx41=>do
   JU Cc38 Cc39 Cc40
  ) (do
  JU Cc38 Cc39 Cc40
  )
noncomputable def GG:Array Oper:=KJ3 Go.Proofs.Tryz.f254 11
def KII:List (List Nat):=[[],[0],[1],[2],[],[4],[5],[6],[7],[3,8],[9],[10],[11,10],[10,12],[13,10],[14],[15,14],[16,14,14],[17],[18,17],[17,19,14],[14,20]]
def KIJ:List (List Nat):=[[],[0],[1],[2],[],[4],[5],[6],[7],[3,8],[9],[10],[10,11],[10,12],[13],[14],[14,15],[14,16],[17],[17,18],[14,17,19],[14,20]]
def KIK:List (List Nat):=[[],[0],[0,1],[0,1,2],[],[4],[4,5],[4,5,6],[4,5,6,7],[0,1,2,3,4,5,6,7,8],[0,1,2,3,4,5,6,7,8,9],[0,1,2,3,4,5,6,7,8,9,10],[0,1,2,3,4,5,6,7,8,9,10,11],[0,1,2,3,4,5,6,7,8,9,10,11,12],[0,1,2,3,4,5,6,7,8,9,10,11,12,13],[0,1,2,3,4,5,6,7,8,9,10,11,12,13,14],[0,1,2,3,4,5,6,7,8,9,10,11,12,13,14,15],[0,1,2,3,4,5,6,7,8,9,10,11,12,13,14,15,16],[0,1,2,3,4,5,6,7,8,9,10,11,12,13,14,15,16,17],[0,1,2,3,4,5,6,7,8,9,10,11,12,13,14,15,16,17,18],[0,1,2,3,4,5,6,7,8,9,10,11,12,13,14,15,16,17,18,19],[0,1,2,3,4,5,6,7,8,9,10,11,12,13,14,15,16,17,18,19,20]]
theorem KCC:GS Go.Proofs.Tryz.f254 11 KII KIJ KIK=true:=by kernel_rfl
theorem KAk:KFm 22 KII KIJ KIK [0,1,2,4,0,16,32,64,128,264,512,1024,3072,5120,9216,16384,49152,81920,131072,393216,671744,1064960] [0,1,2,4,0,16,32,64,128,264,512,1024,3072,5120,8192,16384,49152,81920,131072,393216,671744,1064960] [0,1,3,7,0,16,48,112,240,511,1023,2047,4095,8191,16383,32767,65535,131071,262143,524287,1048575,2097151]=true:=by kernel_rfl
def JV (Cc18:Option Addr) (Cc19:Int):M (Value⊕(Int)):=do
 let Xx21←nilP Cc18
 let Xx22←ldI .i64 ((Xx21).add 1)
 let Xx23←nilP Cc18
 stV ((Xx23).add 1) (.int .i64 (IntKind.wrap .i64 (Xx22+1)))
 let Xx26←Ku Cc18
 let Xx27←JG (⟨#[48,49,50,51,52,53,54,55,56,57,97,98,99,100,101,102]⟩:ByteArray) Xx26
 let Xx42←nilP Cc18
 let Xx43←nilP Cc18
 let Xx44←ldI .i64 ((Xx42).add 1)
 let Xx45←ldS ((Xx43).add 0)
 M.ite (decide (Xx44≥(Xx45.size:Int))) (do
  Kx Cc18 Cc19 Xx27 true
  ) (do
  M.ite (decide (Xx27<0)) (do
   Kx Cc18 Cc19 Xx27 true
   ) (do
   M.ite (Cc19==7) (do
    Kx Cc18 Cc19 Xx27 (decide (Xx27<15))
    ) (do
    Kx Cc18 Cc19 Xx27 false
    )
   )
  )
def Ky (Cc50:Option Addr) (Cc51:Int) (Xx49:Bool):M (Value⊕(Int)):=do
 M.ite Xx49 (do
  thr (ZE Cc50) fun Xx52=>do
   JV Cc50 Cc51
  ) (do
  JV Cc50 Cc51
  )
noncomputable def Ny:Array Oper:=KJ3 Go.Proofs.Tryz.f254 7
def KKs:List (List Nat):=[[],[0],[1],[2],[],[4],[5],[6],[7],[3,8],[9],[10],[11,10],[10,12],[13,10],[14],[15,14],[16,14,14],[17],[18,17],[17,19,14],[14,20]]
def KKt:List (List Nat):=[[],[0],[1],[2],[],[4],[5],[6],[7],[3,8],[9],[10],[10,11],[10,12],[13],[14],[14,15],[14,16],[17],[17,18],[14,17,19],[14,20]]
def KKu:List (List Nat):=[[],[0],[0,1],[0,1,2],[],[4],[4,5],[4,5,6],[4,5,6,7],[0,1,2,3,4,5,6,7,8],[0,1,2,3,4,5,6,7,8,9],[0,1,2,3,4,5,6,7,8,9,10],[0,1,2,3,4,5,6,7,8,9,10,11],[0,1,2,3,4,5,6,7,8,9,10,11,12],[0,1,2,3,4,5,6,7,8,9,10,11,12,13],[0,1,2,3,4,5,6,7,8,9,10,11,12,13,14],[0,1,2,3,4,5,6,7,8,9,10,11,12,13,14,15],[0,1,2,3,4,5,6,7,8,9,10,11,12,13,14,15,16],[0,1,2,3,4,5,6,7,8,9,10,11,12,13,14,15,16,17],[0,1,2,3,4,5,6,7,8,9,10,11,12,13,14,15,16,17,18],[0,1,2,3,4,5,6,7,8,9,10,11,12,13,14,15,16,17,18,19],[0,1,2,3,4,5,6,7,8,9,10,11,12,13,14,15,16,17,18,19,20]]
theorem KFF:GS Go.Proofs.Tryz.f254 7 KKs KKt KKu=true:=by kernel_rfl
theorem KCD:KFm 22 KKs KKt KKu [0,1,2,4,0,16,32,64,128,264,512,1024,3072,5120,9216,16384,49152,81920,131072,393216,671744,1064960] [0,1,2,4,0,16,32,64,128,264,512,1024,3072,5120,8192,16384,49152,81920,131072,393216,671744,1064960] [0,1,3,7,0,16,48,112,240,511,1023,2047,4095,8191,16383,32767,65535,131071,262143,524287,1048575,2097151]=true:=by kernel_rfl
def UG (x0:Option Addr):M (Value⊕(Int)):=do
 let Xx4←Ku x0
 let Xx6←M.ite (Xx4==39) (do
  M.pure true
  ) (do
  M.pure (Xx4==92)
  )
 M.ite Xx6 (do
  let Xx8←nilP x0
  let Xx9←ldI .i64 ((Xx8).add 1)
  let Xx10←nilP x0
  stV ((Xx10).add 1) (.int .i64 (IntKind.wrap .i64 (Xx9+1)))
  M.pure (.inr Xx4)
  ) (do
  thr (ZO x0 (⟨#[120]⟩:ByteArray)) fun Xx14=>do
   let Xx16←Ku x0
   let Xx17←JG (⟨#[48,49,50,51,52,53,54,55,56,57,97,98,99,100,101,102]⟩:ByteArray) Xx16
   let Xx53←nilP x0
   let Xx54←nilP x0
   let Xx55←ldI .i64 ((Xx53).add 1)
   let Xx56←ldS ((Xx54).add 0)
   M.ite (decide (Xx55≥(Xx56.size:Int))) (do
    Ky x0 Xx17 true
    ) (do
    M.ite (decide (Xx17<0)) (do
     Ky x0 Xx17 true
     ) (do
     M.ite (decide (Xx17>1)) (do
      Ky x0 Xx17 (decide (Xx17<7))
      ) (do
      Ky x0 Xx17 false
      )
     )
    )
  )
theorem Na (x0:Option Addr):J3 Go.Proofs.Tryz.prog 254 #[.pointer x0] (fun(r:Int)=>.int .u8 r) (UG x0):=by
 refine Zj [(0,.pointer x0)] Go.Proofs.Tryz.func254 rfl rfl (Nat.le_of_ble_eq_true rfl) (Z8 ⟨rfl,trivial⟩) (fun w0 w Q R X a hret hthr hE hR H=>?_)
 unfold UG at H
 refine KR (fun K hK_1=>?_)
 refine KC ?_
 refine KB (v:=.int .u8 0) rfl rfl hE rfl (KQ hE rfl) (fun a hE=>?_)
 refine KN ?_
 refine hK_1 _ _ ?_
 refine KR (fun K hK_2=>?_)
 refine KR (fun K hK_3=>?_)
 refine KC ?_
 refine KB (v:=.pointer x0) rfl rfl hE rfl (KF hE rfl) (fun a hE=>?_)
 refine Zd hE hR Kv rfl (ZF x0) (M.unbind H) (fun Xx4 a w ea hR H=>?_)
 have hE:=Env.put_some hE rfl ea;clear ea
 refine KB (v:=.int .u8 Xx4) rfl rfl hE rfl (KQ hE rfl) (fun a hE=>?_)
 refine KN ?_
 refine hK_3 _ _ ?_
 refine KR (fun K hK_5=>?_)
 refine KC ?_
 refine KB (v:=.int .u8 Xx4) rfl rfl hE rfl (KF hE rfl) (fun a hE=>?_)
 refine KB (v:=.bool (Xx4==39)) rfl rfl hE rfl (Kk hE rfl rfl Ki W9) (fun a hE=>?_)
 refine KB (v:=.bool (Xx4==39)) rfl rfl hE rfl (KF hE rfl) (fun a hE=>?_)
 refine KAz (n:=(⟨97,[]⟩:Frm)) (w0:=w0) 3 (fun Xx6:Bool=>[(0,.pointer x0),(3,.int .u8 Xx4),(13,.bool Xx6)]) (M.unbind H) (fun Kr hKr H=>?_) ?_
 ·rcases Uj (Xx4==39)with hb|hb
  ·replace H:=M.ite_t hb H
   have hE:=hE.reb 10 (Xx4==39) true hb rfl
   refine Uw rfl hE rfl rfl rfl (fun a ea=>?_)
   have hE:=Env.put_some hE rfl ea;clear ea
   refine Uw rfl hE rfl rfl rfl (fun a ea=>?_)
   have hE:=Env.put_some hE rfl ea;clear ea
   refine KB rfl rfl hE rfl (Jj hE rfl rfl) (fun a hE=>?_)
   refine KN ?_
   exact hKr _ _ _ (hE.cut (.cons rfl (.cons rfl (.cons rfl Subs.nil)))) hR H
  ·replace H:=M.ite_f hb H
   have hE:=hE.reb 10 (Xx4==39) false hb rfl
   refine t_on rfl hE rfl rfl rfl ?_
   refine KB (v:=.int .u8 Xx4) rfl rfl hE rfl (KF hE rfl) (fun a hE=>?_)
   refine t_on rfl hE rfl rfl rfl ?_
   refine KB (v:=.bool (Xx4==92)) rfl rfl hE rfl (Kk hE rfl rfl Ki W9) (fun a hE=>?_)
   refine KB rfl rfl hE rfl (Z3 hE rfl rfl) (fun a hE=>?_)
   refine KN ?_
   exact hKr _ _ _ (hE.cut (.cons rfl (.cons rfl (.cons rfl Subs.nil)))) hR H
 ·intro Xx6 a w hE hR H
  refine KN ?_
  refine hK_5 _ _ ?_
  refine ZA Xx6 hE rfl (fun hb=>?_) (fun hb=>?_)
  ·replace H:=M.ite_t hb H
   refine KR (fun K hK_7=>?_)
   refine KC ?_
   refine KB (v:=.pointer x0) rfl rfl hE rfl (KF hE rfl) (fun a hE=>?_)
   obtain⟨Xx8,qXx8,H⟩:=H
   refine KB (v:=.pointer (some Xx8)) rfl rfl hE rfl (KO hE (Zu rfl (congrArg Value.pointer qXx8))) (fun a hE=>?_)
   refine KB (v:=.pointer (some ((Xx8).add 1))) rfl rfl hE rfl (KD hE rfl Zn) (fun a hE=>?_)
   obtain⟨Xx9,qXx9,H⟩:=H
   refine KB (v:=.int .i64 Xx9) rfl rfl hE rfl (KS hE rfl sc3 qXx9) (fun a hE=>?_)
   refine KB (v:=.int .i64 (IntKind.wrap .i64 (Xx9+1))) rfl rfl hE rfl (Kk hE rfl rfl Ki Vp) (fun a hE=>?_)
   obtain⟨Xx10,qXx10,H⟩:=H
   refine KB (v:=.pointer (some Xx10)) rfl rfl hE rfl (KO hE (Zu rfl (congrArg Value.pointer qXx10))) (fun a hE=>?_)
   refine KB (v:=.pointer (some ((Xx10).add 1))) rfl rfl hE rfl (KD hE rfl Zn) (fun a hE=>?_)
   obtain⟨u_11,qu_11,H⟩:=H
   refine JA rfl rfl hE hR (ZB hE rfl rfl sz3 qu_11) (fun a w hE hR hh=>?_)
   replace H:=M.at hh H;clear hh
   refine KN ?_
   refine hK_7 _ _ ?_
   refine KR (fun K hK_12=>?_)
   refine KC ?_
   refine KB (v:=.int .u8 Xx4) rfl rfl hE rfl (KF hE rfl) (fun a hE=>?_)
   refine KB (v:=.int .u8 Xx4) rfl rfl hE rfl (KQ hE rfl) (fun a hE=>?_)
   refine KN ?_
   refine hK_12 _ _ ?_
   refine Uv ?_
   exact hret _ _ _ Xx4 _ hE hR (Kn hE rfl (RV.tmp rfl RV.nil)) rfl H
  ·replace H:=M.ite_f hb H
   refine Zq ?_
   refine hK_2 _ _ ?_
   refine KR (fun K hK_13=>?_)
   refine KC ?_
   refine KB (v:=.pointer x0) rfl rfl hE rfl (KF hE rfl) (fun a hE=>?_)
   refine KZ hE hR Zl rfl (Zx x0 (⟨#[120]⟩:ByteArray)) H (fun _ _ hR HQ=>hthr _ _ hR HQ) (fun Xx14 a w ea hR H=>?_)
   have hE:=Env.put_some hE rfl ea;clear ea
   refine KN ?_
   refine hK_13 _ _ ?_
   refine KR (fun K hK_15=>?_)
   refine KC ?_
   refine KB (v:=.pointer x0) rfl rfl hE rfl (KF hE rfl) (fun a hE=>?_)
   refine Zd hE hR Kv rfl (ZF x0) (M.unbind H) (fun Xx16 a w ea hR H=>?_)
   have hE:=Env.put_some hE rfl ea;clear ea
   refine Zd hE hR WK rfl (Wb (⟨#[48,49,50,51,52,53,54,55,56,57,97,98,99,100,101,102]⟩:ByteArray) Xx16) (M.unbind H) (fun Xx17 a w ea hR H=>?_)
   have hE:=Env.put_some hE rfl ea;clear ea
   refine KB (v:=.int .i64 Xx17) rfl rfl hE rfl (KQ hE rfl) (fun a hE=>?_)
   refine KN ?_
   refine hK_15 _ _ ?_
   refine Kz (fun a w=>Env (⟨97,[]⟩:Frm) a [(0,.pointer x0),(4,.int .i64 Xx17)]∧Rest w0 w∧(JV x0 Xx17).wp w.heap Q) ?_ ?_
   ·rintro a w ⟨hE,hR,H⟩
    unfold JV at H
    refine KR (fun K hK_20=>?_)
    refine KC ?_
    refine KB (v:=.pointer x0) rfl rfl hE rfl (KF hE rfl) (fun a hE=>?_)
    obtain⟨Xx21,qXx21,H⟩:=H
    refine KB (v:=.pointer (some Xx21)) rfl rfl hE rfl (KO hE (Zu rfl (congrArg Value.pointer qXx21))) (fun a hE=>?_)
    refine KB (v:=.pointer (some ((Xx21).add 1))) rfl rfl hE rfl (KD hE rfl Zn) (fun a hE=>?_)
    obtain⟨Xx22,qXx22,H⟩:=H
    refine KB (v:=.int .i64 Xx22) rfl rfl hE rfl (KS hE rfl sc3 qXx22) (fun a hE=>?_)
    refine KB (v:=.int .i64 (IntKind.wrap .i64 (Xx22+1))) rfl rfl hE rfl (Kk hE rfl rfl Ki Vp) (fun a hE=>?_)
    obtain⟨Xx23,qXx23,H⟩:=H
    refine KB (v:=.pointer (some Xx23)) rfl rfl hE rfl (KO hE (Zu rfl (congrArg Value.pointer qXx23))) (fun a hE=>?_)
    refine KB (v:=.pointer (some ((Xx23).add 1))) rfl rfl hE rfl (KD hE rfl Zn) (fun a hE=>?_)
    obtain⟨u_24,qu_24,H⟩:=H
    refine JA rfl rfl hE hR (ZB hE rfl rfl sz3 qu_24) (fun a w hE hR hh=>?_)
    replace H:=M.at hh H;clear hh
    refine KN ?_
    refine hK_20 _ _ ?_
    refine KR (fun K hK_25=>?_)
    refine KC ?_
    refine KB (v:=.pointer x0) rfl rfl hE rfl (KF hE rfl) (fun a hE=>?_)
    refine Zd hE hR Kv rfl (ZF x0) (M.unbind H) (fun Xx26 a w ea hR H=>?_)
    have hE:=Env.put_some hE rfl ea;clear ea
    refine Zd hE hR WK rfl (Wb (⟨#[48,49,50,51,52,53,54,55,56,57,97,98,99,100,101,102]⟩:ByteArray) Xx26) (M.unbind H) (fun Xx27 a w ea hR H=>?_)
    have hE:=Env.put_some hE rfl ea;clear ea
    refine KB (v:=.int .i64 Xx27) rfl rfl hE rfl (KQ hE rfl) (fun a hE=>?_)
    refine KN ?_
    refine hK_25 _ _ ?_
    refine Kz (fun a w=>Env (⟨97,[]⟩:Frm) a [(0,.pointer x0),(4,.int .i64 Xx17),(5,.int .i64 Xx27)]∧Rest w0 w∧(JU x0 Xx17 Xx27).wp w.heap Q) ?_ ?_
    ·rintro a w ⟨hE,hR,H⟩
     unfold JU at H
     refine KR (fun K hK_31=>?_)
     refine KC ?_
     refine KB (v:=.pointer x0) rfl rfl hE rfl (KF hE rfl) (fun a hE=>?_)
     obtain⟨Xx32,qXx32,H⟩:=H
     refine KB (v:=.pointer (some Xx32)) rfl rfl hE rfl (KO hE (Zu rfl (congrArg Value.pointer qXx32))) (fun a hE=>?_)
     refine KB (v:=.pointer (some ((Xx32).add 1))) rfl rfl hE rfl (KD hE rfl Zn) (fun a hE=>?_)
     obtain⟨Xx33,qXx33,H⟩:=H
     refine KB (v:=.int .i64 Xx33) rfl rfl hE rfl (KS hE rfl sc3 qXx33) (fun a hE=>?_)
     refine KB (v:=.int .i64 (IntKind.wrap .i64 (Xx33+1))) rfl rfl hE rfl (Kk hE rfl rfl Ki Vp) (fun a hE=>?_)
     obtain⟨Xx34,qXx34,H⟩:=H
     refine KB (v:=.pointer (some Xx34)) rfl rfl hE rfl (KO hE (Zu rfl (congrArg Value.pointer qXx34))) (fun a hE=>?_)
     refine KB (v:=.pointer (some ((Xx34).add 1))) rfl rfl hE rfl (KD hE rfl Zn) (fun a hE=>?_)
     obtain⟨u_35,qu_35,H⟩:=H
     refine JA rfl rfl hE hR (ZB hE rfl rfl sz3 qu_35) (fun a w hE hR hh=>?_)
     replace H:=M.at hh H;clear hh
     refine KN ?_
     refine hK_31 _ _ ?_
     refine KR (fun K hK_36=>?_)
     refine KC ?_
     refine KB (v:=.int .i64 Xx17) rfl rfl hE rfl (KF hE rfl) (fun a hE=>?_)
     refine KB (v:=.int .i64 (iShl .i64 Xx17 4)) rfl rfl hE rfl (Kk hE rfl rfl Ki (KOM ⟨by decide,rfl⟩)) (fun a hE=>?_)
     refine KB (v:=.int .i64 Xx27) rfl rfl hE rfl (KF hE rfl) (fun a hE=>?_)
     refine KB (v:=.int .i64 (iOr .i64 (iShl .i64 Xx17 4) Xx27)) rfl rfl hE rfl (Kk hE rfl rfl Ki b_or) (fun a hE=>?_)
     refine KB (v:=.int .u8 (IntKind.wrap .u8 (iOr .i64 (iShl .i64 Xx17 4) Xx27))) rfl rfl hE rfl (KJt hE rfl un3 un5) (fun a hE=>?_)
     refine KB (v:=.int .u8 (IntKind.wrap .u8 (iOr .i64 (iShl .i64 Xx17 4) Xx27))) rfl rfl hE rfl (KQ hE rfl) (fun a hE=>?_)
     refine KN ?_
     refine hK_36 _ _ ?_
     refine Uv ?_
     exact hret _ _ _ (IntKind.wrap .u8 (iOr .i64 (iShl .i64 Xx17 4) Xx27)) _ hE hR (Kn hE rfl (RV.tmp rfl RV.nil)) rfl H
    ·skip
     refine Kz (fun a w=>∃(Xx37:Bool),Env (⟨97,[]⟩:Frm) a [(0,.pointer x0),(4,.int .i64 Xx17),(5,.int .i64 Xx27),(82,.bool Xx37)]∧Rest w0 w∧(Kx x0 Xx17 Xx27 Xx37).wp w.heap Q) ?_ ?_
     ·rintro a w ⟨Xx37,hE,hR,H⟩
      unfold Kx at H
      refine ZA Xx37 hE rfl (fun hb=>?_) (fun hb=>?_)
      ·replace H:=M.ite_t hb H
       refine KC ?_
       refine KB (v:=.pointer x0) rfl rfl hE rfl (KF hE rfl) (fun a hE=>?_)
       refine KZ hE hR ZK rfl (ZS x0) H (fun _ _ hR HQ=>hthr _ _ hR HQ) (fun Xx41 a w ea hR H=>?_)
       have hE:=Env.put_some hE rfl ea;clear ea
       refine KN ?_
       exact⟨hE.cut (.cons rfl (.cons rfl (.cons rfl Subs.nil))),hR,H⟩
      ·replace H:=M.ite_f hb H
       refine Zq ?_
       exact⟨hE.cut (.cons rfl (.cons rfl (.cons rfl Subs.nil))),hR,H⟩
     ·skip
      obtain⟨Xx42,qXx42,H⟩:=H
      obtain⟨Xx43,qXx43,H⟩:=H
      obtain⟨Xx44,qXx44,H⟩:=H
      obtain⟨Xx45,qXx45,H⟩:=H
      rcases Uj (decide (Xx44≥(Xx45.size:Int)))with hb_46|hb_46
      ·replace H:=M.ite_t hb_46 H
       refine NP (rops:=GG) (by kernel_rfl) ?_
       have hT:Tab GG _ _ _:=VT KCC rfl (by kernel_rfl)
       have hM:=TabM.of KAk
       refine Jv (m:=22) (fun w:World=>(fun h:Heap=>(KM h ((Xx42).add 1)=some (.int .i64 Xx44))∧(KM h ((Xx43).add 0)=some (.string Xx45))) w.heap) [9,10,11,12,13,14,15,16,17,18,19,20,21] (unb 22 0) mo hR (by kernel_rfl) (by kernel_rfl) (fun w' e=>by rw [e];exact⟨qXx44,qXx45⟩) (fun w hh hR hs=>?_)
       replace H:=M.at hh H;clear hh
       refine KG (i:=0) (v:=.pointer x0) (unb 22 1) rfl rfl hT (anyM hM (by kernel_rfl)) hE rfl (KA rfl) (fun w=>KF hE rfl) (fun a hE=>?_)
       refine KG (i:=1) (v:=.pointer (some Xx42)) (unb 22 3) rfl rfl hT (anyM hM (by kernel_rfl)) hE rfl (KA rfl) (fun w=>KO hE (Zu rfl (congrArg Value.pointer qXx42))) (fun a hE=>?_)
       refine KG (i:=2) (v:=.pointer (some ((Xx42).add 1))) (unb 22 7) rfl rfl hT (anyM hM (by kernel_rfl)) hE rfl (KA rfl) (fun w=>KD hE rfl Zn) (fun a hE=>?_)
       refine KG (i:=4) (v:=.pointer x0) (unb 22 23) rfl rfl hT (anyM hM (by kernel_rfl)) hE rfl (KA rfl) (fun w=>KF hE rfl) (fun a hE=>?_)
       refine KG (i:=5) (v:=.pointer (some Xx43)) (unb 22 55) rfl rfl hT (anyM hM (by kernel_rfl)) hE rfl (KA rfl) (fun w=>KO hE (Zu rfl (congrArg Value.pointer qXx43))) (fun a hE=>?_)
       refine KG (i:=6) (v:=.pointer (some ((Xx43).add 0))) (unb 22 119) rfl rfl hT (anyM hM (by kernel_rfl)) hE rfl (KA rfl) (fun w=>KD hE rfl Y3) (fun a hE=>?_)
       refine Zs (i:=3) (v:=.int .i64 Xx44) (unb 22 127) rfl rfl hT (YH hM (by kernel_rfl)) hE rfl (KA rfl) hs (fun w s=>KS hE rfl sc3 s.1) (fun a hE=>?_)
       refine Zs (i:=7) (v:=.string Xx45) (unb 22 255) rfl rfl hT (YH hM (by kernel_rfl)) hE rfl (KA rfl) hs (fun w s=>KS hE rfl sc9 s.2) (fun a hE=>?_)
       refine KG (i:=8) (v:=.int .i64 (Xx45.size:Int)) (unb 22 511) rfl rfl hT (anyM hM (by kernel_rfl)) hE rfl (KA rfl) (fun w=>Yg hE rfl un9) (fun a hE=>?_)
       refine KG (i:=9) (v:=.bool (decide (Xx44≥(Xx45.size:Int)))) (unb 22 1023) rfl rfl hT (anyM hM (by kernel_rfl)) hE rfl (KA rfl) (fun w=>Kk hE rfl rfl Ki KBm) (fun a hE=>?_)
       refine KG (i:=10) (v:=.bool (decide (Xx44≥(Xx45.size:Int)))) (unb 22 2047) rfl rfl hT (anyM hM (by kernel_rfl)) hE rfl (KA rfl) (fun w=>KF hE rfl) (fun a hE=>?_)
       have hE:=hE.reb 71 (decide (Xx44≥(Xx45.size:Int))) true hb_46 rfl
       replace hE:=hE.cut (l':=[(0,.pointer x0),(4,.int .i64 Xx17),(5,.int .i64 Xx27),(71,.bool true)]) (.cons rfl (.cons rfl (.cons rfl (.cons rfl Subs.nil))))
       refine KEU (i:=11) (unb 22 4095) rfl rfl hT (anyM hM (by kernel_rfl)) (Uk rfl hE rfl rfl rfl) (fun a ea=>?_)
       have hE:=Env.put_some hE rfl ea;clear ea
       refine KEU (i:=12) (unb 22 8191) rfl rfl hT (anyM hM (by kernel_rfl)) (Uk rfl hE rfl rfl rfl) (fun a ea=>?_)
       have hE:=Env.put_some hE rfl ea;clear ea
       refine KG (i:=13) (v:=.bool true) (unb 22 16383) rfl rfl hT (anyM hM (by kernel_rfl)) hE rfl (KA rfl) (fun w=>Jj hE rfl rfl) (fun a hE=>?_)
       refine KG (i:=14) (v:=.bool true) (unb 22 32767) rfl rfl hT (anyM hM (by kernel_rfl)) hE rfl (KA rfl) (fun w=>KF hE rfl) (fun a hE=>?_)
       refine zy [(15,some 76),(16,some 77),(17,some 78),(18,some 79),(19,some 80),(20,some 81)] 1 hT hM hE (by kernel_rfl) (m':=2097151) (by kernel_rfl) (fun a hE=>?_)
       refine KG (i:=21) (v:=.bool true) (unb 22 4194303) rfl rfl hT (anyM hM (by kernel_rfl)) hE rfl (KA rfl) (fun w=>Jj hE rfl rfl) (fun a hE=>?_)
       refine VD hT (KA0 hM (by kernel_rfl)) ?_
       exact⟨true,hE.cut (.cons rfl (.cons rfl (.cons rfl (.cons rfl Subs.nil)))),hR,H⟩
      ·replace H:=M.ite_f hb_46 H
       rcases Uj (decide (Xx27<0))with hb_47|hb_47
       ·replace H:=M.ite_t hb_47 H
        refine NP (rops:=GG) (by kernel_rfl) ?_
        have hT:Tab GG _ _ _:=VT KCC rfl (by kernel_rfl)
        have hM:=TabM.of KAk
        refine Jv (m:=22) (fun w:World=>(fun h:Heap=>(KM h ((Xx42).add 1)=some (.int .i64 Xx44))∧(KM h ((Xx43).add 0)=some (.string Xx45))) w.heap) [9,10,11,12,13,14,15,16,17,18,19,20,21] (unb 22 0) mo hR (by kernel_rfl) (by kernel_rfl) (fun w' e=>by rw [e];exact⟨qXx44,qXx45⟩) (fun w hh hR hs=>?_)
        replace H:=M.at hh H;clear hh
        refine KG (i:=0) (v:=.pointer x0) (unb 22 1) rfl rfl hT (anyM hM (by kernel_rfl)) hE rfl (KA rfl) (fun w=>KF hE rfl) (fun a hE=>?_)
        refine KG (i:=1) (v:=.pointer (some Xx42)) (unb 22 3) rfl rfl hT (anyM hM (by kernel_rfl)) hE rfl (KA rfl) (fun w=>KO hE (Zu rfl (congrArg Value.pointer qXx42))) (fun a hE=>?_)
        refine KG (i:=2) (v:=.pointer (some ((Xx42).add 1))) (unb 22 7) rfl rfl hT (anyM hM (by kernel_rfl)) hE rfl (KA rfl) (fun w=>KD hE rfl Zn) (fun a hE=>?_)
        refine KG (i:=4) (v:=.pointer x0) (unb 22 23) rfl rfl hT (anyM hM (by kernel_rfl)) hE rfl (KA rfl) (fun w=>KF hE rfl) (fun a hE=>?_)
        refine KG (i:=5) (v:=.pointer (some Xx43)) (unb 22 55) rfl rfl hT (anyM hM (by kernel_rfl)) hE rfl (KA rfl) (fun w=>KO hE (Zu rfl (congrArg Value.pointer qXx43))) (fun a hE=>?_)
        refine KG (i:=6) (v:=.pointer (some ((Xx43).add 0))) (unb 22 119) rfl rfl hT (anyM hM (by kernel_rfl)) hE rfl (KA rfl) (fun w=>KD hE rfl Y3) (fun a hE=>?_)
        refine Zs (i:=3) (v:=.int .i64 Xx44) (unb 22 127) rfl rfl hT (YH hM (by kernel_rfl)) hE rfl (KA rfl) hs (fun w s=>KS hE rfl sc3 s.1) (fun a hE=>?_)
        refine Zs (i:=7) (v:=.string Xx45) (unb 22 255) rfl rfl hT (YH hM (by kernel_rfl)) hE rfl (KA rfl) hs (fun w s=>KS hE rfl sc9 s.2) (fun a hE=>?_)
        refine KG (i:=8) (v:=.int .i64 (Xx45.size:Int)) (unb 22 511) rfl rfl hT (anyM hM (by kernel_rfl)) hE rfl (KA rfl) (fun w=>Yg hE rfl un9) (fun a hE=>?_)
        refine KG (i:=9) (v:=.bool (decide (Xx44≥(Xx45.size:Int)))) (unb 22 1023) rfl rfl hT (anyM hM (by kernel_rfl)) hE rfl (KA rfl) (fun w=>Kk hE rfl rfl Ki KBm) (fun a hE=>?_)
        refine KG (i:=10) (v:=.bool (decide (Xx44≥(Xx45.size:Int)))) (unb 22 2047) rfl rfl hT (anyM hM (by kernel_rfl)) hE rfl (KA rfl) (fun w=>KF hE rfl) (fun a hE=>?_)
        have hE:=hE.reb 71 (decide (Xx44≥(Xx45.size:Int))) false hb_46 rfl
        replace hE:=hE.cut (l':=[(0,.pointer x0),(4,.int .i64 Xx17),(5,.int .i64 Xx27),(71,.bool false)]) (.cons rfl (.cons rfl (.cons rfl (.cons rfl Subs.nil))))
        refine KG (i:=11) (v:=.int .i64 Xx27) (unb 22 4095) rfl rfl hT (anyM hM (by kernel_rfl)) hE rfl (Ka rfl hE rfl rfl rfl) (fun w=>KF hE rfl) (fun a hE=>?_)
        refine KG (i:=12) (v:=.bool (decide (Xx27<0))) (unb 22 8191) rfl rfl hT (anyM hM (by kernel_rfl)) hE rfl (Ka rfl hE rfl rfl rfl) (fun w=>Kk hE rfl rfl Ki NU) (fun a hE=>?_)
        refine KG (i:=13) (v:=.bool (decide (Xx27<0))) (unb 22 16383) rfl rfl hT (anyM hM (by kernel_rfl)) hE rfl (KA rfl) (fun w=>Z3 hE rfl rfl) (fun a hE=>?_)
        refine KG (i:=14) (v:=.bool (decide (Xx27<0))) (unb 22 32767) rfl rfl hT (anyM hM (by kernel_rfl)) hE rfl (KA rfl) (fun w=>KF hE rfl) (fun a hE=>?_)
        have hE:=hE.reb 75 (decide (Xx27<0)) true hb_47 rfl
        replace hE:=hE.cut (l':=[(0,.pointer x0),(4,.int .i64 Xx17),(5,.int .i64 Xx27),(75,.bool true)]) (.cons rfl (.cons rfl (.cons rfl (.cons rfl Subs.nil))))
        refine zy [(15,some 76),(16,some 77),(17,some 78),(18,some 79),(19,some 80),(20,some 81)] 1 hT hM hE (by kernel_rfl) (m':=2097151) (by kernel_rfl) (fun a hE=>?_)
        refine KG (i:=21) (v:=.bool true) (unb 22 4194303) rfl rfl hT (anyM hM (by kernel_rfl)) hE rfl (KA rfl) (fun w=>Jj hE rfl rfl) (fun a hE=>?_)
        refine VD hT (KA0 hM (by kernel_rfl)) ?_
        exact⟨true,hE.cut (.cons rfl (.cons rfl (.cons rfl (.cons rfl Subs.nil)))),hR,H⟩
       ·replace H:=M.ite_f hb_47 H
        rcases Uj (Xx17==7)with hb_48|hb_48
        ·replace H:=M.ite_t hb_48 H
         refine NP (rops:=GG) (by kernel_rfl) ?_
         have hT:Tab GG _ _ _:=VT KCC rfl (by kernel_rfl)
         have hM:=TabM.of KAk
         refine Jv (m:=22) (fun w:World=>(fun h:Heap=>(KM h ((Xx42).add 1)=some (.int .i64 Xx44))∧(KM h ((Xx43).add 0)=some (.string Xx45))) w.heap) [9,10,11,12,13,14,15,16,17,18,19,20,21] (unb 22 0) mo hR (by kernel_rfl) (by kernel_rfl) (fun w' e=>by rw [e];exact⟨qXx44,qXx45⟩) (fun w hh hR hs=>?_)
         replace H:=M.at hh H;clear hh
         refine KG (i:=0) (v:=.pointer x0) (unb 22 1) rfl rfl hT (anyM hM (by kernel_rfl)) hE rfl (KA rfl) (fun w=>KF hE rfl) (fun a hE=>?_)
         refine KG (i:=1) (v:=.pointer (some Xx42)) (unb 22 3) rfl rfl hT (anyM hM (by kernel_rfl)) hE rfl (KA rfl) (fun w=>KO hE (Zu rfl (congrArg Value.pointer qXx42))) (fun a hE=>?_)
         refine KG (i:=2) (v:=.pointer (some ((Xx42).add 1))) (unb 22 7) rfl rfl hT (anyM hM (by kernel_rfl)) hE rfl (KA rfl) (fun w=>KD hE rfl Zn) (fun a hE=>?_)
         refine KG (i:=4) (v:=.pointer x0) (unb 22 23) rfl rfl hT (anyM hM (by kernel_rfl)) hE rfl (KA rfl) (fun w=>KF hE rfl) (fun a hE=>?_)
         refine KG (i:=5) (v:=.pointer (some Xx43)) (unb 22 55) rfl rfl hT (anyM hM (by kernel_rfl)) hE rfl (KA rfl) (fun w=>KO hE (Zu rfl (congrArg Value.pointer qXx43))) (fun a hE=>?_)
         refine KG (i:=6) (v:=.pointer (some ((Xx43).add 0))) (unb 22 119) rfl rfl hT (anyM hM (by kernel_rfl)) hE rfl (KA rfl) (fun w=>KD hE rfl Y3) (fun a hE=>?_)
         refine Zs (i:=3) (v:=.int .i64 Xx44) (unb 22 127) rfl rfl hT (YH hM (by kernel_rfl)) hE rfl (KA rfl) hs (fun w s=>KS hE rfl sc3 s.1) (fun a hE=>?_)
         refine Zs (i:=7) (v:=.string Xx45) (unb 22 255) rfl rfl hT (YH hM (by kernel_rfl)) hE rfl (KA rfl) hs (fun w s=>KS hE rfl sc9 s.2) (fun a hE=>?_)
         refine KG (i:=8) (v:=.int .i64 (Xx45.size:Int)) (unb 22 511) rfl rfl hT (anyM hM (by kernel_rfl)) hE rfl (KA rfl) (fun w=>Yg hE rfl un9) (fun a hE=>?_)
         refine KG (i:=9) (v:=.bool (decide (Xx44≥(Xx45.size:Int)))) (unb 22 1023) rfl rfl hT (anyM hM (by kernel_rfl)) hE rfl (KA rfl) (fun w=>Kk hE rfl rfl Ki KBm) (fun a hE=>?_)
         refine KG (i:=10) (v:=.bool (decide (Xx44≥(Xx45.size:Int)))) (unb 22 2047) rfl rfl hT (anyM hM (by kernel_rfl)) hE rfl (KA rfl) (fun w=>KF hE rfl) (fun a hE=>?_)
         have hE:=hE.reb 71 (decide (Xx44≥(Xx45.size:Int))) false hb_46 rfl
         replace hE:=hE.cut (l':=[(0,.pointer x0),(4,.int .i64 Xx17),(5,.int .i64 Xx27),(71,.bool false)]) (.cons rfl (.cons rfl (.cons rfl (.cons rfl Subs.nil))))
         refine KG (i:=11) (v:=.int .i64 Xx27) (unb 22 4095) rfl rfl hT (anyM hM (by kernel_rfl)) hE rfl (Ka rfl hE rfl rfl rfl) (fun w=>KF hE rfl) (fun a hE=>?_)
         refine KG (i:=12) (v:=.bool (decide (Xx27<0))) (unb 22 8191) rfl rfl hT (anyM hM (by kernel_rfl)) hE rfl (Ka rfl hE rfl rfl rfl) (fun w=>Kk hE rfl rfl Ki NU) (fun a hE=>?_)
         refine KG (i:=13) (v:=.bool (decide (Xx27<0))) (unb 22 16383) rfl rfl hT (anyM hM (by kernel_rfl)) hE rfl (KA rfl) (fun w=>Z3 hE rfl rfl) (fun a hE=>?_)
         refine KG (i:=14) (v:=.bool (decide (Xx27<0))) (unb 22 32767) rfl rfl hT (anyM hM (by kernel_rfl)) hE rfl (KA rfl) (fun w=>KF hE rfl) (fun a hE=>?_)
         have hE:=hE.reb 75 (decide (Xx27<0)) false hb_47 rfl
         replace hE:=hE.cut (l':=[(0,.pointer x0),(4,.int .i64 Xx17),(5,.int .i64 Xx27),(75,.bool false)]) (.cons rfl (.cons rfl (.cons rfl (.cons rfl Subs.nil))))
         refine KG (i:=15) (v:=.int .i64 Xx17) (unb 22 65535) rfl rfl hT (anyM hM (by kernel_rfl)) hE rfl (Ka rfl hE rfl rfl rfl) (fun w=>KF hE rfl) (fun a hE=>?_)
         refine KG (i:=16) (v:=.bool (Xx17==7)) (unb 22 131071) rfl rfl hT (anyM hM (by kernel_rfl)) hE rfl (Ka rfl hE rfl rfl rfl) (fun w=>Kk hE rfl rfl Ki W9) (fun a hE=>?_)
         refine KG (i:=17) (v:=.bool (Xx17==7)) (unb 22 262143) rfl rfl hT (anyM hM (by kernel_rfl)) hE rfl (Ka rfl hE rfl rfl rfl) (fun w=>KF hE rfl) (fun a hE=>?_)
         have hE:=hE.reb 78 (Xx17==7) true hb_48 rfl
         replace hE:=hE.cut (l':=[(0,.pointer x0),(4,.int .i64 Xx17),(5,.int .i64 Xx27),(75,.bool false),(78,.bool true)]) (.cons rfl (.cons rfl (.cons rfl (.cons rfl (.cons rfl Subs.nil)))))
         refine KG (i:=18) (v:=.int .i64 Xx27) (unb 22 524287) rfl rfl hT (anyM hM (by kernel_rfl)) hE rfl (Ka rfl hE rfl rfl rfl) (fun w=>KF hE rfl) (fun a hE=>?_)
         refine KG (i:=19) (v:=.bool (decide (Xx27<15))) (unb 22 1048575) rfl rfl hT (anyM hM (by kernel_rfl)) hE rfl (Ka rfl hE rfl rfl rfl) (fun w=>Kk hE rfl rfl Ki NU) (fun a hE=>?_)
         refine KG (i:=20) (v:=.bool (decide (Xx27<15))) (unb 22 2097151) rfl rfl hT (anyM hM (by kernel_rfl)) hE rfl (Ka rfl hE rfl rfl rfl) (fun w=>Jj hE rfl rfl) (fun a hE=>?_)
         refine KG (i:=21) (v:=.bool (decide (Xx27<15))) (unb 22 4194303) rfl rfl hT (anyM hM (by kernel_rfl)) hE rfl (KA rfl) (fun w=>Z3 hE rfl rfl) (fun a hE=>?_)
         refine VD hT (KA0 hM (by kernel_rfl)) ?_
         exact⟨decide (Xx27<15),hE.cut (.cons rfl (.cons rfl (.cons rfl (.cons rfl Subs.nil)))),hR,H⟩
        ·replace H:=M.ite_f hb_48 H
         refine NP (rops:=GG) (by kernel_rfl) ?_
         have hT:Tab GG _ _ _:=VT KCC rfl (by kernel_rfl)
         have hM:=TabM.of KAk
         refine Jv (m:=22) (fun w:World=>(fun h:Heap=>(KM h ((Xx42).add 1)=some (.int .i64 Xx44))∧(KM h ((Xx43).add 0)=some (.string Xx45))) w.heap) [9,10,11,12,13,14,15,16,17,18,19,20,21] (unb 22 0) mo hR (by kernel_rfl) (by kernel_rfl) (fun w' e=>by rw [e];exact⟨qXx44,qXx45⟩) (fun w hh hR hs=>?_)
         replace H:=M.at hh H;clear hh
         refine KG (i:=0) (v:=.pointer x0) (unb 22 1) rfl rfl hT (anyM hM (by kernel_rfl)) hE rfl (KA rfl) (fun w=>KF hE rfl) (fun a hE=>?_)
         refine KG (i:=1) (v:=.pointer (some Xx42)) (unb 22 3) rfl rfl hT (anyM hM (by kernel_rfl)) hE rfl (KA rfl) (fun w=>KO hE (Zu rfl (congrArg Value.pointer qXx42))) (fun a hE=>?_)
         refine KG (i:=2) (v:=.pointer (some ((Xx42).add 1))) (unb 22 7) rfl rfl hT (anyM hM (by kernel_rfl)) hE rfl (KA rfl) (fun w=>KD hE rfl Zn) (fun a hE=>?_)
         refine KG (i:=4) (v:=.pointer x0) (unb 22 23) rfl rfl hT (anyM hM (by kernel_rfl)) hE rfl (KA rfl) (fun w=>KF hE rfl) (fun a hE=>?_)
         refine KG (i:=5) (v:=.pointer (some Xx43)) (unb 22 55) rfl rfl hT (anyM hM (by kernel_rfl)) hE rfl (KA rfl) (fun w=>KO hE (Zu rfl (congrArg Value.pointer qXx43))) (fun a hE=>?_)
         refine KG (i:=6) (v:=.pointer (some ((Xx43).add 0))) (unb 22 119) rfl rfl hT (anyM hM (by kernel_rfl)) hE rfl (KA rfl) (fun w=>KD hE rfl Y3) (fun a hE=>?_)
         refine Zs (i:=3) (v:=.int .i64 Xx44) (unb 22 127) rfl rfl hT (YH hM (by kernel_rfl)) hE rfl (KA rfl) hs (fun w s=>KS hE rfl sc3 s.1) (fun a hE=>?_)
         refine Zs (i:=7) (v:=.string Xx45) (unb 22 255) rfl rfl hT (YH hM (by kernel_rfl)) hE rfl (KA rfl) hs (fun w s=>KS hE rfl sc9 s.2) (fun a hE=>?_)
         refine KG (i:=8) (v:=.int .i64 (Xx45.size:Int)) (unb 22 511) rfl rfl hT (anyM hM (by kernel_rfl)) hE rfl (KA rfl) (fun w=>Yg hE rfl un9) (fun a hE=>?_)
         refine KG (i:=9) (v:=.bool (decide (Xx44≥(Xx45.size:Int)))) (unb 22 1023) rfl rfl hT (anyM hM (by kernel_rfl)) hE rfl (KA rfl) (fun w=>Kk hE rfl rfl Ki KBm) (fun a hE=>?_)
         refine KG (i:=10) (v:=.bool (decide (Xx44≥(Xx45.size:Int)))) (unb 22 2047) rfl rfl hT (anyM hM (by kernel_rfl)) hE rfl (KA rfl) (fun w=>KF hE rfl) (fun a hE=>?_)
         have hE:=hE.reb 71 (decide (Xx44≥(Xx45.size:Int))) false hb_46 rfl
         replace hE:=hE.cut (l':=[(0,.pointer x0),(4,.int .i64 Xx17),(5,.int .i64 Xx27),(71,.bool false)]) (.cons rfl (.cons rfl (.cons rfl (.cons rfl Subs.nil))))
         refine KG (i:=11) (v:=.int .i64 Xx27) (unb 22 4095) rfl rfl hT (anyM hM (by kernel_rfl)) hE rfl (Ka rfl hE rfl rfl rfl) (fun w=>KF hE rfl) (fun a hE=>?_)
         refine KG (i:=12) (v:=.bool (decide (Xx27<0))) (unb 22 8191) rfl rfl hT (anyM hM (by kernel_rfl)) hE rfl (Ka rfl hE rfl rfl rfl) (fun w=>Kk hE rfl rfl Ki NU) (fun a hE=>?_)
         refine KG (i:=13) (v:=.bool (decide (Xx27<0))) (unb 22 16383) rfl rfl hT (anyM hM (by kernel_rfl)) hE rfl (KA rfl) (fun w=>Z3 hE rfl rfl) (fun a hE=>?_)
         refine KG (i:=14) (v:=.bool (decide (Xx27<0))) (unb 22 32767) rfl rfl hT (anyM hM (by kernel_rfl)) hE rfl (KA rfl) (fun w=>KF hE rfl) (fun a hE=>?_)
         have hE:=hE.reb 75 (decide (Xx27<0)) false hb_47 rfl
         replace hE:=hE.cut (l':=[(0,.pointer x0),(4,.int .i64 Xx17),(5,.int .i64 Xx27),(75,.bool false)]) (.cons rfl (.cons rfl (.cons rfl (.cons rfl Subs.nil))))
         refine KG (i:=15) (v:=.int .i64 Xx17) (unb 22 65535) rfl rfl hT (anyM hM (by kernel_rfl)) hE rfl (Ka rfl hE rfl rfl rfl) (fun w=>KF hE rfl) (fun a hE=>?_)
         refine KG (i:=16) (v:=.bool (Xx17==7)) (unb 22 131071) rfl rfl hT (anyM hM (by kernel_rfl)) hE rfl (Ka rfl hE rfl rfl rfl) (fun w=>Kk hE rfl rfl Ki W9) (fun a hE=>?_)
         refine KG (i:=17) (v:=.bool (Xx17==7)) (unb 22 262143) rfl rfl hT (anyM hM (by kernel_rfl)) hE rfl (Ka rfl hE rfl rfl rfl) (fun w=>KF hE rfl) (fun a hE=>?_)
         have hE:=hE.reb 78 (Xx17==7) false hb_48 rfl
         replace hE:=hE.cut (l':=[(0,.pointer x0),(4,.int .i64 Xx17),(5,.int .i64 Xx27),(75,.bool false),(78,.bool false)]) (.cons rfl (.cons rfl (.cons rfl (.cons rfl (.cons rfl Subs.nil)))))
         refine KEU (i:=18) (unb 22 524287) rfl rfl hT (anyM hM (by kernel_rfl)) (Uk rfl hE rfl rfl rfl) (fun a ea=>?_)
         have hE:=Env.put_some hE rfl ea;clear ea
         refine KEU (i:=19) (unb 22 1048575) rfl rfl hT (anyM hM (by kernel_rfl)) (Uk rfl hE rfl rfl rfl) (fun a ea=>?_)
         have hE:=Env.put_some hE rfl ea;clear ea
         refine KG (i:=20) (v:=.bool false) (unb 22 2097151) rfl rfl hT (anyM hM (by kernel_rfl)) hE rfl (Ka rfl hE rfl rfl rfl) (fun w=>Z3 hE rfl rfl) (fun a hE=>?_)
         refine KG (i:=21) (v:=.bool false) (unb 22 4194303) rfl rfl hT (anyM hM (by kernel_rfl)) hE rfl (KA rfl) (fun w=>Z3 hE rfl rfl) (fun a hE=>?_)
         refine VD hT (KA0 hM (by kernel_rfl)) ?_
         exact⟨false,hE.cut (.cons rfl (.cons rfl (.cons rfl (.cons rfl Subs.nil)))),hR,H⟩
   ·skip
    refine Kz (fun a w=>∃(Xx49:Bool),Env (⟨97,[]⟩:Frm) a [(0,.pointer x0),(4,.int .i64 Xx17),(48,.bool Xx49)]∧Rest w0 w∧(Ky x0 Xx17 Xx49).wp w.heap Q) ?_ ?_
    ·rintro a w ⟨Xx49,hE,hR,H⟩
     unfold Ky at H
     refine ZA Xx49 hE rfl (fun hb=>?_) (fun hb=>?_)
     ·replace H:=M.ite_t hb H
      refine KC ?_
      refine KB (v:=.pointer x0) rfl rfl hE rfl (KF hE rfl) (fun a hE=>?_)
      refine KZ hE hR ZK rfl (ZS x0) H (fun _ _ hR HQ=>hthr _ _ hR HQ) (fun Xx52 a w ea hR H=>?_)
      have hE:=Env.put_some hE rfl ea;clear ea
      refine KN ?_
      exact⟨hE.cut (.cons rfl (.cons rfl Subs.nil)),hR,H⟩
     ·replace H:=M.ite_f hb H
      refine Zq ?_
      exact⟨hE.cut (.cons rfl (.cons rfl Subs.nil)),hR,H⟩
    ·skip
     obtain⟨Xx53,qXx53,H⟩:=H
     obtain⟨Xx54,qXx54,H⟩:=H
     obtain⟨Xx55,qXx55,H⟩:=H
     obtain⟨Xx56,qXx56,H⟩:=H
     rcases Uj (decide (Xx55≥(Xx56.size:Int)))with hb_57|hb_57
     ·replace H:=M.ite_t hb_57 H
      refine NP (rops:=Ny) (by kernel_rfl) ?_
      have hT:Tab Ny _ _ _:=VT KFF rfl (by kernel_rfl)
      have hM:=TabM.of KCD
      refine Jv (m:=22) (fun w:World=>(fun h:Heap=>(KM h ((Xx53).add 1)=some (.int .i64 Xx55))∧(KM h ((Xx54).add 0)=some (.string Xx56))) w.heap) [9,10,11,12,13,14,15,16,17,18,19,20,21] (unb 22 0) mo hR (by kernel_rfl) (by kernel_rfl) (fun w' e=>by rw [e];exact⟨qXx55,qXx56⟩) (fun w hh hR hs=>?_)
      replace H:=M.at hh H;clear hh
      refine KG (i:=0) (v:=.pointer x0) (unb 22 1) rfl rfl hT (anyM hM (by kernel_rfl)) hE rfl (KA rfl) (fun w=>KF hE rfl) (fun a hE=>?_)
      refine KG (i:=1) (v:=.pointer (some Xx53)) (unb 22 3) rfl rfl hT (anyM hM (by kernel_rfl)) hE rfl (KA rfl) (fun w=>KO hE (Zu rfl (congrArg Value.pointer qXx53))) (fun a hE=>?_)
      refine KG (i:=2) (v:=.pointer (some ((Xx53).add 1))) (unb 22 7) rfl rfl hT (anyM hM (by kernel_rfl)) hE rfl (KA rfl) (fun w=>KD hE rfl Zn) (fun a hE=>?_)
      refine KG (i:=4) (v:=.pointer x0) (unb 22 23) rfl rfl hT (anyM hM (by kernel_rfl)) hE rfl (KA rfl) (fun w=>KF hE rfl) (fun a hE=>?_)
      refine KG (i:=5) (v:=.pointer (some Xx54)) (unb 22 55) rfl rfl hT (anyM hM (by kernel_rfl)) hE rfl (KA rfl) (fun w=>KO hE (Zu rfl (congrArg Value.pointer qXx54))) (fun a hE=>?_)
      refine KG (i:=6) (v:=.pointer (some ((Xx54).add 0))) (unb 22 119) rfl rfl hT (anyM hM (by kernel_rfl)) hE rfl (KA rfl) (fun w=>KD hE rfl Y3) (fun a hE=>?_)
      refine Zs (i:=3) (v:=.int .i64 Xx55) (unb 22 127) rfl rfl hT (YH hM (by kernel_rfl)) hE rfl (KA rfl) hs (fun w s=>KS hE rfl sc3 s.1) (fun a hE=>?_)
      refine Zs (i:=7) (v:=.string Xx56) (unb 22 255) rfl rfl hT (YH hM (by kernel_rfl)) hE rfl (KA rfl) hs (fun w s=>KS hE rfl sc9 s.2) (fun a hE=>?_)
      refine KG (i:=8) (v:=.int .i64 (Xx56.size:Int)) (unb 22 511) rfl rfl hT (anyM hM (by kernel_rfl)) hE rfl (KA rfl) (fun w=>Yg hE rfl un9) (fun a hE=>?_)
      refine KG (i:=9) (v:=.bool (decide (Xx55≥(Xx56.size:Int)))) (unb 22 1023) rfl rfl hT (anyM hM (by kernel_rfl)) hE rfl (KA rfl) (fun w=>Kk hE rfl rfl Ki KBm) (fun a hE=>?_)
      refine KG (i:=10) (v:=.bool (decide (Xx55≥(Xx56.size:Int)))) (unb 22 2047) rfl rfl hT (anyM hM (by kernel_rfl)) hE rfl (KA rfl) (fun w=>KF hE rfl) (fun a hE=>?_)
      have hE:=hE.reb 37 (decide (Xx55≥(Xx56.size:Int))) true hb_57 rfl
      replace hE:=hE.cut (l':=[(0,.pointer x0),(4,.int .i64 Xx17),(37,.bool true)]) (.cons rfl (.cons rfl (.cons rfl Subs.nil)))
      refine KEU (i:=11) (unb 22 4095) rfl rfl hT (anyM hM (by kernel_rfl)) (Uk rfl hE rfl rfl rfl) (fun a ea=>?_)
      have hE:=Env.put_some hE rfl ea;clear ea
      refine KEU (i:=12) (unb 22 8191) rfl rfl hT (anyM hM (by kernel_rfl)) (Uk rfl hE rfl rfl rfl) (fun a ea=>?_)
      have hE:=Env.put_some hE rfl ea;clear ea
      refine KG (i:=13) (v:=.bool true) (unb 22 16383) rfl rfl hT (anyM hM (by kernel_rfl)) hE rfl (KA rfl) (fun w=>Jj hE rfl rfl) (fun a hE=>?_)
      refine KG (i:=14) (v:=.bool true) (unb 22 32767) rfl rfl hT (anyM hM (by kernel_rfl)) hE rfl (KA rfl) (fun w=>KF hE rfl) (fun a hE=>?_)
      refine zy [(15,some 42),(16,some 43),(17,some 44),(18,some 45),(19,some 46),(20,some 47)] 1 hT hM hE (by kernel_rfl) (m':=2097151) (by kernel_rfl) (fun a hE=>?_)
      refine KG (i:=21) (v:=.bool true) (unb 22 4194303) rfl rfl hT (anyM hM (by kernel_rfl)) hE rfl (KA rfl) (fun w=>Jj hE rfl rfl) (fun a hE=>?_)
      refine VD hT (KA0 hM (by kernel_rfl)) ?_
      exact⟨true,hE.cut (.cons rfl (.cons rfl (.cons rfl Subs.nil))),hR,H⟩
     ·replace H:=M.ite_f hb_57 H
      rcases Uj (decide (Xx17<0))with hb_58|hb_58
      ·replace H:=M.ite_t hb_58 H
       refine NP (rops:=Ny) (by kernel_rfl) ?_
       have hT:Tab Ny _ _ _:=VT KFF rfl (by kernel_rfl)
       have hM:=TabM.of KCD
       refine Jv (m:=22) (fun w:World=>(fun h:Heap=>(KM h ((Xx53).add 1)=some (.int .i64 Xx55))∧(KM h ((Xx54).add 0)=some (.string Xx56))) w.heap) [9,10,11,12,13,14,15,16,17,18,19,20,21] (unb 22 0) mo hR (by kernel_rfl) (by kernel_rfl) (fun w' e=>by rw [e];exact⟨qXx55,qXx56⟩) (fun w hh hR hs=>?_)
       replace H:=M.at hh H;clear hh
       refine KG (i:=0) (v:=.pointer x0) (unb 22 1) rfl rfl hT (anyM hM (by kernel_rfl)) hE rfl (KA rfl) (fun w=>KF hE rfl) (fun a hE=>?_)
       refine KG (i:=1) (v:=.pointer (some Xx53)) (unb 22 3) rfl rfl hT (anyM hM (by kernel_rfl)) hE rfl (KA rfl) (fun w=>KO hE (Zu rfl (congrArg Value.pointer qXx53))) (fun a hE=>?_)
       refine KG (i:=2) (v:=.pointer (some ((Xx53).add 1))) (unb 22 7) rfl rfl hT (anyM hM (by kernel_rfl)) hE rfl (KA rfl) (fun w=>KD hE rfl Zn) (fun a hE=>?_)
       refine KG (i:=4) (v:=.pointer x0) (unb 22 23) rfl rfl hT (anyM hM (by kernel_rfl)) hE rfl (KA rfl) (fun w=>KF hE rfl) (fun a hE=>?_)
       refine KG (i:=5) (v:=.pointer (some Xx54)) (unb 22 55) rfl rfl hT (anyM hM (by kernel_rfl)) hE rfl (KA rfl) (fun w=>KO hE (Zu rfl (congrArg Value.pointer qXx54))) (fun a hE=>?_)
       refine KG (i:=6) (v:=.pointer (some ((Xx54).add 0))) (unb 22 119) rfl rfl hT (anyM hM (by kernel_rfl)) hE rfl (KA rfl) (fun w=>KD hE rfl Y3) (fun a hE=>?_)
       refine Zs (i:=3) (v:=.int .i64 Xx55) (unb 22 127) rfl rfl hT (YH hM (by kernel_rfl)) hE rfl (KA rfl) hs (fun w s=>KS hE rfl sc3 s.1) (fun a hE=>?_)
       refine Zs (i:=7) (v:=.string Xx56) (unb 22 255) rfl rfl hT (YH hM (by kernel_rfl)) hE rfl (KA rfl) hs (fun w s=>KS hE rfl sc9 s.2) (fun a hE=>?_)
       refine KG (i:=8) (v:=.int .i64 (Xx56.size:Int)) (unb 22 511) rfl rfl hT (anyM hM (by kernel_rfl)) hE rfl (KA rfl) (fun w=>Yg hE rfl un9) (fun a hE=>?_)
       refine KG (i:=9) (v:=.bool (decide (Xx55≥(Xx56.size:Int)))) (unb 22 1023) rfl rfl hT (anyM hM (by kernel_rfl)) hE rfl (KA rfl) (fun w=>Kk hE rfl rfl Ki KBm) (fun a hE=>?_)
       refine KG (i:=10) (v:=.bool (decide (Xx55≥(Xx56.size:Int)))) (unb 22 2047) rfl rfl hT (anyM hM (by kernel_rfl)) hE rfl (KA rfl) (fun w=>KF hE rfl) (fun a hE=>?_)
       have hE:=hE.reb 37 (decide (Xx55≥(Xx56.size:Int))) false hb_57 rfl
       replace hE:=hE.cut (l':=[(0,.pointer x0),(4,.int .i64 Xx17),(37,.bool false)]) (.cons rfl (.cons rfl (.cons rfl Subs.nil)))
       refine KG (i:=11) (v:=.int .i64 Xx17) (unb 22 4095) rfl rfl hT (anyM hM (by kernel_rfl)) hE rfl (Ka rfl hE rfl rfl rfl) (fun w=>KF hE rfl) (fun a hE=>?_)
       refine KG (i:=12) (v:=.bool (decide (Xx17<0))) (unb 22 8191) rfl rfl hT (anyM hM (by kernel_rfl)) hE rfl (Ka rfl hE rfl rfl rfl) (fun w=>Kk hE rfl rfl Ki NU) (fun a hE=>?_)
       refine KG (i:=13) (v:=.bool (decide (Xx17<0))) (unb 22 16383) rfl rfl hT (anyM hM (by kernel_rfl)) hE rfl (KA rfl) (fun w=>Z3 hE rfl rfl) (fun a hE=>?_)
       refine KG (i:=14) (v:=.bool (decide (Xx17<0))) (unb 22 32767) rfl rfl hT (anyM hM (by kernel_rfl)) hE rfl (KA rfl) (fun w=>KF hE rfl) (fun a hE=>?_)
       have hE:=hE.reb 41 (decide (Xx17<0)) true hb_58 rfl
       replace hE:=hE.cut (l':=[(0,.pointer x0),(4,.int .i64 Xx17),(41,.bool true)]) (.cons rfl (.cons rfl (.cons rfl Subs.nil)))
       refine zy [(15,some 42),(16,some 43),(17,some 44),(18,some 45),(19,some 46),(20,some 47)] 1 hT hM hE (by kernel_rfl) (m':=2097151) (by kernel_rfl) (fun a hE=>?_)
       refine KG (i:=21) (v:=.bool true) (unb 22 4194303) rfl rfl hT (anyM hM (by kernel_rfl)) hE rfl (KA rfl) (fun w=>Jj hE rfl rfl) (fun a hE=>?_)
       refine VD hT (KA0 hM (by kernel_rfl)) ?_
       exact⟨true,hE.cut (.cons rfl (.cons rfl (.cons rfl Subs.nil))),hR,H⟩
      ·replace H:=M.ite_f hb_58 H
       rcases Uj (decide (Xx17>1))with hb_59|hb_59
       ·replace H:=M.ite_t hb_59 H
        refine NP (rops:=Ny) (by kernel_rfl) ?_
        have hT:Tab Ny _ _ _:=VT KFF rfl (by kernel_rfl)
        have hM:=TabM.of KCD
        refine Jv (m:=22) (fun w:World=>(fun h:Heap=>(KM h ((Xx53).add 1)=some (.int .i64 Xx55))∧(KM h ((Xx54).add 0)=some (.string Xx56))) w.heap) [9,10,11,12,13,14,15,16,17,18,19,20,21] (unb 22 0) mo hR (by kernel_rfl) (by kernel_rfl) (fun w' e=>by rw [e];exact⟨qXx55,qXx56⟩) (fun w hh hR hs=>?_)
        replace H:=M.at hh H;clear hh
        refine KG (i:=0) (v:=.pointer x0) (unb 22 1) rfl rfl hT (anyM hM (by kernel_rfl)) hE rfl (KA rfl) (fun w=>KF hE rfl) (fun a hE=>?_)
        refine KG (i:=1) (v:=.pointer (some Xx53)) (unb 22 3) rfl rfl hT (anyM hM (by kernel_rfl)) hE rfl (KA rfl) (fun w=>KO hE (Zu rfl (congrArg Value.pointer qXx53))) (fun a hE=>?_)
        refine KG (i:=2) (v:=.pointer (some ((Xx53).add 1))) (unb 22 7) rfl rfl hT (anyM hM (by kernel_rfl)) hE rfl (KA rfl) (fun w=>KD hE rfl Zn) (fun a hE=>?_)
        refine KG (i:=4) (v:=.pointer x0) (unb 22 23) rfl rfl hT (anyM hM (by kernel_rfl)) hE rfl (KA rfl) (fun w=>KF hE rfl) (fun a hE=>?_)
        refine KG (i:=5) (v:=.pointer (some Xx54)) (unb 22 55) rfl rfl hT (anyM hM (by kernel_rfl)) hE rfl (KA rfl) (fun w=>KO hE (Zu rfl (congrArg Value.pointer qXx54))) (fun a hE=>?_)
        refine KG (i:=6) (v:=.pointer (some ((Xx54).add 0))) (unb 22 119) rfl rfl hT (anyM hM (by kernel_rfl)) hE rfl (KA rfl) (fun w=>KD hE rfl Y3) (fun a hE=>?_)
        refine Zs (i:=3) (v:=.int .i64 Xx55) (unb 22 127) rfl rfl hT (YH hM (by kernel_rfl)) hE rfl (KA rfl) hs (fun w s=>KS hE rfl sc3 s.1) (fun a hE=>?_)
        refine Zs (i:=7) (v:=.string Xx56) (unb 22 255) rfl rfl hT (YH hM (by kernel_rfl)) hE rfl (KA rfl) hs (fun w s=>KS hE rfl sc9 s.2) (fun a hE=>?_)
        refine KG (i:=8) (v:=.int .i64 (Xx56.size:Int)) (unb 22 511) rfl rfl hT (anyM hM (by kernel_rfl)) hE rfl (KA rfl) (fun w=>Yg hE rfl un9) (fun a hE=>?_)
        refine KG (i:=9) (v:=.bool (decide (Xx55≥(Xx56.size:Int)))) (unb 22 1023) rfl rfl hT (anyM hM (by kernel_rfl)) hE rfl (KA rfl) (fun w=>Kk hE rfl rfl Ki KBm) (fun a hE=>?_)
        refine KG (i:=10) (v:=.bool (decide (Xx55≥(Xx56.size:Int)))) (unb 22 2047) rfl rfl hT (anyM hM (by kernel_rfl)) hE rfl (KA rfl) (fun w=>KF hE rfl) (fun a hE=>?_)
        have hE:=hE.reb 37 (decide (Xx55≥(Xx56.size:Int))) false hb_57 rfl
        replace hE:=hE.cut (l':=[(0,.pointer x0),(4,.int .i64 Xx17),(37,.bool false)]) (.cons rfl (.cons rfl (.cons rfl Subs.nil)))
        refine KG (i:=11) (v:=.int .i64 Xx17) (unb 22 4095) rfl rfl hT (anyM hM (by kernel_rfl)) hE rfl (Ka rfl hE rfl rfl rfl) (fun w=>KF hE rfl) (fun a hE=>?_)
        refine KG (i:=12) (v:=.bool (decide (Xx17<0))) (unb 22 8191) rfl rfl hT (anyM hM (by kernel_rfl)) hE rfl (Ka rfl hE rfl rfl rfl) (fun w=>Kk hE rfl rfl Ki NU) (fun a hE=>?_)
        refine KG (i:=13) (v:=.bool (decide (Xx17<0))) (unb 22 16383) rfl rfl hT (anyM hM (by kernel_rfl)) hE rfl (KA rfl) (fun w=>Z3 hE rfl rfl) (fun a hE=>?_)
        refine KG (i:=14) (v:=.bool (decide (Xx17<0))) (unb 22 32767) rfl rfl hT (anyM hM (by kernel_rfl)) hE rfl (KA rfl) (fun w=>KF hE rfl) (fun a hE=>?_)
        have hE:=hE.reb 41 (decide (Xx17<0)) false hb_58 rfl
        replace hE:=hE.cut (l':=[(0,.pointer x0),(4,.int .i64 Xx17),(41,.bool false)]) (.cons rfl (.cons rfl (.cons rfl Subs.nil)))
        refine KG (i:=15) (v:=.int .i64 Xx17) (unb 22 65535) rfl rfl hT (anyM hM (by kernel_rfl)) hE rfl (Ka rfl hE rfl rfl rfl) (fun w=>KF hE rfl) (fun a hE=>?_)
        refine KG (i:=16) (v:=.bool (decide (Xx17>1))) (unb 22 131071) rfl rfl hT (anyM hM (by kernel_rfl)) hE rfl (Ka rfl hE rfl rfl rfl) (fun w=>Kk hE rfl rfl Ki qv) (fun a hE=>?_)
        refine KG (i:=17) (v:=.bool (decide (Xx17>1))) (unb 22 262143) rfl rfl hT (anyM hM (by kernel_rfl)) hE rfl (Ka rfl hE rfl rfl rfl) (fun w=>KF hE rfl) (fun a hE=>?_)
        have hE:=hE.reb 44 (decide (Xx17>1)) true hb_59 rfl
        replace hE:=hE.cut (l':=[(0,.pointer x0),(4,.int .i64 Xx17),(41,.bool false),(44,.bool true)]) (.cons rfl (.cons rfl (.cons rfl (.cons rfl Subs.nil))))
        refine KG (i:=18) (v:=.int .i64 Xx17) (unb 22 524287) rfl rfl hT (anyM hM (by kernel_rfl)) hE rfl (Ka rfl hE rfl rfl rfl) (fun w=>KF hE rfl) (fun a hE=>?_)
        refine KG (i:=19) (v:=.bool (decide (Xx17<7))) (unb 22 1048575) rfl rfl hT (anyM hM (by kernel_rfl)) hE rfl (Ka rfl hE rfl rfl rfl) (fun w=>Kk hE rfl rfl Ki NU) (fun a hE=>?_)
        refine KG (i:=20) (v:=.bool (decide (Xx17<7))) (unb 22 2097151) rfl rfl hT (anyM hM (by kernel_rfl)) hE rfl (Ka rfl hE rfl rfl rfl) (fun w=>Jj hE rfl rfl) (fun a hE=>?_)
        refine KG (i:=21) (v:=.bool (decide (Xx17<7))) (unb 22 4194303) rfl rfl hT (anyM hM (by kernel_rfl)) hE rfl (KA rfl) (fun w=>Z3 hE rfl rfl) (fun a hE=>?_)
        refine VD hT (KA0 hM (by kernel_rfl)) ?_
        exact⟨decide (Xx17<7),hE.cut (.cons rfl (.cons rfl (.cons rfl Subs.nil))),hR,H⟩
       ·replace H:=M.ite_f hb_59 H
        refine NP (rops:=Ny) (by kernel_rfl) ?_
        have hT:Tab Ny _ _ _:=VT KFF rfl (by kernel_rfl)
        have hM:=TabM.of KCD
        refine Jv (m:=22) (fun w:World=>(fun h:Heap=>(KM h ((Xx53).add 1)=some (.int .i64 Xx55))∧(KM h ((Xx54).add 0)=some (.string Xx56))) w.heap) [9,10,11,12,13,14,15,16,17,18,19,20,21] (unb 22 0) mo hR (by kernel_rfl) (by kernel_rfl) (fun w' e=>by rw [e];exact⟨qXx55,qXx56⟩) (fun w hh hR hs=>?_)
        replace H:=M.at hh H;clear hh
        refine KG (i:=0) (v:=.pointer x0) (unb 22 1) rfl rfl hT (anyM hM (by kernel_rfl)) hE rfl (KA rfl) (fun w=>KF hE rfl) (fun a hE=>?_)
        refine KG (i:=1) (v:=.pointer (some Xx53)) (unb 22 3) rfl rfl hT (anyM hM (by kernel_rfl)) hE rfl (KA rfl) (fun w=>KO hE (Zu rfl (congrArg Value.pointer qXx53))) (fun a hE=>?_)
        refine KG (i:=2) (v:=.pointer (some ((Xx53).add 1))) (unb 22 7) rfl rfl hT (anyM hM (by kernel_rfl)) hE rfl (KA rfl) (fun w=>KD hE rfl Zn) (fun a hE=>?_)
        refine KG (i:=4) (v:=.pointer x0) (unb 22 23) rfl rfl hT (anyM hM (by kernel_rfl)) hE rfl (KA rfl) (fun w=>KF hE rfl) (fun a hE=>?_)
        refine KG (i:=5) (v:=.pointer (some Xx54)) (unb 22 55) rfl rfl hT (anyM hM (by kernel_rfl)) hE rfl (KA rfl) (fun w=>KO hE (Zu rfl (congrArg Value.pointer qXx54))) (fun a hE=>?_)
        refine KG (i:=6) (v:=.pointer (some ((Xx54).add 0))) (unb 22 119) rfl rfl hT (anyM hM (by kernel_rfl)) hE rfl (KA rfl) (fun w=>KD hE rfl Y3) (fun a hE=>?_)
        refine Zs (i:=3) (v:=.int .i64 Xx55) (unb 22 127) rfl rfl hT (YH hM (by kernel_rfl)) hE rfl (KA rfl) hs (fun w s=>KS hE rfl sc3 s.1) (fun a hE=>?_)
        refine Zs (i:=7) (v:=.string Xx56) (unb 22 255) rfl rfl hT (YH hM (by kernel_rfl)) hE rfl (KA rfl) hs (fun w s=>KS hE rfl sc9 s.2) (fun a hE=>?_)
        refine KG (i:=8) (v:=.int .i64 (Xx56.size:Int)) (unb 22 511) rfl rfl hT (anyM hM (by kernel_rfl)) hE rfl (KA rfl) (fun w=>Yg hE rfl un9) (fun a hE=>?_)
        refine KG (i:=9) (v:=.bool (decide (Xx55≥(Xx56.size:Int)))) (unb 22 1023) rfl rfl hT (anyM hM (by kernel_rfl)) hE rfl (KA rfl) (fun w=>Kk hE rfl rfl Ki KBm) (fun a hE=>?_)
        refine KG (i:=10) (v:=.bool (decide (Xx55≥(Xx56.size:Int)))) (unb 22 2047) rfl rfl hT (anyM hM (by kernel_rfl)) hE rfl (KA rfl) (fun w=>KF hE rfl) (fun a hE=>?_)
        have hE:=hE.reb 37 (decide (Xx55≥(Xx56.size:Int))) false hb_57 rfl
        replace hE:=hE.cut (l':=[(0,.pointer x0),(4,.int .i64 Xx17),(37,.bool false)]) (.cons rfl (.cons rfl (.cons rfl Subs.nil)))
        refine KG (i:=11) (v:=.int .i64 Xx17) (unb 22 4095) rfl rfl hT (anyM hM (by kernel_rfl)) hE rfl (Ka rfl hE rfl rfl rfl) (fun w=>KF hE rfl) (fun a hE=>?_)
        refine KG (i:=12) (v:=.bool (decide (Xx17<0))) (unb 22 8191) rfl rfl hT (anyM hM (by kernel_rfl)) hE rfl (Ka rfl hE rfl rfl rfl) (fun w=>Kk hE rfl rfl Ki NU) (fun a hE=>?_)
        refine KG (i:=13) (v:=.bool (decide (Xx17<0))) (unb 22 16383) rfl rfl hT (anyM hM (by kernel_rfl)) hE rfl (KA rfl) (fun w=>Z3 hE rfl rfl) (fun a hE=>?_)
        refine KG (i:=14) (v:=.bool (decide (Xx17<0))) (unb 22 32767) rfl rfl hT (anyM hM (by kernel_rfl)) hE rfl (KA rfl) (fun w=>KF hE rfl) (fun a hE=>?_)
        have hE:=hE.reb 41 (decide (Xx17<0)) false hb_58 rfl
        replace hE:=hE.cut (l':=[(0,.pointer x0),(4,.int .i64 Xx17),(41,.bool false)]) (.cons rfl (.cons rfl (.cons rfl Subs.nil)))
        refine KG (i:=15) (v:=.int .i64 Xx17) (unb 22 65535) rfl rfl hT (anyM hM (by kernel_rfl)) hE rfl (Ka rfl hE rfl rfl rfl) (fun w=>KF hE rfl) (fun a hE=>?_)
        refine KG (i:=16) (v:=.bool (decide (Xx17>1))) (unb 22 131071) rfl rfl hT (anyM hM (by kernel_rfl)) hE rfl (Ka rfl hE rfl rfl rfl) (fun w=>Kk hE rfl rfl Ki qv) (fun a hE=>?_)
        refine KG (i:=17) (v:=.bool (decide (Xx17>1))) (unb 22 262143) rfl rfl hT (anyM hM (by kernel_rfl)) hE rfl (Ka rfl hE rfl rfl rfl) (fun w=>KF hE rfl) (fun a hE=>?_)
        have hE:=hE.reb 44 (decide (Xx17>1)) false hb_59 rfl
        replace hE:=hE.cut (l':=[(0,.pointer x0),(4,.int .i64 Xx17),(41,.bool false),(44,.bool false)]) (.cons rfl (.cons rfl (.cons rfl (.cons rfl Subs.nil))))
        refine KEU (i:=18) (unb 22 524287) rfl rfl hT (anyM hM (by kernel_rfl)) (Uk rfl hE rfl rfl rfl) (fun a ea=>?_)
        have hE:=Env.put_some hE rfl ea;clear ea
        refine KEU (i:=19) (unb 22 1048575) rfl rfl hT (anyM hM (by kernel_rfl)) (Uk rfl hE rfl rfl rfl) (fun a ea=>?_)
        have hE:=Env.put_some hE rfl ea;clear ea
        refine KG (i:=20) (v:=.bool false) (unb 22 2097151) rfl rfl hT (anyM hM (by kernel_rfl)) hE rfl (Ka rfl hE rfl rfl rfl) (fun w=>Z3 hE rfl rfl) (fun a hE=>?_)
        refine KG (i:=21) (v:=.bool false) (unb 22 4194303) rfl rfl hT (anyM hM (by kernel_rfl)) hE rfl (KA rfl) (fun w=>Z3 hE rfl rfl) (fun a hE=>?_)
        refine VD hT (KA0 hM (by kernel_rfl)) ?_
        exact⟨false,hE.cut (.cons rfl (.cons rfl (.cons rfl Subs.nil))),hR,H⟩
end Gx
