/- Printed by program: Go functions as Lean programs, each tied to its code. No condition. -/
import Derived.Test.YtpibdohdkfkcnaaGreatDoorP0
import Derived.Test.YtpibdohdkfkcnaaGreatDoorP1
import Derived.Test.YtpibdohdkfkcnaaGreatDoorP2
import Derived.Test.YtpibdohdkfkcnaaGreatDoorP3
import Derived.Test.YtpibdohdkfkcnaaGreatDoorP4
import Derived.Test.YtpibdohdkfkcnaaGreatDoorP5
set_option linter.unusedVariables false
set_option linter.unusedSimpArgs false
set_option maxRecDepth 100000
namespace Gx
open Go
def Jq (self1:(Sl)→M (Value⊕(ByteArray))) (Cc24:Sl) (Xx22:Int):M (Value⊕(ByteArray)):=do
 let Xx25←bdL ZJ 1 #[.int .u8 Xx22]
 let Xx26←apL ZJ 1 1 (#[.int .u8 0]:Array Value) Cc24 Xx25
 self1 Xx26
def UR (self1:(Sl)→M (Value⊕(ByteArray))) (Cc14:Option Addr) (Cc15:Sl) (Cc16:Int):M (Value⊕(ByteArray)):=do
 let Xx18←nilP Cc14
 let Xx19←ldI .i64 ((Xx18).add 1)
 let Xx20←nilP Cc14
 stV ((Xx20).add 1) (.int .i64 (IntKind.wrap .i64 (Xx19+1)))
 M.ite (Cc16==92) (do
  thr (UG Cc14) fun Xx28=>do
   Jq self1 Cc15 Xx28
  ) (do
  Jq self1 Cc15 Cc16
  )
def VQ (Cc7:Option Addr) (self1:(Sl)→M (Value⊕(ByteArray))):(Sl)→M (Value⊕(ByteArray)):=fun s=>match s with
 |Xx6=>do
  let Xx11←Ku Cc7
  M.ite (Xx11 !=39) (do
   let Xx13←Ku Cc7
   let Xx30←M.ite (decide (Xx13<32)) (do
    M.pure true
    ) (do
    M.pure (decide (Xx13>126))
    )
   M.ite Xx30 (do
    thr (ZE Cc7) fun Xx31=>do
     UR self1 Cc7 Xx6 Xx13
    ) (do
    UR self1 Cc7 Xx6 Xx13
    )
   ) (do
   let Xx33←nilP Cc7
   let Xx34←ldI .i64 ((Xx33).add 1)
   let Xx35←nilP Cc7
   stV ((Xx35).add 1) (.int .i64 (IntKind.wrap .i64 (Xx34+1)))
   let Xx38←b2s Xx6
   M.pure (.inr Xx38)
   )
def VZ (x0:Option Addr):M (Value⊕(ByteArray)):=do
 thr (ZO x0 (⟨#[39]⟩:ByteArray)) fun Xx5=>do
  M.loop (VQ x0) Sl.nil
theorem KAl (x0:Option Addr):J3 Go.Proofs.Tryz.prog 243 #[.pointer x0] (fun(r:ByteArray)=>.string r) (VZ x0):=by
 refine Zj [(0,.pointer x0)] Go.Proofs.Tryz.func243 rfl rfl (Nat.le_of_ble_eq_true rfl) (Z8 ⟨rfl,trivial⟩) (fun w0 w Q R X a hret hthr hE hR H=>?_)
 unfold VZ at H
 refine KR (fun K hK_1=>?_)
 refine KC ?_
 refine KB (v:=.string ByteArray.empty) rfl rfl hE rfl (KQ hE rfl) (fun a hE=>?_)
 refine KN ?_
 refine hK_1 _ _ ?_
 refine KR (fun K hK_2=>?_)
 refine KC ?_
 refine KB (v:=(Sl.nil:Sl).v) rfl rfl hE rfl (KQ hE rfl) (fun a hE=>?_)
 refine KN ?_
 refine hK_2 _ _ ?_
 refine KR (fun K hK_3=>?_)
 refine KR (fun K hK_4=>?_)
 refine KC ?_
 refine KB (v:=.pointer x0) rfl rfl hE rfl (KF hE rfl) (fun a hE=>?_)
 refine KZ hE hR Zl rfl (Zx x0 (⟨#[39]⟩:ByteArray)) H (fun _ _ hR HQ=>hthr _ _ hR HQ) (fun Xx5 a w ea hR H=>?_)
 have hE:=Env.put_some hE rfl ea;clear ea
 refine KN ?_
 refine hK_4 _ _ ?_
 refine J6 ?_
 refine zq (fun(s:Sl)=>(⟨44,[]⟩:Frm)) (fun(s:Sl)=>[(0,.pointer x0),(3,(s:Sl).v)]) H (hE.cut (.cons rfl (.cons rfl Subs.nil))) hR (fun Y self1 hY_8 Xx6 a w hE hR H=>?_)
 replace hE:Env (⟨44,[]⟩:Frm) a [(0,.pointer x0),(3,(Xx6:Sl).v)]:=hE
 replace H:(VQ x0 self1 Xx6).wp w.heap Q:=H
 unfold VQ at H
 refine KR (fun K hK_9=>?_)
 refine KR (fun K hK_10=>?_)
 refine KC ?_
 refine KB (v:=.pointer x0) rfl rfl hE rfl (KF hE rfl) (fun a hE=>?_)
 refine Zd hE hR Kv rfl (ZF x0) (M.unbind H) (fun Xx11 a w ea hR H=>?_)
 have hE:=Env.put_some hE rfl ea;clear ea
 refine KB (v:=.bool (Xx11 !=39)) rfl rfl hE rfl (Kk hE rfl rfl Ki KDZ) (fun a hE=>?_)
 refine KN ?_
 refine hK_10 _ _ ?_
 refine ZA (Xx11 !=39) hE rfl (fun hb=>?_) (fun hb=>?_)
 ·replace H:=M.ite_t hb H
  refine Zq ?_
  refine hK_9 _ _ ?_
  refine J6 ?_
  refine KR (fun K hK_12=>?_)
  refine KC ?_
  refine KB (v:=.pointer x0) rfl rfl hE rfl (KF hE rfl) (fun a hE=>?_)
  refine Zd hE hR Kv rfl (ZF x0) (M.unbind H) (fun Xx13 a w ea hR H=>?_)
  have hE:=Env.put_some hE rfl ea;clear ea
  refine KB (v:=.int .u8 Xx13) rfl rfl hE rfl (KQ hE rfl) (fun a hE=>?_)
  refine KN ?_
  refine hK_12 _ _ ?_
  refine Kz (fun a w=>Env (⟨44,[]⟩:Frm) a [(0,.pointer x0),(3,(Xx6:Sl).v),(4,.int .u8 Xx13)]∧Rest w0 w∧(UR self1 x0 Xx6 Xx13).wp w.heap Q) ?_ ?_
  ·rintro a w ⟨hE,hR,H⟩
   unfold UR at H
   refine KR (fun K hK_17=>?_)
   refine KC ?_
   refine KB (v:=.pointer x0) rfl rfl hE rfl (KF hE rfl) (fun a hE=>?_)
   obtain⟨Xx18,qXx18,H⟩:=H
   refine KB (v:=.pointer (some Xx18)) rfl rfl hE rfl (KO hE (Zu rfl (congrArg Value.pointer qXx18))) (fun a hE=>?_)
   refine KB (v:=.pointer (some ((Xx18).add 1))) rfl rfl hE rfl (KD hE rfl Zn) (fun a hE=>?_)
   obtain⟨Xx19,qXx19,H⟩:=H
   refine KB (v:=.int .i64 Xx19) rfl rfl hE rfl (KS hE rfl sc3 qXx19) (fun a hE=>?_)
   refine KB (v:=.int .i64 (IntKind.wrap .i64 (Xx19+1))) rfl rfl hE rfl (Kk hE rfl rfl Ki Vp) (fun a hE=>?_)
   obtain⟨Xx20,qXx20,H⟩:=H
   refine KB (v:=.pointer (some Xx20)) rfl rfl hE rfl (KO hE (Zu rfl (congrArg Value.pointer qXx20))) (fun a hE=>?_)
   refine KB (v:=.pointer (some ((Xx20).add 1))) rfl rfl hE rfl (KD hE rfl Zn) (fun a hE=>?_)
   obtain⟨u_21,qu_21,H⟩:=H
   refine JA rfl rfl hE hR (ZB hE rfl rfl sz3 qu_21) (fun a w hE hR hh=>?_)
   replace H:=M.at hh H;clear hh
   refine KN ?_
   refine hK_17 _ _ ?_
   refine Kz (fun a w=>∃(Xx22:Int),Env (⟨44,[]⟩:Frm) a [(0,.pointer x0),(3,(Xx6:Sl).v),(4,.int .u8 Xx22)]∧Rest w0 w∧(Jq self1 Xx6 Xx22).wp w.heap Q) ?_ ?_
   ·rintro a w ⟨Xx22,hE,hR,H⟩
    unfold Jq at H
    refine KC ?_
    refine KB (v:=(Xx6:Sl).v) rfl rfl hE rfl (KF hE rfl) (fun a hE=>?_)
    refine KB (v:=.int .u8 Xx22) rfl rfl hE rfl (KF hE rfl) (fun a hE=>?_)
    obtain⟨Xx25,qXx25,H⟩:=H
    refine JM (v:=(Xx25:Sl).v) rfl rfl hE rfl hR (J4 (cells:=#[.int .u8 Xx22]) hE rfl un44 sz5 zr5 rfl rfl qXx25) (fun a w hE hR hh=>?_)
    replace H:=M.at hh H;clear hh
    refine t_ex (fun Xx26=>(Xx26:Sl).v) rfl rfl hR (M.unbind H) (fun Q H=>GA hE rfl rfl ap44 H) (fun Xx26 a w ea hR H=>?_)
    have hE:=Env.put_some hE rfl ea;clear ea
    refine KB (v:=(Xx26:Sl).v) rfl rfl hE rfl (KQ hE rfl) (fun a hE=>?_)
    refine KN ?_
    exact hY_8 Xx26 _ _ (hE.cut (.cons rfl (.cons rfl Subs.nil))) hR H
   ·skip
    refine KR (fun K hK_27=>?_)
    refine KC ?_
    refine KB (v:=.int .u8 Xx13) rfl rfl hE rfl (KF hE rfl) (fun a hE=>?_)
    refine KB (v:=.bool (Xx13==92)) rfl rfl hE rfl (Kk hE rfl rfl Ki W9) (fun a hE=>?_)
    refine KN ?_
    refine hK_27 _ _ ?_
    refine ZA (Xx13==92) hE rfl (fun hb=>?_) (fun hb=>?_)
    ·replace H:=M.ite_t hb H
     refine KC ?_
     refine KB (v:=.pointer x0) rfl rfl hE rfl (KF hE rfl) (fun a hE=>?_)
     refine KZ hE hR G9 rfl (Na x0) H (fun _ _ hR HQ=>Xu.ne rfl (Xu.ne rfl (hthr _ _ hR HQ))) (fun Xx28 a w ea hR H=>?_)
     have hE:=Env.put_some hE rfl ea;clear ea
     refine KB (v:=.int .u8 Xx28) rfl rfl hE rfl (KQ hE rfl) (fun a hE=>?_)
     refine KN ?_
     exact⟨Xx28,hE.cut (.cons rfl (.cons rfl (.cons rfl Subs.nil))),hR,H⟩
    ·replace H:=M.ite_f hb H
     refine Zq ?_
     exact⟨Xx13,hE.cut (.cons rfl (.cons rfl (.cons rfl Subs.nil))),hR,H⟩
  ·skip
   refine KR (fun K hK_29=>?_)
   refine KC ?_
   refine KB (v:=.int .u8 Xx13) rfl rfl hE rfl (KF hE rfl) (fun a hE=>?_)
   refine KB (v:=.bool (decide (Xx13<32))) rfl rfl hE rfl (Kk hE rfl rfl Ki NU) (fun a hE=>?_)
   refine KB (v:=.bool (decide (Xx13<32))) rfl rfl hE rfl (KF hE rfl) (fun a hE=>?_)
   refine KAz (n:=(⟨44,[]⟩:Frm)) (w0:=w0) 3 (fun Xx30:Bool=>[(0,.pointer x0),(3,(Xx6:Sl).v),(4,.int .u8 Xx13),(17,.bool Xx30)]) (M.unbind H) (fun Kr hKr H=>?_) ?_
   ·rcases Uj (decide (Xx13<32))with hb|hb
    ·replace H:=M.ite_t hb H
     have hE:=hE.reb 14 (decide (Xx13<32)) true hb rfl
     refine Uw rfl hE rfl rfl rfl (fun a ea=>?_)
     have hE:=Env.put_some hE rfl ea;clear ea
     refine Uw rfl hE rfl rfl rfl (fun a ea=>?_)
     have hE:=Env.put_some hE rfl ea;clear ea
     refine KB rfl rfl hE rfl (Jj hE rfl rfl) (fun a hE=>?_)
     refine KN ?_
     exact hKr _ _ _ (hE.cut (.cons rfl (.cons rfl (.cons rfl (.cons rfl Subs.nil))))) hR H
    ·replace H:=M.ite_f hb H
     have hE:=hE.reb 14 (decide (Xx13<32)) false hb rfl
     refine t_on rfl hE rfl rfl rfl ?_
     refine KB (v:=.int .u8 Xx13) rfl rfl hE rfl (KF hE rfl) (fun a hE=>?_)
     refine t_on rfl hE rfl rfl rfl ?_
     refine KB (v:=.bool (decide (Xx13>126))) rfl rfl hE rfl (Kk hE rfl rfl Ki qv) (fun a hE=>?_)
     refine KB rfl rfl hE rfl (Z3 hE rfl rfl) (fun a hE=>?_)
     refine KN ?_
     exact hKr _ _ _ (hE.cut (.cons rfl (.cons rfl (.cons rfl (.cons rfl Subs.nil))))) hR H
   ·intro Xx30 a w hE hR H
    refine KN ?_
    refine hK_29 _ _ ?_
    refine ZA Xx30 hE rfl (fun hb=>?_) (fun hb=>?_)
    ·replace H:=M.ite_t hb H
     refine KC ?_
     refine KB (v:=.pointer x0) rfl rfl hE rfl (KF hE rfl) (fun a hE=>?_)
     refine KZ hE hR ZK rfl (ZS x0) H (fun _ _ hR HQ=>Xu.ne rfl (Xu.ne rfl (hthr _ _ hR HQ))) (fun Xx31 a w ea hR H=>?_)
     have hE:=Env.put_some hE rfl ea;clear ea
     refine KN ?_
     exact⟨hE.cut (.cons rfl (.cons rfl (.cons rfl Subs.nil))),hR,H⟩
    ·replace H:=M.ite_f hb H
     refine Zq ?_
     exact⟨hE.cut (.cons rfl (.cons rfl (.cons rfl Subs.nil))),hR,H⟩
 ·replace H:=M.ite_f hb H
  refine qh ?_
  refine Xu.same ?_
  refine hK_3 _ _ ?_
  refine KR (fun K hK_32=>?_)
  refine KC ?_
  refine KB (v:=.pointer x0) rfl rfl hE rfl (KF hE rfl) (fun a hE=>?_)
  obtain⟨Xx33,qXx33,H⟩:=H
  refine KB (v:=.pointer (some Xx33)) rfl rfl hE rfl (KO hE (Zu rfl (congrArg Value.pointer qXx33))) (fun a hE=>?_)
  refine KB (v:=.pointer (some ((Xx33).add 1))) rfl rfl hE rfl (KD hE rfl Zn) (fun a hE=>?_)
  obtain⟨Xx34,qXx34,H⟩:=H
  refine KB (v:=.int .i64 Xx34) rfl rfl hE rfl (KS hE rfl sc3 qXx34) (fun a hE=>?_)
  refine KB (v:=.int .i64 (IntKind.wrap .i64 (Xx34+1))) rfl rfl hE rfl (Kk hE rfl rfl Ki Vp) (fun a hE=>?_)
  obtain⟨Xx35,qXx35,H⟩:=H
  refine KB (v:=.pointer (some Xx35)) rfl rfl hE rfl (KO hE (Zu rfl (congrArg Value.pointer qXx35))) (fun a hE=>?_)
  refine KB (v:=.pointer (some ((Xx35).add 1))) rfl rfl hE rfl (KD hE rfl Zn) (fun a hE=>?_)
  obtain⟨u_36,qu_36,H⟩:=H
  refine JA rfl rfl hE hR (ZB hE rfl rfl sz3 qu_36) (fun a w hE hR hh=>?_)
  replace H:=M.at hh H;clear hh
  refine KN ?_
  refine hK_32 _ _ ?_
  refine KR (fun K hK_37=>?_)
  refine KC ?_
  refine KB (v:=(Xx6:Sl).v) rfl rfl hE rfl (KF hE rfl) (fun a hE=>?_)
  obtain⟨Xx38,qXx38,H⟩:=H
  refine KB (v:=.string Xx38) rfl rfl hE rfl (KKH hE rfl un44 un9 un5 qXx38) (fun a hE=>?_)
  refine KB (v:=.string Xx38) rfl rfl hE rfl (KQ hE rfl) (fun a hE=>?_)
  refine KN ?_
  refine hK_37 _ _ ?_
  refine Uv ?_
  exact hret _ _ _ Xx38 _ hE hR (Kn hE rfl (RV.tmp rfl RV.nil)) rfl H
def Je (x0:Option Addr) (x1:Int):M (Value⊕(Array Value)):=do
 let Xx2←mkB KH (#[.int .i64 0,.int .i64 0,.string ByteArray.empty,.slice none 0 0]:Array Value)
 let Xx4←nilP x0
 let Xx5←ldI .i64 ((Xx4).add 1)
 let Xx6←nilP x0
 stV ((Xx6).add 1) (.int .i64 (IntKind.wrap .i64 (Xx5+1)))
 thr (ZO x0 (⟨#[91]⟩:ByteArray)) fun Xx9=>do
  thr (Jp x0) fun Xx11=>do
   let Xx12←mkB KH (#[.int .i64 0,.int .i64 0,.string ByteArray.empty,.slice none 0 0]:Array Value)
   M.need ((#[.int .i64 x1,.int .i64 Xx11,.string ByteArray.empty,.slice none 0 0]:Array Value).size=4)
   stG Xx12 (#[.int .i64 x1,.int .i64 Xx11,.string ByteArray.empty,.slice none 0 0]:Array Value)
   thr (ZO x0 (⟨#[93]⟩:ByteArray)) fun Xx15=>do
    let Xx17←ldG 4 Xx12
    M.need (Xx17.size=4)
    stG Xx2 Xx17
    let Rr19←ldG 4 Xx2
    M.pure (.inr Rr19)
theorem YG (x0:Option Addr) (x1:Int):J3 Go.Proofs.Tryz.prog 245 #[.pointer x0,.int .i64 x1] (fun(r:Array Value)=>.agg r) (Je x0 x1):=by
 refine Zj [(0,.pointer x0),(1,.int .i64 x1)] Go.Proofs.Tryz.func245 rfl rfl (Nat.le_of_ble_eq_true rfl) (Z8 ⟨rfl,rfl,trivial⟩) (fun w0 w Q R X a hret hthr hE hR H=>?_)
 unfold Je at H
 refine KR (fun K hK_1=>?_)
 refine KC ?_
 obtain⟨Xx2,qXx2,H⟩:=H
 refine JM (v:=.pointer (some Xx2)) rfl rfl hE rfl hR (Z0 zr54 qXx2) (fun a w hE hR hh=>?_)
 replace H:=M.at hh H;clear hh
 refine KN ?_
 refine hK_1 _ _ ?_
 refine KR (fun K hK_3=>?_)
 refine KC ?_
 refine KB (v:=.pointer x0) rfl rfl hE rfl (KF hE rfl) (fun a hE=>?_)
 obtain⟨Xx4,qXx4,H⟩:=H
 refine KB (v:=.pointer (some Xx4)) rfl rfl hE rfl (KO hE (Zu rfl (congrArg Value.pointer qXx4))) (fun a hE=>?_)
 refine KB (v:=.pointer (some ((Xx4).add 1))) rfl rfl hE rfl (KD hE rfl Zn) (fun a hE=>?_)
 obtain⟨Xx5,qXx5,H⟩:=H
 refine KB (v:=.int .i64 Xx5) rfl rfl hE rfl (KS hE rfl sc3 qXx5) (fun a hE=>?_)
 refine KB (v:=.int .i64 (IntKind.wrap .i64 (Xx5+1))) rfl rfl hE rfl (Kk hE rfl rfl Ki Vp) (fun a hE=>?_)
 obtain⟨Xx6,qXx6,H⟩:=H
 refine KB (v:=.pointer (some Xx6)) rfl rfl hE rfl (KO hE (Zu rfl (congrArg Value.pointer qXx6))) (fun a hE=>?_)
 refine KB (v:=.pointer (some ((Xx6).add 1))) rfl rfl hE rfl (KD hE rfl Zn) (fun a hE=>?_)
 obtain⟨u_7,qu_7,H⟩:=H
 refine JA rfl rfl hE hR (ZB hE rfl rfl sz3 qu_7) (fun a w hE hR hh=>?_)
 replace H:=M.at hh H;clear hh
 refine KN ?_
 refine hK_3 _ _ ?_
 refine KR (fun K hK_8=>?_)
 refine KC ?_
 refine KB (v:=.pointer x0) rfl rfl hE rfl (KF hE rfl) (fun a hE=>?_)
 refine KZ hE hR Zl rfl (Zx x0 (⟨#[91]⟩:ByteArray)) H (fun _ _ hR HQ=>hthr _ _ hR HQ) (fun Xx9 a w ea hR H=>?_)
 have hE:=Env.put_some hE rfl ea;clear ea
 refine KN ?_
 refine hK_8 _ _ ?_
 refine KR (fun K hK_10=>?_)
 refine KC ?_
 refine KB (v:=.int .i64 x1) rfl rfl hE rfl (KF hE rfl) (fun a hE=>?_)
 refine KB (v:=.pointer x0) rfl rfl hE rfl (KF hE rfl) (fun a hE=>?_)
 refine KZ hE hR YF rfl (Yr x0) H (fun _ _ hR HQ=>hthr _ _ hR HQ) (fun Xx11 a w ea hR H=>?_)
 have hE:=Env.put_some hE rfl ea;clear ea
 refine KB (v:=.agg (#[.int .i64 x1,.int .i64 Xx11,.string ByteArray.empty,.slice none 0 0]:Array Value)) rfl rfl hE rfl (Vs hE rfl zr54 pl54 (by rfl)) (fun a hE=>?_)
 obtain⟨Xx12,qXx12,H⟩:=H
 refine JM (v:=.pointer (some Xx12)) rfl rfl hE rfl hR (Z0 zr54 qXx12) (fun a w hE hR hh=>?_)
 replace H:=M.at hh H;clear hh
 obtain⟨qz,H⟩:=H
 obtain⟨u_13,qu_13,H⟩:=H
 refine JA rfl rfl hE hR (Kh hE rfl rfl sz54 qz qu_13) (fun a w hE hR hh=>?_)
 replace H:=M.at hh H;clear hh
 refine KN ?_
 refine hK_10 _ _ ?_
 refine KR (fun K hK_14=>?_)
 refine KC ?_
 refine KB (v:=.pointer x0) rfl rfl hE rfl (KF hE rfl) (fun a hE=>?_)
 refine KZ hE hR Zl rfl (Zx x0 (⟨#[93]⟩:ByteArray)) H (fun _ _ hR HQ=>hthr _ _ hR HQ) (fun Xx15 a w ea hR H=>?_)
 have hE:=Env.put_some hE rfl ea;clear ea
 refine KN ?_
 refine hK_14 _ _ ?_
 refine KR (fun K hK_16=>?_)
 refine KC ?_
 obtain⟨Xx17,qXx17,H⟩:=H
 refine KB (v:=.agg Xx17) rfl rfl hE rfl (Ui hE rfl ag54 qXx17) (fun a hE=>?_)
 obtain⟨qz,H⟩:=H
 obtain⟨u_18,qu_18,H⟩:=H
 refine JA rfl rfl hE hR (Kh hE rfl rfl sz54 qz qu_18) (fun a w hE hR hh=>?_)
 replace H:=M.at hh H;clear hh
 refine KN ?_
 refine hK_16 _ _ ?_
 refine Uv ?_
 obtain⟨Rr19,qRr19,H⟩:=H
 exact hret _ _ _ Rr19 _ hE hR (Kn hE rfl (RV.cellG rfl ag54 qRr19 RV.nil)) rfl H
def J0 (Cc3:Option Addr) (Cc4:Int) (Cc5:Addr):M (Value⊕(Array Value)):=do
 let Xx7←Ku Cc3
 let Xx10←M.ite (Xx7==45) (do
  M.pure true
  ) (do
  let Xx11←YU Xx7
  M.pure Xx11
  )
 M.ite Xx10 (do
  thr (Jp Cc3) fun Xx13=>do
   let Xx14←KAS Xx13
   M.need (Xx14.size=4)
   stG Cc5 Xx14
   let Rr16←ldG 4 Cc5
   M.pure (.inr Rr16)
  ) (do
  M.ite (Xx7==39) (do
   thr (VZ Cc3) fun Xx19=>do
    let Xx20←KAT Xx19
    M.need (Xx20.size=4)
    stG Cc5 Xx20
    let Rr22←ldG 4 Cc5
    M.pure (.inr Rr22)
   ) (do
   M.ite (Xx7==116) (do
    thr (ZO Cc3 (⟨#[116,114,117,101]⟩:ByteArray)) fun Xx25=>do
     let Xx27←Xa true
     M.need (Xx27.size=4)
     stG Cc5 Xx27
     let Rr29←ldG 4 Cc5
     M.pure (.inr Rr29)
    ) (do
    M.ite (Xx7==102) (do
     thr (ZO Cc3 (⟨#[102,97,108,115,101]⟩:ByteArray)) fun Xx32=>do
      let Xx34←Xa false
      M.need (Xx34.size=4)
      stG Cc5 Xx34
      let Rr36←ldG 4 Cc5
      M.pure (.inr Rr36)
     ) (do
     M.ite (Xx7==118) (do
      thr (Je Cc3 6) fun Xx39=>do
       M.need (Xx39.size=4)
       stG Cc5 Xx39
       let Rr41←ldG 4 Cc5
       M.pure (.inr Rr41)
      ) (do
      M.ite (Xx7==101) (do
       thr (Je Cc3 7) fun Xx44=>do
        M.need (Xx44.size=4)
        stG Cc5 Xx44
        let Rr46←ldG 4 Cc5
        M.pure (.inr Rr46)
       ) (do
       M.ite (Xx7==91) (do
        thr (GR Go.Proofs.Tryz.prog XA #[.pointer Cc3,.int .i64 Cc4,.int .u8 93,.int .i64 1] (fun r:Sl=>(r:Sl).v)) fun Xx49=>do
         M.need ((#[.int .i64 4,.int .i64 0,.string ByteArray.empty,(Xx49:Sl).v]:Array Value).size=4)
         stG Cc5 (#[.int .i64 4,.int .i64 0,.string ByteArray.empty,(Xx49:Sl).v]:Array Value)
         let Rr51←ldG 4 Cc5
         M.pure (.inr Rr51)
        ) (do
        M.ite (Xx7==123) (do
         thr (GR Go.Proofs.Tryz.prog XA #[.pointer Cc3,.int .i64 Cc4,.int .u8 125,.int .i64 2] (fun r:Sl=>(r:Sl).v)) fun Xx54=>do
          M.need ((#[.int .i64 5,.int .i64 0,.string ByteArray.empty,(Xx54:Sl).v]:Array Value).size=4)
          stG Cc5 (#[.int .i64 5,.int .i64 0,.string ByteArray.empty,(Xx54:Sl).v]:Array Value)
          let Rr56←ldG 4 Cc5
          M.pure (.inr Rr56)
         ) (do
         thr (ZE Cc3) fun Xx58=>do
          M.need ((#[.int .i64 0,.int .i64 0,.string ByteArray.empty,.slice none 0 0]:Array Value).size=4)
          stG Cc5 (#[.int .i64 0,.int .i64 0,.string ByteArray.empty,.slice none 0 0]:Array Value)
          let Rr61←ldG 4 Cc5
          M.pure (.inr Rr61)
         )
        )
       )
      )
     )
    )
   )
  )
def J5 (x0:Option Addr) (x1:Int):M (Value⊕(Array Value)):=do
 let Xx2←mkB KH (#[.int .i64 0,.int .i64 0,.string ByteArray.empty,.slice none 0 0]:Array Value)
 M.ite (decide (x1>8)) (do
  thr (ZE x0) fun Xx63=>do
   J0 x0 x1 Xx2
  ) (do
  J0 x0 x1 Xx2
  )
theorem XH (x0:Option Addr) (x1:Int):J3 Go.Proofs.Tryz.prog 227 #[.pointer x0,.int .i64 x1] (fun(r:Array Value)=>.agg r) (J5 x0 x1):=by
 refine Zj [(0,.pointer x0),(1,.int .i64 x1)] Go.Proofs.Tryz.func227 rfl rfl (Nat.le_of_ble_eq_true rfl) (Z8 ⟨rfl,rfl,trivial⟩) (fun w0 w Q R X a hret hthr hE hR H=>?_)
 unfold J5 at H
 refine KR (fun K hK_1=>?_)
 refine KC ?_
 obtain⟨Xx2,qXx2,H⟩:=H
 refine JM (v:=.pointer (some Xx2)) rfl rfl hE rfl hR (Z0 zr54 qXx2) (fun a w hE hR hh=>?_)
 replace H:=M.at hh H;clear hh
 refine KN ?_
 refine hK_1 _ _ ?_
 refine Kz (fun a w=>Env (⟨67,[]⟩:Frm) a [(0,.pointer x0),(1,.int .i64 x1),(4,.pointer (some Xx2))]∧Rest w0 w∧(J0 x0 x1 Xx2).wp w.heap Q) ?_ ?_
 ·rintro a w ⟨hE,hR,H⟩
  unfold J0 at H
  refine KR (fun K hK_6=>?_)
  refine KC ?_
  refine KB (v:=.pointer x0) rfl rfl hE rfl (KF hE rfl) (fun a hE=>?_)
  refine Zd hE hR Kv rfl (ZF x0) (M.unbind H) (fun Xx7 a w ea hR H=>?_)
  have hE:=Env.put_some hE rfl ea;clear ea
  refine KB (v:=.int .u8 Xx7) rfl rfl hE rfl (KQ hE rfl) (fun a hE=>?_)
  refine KN ?_
  refine hK_6 _ _ ?_
  refine KR (fun K hK_8=>?_)
  refine J6 ?_
  refine KR (fun K hK_9=>?_)
  refine KC ?_
  refine KB (v:=.int .u8 Xx7) rfl rfl hE rfl (KF hE rfl) (fun a hE=>?_)
  refine KB (v:=.bool (Xx7==45)) rfl rfl hE rfl (Kk hE rfl rfl Ki W9) (fun a hE=>?_)
  refine KB (v:=.bool (Xx7==45)) rfl rfl hE rfl (KF hE rfl) (fun a hE=>?_)
  refine KAz (n:=(⟨67,[]⟩:Frm)) (w0:=w0) 3 (fun Xx10:Bool=>[(0,.pointer x0),(1,.int .i64 x1),(4,.pointer (some Xx2)),(5,.int .u8 Xx7),(18,.bool Xx10)]) (M.unbind H) (fun Kr hKr H=>?_) ?_
  ·rcases Uj (Xx7==45)with hb|hb
   ·replace H:=M.ite_t hb H
    have hE:=hE.reb 15 (Xx7==45) true hb rfl
    refine Uw rfl hE rfl rfl rfl (fun a ea=>?_)
    have hE:=Env.put_some hE rfl ea;clear ea
    refine Uw rfl hE rfl rfl rfl (fun a ea=>?_)
    have hE:=Env.put_some hE rfl ea;clear ea
    refine KB rfl rfl hE rfl (Jj hE rfl rfl) (fun a hE=>?_)
    refine KN ?_
    exact hKr _ _ _ (hE.cut (.cons rfl (.cons rfl (.cons rfl (.cons rfl (.cons rfl Subs.nil)))))) hR H
   ·replace H:=M.ite_f hb H
    have hE:=hE.reb 15 (Xx7==45) false hb rfl
    refine t_on rfl hE rfl rfl rfl ?_
    refine KB (v:=.int .u8 Xx7) rfl rfl hE rfl (KF hE rfl) (fun a hE=>?_)
    refine t_on rfl hE rfl rfl rfl ?_
    refine Zd hE hR GJ rfl (NH Xx7) (M.unbind H) (fun Xx11 a w ea hR H=>?_)
    have hE:=Env.put_some hE rfl ea;clear ea
    refine KB rfl rfl hE rfl (Z3 hE rfl rfl) (fun a hE=>?_)
    refine KN ?_
    exact hKr _ _ _ (hE.cut (.cons rfl (.cons rfl (.cons rfl (.cons rfl (.cons rfl Subs.nil)))))) hR H
  ·intro Xx10 a w hE hR H
   refine KB (v:=.bool Xx10) rfl rfl hE rfl (KQ hE rfl) (fun a hE=>?_)
   refine KN ?_
   refine hK_9 _ _ ?_
   refine ZA Xx10 hE rfl (fun hb=>?_) (fun hb=>?_)
   ·replace H:=M.ite_t hb H
    refine KR (fun K hK_12=>?_)
    refine KC ?_
    refine KB (v:=.pointer x0) rfl rfl hE rfl (KF hE rfl) (fun a hE=>?_)
    refine KZ hE hR YF rfl (Yr x0) H (fun _ _ hR HQ=>Xu.ne rfl (hthr _ _ hR HQ)) (fun Xx13 a w ea hR H=>?_)
    have hE:=Env.put_some hE rfl ea;clear ea
    refine Zd hE hR KBd rfl (KCk Xx13) (M.unbind H) (fun Xx14 a w ea hR H=>?_)
    have hE:=Env.put_some hE rfl ea;clear ea
    obtain⟨qz,H⟩:=H
    obtain⟨u_15,qu_15,H⟩:=H
    refine JA rfl rfl hE hR (Kh hE rfl rfl sz54 qz qu_15) (fun a w hE hR hh=>?_)
    replace H:=M.at hh H;clear hh
    refine KN ?_
    refine hK_12 _ _ ?_
    refine Uv ?_
    obtain⟨Rr16,qRr16,H⟩:=H
    exact hret _ _ _ Rr16 _ hE hR (Kn hE rfl (RV.cellG rfl ag54 qRr16 RV.nil)) rfl H
   ·replace H:=M.ite_f hb H
    refine KR (fun K hK_17=>?_)
    refine KC ?_
    refine KB (v:=.int .u8 Xx7) rfl rfl hE rfl (KF hE rfl) (fun a hE=>?_)
    refine KB (v:=.bool (Xx7==39)) rfl rfl hE rfl (Kk hE rfl rfl Ki W9) (fun a hE=>?_)
    refine KB (v:=.bool (Xx7==39)) rfl rfl hE rfl (KQ hE rfl) (fun a hE=>?_)
    refine KN ?_
    refine hK_17 _ _ ?_
    refine ZA (Xx7==39) hE rfl (fun hb=>?_) (fun hb=>?_)
    ·replace H:=M.ite_t hb H
     refine KR (fun K hK_18=>?_)
     refine KC ?_
     refine KB (v:=.pointer x0) rfl rfl hE rfl (KF hE rfl) (fun a hE=>?_)
     refine KZ hE hR zQ rfl (KAl x0) H (fun _ _ hR HQ=>Xu.ne rfl (hthr _ _ hR HQ)) (fun Xx19 a w ea hR H=>?_)
     have hE:=Env.put_some hE rfl ea;clear ea
     refine Zd hE hR KBe rfl (KCl Xx19) (M.unbind H) (fun Xx20 a w ea hR H=>?_)
     have hE:=Env.put_some hE rfl ea;clear ea
     obtain⟨qz,H⟩:=H
     obtain⟨u_21,qu_21,H⟩:=H
     refine JA rfl rfl hE hR (Kh hE rfl rfl sz54 qz qu_21) (fun a w hE hR hh=>?_)
     replace H:=M.at hh H;clear hh
     refine KN ?_
     refine hK_18 _ _ ?_
     refine Uv ?_
     obtain⟨Rr22,qRr22,H⟩:=H
     exact hret _ _ _ Rr22 _ hE hR (Kn hE rfl (RV.cellG rfl ag54 qRr22 RV.nil)) rfl H
    ·replace H:=M.ite_f hb H
     refine KR (fun K hK_23=>?_)
     refine KC ?_
     refine KB (v:=.int .u8 Xx7) rfl rfl hE rfl (KF hE rfl) (fun a hE=>?_)
     refine KB (v:=.bool (Xx7==116)) rfl rfl hE rfl (Kk hE rfl rfl Ki W9) (fun a hE=>?_)
     refine KB (v:=.bool (Xx7==116)) rfl rfl hE rfl (KQ hE rfl) (fun a hE=>?_)
     refine KN ?_
     refine hK_23 _ _ ?_
     refine ZA (Xx7==116) hE rfl (fun hb=>?_) (fun hb=>?_)
     ·replace H:=M.ite_t hb H
      refine KR (fun K hK_24=>?_)
      refine KC ?_
      refine KB (v:=.pointer x0) rfl rfl hE rfl (KF hE rfl) (fun a hE=>?_)
      refine KZ hE hR Zl rfl (Zx x0 (⟨#[116,114,117,101]⟩:ByteArray)) H (fun _ _ hR HQ=>Xu.ne rfl (hthr _ _ hR HQ)) (fun Xx25 a w ea hR H=>?_)
      have hE:=Env.put_some hE rfl ea;clear ea
      refine KN ?_
      refine hK_24 _ _ ?_
      refine KR (fun K hK_26=>?_)
      refine KC ?_
      refine Zd hE hR G8 rfl (Nr true) (M.unbind H) (fun Xx27 a w ea hR H=>?_)
      have hE:=Env.put_some hE rfl ea;clear ea
      obtain⟨qz,H⟩:=H
      obtain⟨u_28,qu_28,H⟩:=H
      refine JA rfl rfl hE hR (Kh hE rfl rfl sz54 qz qu_28) (fun a w hE hR hh=>?_)
      replace H:=M.at hh H;clear hh
      refine KN ?_
      refine hK_26 _ _ ?_
      refine Uv ?_
      obtain⟨Rr29,qRr29,H⟩:=H
      exact hret _ _ _ Rr29 _ hE hR (Kn hE rfl (RV.cellG rfl ag54 qRr29 RV.nil)) rfl H
     ·replace H:=M.ite_f hb H
      refine KR (fun K hK_30=>?_)
      refine KC ?_
      refine KB (v:=.int .u8 Xx7) rfl rfl hE rfl (KF hE rfl) (fun a hE=>?_)
      refine KB (v:=.bool (Xx7==102)) rfl rfl hE rfl (Kk hE rfl rfl Ki W9) (fun a hE=>?_)
      refine KB (v:=.bool (Xx7==102)) rfl rfl hE rfl (KQ hE rfl) (fun a hE=>?_)
      refine KN ?_
      refine hK_30 _ _ ?_
      refine ZA (Xx7==102) hE rfl (fun hb=>?_) (fun hb=>?_)
      ·replace H:=M.ite_t hb H
       refine KR (fun K hK_31=>?_)
       refine KC ?_
       refine KB (v:=.pointer x0) rfl rfl hE rfl (KF hE rfl) (fun a hE=>?_)
       refine KZ hE hR Zl rfl (Zx x0 (⟨#[102,97,108,115,101]⟩:ByteArray)) H (fun _ _ hR HQ=>Xu.ne rfl (hthr _ _ hR HQ)) (fun Xx32 a w ea hR H=>?_)
       have hE:=Env.put_some hE rfl ea;clear ea
       refine KN ?_
       refine hK_31 _ _ ?_
       refine KR (fun K hK_33=>?_)
       refine KC ?_
       refine Zd hE hR G8 rfl (Nr false) (M.unbind H) (fun Xx34 a w ea hR H=>?_)
       have hE:=Env.put_some hE rfl ea;clear ea
       obtain⟨qz,H⟩:=H
       obtain⟨u_35,qu_35,H⟩:=H
       refine JA rfl rfl hE hR (Kh hE rfl rfl sz54 qz qu_35) (fun a w hE hR hh=>?_)
       replace H:=M.at hh H;clear hh
       refine KN ?_
       refine hK_33 _ _ ?_
       refine Uv ?_
       obtain⟨Rr36,qRr36,H⟩:=H
       exact hret _ _ _ Rr36 _ hE hR (Kn hE rfl (RV.cellG rfl ag54 qRr36 RV.nil)) rfl H
      ·replace H:=M.ite_f hb H
       refine KR (fun K hK_37=>?_)
       refine KC ?_
       refine KB (v:=.int .u8 Xx7) rfl rfl hE rfl (KF hE rfl) (fun a hE=>?_)
       refine KB (v:=.bool (Xx7==118)) rfl rfl hE rfl (Kk hE rfl rfl Ki W9) (fun a hE=>?_)
       refine KB (v:=.bool (Xx7==118)) rfl rfl hE rfl (KQ hE rfl) (fun a hE=>?_)
       refine KN ?_
       refine hK_37 _ _ ?_
       refine ZA (Xx7==118) hE rfl (fun hb=>?_) (fun hb=>?_)
       ·replace H:=M.ite_t hb H
        refine KR (fun K hK_38=>?_)
        refine KC ?_
        refine KB (v:=.pointer x0) rfl rfl hE rfl (KF hE rfl) (fun a hE=>?_)
        refine KZ hE hR Wt rfl (YG x0 6) H (fun _ _ hR HQ=>Xu.ne rfl (hthr _ _ hR HQ)) (fun Xx39 a w ea hR H=>?_)
        have hE:=Env.put_some hE rfl ea;clear ea
        obtain⟨qz,H⟩:=H
        obtain⟨u_40,qu_40,H⟩:=H
        refine JA rfl rfl hE hR (Kh hE rfl rfl sz54 qz qu_40) (fun a w hE hR hh=>?_)
        replace H:=M.at hh H;clear hh
        refine KN ?_
        refine hK_38 _ _ ?_
        refine Uv ?_
        obtain⟨Rr41,qRr41,H⟩:=H
        exact hret _ _ _ Rr41 _ hE hR (Kn hE rfl (RV.cellG rfl ag54 qRr41 RV.nil)) rfl H
       ·replace H:=M.ite_f hb H
        refine KR (fun K hK_42=>?_)
        refine KC ?_
        refine KB (v:=.int .u8 Xx7) rfl rfl hE rfl (KF hE rfl) (fun a hE=>?_)
        refine KB (v:=.bool (Xx7==101)) rfl rfl hE rfl (Kk hE rfl rfl Ki W9) (fun a hE=>?_)
        refine KB (v:=.bool (Xx7==101)) rfl rfl hE rfl (KQ hE rfl) (fun a hE=>?_)
        refine KN ?_
        refine hK_42 _ _ ?_
        refine ZA (Xx7==101) hE rfl (fun hb=>?_) (fun hb=>?_)
        ·replace H:=M.ite_t hb H
         refine KR (fun K hK_43=>?_)
         refine KC ?_
         refine KB (v:=.pointer x0) rfl rfl hE rfl (KF hE rfl) (fun a hE=>?_)
         refine KZ hE hR Wt rfl (YG x0 7) H (fun _ _ hR HQ=>Xu.ne rfl (hthr _ _ hR HQ)) (fun Xx44 a w ea hR H=>?_)
         have hE:=Env.put_some hE rfl ea;clear ea
         obtain⟨qz,H⟩:=H
         obtain⟨u_45,qu_45,H⟩:=H
         refine JA rfl rfl hE hR (Kh hE rfl rfl sz54 qz qu_45) (fun a w hE hR hh=>?_)
         replace H:=M.at hh H;clear hh
         refine KN ?_
         refine hK_43 _ _ ?_
         refine Uv ?_
         obtain⟨Rr46,qRr46,H⟩:=H
         exact hret _ _ _ Rr46 _ hE hR (Kn hE rfl (RV.cellG rfl ag54 qRr46 RV.nil)) rfl H
        ·replace H:=M.ite_f hb H
         refine KR (fun K hK_47=>?_)
         refine KC ?_
         refine KB (v:=.int .u8 Xx7) rfl rfl hE rfl (KF hE rfl) (fun a hE=>?_)
         refine KB (v:=.bool (Xx7==91)) rfl rfl hE rfl (Kk hE rfl rfl Ki W9) (fun a hE=>?_)
         refine KB (v:=.bool (Xx7==91)) rfl rfl hE rfl (KQ hE rfl) (fun a hE=>?_)
         refine KN ?_
         refine hK_47 _ _ ?_
         refine ZA (Xx7==91) hE rfl (fun hb=>?_) (fun hb=>?_)
         ·replace H:=M.ite_t hb H
          refine KR (fun K hK_48=>?_)
          refine KC ?_
          refine KB (v:=.pointer x0) rfl rfl hE rfl (KF hE rfl) (fun a hE=>?_)
          refine KB (v:=.int .i64 x1) rfl rfl hE rfl (KF hE rfl) (fun a hE=>?_)
          refine KZ hE hR XF rfl (VC) H (fun _ _ hR HQ=>Xu.ne rfl (hthr _ _ hR HQ)) (fun Xx49 a w ea hR H=>?_)
          have hE:=Env.put_some hE rfl ea;clear ea
          refine KB (v:=.agg (#[.int .i64 4,.int .i64 0,.string ByteArray.empty,(Xx49:Sl).v]:Array Value)) rfl rfl hE rfl (Vs hE rfl zr54 pl54 (by rfl)) (fun a hE=>?_)
          obtain⟨qz,H⟩:=H
          obtain⟨u_50,qu_50,H⟩:=H
          refine JA rfl rfl hE hR (Kh hE rfl rfl sz54 qz qu_50) (fun a w hE hR hh=>?_)
          replace H:=M.at hh H;clear hh
          refine KN ?_
          refine hK_48 _ _ ?_
          refine Uv ?_
          obtain⟨Rr51,qRr51,H⟩:=H
          exact hret _ _ _ Rr51 _ hE hR (Kn hE rfl (RV.cellG rfl ag54 qRr51 RV.nil)) rfl H
         ·replace H:=M.ite_f hb H
          refine KR (fun K hK_52=>?_)
          refine KC ?_
          refine KB (v:=.int .u8 Xx7) rfl rfl hE rfl (KF hE rfl) (fun a hE=>?_)
          refine KB (v:=.bool (Xx7==123)) rfl rfl hE rfl (Kk hE rfl rfl Ki W9) (fun a hE=>?_)
          refine KB (v:=.bool (Xx7==123)) rfl rfl hE rfl (KQ hE rfl) (fun a hE=>?_)
          refine KN ?_
          refine hK_52 _ _ ?_
          refine ZA (Xx7==123) hE rfl (fun hb=>?_) (fun hb=>?_)
          ·replace H:=M.ite_t hb H
           refine KR (fun K hK_53=>?_)
           refine KC ?_
           refine KB (v:=.pointer x0) rfl rfl hE rfl (KF hE rfl) (fun a hE=>?_)
           refine KB (v:=.int .i64 x1) rfl rfl hE rfl (KF hE rfl) (fun a hE=>?_)
           refine KZ hE hR XF rfl (VC) H (fun _ _ hR HQ=>Xu.ne rfl (hthr _ _ hR HQ)) (fun Xx54 a w ea hR H=>?_)
           have hE:=Env.put_some hE rfl ea;clear ea
           refine KB (v:=.agg (#[.int .i64 5,.int .i64 0,.string ByteArray.empty,(Xx54:Sl).v]:Array Value)) rfl rfl hE rfl (Vs hE rfl zr54 pl54 (by rfl)) (fun a hE=>?_)
           obtain⟨qz,H⟩:=H
           obtain⟨u_55,qu_55,H⟩:=H
           refine JA rfl rfl hE hR (Kh hE rfl rfl sz54 qz qu_55) (fun a w hE hR hh=>?_)
           replace H:=M.at hh H;clear hh
           refine KN ?_
           refine hK_53 _ _ ?_
           refine Uv ?_
           obtain⟨Rr56,qRr56,H⟩:=H
           exact hret _ _ _ Rr56 _ hE hR (Kn hE rfl (RV.cellG rfl ag54 qRr56 RV.nil)) rfl H
          ·replace H:=M.ite_f hb H
           refine Zq ?_
           refine hK_8 _ _ ?_
           refine KR (fun K hK_57=>?_)
           refine KC ?_
           refine KB (v:=.pointer x0) rfl rfl hE rfl (KF hE rfl) (fun a hE=>?_)
           refine KZ hE hR ZK rfl (ZS x0) H (fun _ _ hR HQ=>hthr _ _ hR HQ) (fun Xx58 a w ea hR H=>?_)
           have hE:=Env.put_some hE rfl ea;clear ea
           refine KN ?_
           refine hK_57 _ _ ?_
           refine KR (fun K hK_59=>?_)
           refine KC ?_
           refine KB (v:=.agg (#[.int .i64 0,.int .i64 0,.string ByteArray.empty,.slice none 0 0]:Array Value)) rfl rfl hE rfl (Gr bd54) (fun a hE=>?_)
           obtain⟨qz,H⟩:=H
           obtain⟨u_60,qu_60,H⟩:=H
           refine JA rfl rfl hE hR (Kh hE rfl rfl sz54 qz qu_60) (fun a w hE hR hh=>?_)
           replace H:=M.at hh H;clear hh
           refine KN ?_
           refine hK_59 _ _ ?_
           refine Uv ?_
           obtain⟨Rr61,qRr61,H⟩:=H
           exact hret _ _ _ Rr61 _ hE hR (Kn hE rfl (RV.cellG rfl ag54 qRr61 RV.nil)) rfl H
 ·skip
  refine KR (fun K hK_62=>?_)
  refine KC ?_
  refine KB (v:=.int .i64 x1) rfl rfl hE rfl (KF hE rfl) (fun a hE=>?_)
  refine KB (v:=.bool (decide (x1>8))) rfl rfl hE rfl (Kk hE rfl rfl Ki qv) (fun a hE=>?_)
  refine KN ?_
  refine hK_62 _ _ ?_
  refine ZA (decide (x1>8)) hE rfl (fun hb=>?_) (fun hb=>?_)
  ·replace H:=M.ite_t hb H
   refine KC ?_
   refine KB (v:=.pointer x0) rfl rfl hE rfl (KF hE rfl) (fun a hE=>?_)
   refine KZ hE hR ZK rfl (ZS x0) H (fun _ _ hR HQ=>hthr _ _ hR HQ) (fun Xx63 a w ea hR H=>?_)
   have hE:=Env.put_some hE rfl ea;clear ea
   refine KN ?_
   exact⟨hE.cut (.cons rfl (.cons rfl (.cons rfl Subs.nil))),hR,H⟩
  ·replace H:=M.ite_f hb H
   refine Zq ?_
   exact⟨hE.cut (.cons rfl (.cons rfl (.cons rfl Subs.nil))),hR,H⟩
def Jf (self1:(Sl)→M (Value⊕(Sl))) (Cc29:Option Addr) (Cc31:Int) (Xx28:Sl):M (Value⊕(Sl)):=do
 let Xx34←Ku Cc29
 let Xx36←M.ite (Xx34 !=Cc31) (do
  M.pure (Xx34 !=44)
  ) (do
  M.pure false
  )
 M.ite Xx36 (do
  thr (ZE Cc29) fun Xx37=>do
   self1 Xx28
  ) (do
  self1 Xx28
  )
def Jg (self1:(Sl)→M (Value⊕(Sl))) (Cc18:Option Addr) (Cc19:Int) (Cc20:Int) (Cc21:Int) (Cc22:Sl):M (Value⊕(Sl)):=do
 thr (GR Go.Proofs.Tryz.prog Vv #[.pointer Cc18,.int .i64 (IntKind.wrap .i64 (Cc19+1))] (fun r:Array Value=>.agg r)) fun Xx24=>do
  let y_26←XI 4 1 (#[.int .i64 0,.int .i64 0,.string ByteArray.empty,.slice none 0 0]:Array Value) [(0,.agg Xx24)]
  let Xx25←bdL KH 1 y_26
  let Xx27←apL KH 4 56 (#[.int .i64 0,.int .i64 0,.string ByteArray.empty,.slice none 0 0]:Array Value) Cc22 Xx25
  M.ite (Cc21==2) (do
   thr (ZO Cc18 (⟨#[58,32]⟩:ByteArray)) fun Xx40=>do
    thr (GR Go.Proofs.Tryz.prog Vv #[.pointer Cc18,.int .i64 (IntKind.wrap .i64 (Cc19+1))] (fun r:Array Value=>.agg r)) fun Xx41=>do
     let y_43←XI 4 1 (#[.int .i64 0,.int .i64 0,.string ByteArray.empty,.slice none 0 0]:Array Value) [(0,.agg Xx41)]
     let Xx42←bdL KH 1 y_43
     let Xx44←apL KH 4 56 (#[.int .i64 0,.int .i64 0,.string ByteArray.empty,.slice none 0 0]:Array Value) Xx27 Xx42
     Jf self1 Cc18 Cc20 Xx44
   ) (do
   Jf self1 Cc18 Cc20 Xx27
   )
def Uu (Cc10:Option Addr) (Cc11:Int) (Cc12:Int) (Cc13:Int) (self1:(Sl)→M (Value⊕(Sl))):(Sl)→M (Value⊕(Sl)):=fun s=>match s with
 |Xx9=>do
  let Xx17←Ku Cc10
  M.ite (Xx17 !=Cc12) (do
   M.ite (decide ((Xx9.len:Int)>0)) (do
    thr (ZO Cc10 (⟨#[44,32]⟩:ByteArray)) fun Xx46=>do
     Jg self1 Cc10 Cc11 Cc12 Cc13 Xx9
    ) (do
    Jg self1 Cc10 Cc11 Cc12 Cc13 Xx9
    )
   ) (do
   let Xx48←nilP Cc10
   let Xx49←ldI .i64 ((Xx48).add 1)
   let Xx50←nilP Cc10
   stV ((Xx50).add 1) (.int .i64 (IntKind.wrap .i64 (Xx49+1)))
   M.pure (.inr Xx9)
   )
def WE (x0:Option Addr) (x1:Int) (x2:Int) (x3:Int):M (Value⊕(Sl)):=do
 let Xx3←nilP x0
 let Xx4←ldI .i64 ((Xx3).add 1)
 let Xx5←nilP x0
 stV ((Xx5).add 1) (.int .i64 (IntKind.wrap .i64 (Xx4+1)))
 M.loop (Uu x0 x1 x2 x3) Sl.nil
theorem Xt (x0:Option Addr) (x1:Int) (x2:Int) (x3:Int):J3 Go.Proofs.Tryz.prog 246 #[.pointer x0,.int .i64 x1,.int .u8 x2,.int .i64 x3] (fun(r:Sl)=>(r:Sl).v) (WE x0 x1 x2 x3):=by
 refine Zj [(0,.pointer x0),(1,.int .i64 x1),(2,.int .u8 x2),(3,.int .i64 x3)] Go.Proofs.Tryz.func246 rfl rfl (Nat.le_of_ble_eq_true rfl) (Z8 ⟨rfl,rfl,rfl,rfl,trivial⟩) (fun w0 w Q R X a hret hthr hE hR H=>?_)
 unfold WE at H
 refine KR (fun K hK_1=>?_)
 refine KC ?_
 refine KB (v:=(Sl.nil:Sl).v) rfl rfl hE rfl (KQ hE rfl) (fun a hE=>?_)
 refine KN ?_
 refine hK_1 _ _ ?_
 refine KR (fun K hK_2=>?_)
 refine KC ?_
 refine KB (v:=.pointer x0) rfl rfl hE rfl (KF hE rfl) (fun a hE=>?_)
 obtain⟨Xx3,qXx3,H⟩:=H
 refine KB (v:=.pointer (some Xx3)) rfl rfl hE rfl (KO hE (Zu rfl (congrArg Value.pointer qXx3))) (fun a hE=>?_)
 refine KB (v:=.pointer (some ((Xx3).add 1))) rfl rfl hE rfl (KD hE rfl Zn) (fun a hE=>?_)
 obtain⟨Xx4,qXx4,H⟩:=H
 refine KB (v:=.int .i64 Xx4) rfl rfl hE rfl (KS hE rfl sc3 qXx4) (fun a hE=>?_)
 refine KB (v:=.int .i64 (IntKind.wrap .i64 (Xx4+1))) rfl rfl hE rfl (Kk hE rfl rfl Ki Vp) (fun a hE=>?_)
 obtain⟨Xx5,qXx5,H⟩:=H
 refine KB (v:=.pointer (some Xx5)) rfl rfl hE rfl (KO hE (Zu rfl (congrArg Value.pointer qXx5))) (fun a hE=>?_)
 refine KB (v:=.pointer (some ((Xx5).add 1))) rfl rfl hE rfl (KD hE rfl Zn) (fun a hE=>?_)
 obtain⟨u_6,qu_6,H⟩:=H
 refine JA rfl rfl hE hR (ZB hE rfl rfl sz3 qu_6) (fun a w hE hR hh=>?_)
 replace H:=M.at hh H;clear hh
 refine KN ?_
 refine hK_2 _ _ ?_
 refine KR (fun K hK_7=>?_)
 refine KC ?_
 refine KB (v:=(Sl.nil:Sl).v) rfl rfl hE rfl (KQ hE rfl) (fun a hE=>?_)
 refine KN ?_
 refine hK_7 _ _ ?_
 refine KR (fun K hK_8=>?_)
 refine J6 ?_
 refine zq (fun(s:Sl)=>(⟨64,[]⟩:Frm)) (fun(s:Sl)=>[(0,.pointer x0),(1,.int .i64 x1),(2,.int .u8 x2),(3,.int .i64 x3),(9,(s:Sl).v)]) H (hE.cut (.cons rfl (.cons rfl (.cons rfl (.cons rfl (.cons rfl Subs.nil)))))) hR (fun Y self1 hY_14 Xx9 a w hE hR H=>?_)
 replace hE:Env (⟨64,[]⟩:Frm) a [(0,.pointer x0),(1,.int .i64 x1),(2,.int .u8 x2),(3,.int .i64 x3),(9,(Xx9:Sl).v)]:=hE
 replace H:(Uu x0 x1 x2 x3 self1 Xx9).wp w.heap Q:=H
 unfold Uu at H
 refine KR (fun K hK_15=>?_)
 refine KR (fun K hK_16=>?_)
 refine KC ?_
 refine KB (v:=.pointer x0) rfl rfl hE rfl (KF hE rfl) (fun a hE=>?_)
 refine Zd hE hR Kv rfl (ZF x0) (M.unbind H) (fun Xx17 a w ea hR H=>?_)
 have hE:=Env.put_some hE rfl ea;clear ea
 refine KB (v:=.int .u8 x2) rfl rfl hE rfl (KF hE rfl) (fun a hE=>?_)
 refine KB (v:=.bool (Xx17 !=x2)) rfl rfl hE rfl (Kk hE rfl rfl Ki KDZ) (fun a hE=>?_)
 refine KN ?_
 refine hK_16 _ _ ?_
 refine ZA (Xx17 !=x2) hE rfl (fun hb=>?_) (fun hb=>?_)
 ·replace H:=M.ite_t hb H
  refine Zq ?_
  refine hK_15 _ _ ?_
  refine J6 ?_
  refine Kz (fun a w=>Env (⟨64,[]⟩:Frm) a [(0,.pointer x0),(1,.int .i64 x1),(2,.int .u8 x2),(3,.int .i64 x3),(9,(Xx9:Sl).v)]∧Rest w0 w∧(Jg self1 x0 x1 x2 x3 Xx9).wp w.heap Q) ?_ ?_
  ·rintro a w ⟨hE,hR,H⟩
   unfold Jg at H
   refine KR (fun K hK_23=>?_)
   refine KC ?_
   refine KB (v:=(Xx9:Sl).v) rfl rfl hE rfl (KF hE rfl) (fun a hE=>?_)
   refine KB (v:=.pointer x0) rfl rfl hE rfl (KF hE rfl) (fun a hE=>?_)
   refine KB (v:=.int .i64 x1) rfl rfl hE rfl (KF hE rfl) (fun a hE=>?_)
   refine KB (v:=.int .i64 (IntKind.wrap .i64 (x1+1))) rfl rfl hE rfl (Kk hE rfl rfl Ki Vp) (fun a hE=>?_)
   refine KZ hE hR Vx rfl (VC) H (fun _ _ hR HQ=>Xu.ne rfl (Xu.ne rfl (hthr _ _ hR HQ))) (fun Xx24 a w ea hR H=>?_)
   have hE:=Env.put_some hE rfl ea;clear ea
   obtain⟨y_26,qy_26,H⟩:=H
   obtain⟨Xx25,qXx25,H⟩:=H
   refine JM (v:=(Xx25:Sl).v) rfl rfl hE rfl hR (J4 hE rfl un52 sz54 zr54 rfl qy_26 qXx25) (fun a w hE hR hh=>?_)
   replace H:=M.at hh H;clear hh
   refine t_ex (fun Xx27=>(Xx27:Sl).v) rfl rfl hR (M.unbind H) (fun Q H=>GA hE rfl rfl ap52 H) (fun Xx27 a w ea hR H=>?_)
   have hE:=Env.put_some hE rfl ea;clear ea
   refine KB (v:=(Xx27:Sl).v) rfl rfl hE rfl (KQ hE rfl) (fun a hE=>?_)
   refine KN ?_
   refine hK_23 _ _ ?_
   refine Kz (fun a w=>∃(Xx28:Sl),Env (⟨64,[]⟩:Frm) a [(0,.pointer x0),(1,.int .i64 x1),(2,.int .u8 x2),(3,.int .i64 x3),(9,(Xx28:Sl).v)]∧Rest w0 w∧(Jf self1 x0 x2 Xx28).wp w.heap Q) ?_ ?_
   ·rintro a w ⟨Xx28,hE,hR,H⟩
    unfold Jf at H
    refine KR (fun K hK_33=>?_)
    refine KC ?_
    refine KB (v:=.pointer x0) rfl rfl hE rfl (KF hE rfl) (fun a hE=>?_)
    refine Zd hE hR Kv rfl (ZF x0) (M.unbind H) (fun Xx34 a w ea hR H=>?_)
    have hE:=Env.put_some hE rfl ea;clear ea
    refine KB (v:=.int .u8 Xx34) rfl rfl hE rfl (KQ hE rfl) (fun a hE=>?_)
    refine KN ?_
    refine hK_33 _ _ ?_
    refine KR (fun K hK_35=>?_)
    refine KC ?_
    refine KB (v:=.int .u8 Xx34) rfl rfl hE rfl (KF hE rfl) (fun a hE=>?_)
    refine KB (v:=.int .u8 x2) rfl rfl hE rfl (KF hE rfl) (fun a hE=>?_)
    refine KB (v:=.bool (Xx34 !=x2)) rfl rfl hE rfl (Kk hE rfl rfl Ki KDZ) (fun a hE=>?_)
    refine KB (v:=.bool (Xx34 !=x2)) rfl rfl hE rfl (KF hE rfl) (fun a hE=>?_)
    refine KAz (n:=(⟨64,[]⟩:Frm)) (w0:=w0) 3 (fun Xx36:Bool=>[(0,.pointer x0),(1,.int .i64 x1),(2,.int .u8 x2),(3,.int .i64 x3),(9,(Xx28:Sl).v),(53,.bool Xx36)]) (M.unbind H) (fun Kr hKr H=>?_) ?_
    ·rcases Uj (Xx34 !=x2)with hb|hb
     ·replace H:=M.ite_t hb H
      have hE:=hE.reb 50 (Xx34 !=x2) true hb rfl
      refine t_on rfl hE rfl rfl rfl ?_
      refine KB (v:=.int .u8 Xx34) rfl rfl hE rfl (KF hE rfl) (fun a hE=>?_)
      refine t_on rfl hE rfl rfl rfl ?_
      refine KB (v:=.bool (Xx34 !=44)) rfl rfl hE rfl (Kk hE rfl rfl Ki KDZ) (fun a hE=>?_)
      refine KB rfl rfl hE rfl (Jj hE rfl rfl) (fun a hE=>?_)
      refine KN ?_
      exact hKr _ _ _ (hE.cut (.cons rfl (.cons rfl (.cons rfl (.cons rfl (.cons rfl (.cons rfl Subs.nil))))))) hR H
     ·replace H:=M.ite_f hb H
      have hE:=hE.reb 50 (Xx34 !=x2) false hb rfl
      refine Uw rfl hE rfl rfl rfl (fun a ea=>?_)
      have hE:=Env.put_some hE rfl ea;clear ea
      refine Uw rfl hE rfl rfl rfl (fun a ea=>?_)
      have hE:=Env.put_some hE rfl ea;clear ea
      refine KB rfl rfl hE rfl (Z3 hE rfl rfl) (fun a hE=>?_)
      refine KN ?_
      exact hKr _ _ _ (hE.cut (.cons rfl (.cons rfl (.cons rfl (.cons rfl (.cons rfl (.cons rfl Subs.nil))))))) hR H
    ·intro Xx36 a w hE hR H
     refine KN ?_
     refine hK_35 _ _ ?_
     refine ZA Xx36 hE rfl (fun hb=>?_) (fun hb=>?_)
     ·replace H:=M.ite_t hb H
      refine KC ?_
      refine KB (v:=.pointer x0) rfl rfl hE rfl (KF hE rfl) (fun a hE=>?_)
      refine KZ hE hR ZK rfl (ZS x0) H (fun _ _ hR HQ=>Xu.ne rfl (Xu.ne rfl (hthr _ _ hR HQ))) (fun Xx37 a w ea hR H=>?_)
      have hE:=Env.put_some hE rfl ea;clear ea
      refine KN ?_
      exact hY_14 Xx28 _ _ (hE.cut (.cons rfl (.cons rfl (.cons rfl (.cons rfl (.cons rfl Subs.nil)))))) hR H
     ·replace H:=M.ite_f hb H
      refine Zq ?_
      exact hY_14 Xx28 _ _ (hE.cut (.cons rfl (.cons rfl (.cons rfl (.cons rfl (.cons rfl Subs.nil)))))) hR H
   ·skip
    refine KR (fun K hK_38=>?_)
    refine KC ?_
    refine KB (v:=.int .i64 x3) rfl rfl hE rfl (KF hE rfl) (fun a hE=>?_)
    refine KB (v:=.bool (x3==2)) rfl rfl hE rfl (Kk hE rfl rfl Ki W9) (fun a hE=>?_)
    refine KN ?_
    refine hK_38 _ _ ?_
    refine ZA (x3==2) hE rfl (fun hb=>?_) (fun hb=>?_)
    ·replace H:=M.ite_t hb H
     refine KR (fun K hK_39=>?_)
     refine KC ?_
     refine KB (v:=.pointer x0) rfl rfl hE rfl (KF hE rfl) (fun a hE=>?_)
     refine KZ hE hR Zl rfl (Zx x0 (⟨#[58,32]⟩:ByteArray)) H (fun _ _ hR HQ=>Xu.ne rfl (Xu.ne rfl (hthr _ _ hR HQ))) (fun Xx40 a w ea hR H=>?_)
     have hE:=Env.put_some hE rfl ea;clear ea
     refine KN ?_
     refine hK_39 _ _ ?_
     refine KC ?_
     refine KB (v:=(Xx27:Sl).v) rfl rfl hE rfl (KF hE rfl) (fun a hE=>?_)
     refine KB (v:=.pointer x0) rfl rfl hE rfl (KF hE rfl) (fun a hE=>?_)
     refine KB (v:=.int .i64 x1) rfl rfl hE rfl (KF hE rfl) (fun a hE=>?_)
     refine KB (v:=.int .i64 (IntKind.wrap .i64 (x1+1))) rfl rfl hE rfl (Kk hE rfl rfl Ki Vp) (fun a hE=>?_)
     refine KZ hE hR Vx rfl (VC) H (fun _ _ hR HQ=>Xu.ne rfl (Xu.ne rfl (hthr _ _ hR HQ))) (fun Xx41 a w ea hR H=>?_)
     have hE:=Env.put_some hE rfl ea;clear ea
     obtain⟨y_43,qy_43,H⟩:=H
     obtain⟨Xx42,qXx42,H⟩:=H
     refine JM (v:=(Xx42:Sl).v) rfl rfl hE rfl hR (J4 hE rfl un52 sz54 zr54 rfl qy_43 qXx42) (fun a w hE hR hh=>?_)
     replace H:=M.at hh H;clear hh
     refine t_ex (fun Xx44=>(Xx44:Sl).v) rfl rfl hR (M.unbind H) (fun Q H=>GA hE rfl rfl ap52 H) (fun Xx44 a w ea hR H=>?_)
     have hE:=Env.put_some hE rfl ea;clear ea
     refine KB (v:=(Xx44:Sl).v) rfl rfl hE rfl (KQ hE rfl) (fun a hE=>?_)
     refine KN ?_
     exact⟨Xx44,hE.cut (.cons rfl (.cons rfl (.cons rfl (.cons rfl (.cons rfl Subs.nil))))),hR,H⟩
    ·replace H:=M.ite_f hb H
     refine Zq ?_
     exact⟨Xx27,hE.cut (.cons rfl (.cons rfl (.cons rfl (.cons rfl (.cons rfl Subs.nil))))),hR,H⟩
  ·skip
   refine KR (fun K hK_45=>?_)
   refine KC ?_
   refine KB (v:=(Xx9:Sl).v) rfl rfl hE rfl (KF hE rfl) (fun a hE=>?_)
   refine KB (v:=.int .i64 (Xx9.len:Int)) rfl rfl hE rfl (KAy hE rfl 54 un52) (fun a hE=>?_)
   refine KB (v:=.bool (decide ((Xx9.len:Int)>0))) rfl rfl hE rfl (Kk hE rfl rfl Ki qv) (fun a hE=>?_)
   refine KN ?_
   refine hK_45 _ _ ?_
   refine ZA (decide ((Xx9.len:Int)>0)) hE rfl (fun hb=>?_) (fun hb=>?_)
   ·replace H:=M.ite_t hb H
    refine KC ?_
    refine KB (v:=.pointer x0) rfl rfl hE rfl (KF hE rfl) (fun a hE=>?_)
    refine KZ hE hR Zl rfl (Zx x0 (⟨#[44,32]⟩:ByteArray)) H (fun _ _ hR HQ=>Xu.ne rfl (Xu.ne rfl (hthr _ _ hR HQ))) (fun Xx46 a w ea hR H=>?_)
    have hE:=Env.put_some hE rfl ea;clear ea
    refine KN ?_
    exact⟨hE.cut (.cons rfl (.cons rfl (.cons rfl (.cons rfl (.cons rfl Subs.nil))))),hR,H⟩
   ·replace H:=M.ite_f hb H
    refine Zq ?_
    exact⟨hE.cut (.cons rfl (.cons rfl (.cons rfl (.cons rfl (.cons rfl Subs.nil))))),hR,H⟩
 ·replace H:=M.ite_f hb H
  refine qh ?_
  refine Xu.same ?_
  refine hK_8 _ _ ?_
  refine KR (fun K hK_47=>?_)
  refine KC ?_
  refine KB (v:=.pointer x0) rfl rfl hE rfl (KF hE rfl) (fun a hE=>?_)
  obtain⟨Xx48,qXx48,H⟩:=H
  refine KB (v:=.pointer (some Xx48)) rfl rfl hE rfl (KO hE (Zu rfl (congrArg Value.pointer qXx48))) (fun a hE=>?_)
  refine KB (v:=.pointer (some ((Xx48).add 1))) rfl rfl hE rfl (KD hE rfl Zn) (fun a hE=>?_)
  obtain⟨Xx49,qXx49,H⟩:=H
  refine KB (v:=.int .i64 Xx49) rfl rfl hE rfl (KS hE rfl sc3 qXx49) (fun a hE=>?_)
  refine KB (v:=.int .i64 (IntKind.wrap .i64 (Xx49+1))) rfl rfl hE rfl (Kk hE rfl rfl Ki Vp) (fun a hE=>?_)
  obtain⟨Xx50,qXx50,H⟩:=H
  refine KB (v:=.pointer (some Xx50)) rfl rfl hE rfl (KO hE (Zu rfl (congrArg Value.pointer qXx50))) (fun a hE=>?_)
  refine KB (v:=.pointer (some ((Xx50).add 1))) rfl rfl hE rfl (KD hE rfl Zn) (fun a hE=>?_)
  obtain⟨u_51,qu_51,H⟩:=H
  refine JA rfl rfl hE hR (ZB hE rfl rfl sz3 qu_51) (fun a w hE hR hh=>?_)
  replace H:=M.at hh H;clear hh
  refine KN ?_
  refine hK_47 _ _ ?_
  refine KR (fun K hK_52=>?_)
  refine KC ?_
  refine KB (v:=(Xx9:Sl).v) rfl rfl hE rfl (KF hE rfl) (fun a hE=>?_)
  refine KB (v:=(Xx9:Sl).v) rfl rfl hE rfl (KQ hE rfl) (fun a hE=>?_)
  refine KN ?_
  refine hK_52 _ _ ?_
  refine Uv ?_
  exact hret _ _ _ Xx9 _ hE hR (Kn hE rfl (RV.tmp rfl RV.nil)) rfl H
def Jr (Cc5:Sl) (Cc6:Value) (Cc7:Int) (self1:(Int)→M (Int)):(Int)→M (Int):=fun s=>match s with
 |Xx4=>do
  M.ite (decide (Xx4<Cc7)) (do
   let Xx14←ixL Cc5 Xx4 1
   let Xx15←ldI .u8 Xx14
   let Xx16←X4 Go.Proofs.Tryz.prog (fun r:Bool=>.bool r) Cc6 [.int .u8 Xx15]
   M.ite Xx16 (do
    M.pure Xx4
    ) (do
    self1 (IntKind.wrap .i64 (Xx4+1))
    )
   ) (do
   M.pure (-1)
   )
def JJ (x0:Sl) (x1:Value):M (Int):=do
 M.loop (Jr x0 x1 (x0.len:Int)) 0
theorem Ys (x0:Sl) (x1:Value):ZG Go.Proofs.Tryz.prog 261 #[(x0:Sl).v,x1] (fun(r:Int)=>.int .i64 r) (JJ x0 x1):=
 KU [] [] [.I .i64] [(0,.L x0),(1,.V x1)] (.q .o (.q (.q .o (.b (.l [(0,.L),(1,.V),(7,.I .i64)] [(8,.I .i64)] (fun(t:Sl×Value×Int)=>Jr t.1 t.2.1 t.2.2) (fun _=>.o)))) .o)) Go.Proofs.Tryz.func261 rfl rfl ⟨rfl,rfl,trivial⟩ rfl (by kernel_rfl) (by kernel_rfl)
noncomputable def Yt:CalleeS Go.Proofs.Tryz.prog:=mkC YK YM [.L,.V] [.I .i64] (fun(t:Sl×Value)=>JJ t.1 t.2) (fun(t:Sl×Value)=>Ys t.1 t.2)
end Gx
namespace Gx
open Go
def Zb (x0:Sl) (x1:Value):M (Bool):=do
 let Xx3←JJ x0 x1
 M.pure (decide (Xx3≥0))
theorem Wy (x0:Sl) (x1:Value):ZG Go.Proofs.Tryz.prog 257 #[(x0:Sl).v,x1] (fun(r:Bool)=>.bool r) (Zb x0 x1):=
 KU [Yt] [] [.B] [(0,.L x0),(1,.V x1)] .o Go.Proofs.Tryz.func257 rfl rfl ⟨rfl,rfl,trivial⟩ rfl (by kernel_rfl) (by kernel_rfl)
noncomputable def Wz:CalleeS Go.Proofs.Tryz.prog:=mkC Wm Wn [.L,.V] [.B] (fun(t:Sl×Value)=>Zb t.1 t.2) (fun(t:Sl×Value)=>Wy t.1 t.2)
def Zz (x0:ByteArray):M (ByteArray):=do
 M.ite ((x0.size:Int)==0) (do
  M.pure ByteArray.empty
  ) (do
  let Xx6←mkS ZJ 1 1 (#[.int .u8 0]:Array Value) (x0.size:Int) (x0.size:Int)
  let Xx8←cpSt Xx6 x0
  let Xx10←ixL Xx6 0 1
  let Xx11←uStr ZJ (some Xx10) (Xx6.len:Int)
  M.pure Xx11
  )
theorem XR (x0:ByteArray):ZG Go.Proofs.Tryz.prog 271 #[.string x0] (fun(r:ByteArray)=>.string r) (Zz x0):=
 KU [] [] [.S] [(0,.S x0)] .o Go.Proofs.Tryz.func271 rfl rfl ⟨rfl,trivial⟩ rfl (by kernel_rfl) (by kernel_rfl)
noncomputable def XS:CalleeS Go.Proofs.Tryz.prog:=mkC Yy Y1 [.S] [.S] (fun(t:ByteArray)=>Zz t) (fun(t:ByteArray)=>XR t)
def Uh (x0:ByteArray) (x1:ByteArray):M (Option Addr):=do
 let Xx3←ldV (⟨7,0,none⟩:Addr)
 let Xx4←Zz x1
 chk (fun h:Heap=>(KM h (⟨7,0,none⟩:Addr)=some (Xx3)))
 let Xx5←Xb [(0,1),(1,1),(2,1)] (#[.string ByteArray.empty,.string ByteArray.empty,.nilIface]:Array Value) [(0,.string x0),(1,.string Xx4),(2,Xx3)]
 let Xx6←mkB zG Xx5
 M.pure (some Xx6)
theorem qf (x0:ByteArray) (x1:ByteArray):ZG Go.Proofs.Tryz.prog 266 #[.string x0,.string x1] (fun(r:Option Addr)=>.pointer r) (Uh x0 x1):=
 KU [XS] [4] [.P] [(0,.S x0),(1,.S x1)] (.q .o (.q (.r [0,0,2,0,13,16,63] [0,0,2,0,13,16,32] [0,0,2,0,15,31,63] (.pu 0 (.pu 1 (.pu 3 (.st [4,5,6] (.on 2 (.pu 4 (.nx (.on 5 (.pu 6 (.nx .dn))))))))))) .o)) Go.Proofs.Tryz.func266 rfl rfl ⟨rfl,rfl,trivial⟩ rfl (by kernel_rfl) (by kernel_rfl)
noncomputable def qg:CalleeS Go.Proofs.Tryz.prog:=mkC Nj Nn [.S,.S] [.P] (fun(t:ByteArray×ByteArray)=>Uh t.1 t.2) (fun(t:ByteArray×ByteArray)=>qf t.1 t.2)
def V8 (x0:ByteArray) (x1:ByteArray) (x2:Int) (x3:Int) (x4:Value):M (Value):=do
 let Xx5←eqII Kw x4 (Value.iface Kw (.int .i64 2))
 M.ite Xx5 (do
  let Xx7←WZ x0 x1
  M.pure (Value.iface Uc (.pointer Xx7))
  ) (do
  let Xx9←eqII Kw x4 (Value.iface Kw (.int .i64 1))
  M.ite Xx9 (do
   let Xx11←Uh x0 x1
   M.pure (Value.iface Uc (.pointer Xx11))
   ) (do
   let Xx13←eqII Kw x4 (Value.iface Kw (.int .i64 3))
   M.ite Xx13 (do
    let Xx15←YP x0 x1 x2
    M.pure (Value.iface Uc (.pointer Xx15))
    ) (do
    let Xx17←eqII Kw x4 (Value.iface Kw (.int .i64 4))
    M.ite Xx17 (do
     let Xx19←WL x0 x1 x3
     M.pure (Value.iface Uc (.pointer Xx19))
     ) (do
     M.pure x4
     )
    )
   )
  )
theorem KBL (x0:ByteArray) (x1:ByteArray) (x2:Int) (x3:Int) (x4:Value):ZG Go.Proofs.Tryz.prog 263 #[.string x0,.string x1,.int .i64 x2,.int .i64 x3,x4] (fun(r:Value)=>r) (V8 x0 x1 x2 x3 x4):=
 KU [mkC NV NY [.S,.S] [.P] (fun(t:ByteArray×ByteArray)=>WZ t.1 t.2) (fun(t:ByteArray×ByteArray)=>No t.1 t.2),qg,mkC qM qX [.S,.S,.I .i64] [.P] (fun(t:ByteArray×ByteArray×Int)=>YP t.1 t.2.1 t.2.2) (fun(t:ByteArray×ByteArray×Int)=>zR t.1 t.2.1 t.2.2),mkC Gy Gz [.S,.S,.I .i64] [.P] (fun(t:ByteArray×ByteArray×Int)=>WL t.1 t.2.1 t.2.2) (fun(t:ByteArray×ByteArray×Int)=>NZ t.1 t.2.1 t.2.2)] [17,24,32,40] [.V] [(0,.S x0),(1,.S x1),(2,.I .i64 x2),(3,.I .i64 x3),(4,.V x4)] .o Go.Proofs.Tryz.func263 rfl rfl ⟨rfl,rfl,rfl,rfl,rfl,trivial⟩ rfl (by kernel_rfl) (by kernel_rfl)
noncomputable def KBM:CalleeS Go.Proofs.Tryz.prog:=mkC KAD KAN [.S,.S,.I .i64,.I .i64,.V] [.V] (fun(t:ByteArray×ByteArray×Int×Int×Value)=>V8 t.1 t.2.1 t.2.2.1 t.2.2.2.1 t.2.2.2.2) (fun(t:ByteArray×ByteArray×Int×Int×Value)=>KBL t.1 t.2.1 t.2.2.1 t.2.2.2.1 t.2.2.2.2)
def Va (x0:ByteArray) (x1:Int) (x2:Int):M (Int×Value):=do
 let Xx3←Um x0 x1 x2
 let Xx6←isNI Xx3.2
 M.ite (!Xx6) (do
  let Xx8←V8 (⟨#[80,97,114,115,101,73,110,116]⟩:ByteArray) x0 x1 x2 Xx3.2
  M.pure (Xx3.1,Xx8)
  ) (do
  M.pure (Xx3.1,Value.nilIface)
  )
theorem KAm (x0:ByteArray) (x1:Int) (x2:Int):ZG Go.Proofs.Tryz.prog 259 #[.string x0,.int .i64 x1,.int .i64 x2] (fun(r:Int×Value)=>.tuple #[.int .i64 r.1,r.2]) (Va x0 x1 x2):=
 KU [mkC XK XM [.S,.I .i64,.I .i64] [.I .i64,.V] (fun(t:ByteArray×Int×Int)=>Um t.1 t.2.1 t.2.2) (fun(t:ByteArray×Int×Int)=>Xh t.1 t.2.1 t.2.2),KBM] [] [.I .i64,.V] [(0,.S x0),(1,.I .i64 x1),(2,.I .i64 x2)] .o Go.Proofs.Tryz.func259 rfl rfl ⟨rfl,rfl,rfl,trivial⟩ rfl (by kernel_rfl) (by kernel_rfl)
noncomputable def KAn:CalleeS Go.Proofs.Tryz.prog:=mkC zE zO [.S,.I .i64,.I .i64] [.I .i64,.V] (fun(t:ByteArray×Int×Int)=>Va t.1 t.2.1 t.2.2) (fun(t:ByteArray×Int×Int)=>KAm t.1 t.2.1 t.2.2)
def N9 (x0:Int) (x1:Bool):M (Int×Int):=do
 M.ite (!x1) (do
  M.pure (0,7)
  ) (do
  M.pure (x0,0)
  )
theorem KJR (x0:Int) (x1:Bool):ZG Go.Proofs.Tryz.prog 260 #[.int .i64 x0,.bool x1] (fun(r:Int×Int)=>.tuple #[.int .i64 r.1,.int .i64 r.2]) (N9 x0 x1):=
 KU [] [] [.I .i64,.I .i64] [(0,.I .i64 x0),(1,.B x1)] .o Go.Proofs.Tryz.func260 rfl rfl ⟨rfl,rfl,trivial⟩ rfl (by kernel_rfl) (by kernel_rfl)
noncomputable def KJS:CalleeS Go.Proofs.Tryz.prog:=mkC KHH KHJ [.I .i64,.B] [.I .i64,.I .i64] (fun(t:Int×Bool)=>N9 t.1 t.2) (fun(t:Int×Bool)=>KJR t.1 t.2)
def Yu (Cc4:ByteArray) (Xx3:ByteArray):M (Int×Int):=do
 let Xx7←M.ite (sEq Xx3 ByteArray.empty) (do
  M.pure true
  ) (do
  let Xx8←s2b ZJ Xx3
  let Xx9←Zb Xx8 (Value.func (.func KDe) #[] #[])
  M.pure Xx9
  )
 let Xx10←M.ite Xx7 (do
  M.pure true
  ) (do
  let Xx11←ixS Xx3 0
  let Xx12←M.ite (Xx11==48) (do
   M.pure (!(sEq Cc4 (⟨#[48]⟩:ByteArray)))
   ) (do
   M.pure false
   )
  M.pure Xx12
  )
 M.ite Xx10 (do
  M.pure (0,10)
  ) (do
  let Xx15←Va Cc4 10 64
  let Xx17←isNI Xx15.2
  let Xx18←N9 Xx15.1 Xx17
  M.pure (Xx18.1,Xx18.2)
  )
def KCz (x0:ByteArray):M (Int×Int):=do
 let Xx20←M.ite (!(sEq x0 ByteArray.empty)) (do
  let Xx21←ixS x0 0
  M.pure (Xx21==45)
  ) (do
  M.pure false
  )
 M.ite Xx20 (do
  let Xx22←slS x0 1 x0.size
  Yu x0 Xx22
  ) (do
  Yu x0 x0
  )
theorem KHQ (x0:ByteArray):ZG Go.Proofs.Tryz.prog 253 #[.string x0] (fun(r:Int×Int)=>.tuple #[.int .i64 r.1,.int .i64 r.2]) (KCz x0):=
 KU [Wz,KAn,KJS] [] [.I .i64,.I .i64] [(0,.S x0)] (.q .o (.q .o (.q .o (.j [(0,.S),(4,.S)] (fun(t:ByteArray×ByteArray)=>Yu t.1 t.2) .o)))) Go.Proofs.Tryz.func253 rfl rfl ⟨rfl,trivial⟩ rfl (by kernel_rfl) (by kernel_rfl)
def zi (x0:Int):M (Bool):=do
 let Xx3←M.ite (decide (x0<48)) (do
  M.pure true
  ) (do
  M.pure (decide (x0>57))
  )
 M.pure Xx3
theorem KFG (x0:Int):ZG Go.Proofs.Tryz.prog 258 #[.int .u8 x0] (fun(r:Bool)=>.bool r) (zi x0):=
 KU [] [] [.B] [(0,.I .u8 x0)] .o Go.Proofs.Tryz.func258 rfl rfl ⟨rfl,trivial⟩ rfl (by kernel_rfl) (by kernel_rfl)
end Gx
