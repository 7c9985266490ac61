/- Printed by program: Go functions as Lean programs, each tied to its code. No condition. -/
import Derived.Test.YthelieedlghccaaGreatDoorP0
import Derived.Test.YthelieedlghccaaGreatDoorP1
import Derived.Test.YthelieedlghccaaGreatDoorP2
import Derived.Test.YthelieedlghccaaGreatDoorP3
import Derived.Test.YthelieedlghccaaGreatDoorP4
import Derived.Test.YthelieedlghccaaGreatDoorP5
set_option linter.unusedVariables false
set_option linter.unusedSimpArgs false
namespace Gx
open Go
set_option linter.unusedVariables false
set_option maxRecDepth 100000
def Kz (C21:Int) (C22:ByteArray) (Xx20:Bool):M (Bool):=do
 M.ite Xx20 (do
  M.pure false
  ) (do
  let Xx25←Xx C21
  let Xx26←XE C21
  let Xx27←ZY Xx25 Xx26
  let Xx28←M.ite Xx27 (do
   let Xx29←XC C22
   let Xx30←XF C22
   let Xx31←ZY Xx29 Xx30
   M.pure Xx31
   ) (do
   M.pure false
   )
  let Xx32←M.ite Xx28 (do
   let Xx33←Gt C21
   let Xx34←Wq C21
   let Xx35←ZY Xx33 Xx34
   M.pure Xx35
   ) (do
   M.pure false
   )
  let Xx36←M.ite Xx32 (do
   let Xx37←qq C21
   let Xx38←YZ C21
   let Xx39←ZY Xx37 Xx38
   M.pure Xx39
   ) (do
   M.pure false
   )
  let Xx40←M.ite Xx36 (do
   let Xx41←WX (decide (C21 > 0))
   let Xx42←VP (decide (C21 > 0))
   let Xx43←ZY Xx41 Xx42
   M.pure Xx43
   ) (do
   M.pure false
   )
  M.pure Xx40
  )
noncomputable def KIn:Array Oper:=NZ Go.Proofs.Tryz.f6 5
def KIo:List (List Nat):=[[],[0],[1,0],[2],[3,2,2],[2],[5,4,2],[4,6,2],[2,7],[8,6],[9],[9],[10,11,9,9],[12,9],[9,13],[14,12],[15],[15],[16,17,15],[15,18],[19,15],[20],[20],[21,22,20,20],[23,20],[20,24],[25,23],[26],[26],[27,28,26],[26,29]]
def KIp:List (List Nat):=[[],[0],[1],[2],[2,3],[2],[2,5],[2,4,6],[2,7],[8],[9],[9],[9,10,11],[9,12],[9,13],[14],[15],[15],[15,16,17],[15,18],[19],[20],[20],[20,21,22],[20,23],[20,24],[25],[26],[26],[26,27,28],[26,29]]
def KIq:List (List Nat):=[[],[0],[0,1],[0,1,2],[0,1,2,3],[0,1,2],[0,1,2,3,4,5],[0,1,2,3,4,5,6],[0,1,2,3,4,5,6,7],[0,1,2,3,4,5,6,7,8],[0,1,2,3,4,5,6,7,8,9],[0,1,2,3,4,5,6,7,8,9],[0,1,2,3,4,5,6,7,8,9,10,11],[0,1,2,3,4,5,6,7,8,9,10,11,12],[0,1,2,3,4,5,6,7,8,9,10,11,12,13],[0,1,2,3,4,5,6,7,8,9,10,11,12,13,14],[0,1,2,3,4,5,6,7,8,9,10,11,12,13,14,15],[0,1,2,3,4,5,6,7,8,9,10,11,12,13,14,15],[0,1,2,3,4,5,6,7,8,9,10,11,12,13,14,15,16,17],[0,1,2,3,4,5,6,7,8,9,10,11,12,13,14,15,16,17,18],[0,1,2,3,4,5,6,7,8,9,10,11,12,13,14,15,16,17,18,19],[0,1,2,3,4,5,6,7,8,9,10,11,12,13,14,15,16,17,18,19,20],[0,1,2,3,4,5,6,7,8,9,10,11,12,13,14,15,16,17,18,19,20],[0,1,2,3,4,5,6,7,8,9,10,11,12,13,14,15,16,17,18,19,20,21,22],[0,1,2,3,4,5,6,7,8,9,10,11,12,13,14,15,16,17,18,19,20,21,22,23],[0,1,2,3,4,5,6,7,8,9,10,11,12,13,14,15,16,17,18,19,20,21,22,23,24],[0,1,2,3,4,5,6,7,8,9,10,11,12,13,14,15,16,17,18,19,20,21,22,23,24,25],[0,1,2,3,4,5,6,7,8,9,10,11,12,13,14,15,16,17,18,19,20,21,22,23,24,25,26],[0,1,2,3,4,5,6,7,8,9,10,11,12,13,14,15,16,17,18,19,20,21,22,23,24,25,26],[0,1,2,3,4,5,6,7,8,9,10,11,12,13,14,15,16,17,18,19,20,21,22,23,24,25,26,27,28],[0,1,2,3,4,5,6,7,8,9,10,11,12,13,14,15,16,17,18,19,20,21,22,23,24,25,26,27,28,29]]
theorem KJd:Vg Go.Proofs.Tryz.f6 5 KIo KIp KIq=true:=by kernel_rfl
theorem KIr:Gi 31 KIo KIp KIq [0,1,3,4,12,4,52,84,132,320,512,512,3584,4608,8704,20480,32768,32768,229376,294912,557056,1048576,1048576,7340032,9437184,17825792,41943040,67108864,67108864,469762048,603979776] [0,1,2,4,12,4,36,84,132,256,512,512,3584,4608,8704,16384,32768,32768,229376,294912,524288,1048576,1048576,7340032,9437184,17825792,33554432,67108864,67108864,469762048,603979776] [0,1,3,7,15,7,63,127,255,511,1023,1023,4095,8191,16383,32767,65535,65535,262143,524287,1048575,2097151,2097151,8388607,16777215,33554431,67108863,134217727,134217727,536870911,1073741823]=true:=by kernel_rfl
def UZ (x0:Array Value) (x1:Sl) (x2:Int) (x3:ByteArray):M (Bool):=do
 let Xx2←mkB KJ x0
 let Xx4←Xy x1
 let Xx5←mkB KJ (#[.int .i64 0,.int .i64 0,.string ByteArray.empty,.slice none 0 0]:Array Value)
 M.need (Xx4.1.size=4)
 stG Xx5 Xx4.1
 let Xx8←VO x1
 let Xx9←mkB KJ (#[.int .i64 0,.int .i64 0,.string ByteArray.empty,.slice none 0 0]:Array Value)
 M.need (Xx8.1.size=4)
 stG Xx9 Xx8.1
 let Xx12←Xw x1
 let Xx13←mkB KJ (#[.int .i64 0,.int .i64 0,.string ByteArray.empty,.slice none 0 0]:Array Value)
 M.need (Xx12.1.size=4)
 stG Xx13 Xx12.1
 let Xx16←Vo x1
 let Xx17←mkB KJ (#[.int .i64 0,.int .i64 0,.string ByteArray.empty,.slice none 0 0]:Array Value)
 M.need (Xx16.1.size=4)
 stG Xx17 Xx16.1
 let Xx44←U8
 M.ite (!Xx44) (do
  Kz x2 x3 true
  ) (do
  let Xx46←ldG 4 Xx2
  let Xx47←ldG 4 Xx2
  let Xx48←WP Xx46
  chk (fun h:Heap=>(Xx46.size=4∧∀ i,i < 4→KV h (Addr.add Xx2 i)=Xx46[i]?)∧(Xx47.size=4∧∀ i,i < 4→KV h (Addr.add Xx2 i)=Xx47[i]?))
  let Xx49←Ub Xx47
  M.ite (Xx48 != Xx49) (do
   Kz x2 x3 true
   ) (do
   let Xx51←ldG 4 Xx5
   let Xx52←ldG 4 Xx9
   let Xx53←ZY Xx51 Xx52
   M.ite (!Xx53) (do
    Kz x2 x3 true
    ) (do
    M.ite (Xx4.2 != Xx8.2) (do
     Kz x2 x3 true
     ) (do
     let Xx56←ldG 4 Xx13
     let Xx57←ldG 4 Xx17
     let Xx58←ZY Xx56 Xx57
     M.ite (!Xx58) (do
      Kz x2 x3 true
      ) (do
      Kz x2 x3 (Xx12.2 != Xx16.2)
      )
     )
    )
   )
  )
theorem Xi (x0:Array Value) (x1:Sl) (x2:Int) (x3:ByteArray):ZK Go.Proofs.Tryz.prog 6 #[.agg x0,(x1:Sl).v,.int .i64 x2,.string x3] (fun (r:Bool)=>.bool r) (UZ x0 x1 x2 x3):=by
 refine KY [(0,.agg x0),(1,(x1:Sl).v),(2,.int .i64 x2),(3,.string x3)] Go.Proofs.Tryz.func6 rfl rfl (Nat.le_of_ble_eq_true rfl) (Ke ⟨rfl,rfl,rfl,rfl,trivial⟩) (fun w0 w Q R a hret hE hR H=>?_)
 unfold UZ at H
 refine KH (fun K hK_1=>?_)
 refine KC ?_
 obtain ⟨Xx2,qXx2,H⟩:=H
 refine ZR (v:=.pointer (some Xx2)) rfl rfl hE rfl hR (YP hE rfl qXx2) (fun a w hE hR hh=>?_)
 replace H:=M.at hh H; clear hh
 refine KB (v:=.bool false) rfl rfl hE rfl (KE hE rfl) (fun a hE=>?_)
 refine KG ?_
 refine hK_1 _ _ ?_
 refine KH (fun K hK_3=>?_)
 refine KC ?_
 refine KB (v:=(x1:Sl).v) rfl rfl hE rfl (KD hE rfl) (fun a hE=>?_)
 refine KZ hE hR KBD rfl (KBq x1) (M.unbind H) (fun Xx4 a w ea hR H=>?_)
 have hE:=Env.put_some hE rfl ea; clear ea
 refine KB (v:=.tuple #[.agg Xx4.1,.int .i64 Xx4.2]) rfl rfl hE rfl (KD hE rfl) (fun a hE=>?_)
 refine KB (v:=.agg Xx4.1) rfl rfl hE rfl (ZF hE rfl rfl) (fun a hE=>?_)
 refine KB (v:=.int .i64 Xx4.2) rfl rfl hE rfl (ZF hE rfl rfl) (fun a hE=>?_)
 obtain ⟨Xx5,qXx5,H⟩:=H
 refine ZR (v:=.pointer (some Xx5)) rfl rfl hE rfl hR (Z4 zr24 qXx5) (fun a w hE hR hh=>?_)
 replace H:=M.at hh H; clear hh
 obtain ⟨qz,H⟩:=H
 obtain ⟨u_6,qu_6,H⟩:=H
 refine JI rfl rfl hE hR (Kv hE rfl rfl sz24 qz qu_6) (fun a w hE hR hh=>?_)
 replace H:=M.at hh H; clear hh
 refine KB (v:=.int .i64 Xx4.2) rfl rfl hE rfl (KE hE rfl) (fun a hE=>?_)
 refine KG ?_
 refine hK_3 _ _ ?_
 refine KH (fun K hK_7=>?_)
 refine KC ?_
 refine KB (v:=(x1:Sl).v) rfl rfl hE rfl (KD hE rfl) (fun a hE=>?_)
 refine KZ hE hR Nk rfl (qO x1) (M.unbind H) (fun Xx8 a w ea hR H=>?_)
 have hE:=Env.put_some hE rfl ea; clear ea
 refine KB (v:=.tuple #[.agg Xx8.1,.int .i64 Xx8.2]) rfl rfl hE rfl (KD hE rfl) (fun a hE=>?_)
 refine KB (v:=.agg Xx8.1) rfl rfl hE rfl (ZF hE rfl rfl) (fun a hE=>?_)
 refine KB (v:=.int .i64 Xx8.2) rfl rfl hE rfl (ZF hE rfl rfl) (fun a hE=>?_)
 obtain ⟨Xx9,qXx9,H⟩:=H
 refine ZR (v:=.pointer (some Xx9)) rfl rfl hE rfl hR (Z4 zr24 qXx9) (fun a w hE hR hh=>?_)
 replace H:=M.at hh H; clear hh
 obtain ⟨qz,H⟩:=H
 obtain ⟨u_10,qu_10,H⟩:=H
 refine JI rfl rfl hE hR (Kv hE rfl rfl sz24 qz qu_10) (fun a w hE hR hh=>?_)
 replace H:=M.at hh H; clear hh
 refine KB (v:=.int .i64 Xx8.2) rfl rfl hE rfl (KE hE rfl) (fun a hE=>?_)
 refine KG ?_
 refine hK_7 _ _ ?_
 refine KH (fun K hK_11=>?_)
 refine KC ?_
 refine KB (v:=(x1:Sl).v) rfl rfl hE rfl (KD hE rfl) (fun a hE=>?_)
 refine KZ hE hR zB rfl (zn x1) (M.unbind H) (fun Xx12 a w ea hR H=>?_)
 have hE:=Env.put_some hE rfl ea; clear ea
 refine KB (v:=.tuple #[.agg Xx12.1,.int .i64 Xx12.2]) rfl rfl hE rfl (KD hE rfl) (fun a hE=>?_)
 refine KB (v:=.agg Xx12.1) rfl rfl hE rfl (ZF hE rfl rfl) (fun a hE=>?_)
 refine KB (v:=.int .i64 Xx12.2) rfl rfl hE rfl (ZF hE rfl rfl) (fun a hE=>?_)
 obtain ⟨Xx13,qXx13,H⟩:=H
 refine ZR (v:=.pointer (some Xx13)) rfl rfl hE rfl hR (Z4 zr24 qXx13) (fun a w hE hR hh=>?_)
 replace H:=M.at hh H; clear hh
 obtain ⟨qz,H⟩:=H
 obtain ⟨u_14,qu_14,H⟩:=H
 refine JI rfl rfl hE hR (Kv hE rfl rfl sz24 qz qu_14) (fun a w hE hR hh=>?_)
 replace H:=M.at hh H; clear hh
 refine KB (v:=.int .i64 Xx12.2) rfl rfl hE rfl (KE hE rfl) (fun a hE=>?_)
 refine KG ?_
 refine hK_11 _ _ ?_
 refine KH (fun K hK_15=>?_)
 refine KC ?_
 refine KB (v:=(x1:Sl).v) rfl rfl hE rfl (KD hE rfl) (fun a hE=>?_)
 refine KZ hE hR qE rfl (qn x1) (M.unbind H) (fun Xx16 a w ea hR H=>?_)
 have hE:=Env.put_some hE rfl ea; clear ea
 refine KB (v:=.tuple #[.agg Xx16.1,.int .i64 Xx16.2]) rfl rfl hE rfl (KD hE rfl) (fun a hE=>?_)
 refine KB (v:=.agg Xx16.1) rfl rfl hE rfl (ZF hE rfl rfl) (fun a hE=>?_)
 refine KB (v:=.int .i64 Xx16.2) rfl rfl hE rfl (ZF hE rfl rfl) (fun a hE=>?_)
 obtain ⟨Xx17,qXx17,H⟩:=H
 refine ZR (v:=.pointer (some Xx17)) rfl rfl hE rfl hR (Z4 zr24 qXx17) (fun a w hE hR hh=>?_)
 replace H:=M.at hh H; clear hh
 obtain ⟨qz,H⟩:=H
 obtain ⟨u_18,qu_18,H⟩:=H
 refine JI rfl rfl hE hR (Kv hE rfl rfl sz24 qz qu_18) (fun a w hE hR hh=>?_)
 replace H:=M.at hh H; clear hh
 refine KB (v:=.int .i64 Xx16.2) rfl rfl hE rfl (KE hE rfl) (fun a hE=>?_)
 refine KG ?_
 refine hK_15 _ _ ?_
 refine KH (fun K hK_19=>?_)
 refine Ku (fun a w=>∃ (Xx20:Bool),Env (⟨103,[]⟩:Frm) a [(2,.int .i64 x2),(3,.string x3),(67,.bool Xx20)]∧Rest w0 w∧(Kz x2 x3 Xx20).wp w.heap Q) ?_ ?_
 ·rintro a w ⟨Xx20,hE,hR,H⟩
  unfold Kz at H
  refine KS Xx20 hE rfl (fun hb=>?_) (fun hb=>?_)
  ·replace H:=M.ite_t hb H
   refine KH (fun K hK_23=>?_)
   refine KC ?_
   refine KB (v:=.bool false) rfl rfl hE rfl (KE hE rfl) (fun a hE=>?_)
   refine KG ?_
   refine hK_23 _ _ ?_
   refine Kg ?_
   exact hret _ _ _ false _ hE hR (KM hE rfl (RV.tmp rfl RV.nil)) rfl H
  ·replace H:=M.ite_f hb H
   refine Ka ?_
   refine hK_19 _ _ ?_
   refine KH (fun K hK_24=>?_)
   refine KC ?_
   refine KB (v:=.int .i64 x2) rfl rfl hE rfl (KD hE rfl) (fun a hE=>?_)
   refine KZ hE hR Gq rfl (Nq x2) (M.unbind H) (fun Xx25 a w ea hR H=>?_)
   have hE:=Env.put_some hE rfl ea; clear ea
   refine KB (v:=.int .i64 x2) rfl rfl hE rfl (KD hE rfl) (fun a hE=>?_)
   refine KZ hE hR qD rfl (qo x2) (M.unbind H) (fun Xx26 a w ea hR H=>?_)
   have hE:=Env.put_some hE rfl ea; clear ea
   refine KZ hE hR JO rfl (Ja Xx25 Xx26) (M.unbind H) (fun Xx27 a w ea hR H=>?_)
   have hE:=Env.put_some hE rfl ea; clear ea
   refine KB (v:=.bool Xx27) rfl rfl hE rfl (KD hE rfl) (fun a hE=>?_)
   refine J5 (n:=(⟨103,[]⟩:Frm)) (w0:=w0) 6 (fun Xx28:Bool=>[(2,.int .i64 x2),(79,.bool Xx28)]) (M.unbind H) (fun Kr hKr H=>?_) ?_
   ·rcases Kq Xx27 with hb | hb
    ·replace H:=M.ite_t hb H
     have hE:=hE.reb 73 Xx27 true hb rfl
     refine t_on rfl hE rfl rfl rfl ?_
     refine KB (v:=.string x3) rfl rfl hE rfl (KD hE rfl) (fun a hE=>?_)
     refine t_on rfl hE rfl rfl rfl ?_
     refine KZ hE hR XU rfl (GL x3) (M.unbind H) (fun Xx29 a w ea hR H=>?_)
     have hE:=Env.put_some hE rfl ea; clear ea
     refine t_on rfl hE rfl rfl rfl ?_
     refine KB (v:=.string x3) rfl rfl hE rfl (KD hE rfl) (fun a hE=>?_)
     refine t_on rfl hE rfl rfl rfl ?_
     refine KZ hE hR qF rfl (qp x3) (M.unbind H) (fun Xx30 a w ea hR H=>?_)
     have hE:=Env.put_some hE rfl ea; clear ea
     refine t_on rfl hE rfl rfl rfl ?_
     refine KZ hE hR JO rfl (Ja Xx29 Xx30) (M.unbind H) (fun Xx31 a w ea hR H=>?_)
     have hE:=Env.put_some hE rfl ea; clear ea
     refine KB rfl rfl hE rfl (Kc hE rfl rfl) (fun a hE=>?_)
     refine KG ?_
     exact hKr _ _ _ (hE.cut (.cons rfl (.cons rfl Subs.nil))) hR H
    ·replace H:=M.ite_f hb H
     have hE:=hE.reb 73 Xx27 false hb rfl
     refine Kf rfl hE rfl rfl rfl (fun a ea=>?_)
     have hE:=Env.put_some hE rfl ea; clear ea
     refine Kf rfl hE rfl rfl rfl (fun a ea=>?_)
     have hE:=Env.put_some hE rfl ea; clear ea
     refine Kf rfl hE rfl rfl rfl (fun a ea=>?_)
     have hE:=Env.put_some hE rfl ea; clear ea
     refine Kf rfl hE rfl rfl rfl (fun a ea=>?_)
     have hE:=Env.put_some hE rfl ea; clear ea
     refine Kf rfl hE rfl rfl rfl (fun a ea=>?_)
     have hE:=Env.put_some hE rfl ea; clear ea
     refine KB rfl rfl hE rfl (Kd hE rfl rfl) (fun a hE=>?_)
     refine KG ?_
     exact hKr _ _ _ (hE.cut (.cons rfl (.cons rfl Subs.nil))) hR H
   ·intro Xx28 a w hE hR H
    refine KB (v:=.bool Xx28) rfl rfl hE rfl (KD hE rfl) (fun a hE=>?_)
    refine J5 (n:=(⟨103,[]⟩:Frm)) (w0:=w0) 6 (fun Xx32:Bool=>[(2,.int .i64 x2),(86,.bool Xx32)]) (M.unbind H) (fun Kr hKr H=>?_) ?_
    ·rcases Kq Xx28 with hb | hb
     ·replace H:=M.ite_t hb H
      have hE:=hE.reb 80 Xx28 true hb rfl
      refine t_on rfl hE rfl rfl rfl ?_
      refine KB (v:=.int .i64 x2) rfl rfl hE rfl (KD hE rfl) (fun a hE=>?_)
      refine t_on rfl hE rfl rfl rfl ?_
      refine KZ hE hR zj rfl (KAO x2) (M.unbind H) (fun Xx33 a w ea hR H=>?_)
      have hE:=Env.put_some hE rfl ea; clear ea
      refine t_on rfl hE rfl rfl rfl ?_
      refine KB (v:=.int .i64 x2) rfl rfl hE rfl (KD hE rfl) (fun a hE=>?_)
      refine t_on rfl hE rfl rfl rfl ?_
      refine KZ hE hR Gn rfl (NO x2) (M.unbind H) (fun Xx34 a w ea hR H=>?_)
      have hE:=Env.put_some hE rfl ea; clear ea
      refine t_on rfl hE rfl rfl rfl ?_
      refine KZ hE hR JO rfl (Ja Xx33 Xx34) (M.unbind H) (fun Xx35 a w ea hR H=>?_)
      have hE:=Env.put_some hE rfl ea; clear ea
      refine KB rfl rfl hE rfl (Kc hE rfl rfl) (fun a hE=>?_)
      refine KG ?_
      exact hKr _ _ _ (hE.cut (.cons rfl (.cons rfl Subs.nil))) hR H
     ·replace H:=M.ite_f hb H
      have hE:=hE.reb 80 Xx28 false hb rfl
      refine Kf rfl hE rfl rfl rfl (fun a ea=>?_)
      have hE:=Env.put_some hE rfl ea; clear ea
      refine Kf rfl hE rfl rfl rfl (fun a ea=>?_)
      have hE:=Env.put_some hE rfl ea; clear ea
      refine Kf rfl hE rfl rfl rfl (fun a ea=>?_)
      have hE:=Env.put_some hE rfl ea; clear ea
      refine Kf rfl hE rfl rfl rfl (fun a ea=>?_)
      have hE:=Env.put_some hE rfl ea; clear ea
      refine Kf rfl hE rfl rfl rfl (fun a ea=>?_)
      have hE:=Env.put_some hE rfl ea; clear ea
      refine KB rfl rfl hE rfl (Kd hE rfl rfl) (fun a hE=>?_)
      refine KG ?_
      exact hKr _ _ _ (hE.cut (.cons rfl (.cons rfl Subs.nil))) hR H
    ·intro Xx32 a w hE hR H
     refine KB (v:=.bool Xx32) rfl rfl hE rfl (KD hE rfl) (fun a hE=>?_)
     refine J5 (n:=(⟨103,[]⟩:Frm)) (w0:=w0) 6 (fun Xx36:Bool=>[(2,.int .i64 x2),(93,.bool Xx36)]) (M.unbind H) (fun Kr hKr H=>?_) ?_
     ·rcases Kq Xx32 with hb | hb
      ·replace H:=M.ite_t hb H
       have hE:=hE.reb 87 Xx32 true hb rfl
       refine t_on rfl hE rfl rfl rfl ?_
       refine KB (v:=.int .i64 x2) rfl rfl hE rfl (KD hE rfl) (fun a hE=>?_)
       refine t_on rfl hE rfl rfl rfl ?_
       refine KZ hE hR KBC rfl (KBr x2) (M.unbind H) (fun Xx37 a w ea hR H=>?_)
       have hE:=Env.put_some hE rfl ea; clear ea
       refine t_on rfl hE rfl rfl rfl ?_
       refine KB (v:=.int .i64 x2) rfl rfl hE rfl (KD hE rfl) (fun a hE=>?_)
       refine t_on rfl hE rfl rfl rfl ?_
       refine KZ hE hR Nj rfl (qP x2) (M.unbind H) (fun Xx38 a w ea hR H=>?_)
       have hE:=Env.put_some hE rfl ea; clear ea
       refine t_on rfl hE rfl rfl rfl ?_
       refine KZ hE hR JO rfl (Ja Xx37 Xx38) (M.unbind H) (fun Xx39 a w ea hR H=>?_)
       have hE:=Env.put_some hE rfl ea; clear ea
       refine KB rfl rfl hE rfl (Kc hE rfl rfl) (fun a hE=>?_)
       refine KG ?_
       exact hKr _ _ _ (hE.cut (.cons rfl (.cons rfl Subs.nil))) hR H
      ·replace H:=M.ite_f hb H
       have hE:=hE.reb 87 Xx32 false hb rfl
       refine Kf rfl hE rfl rfl rfl (fun a ea=>?_)
       have hE:=Env.put_some hE rfl ea; clear ea
       refine Kf rfl hE rfl rfl rfl (fun a ea=>?_)
       have hE:=Env.put_some hE rfl ea; clear ea
       refine Kf rfl hE rfl rfl rfl (fun a ea=>?_)
       have hE:=Env.put_some hE rfl ea; clear ea
       refine Kf rfl hE rfl rfl rfl (fun a ea=>?_)
       have hE:=Env.put_some hE rfl ea; clear ea
       refine Kf rfl hE rfl rfl rfl (fun a ea=>?_)
       have hE:=Env.put_some hE rfl ea; clear ea
       refine KB rfl rfl hE rfl (Kd hE rfl rfl) (fun a hE=>?_)
       refine KG ?_
       exact hKr _ _ _ (hE.cut (.cons rfl (.cons rfl Subs.nil))) hR H
     ·intro Xx36 a w hE hR H
      refine KB (v:=.bool Xx36) rfl rfl hE rfl (KD hE rfl) (fun a hE=>?_)
      refine J5 (n:=(⟨103,[]⟩:Frm)) (w0:=w0) 8 (fun Xx40:Bool=>[(102,.bool Xx40)]) (M.unbind H) (fun Kr hKr H=>?_) ?_
      ·rcases Kq Xx36 with hb | hb
       ·replace H:=M.ite_t hb H
        have hE:=hE.reb 94 Xx36 true hb rfl
        refine t_on rfl hE rfl rfl rfl ?_
        refine KB (v:=.int .i64 x2) rfl rfl hE rfl (KD hE rfl) (fun a hE=>?_)
        refine t_on rfl hE rfl rfl rfl ?_
        refine KB (v:=.bool (decide (x2 > 0))) rfl rfl hE rfl (KL hE rfl rfl KN YI) (fun a hE=>?_)
        refine t_on rfl hE rfl rfl rfl ?_
        refine KZ hE hR Ym rfl (XY (decide (x2 > 0))) (M.unbind H) (fun Xx41 a w ea hR H=>?_)
        have hE:=Env.put_some hE rfl ea; clear ea
        refine t_on rfl hE rfl rfl rfl ?_
        refine KB (v:=.int .i64 x2) rfl rfl hE rfl (KD hE rfl) (fun a hE=>?_)
        refine t_on rfl hE rfl rfl rfl ?_
        refine KB (v:=.bool (decide (x2 > 0))) rfl rfl hE rfl (KL hE rfl rfl KN YI) (fun a hE=>?_)
        refine t_on rfl hE rfl rfl rfl ?_
        refine KZ hE hR Ni rfl (qQ (decide (x2 > 0))) (M.unbind H) (fun Xx42 a w ea hR H=>?_)
        have hE:=Env.put_some hE rfl ea; clear ea
        refine t_on rfl hE rfl rfl rfl ?_
        refine KZ hE hR JO rfl (Ja Xx41 Xx42) (M.unbind H) (fun Xx43 a w ea hR H=>?_)
        have hE:=Env.put_some hE rfl ea; clear ea
        refine KB rfl rfl hE rfl (Kc hE rfl rfl) (fun a hE=>?_)
        refine KG ?_
        exact hKr _ _ _ (hE.cut (.cons rfl Subs.nil)) hR H
       ·replace H:=M.ite_f hb H
        have hE:=hE.reb 94 Xx36 false hb rfl
        refine Kf rfl hE rfl rfl rfl (fun a ea=>?_)
        have hE:=Env.put_some hE rfl ea; clear ea
        refine Kf rfl hE rfl rfl rfl (fun a ea=>?_)
        have hE:=Env.put_some hE rfl ea; clear ea
        refine Kf rfl hE rfl rfl rfl (fun a ea=>?_)
        have hE:=Env.put_some hE rfl ea; clear ea
        refine Kf rfl hE rfl rfl rfl (fun a ea=>?_)
        have hE:=Env.put_some hE rfl ea; clear ea
        refine Kf rfl hE rfl rfl rfl (fun a ea=>?_)
        have hE:=Env.put_some hE rfl ea; clear ea
        refine Kf rfl hE rfl rfl rfl (fun a ea=>?_)
        have hE:=Env.put_some hE rfl ea; clear ea
        refine Kf rfl hE rfl rfl rfl (fun a ea=>?_)
        have hE:=Env.put_some hE rfl ea; clear ea
        refine KB rfl rfl hE rfl (Kd hE rfl rfl) (fun a hE=>?_)
        refine KG ?_
        exact hKr _ _ _ (hE.cut (.cons rfl Subs.nil)) hR H
      ·intro Xx40 a w hE hR H
       refine KB (v:=.bool Xx40) rfl rfl hE rfl (KE hE rfl) (fun a hE=>?_)
       refine KG ?_
       refine hK_24 _ _ ?_
       refine Kg ?_
       exact hret _ _ _ Xx40 _ hE hR (KM hE rfl (RV.tmp rfl RV.nil)) rfl H
 ·skip
  refine VL (rops:=KIn) (by kernel_rfl) ?_
  have hT:Tab KIn _ _ _:=Jf KJd rfl (by kernel_rfl)
  have hM:=TabM.of KIr
  refine Zq (m:=31) (fun w:World=>(fun h:Heap=>True) w.heap) [0,1,2,3,4,5,6,7,8,9,10,11,12,13,14,15,16,17,18,19,20,21,22,23,24,25,26,27,28,29,30] (unb 31 0) mo hR (by kernel_rfl) (by kernel_rfl) (fun w' e=>by rw [e]; exact trivial) (fun w hh hR hs=>?_)
  replace H:=M.at hh H; clear hh
  refine WM (i:=0) (unb 31 1) rfl rfl rfl hT (oneM hM (by kernel_rfl)) rfl hE hR (KA rfl) NL rfl (Nr ) (M.unbind H) (fun Xx44 a w ea hR H=>?_)
  have hE:=Env.put_some hE rfl ea; clear ea
  rcases Kq (!Xx44) with hb_45 | hb_45
  ·replace H:=M.ite_t hb_45 H
   refine KF (i:=1) (v:=.bool (!Xx44)) (unb 31 3) rfl rfl hT (anyM hM (by kernel_rfl)) hE rfl (KA rfl) (fun w=>r_un hE rfl GB) (fun a hE=>?_)
   refine KF (i:=2) (v:=.bool (!Xx44)) (unb 31 7) rfl rfl hT (anyM hM (by kernel_rfl)) hE rfl (KA rfl) (fun w=>KD hE rfl) (fun a hE=>?_)
   have hE:=hE.reb 39 (!Xx44) true hb_45 rfl
   replace hE:=hE.cut (l':=[(2,.int .i64 x2),(3,.string x3),(4,.pointer (some Xx2)),(9,.pointer (some Xx5)),(10,.int .i64 Xx4.2),(11,.pointer (some Xx9)),(12,.int .i64 Xx8.2),(13,.pointer (some Xx13)),(14,.int .i64 Xx12.2),(15,.pointer (some Xx17)),(16,.int .i64 Xx16.2),(39,.bool true)]) (.cons rfl (.cons rfl (.cons rfl (.cons rfl (.cons rfl (.cons rfl (.cons rfl (.cons rfl (.cons rfl (.cons rfl (.cons rfl (.cons rfl Subs.nil))))))))))))
   refine Js [(3,some 40),(4,some 41),(5,some 42),(6,some 43),(7,some 44)] 23 hT hM hE (by kernel_rfl) (m':=255) (by kernel_rfl) (fun a hE=>?_)
   refine KF (i:=8) (v:=.bool true) (unb 31 511) rfl rfl hT (anyM hM (by kernel_rfl)) hE rfl (KA rfl) (fun w=>Kc hE rfl rfl) (fun a hE=>?_)
   refine KF (i:=9) (v:=.bool true) (unb 31 1023) rfl rfl hT (anyM hM (by kernel_rfl)) hE rfl (KA rfl) (fun w=>KD hE rfl) (fun a hE=>?_)
   refine Js [(10,some 47),(11,some 48),(12,some 49),(13,some 50)] 17 hT hM hE (by kernel_rfl) (m':=16383) (by kernel_rfl) (fun a hE=>?_)
   refine KF (i:=14) (v:=.bool true) (unb 31 32767) rfl rfl hT (anyM hM (by kernel_rfl)) hE rfl (KA rfl) (fun w=>Kc hE rfl rfl) (fun a hE=>?_)
   refine KF (i:=15) (v:=.bool true) (unb 31 65535) rfl rfl hT (anyM hM (by kernel_rfl)) hE rfl (KA rfl) (fun w=>KD hE rfl) (fun a hE=>?_)
   refine Js [(16,some 53),(17,some 54),(18,some 55)] 12 hT hM hE (by kernel_rfl) (m':=524287) (by kernel_rfl) (fun a hE=>?_)
   refine KF (i:=19) (v:=.bool true) (unb 31 1048575) rfl rfl hT (anyM hM (by kernel_rfl)) hE rfl (KA rfl) (fun w=>Kc hE rfl rfl) (fun a hE=>?_)
   refine KF (i:=20) (v:=.bool true) (unb 31 2097151) rfl rfl hT (anyM hM (by kernel_rfl)) hE rfl (KA rfl) (fun w=>KD hE rfl) (fun a hE=>?_)
   refine Js [(21,some 58),(22,some 59),(23,some 60),(24,some 61)] 6 hT hM hE (by kernel_rfl) (m':=33554431) (by kernel_rfl) (fun a hE=>?_)
   refine KF (i:=25) (v:=.bool true) (unb 31 67108863) rfl rfl hT (anyM hM (by kernel_rfl)) hE rfl (KA rfl) (fun w=>Kc hE rfl rfl) (fun a hE=>?_)
   refine KF (i:=26) (v:=.bool true) (unb 31 134217727) rfl rfl hT (anyM hM (by kernel_rfl)) hE rfl (KA rfl) (fun w=>KD hE rfl) (fun a hE=>?_)
   refine Js [(27,some 64),(28,some 65),(29,some 66)] 1 hT hM hE (by kernel_rfl) (m':=1073741823) (by kernel_rfl) (fun a hE=>?_)
   refine KF (i:=30) (v:=.bool true) (unb 31 2147483647) rfl rfl hT (anyM hM (by kernel_rfl)) hE rfl (KA rfl) (fun w=>Kc hE rfl rfl) (fun a hE=>?_)
   refine JM hT (Wa hM (by kernel_rfl)) ?_
   exact ⟨true,hE.cut (.cons rfl (.cons rfl (.cons rfl Subs.nil))),hR,H⟩
  ·replace H:=M.ite_f hb_45 H
   obtain ⟨Xx46,qXx46,H⟩:=H
   obtain ⟨Xx47,qXx47,H⟩:=H
   refine KAx (fun w:World=>(fun h:Heap=>(Xx46.size=4∧∀ i,i < 4→KV h (Addr.add Xx2 i)=Xx46[i]?)∧(Xx47.size=4∧∀ i,i < 4→KV h (Addr.add Xx2 i)=Xx47[i]?)) w.heap) [6,7,8,9,10,11,12,13,14,15,16,17,18,19,20,21,22,23,24,25,26,27,28,29,30] (KED hT hM (by kernel_rfl)) ?_
   have hs:(fun h:Heap=>(Xx46.size=4∧∀ i,i < 4→KV h (Addr.add Xx2 i)=Xx46[i]?)∧(Xx47.size=4∧∀ i,i < 4→KV h (Addr.add Xx2 i)=Xx47[i]?)) w.heap:=⟨qXx46,qXx47⟩
   refine KF (i:=1) (v:=.bool (!Xx44)) (unb 31 3) rfl rfl hT (anyM hM (by kernel_rfl)) hE rfl (KA rfl) (fun w=>r_un hE rfl GB) (fun a hE=>?_)
   refine KF (i:=2) (v:=.bool (!Xx44)) (unb 31 7) rfl rfl hT (anyM hM (by kernel_rfl)) hE rfl (KA rfl) (fun w=>KD hE rfl) (fun a hE=>?_)
   have hE:=hE.reb 39 (!Xx44) false hb_45 rfl
   replace hE:=hE.cut (l':=[(2,.int .i64 x2),(3,.string x3),(4,.pointer (some Xx2)),(9,.pointer (some Xx5)),(10,.int .i64 Xx4.2),(11,.pointer (some Xx9)),(12,.int .i64 Xx8.2),(13,.pointer (some Xx13)),(14,.int .i64 Xx12.2),(15,.pointer (some Xx17)),(16,.int .i64 Xx16.2),(39,.bool false)]) (.cons rfl (.cons rfl (.cons rfl (.cons rfl (.cons rfl (.cons rfl (.cons rfl (.cons rfl (.cons rfl (.cons rfl (.cons rfl (.cons rfl Subs.nil))))))))))))
   refine Kt (i:=3) (v:=.agg Xx46) (unb 31 15) rfl rfl hT (UB hM (by kernel_rfl)) hE rfl (KP rfl hE rfl rfl rfl) hs (fun w s=>ZN hE rfl ag24 s.1) (fun a hE=>?_)
   refine Kt (i:=5) (v:=.agg Xx47) (unb 31 47) rfl rfl hT (UB hM (by kernel_rfl)) hE rfl (KP rfl hE rfl rfl rfl) hs (fun w s=>ZN hE rfl ag24 s.2) (fun a hE=>?_)
   refine KAW (i:=4) (unb 31 63) rfl rfl rfl hT (oneM hM (by kernel_rfl)) rfl hE hR (KP rfl hE rfl rfl rfl) Xg rfl (GJ Xx46) (M.unbind H) (fun r h H w' e=>by obtain ⟨_,sA,H⟩:=H; rw [e]; exact sA) (fun Xx48 a w ea hR H hs=>?_)
   obtain ⟨_,sA,H⟩:=H; clear sA
   have hE:=Env.put_some hE rfl ea; clear ea
   refine WM (i:=6) (unb 31 127) rfl rfl rfl hT (oneM hM (by kernel_rfl)) rfl hE hR (KP rfl hE rfl rfl rfl) Yd rfl (XD Xx47) (M.unbind H) (fun Xx49 a w ea hR H=>?_)
   have hE:=Env.put_some hE rfl ea; clear ea
   rcases Kq (Xx48 != Xx49) with hb_50 | hb_50
   ·replace H:=M.ite_t hb_50 H
    refine KF (i:=7) (v:=.bool (Xx48 != Xx49)) (unb 31 255) rfl rfl hT (anyM hM (by kernel_rfl)) hE rfl (KP rfl hE rfl rfl rfl) (fun w=>KL hE rfl rfl KN Yi) (fun a hE=>?_)
    refine KF (i:=8) (v:=.bool (Xx48 != Xx49)) (unb 31 511) rfl rfl hT (anyM hM (by kernel_rfl)) hE rfl (KA rfl) (fun w=>Kd hE rfl rfl) (fun a hE=>?_)
    refine KF (i:=9) (v:=.bool (Xx48 != Xx49)) (unb 31 1023) rfl rfl hT (anyM hM (by kernel_rfl)) hE rfl (KA rfl) (fun w=>KD hE rfl) (fun a hE=>?_)
    have hE:=hE.reb 46 (Xx48 != Xx49) true hb_50 rfl
    replace hE:=hE.cut (l':=[(2,.int .i64 x2),(3,.string x3),(9,.pointer (some Xx5)),(10,.int .i64 Xx4.2),(11,.pointer (some Xx9)),(12,.int .i64 Xx8.2),(13,.pointer (some Xx13)),(14,.int .i64 Xx12.2),(15,.pointer (some Xx17)),(16,.int .i64 Xx16.2),(46,.bool true)]) (.cons rfl (.cons rfl (.cons rfl (.cons rfl (.cons rfl (.cons rfl (.cons rfl (.cons rfl (.cons rfl (.cons rfl (.cons rfl Subs.nil)))))))))))
    refine Js [(10,some 47),(11,some 48),(12,some 49),(13,some 50)] 17 hT hM hE (by kernel_rfl) (m':=16383) (by kernel_rfl) (fun a hE=>?_)
    refine KF (i:=14) (v:=.bool true) (unb 31 32767) rfl rfl hT (anyM hM (by kernel_rfl)) hE rfl (KA rfl) (fun w=>Kc hE rfl rfl) (fun a hE=>?_)
    refine KF (i:=15) (v:=.bool true) (unb 31 65535) rfl rfl hT (anyM hM (by kernel_rfl)) hE rfl (KA rfl) (fun w=>KD hE rfl) (fun a hE=>?_)
    refine Js [(16,some 53),(17,some 54),(18,some 55)] 12 hT hM hE (by kernel_rfl) (m':=524287) (by kernel_rfl) (fun a hE=>?_)
    refine KF (i:=19) (v:=.bool true) (unb 31 1048575) rfl rfl hT (anyM hM (by kernel_rfl)) hE rfl (KA rfl) (fun w=>Kc hE rfl rfl) (fun a hE=>?_)
    refine KF (i:=20) (v:=.bool true) (unb 31 2097151) rfl rfl hT (anyM hM (by kernel_rfl)) hE rfl (KA rfl) (fun w=>KD hE rfl) (fun a hE=>?_)
    refine Js [(21,some 58),(22,some 59),(23,some 60),(24,some 61)] 6 hT hM hE (by kernel_rfl) (m':=33554431) (by kernel_rfl) (fun a hE=>?_)
    refine KF (i:=25) (v:=.bool true) (unb 31 67108863) rfl rfl hT (anyM hM (by kernel_rfl)) hE rfl (KA rfl) (fun w=>Kc hE rfl rfl) (fun a hE=>?_)
    refine KF (i:=26) (v:=.bool true) (unb 31 134217727) rfl rfl hT (anyM hM (by kernel_rfl)) hE rfl (KA rfl) (fun w=>KD hE rfl) (fun a hE=>?_)
    refine Js [(27,some 64),(28,some 65),(29,some 66)] 1 hT hM hE (by kernel_rfl) (m':=1073741823) (by kernel_rfl) (fun a hE=>?_)
    refine KF (i:=30) (v:=.bool true) (unb 31 2147483647) rfl rfl hT (anyM hM (by kernel_rfl)) hE rfl (KA rfl) (fun w=>Kc hE rfl rfl) (fun a hE=>?_)
    refine JM hT (Wa hM (by kernel_rfl)) ?_
    exact ⟨true,hE.cut (.cons rfl (.cons rfl (.cons rfl Subs.nil))),hR,H⟩
   ·replace H:=M.ite_f hb_50 H
    obtain ⟨Xx51,qXx51,H⟩:=H
    obtain ⟨Xx52,qXx52,H⟩:=H
    refine KAx (fun w:World=>(fun h:Heap=>(Xx51.size=4∧∀ i,i < 4→KV h (Addr.add Xx5 i)=Xx51[i]?)∧(Xx52.size=4∧∀ i,i < 4→KV h (Addr.add Xx9 i)=Xx52[i]?)) w.heap) [12,13,14,15,16,17,18,19,20,21,22,23,24,25,26,27,28,29,30] (KED hT hM (by kernel_rfl)) ?_
    have hs:(fun h:Heap=>(Xx51.size=4∧∀ i,i < 4→KV h (Addr.add Xx5 i)=Xx51[i]?)∧(Xx52.size=4∧∀ i,i < 4→KV h (Addr.add Xx9 i)=Xx52[i]?)) w.heap:=⟨qXx51,qXx52⟩
    refine KF (i:=7) (v:=.bool (Xx48 != Xx49)) (unb 31 255) rfl rfl hT (anyM hM (by kernel_rfl)) hE rfl (KP rfl hE rfl rfl rfl) (fun w=>KL hE rfl rfl KN Yi) (fun a hE=>?_)
    refine KF (i:=8) (v:=.bool (Xx48 != Xx49)) (unb 31 511) rfl rfl hT (anyM hM (by kernel_rfl)) hE rfl (KA rfl) (fun w=>Kd hE rfl rfl) (fun a hE=>?_)
    refine KF (i:=9) (v:=.bool (Xx48 != Xx49)) (unb 31 1023) rfl rfl hT (anyM hM (by kernel_rfl)) hE rfl (KA rfl) (fun w=>KD hE rfl) (fun a hE=>?_)
    have hE:=hE.reb 46 (Xx48 != Xx49) false hb_50 rfl
    replace hE:=hE.cut (l':=[(2,.int .i64 x2),(3,.string x3),(9,.pointer (some Xx5)),(10,.int .i64 Xx4.2),(11,.pointer (some Xx9)),(12,.int .i64 Xx8.2),(13,.pointer (some Xx13)),(14,.int .i64 Xx12.2),(15,.pointer (some Xx17)),(16,.int .i64 Xx16.2),(46,.bool false)]) (.cons rfl (.cons rfl (.cons rfl (.cons rfl (.cons rfl (.cons rfl (.cons rfl (.cons rfl (.cons rfl (.cons rfl (.cons rfl Subs.nil)))))))))))
    refine Kt (i:=10) (v:=.agg Xx51) (unb 31 2047) rfl rfl hT (UB hM (by kernel_rfl)) hE rfl (KP rfl hE rfl rfl rfl) hs (fun w s=>ZN hE rfl ag24 s.1) (fun a hE=>?_)
    refine Kt (i:=11) (v:=.agg Xx52) (unb 31 4095) rfl rfl hT (UB hM (by kernel_rfl)) hE rfl (KP rfl hE rfl rfl rfl) hs (fun w s=>ZN hE rfl ag24 s.2) (fun a hE=>?_)
    refine WM (i:=12) (unb 31 8191) rfl rfl rfl hT (oneM hM (by kernel_rfl)) rfl hE hR (KP rfl hE rfl rfl rfl) JO rfl (Ja Xx51 Xx52) (M.unbind H) (fun Xx53 a w ea hR H=>?_)
    have hE:=Env.put_some hE rfl ea; clear ea
    rcases Kq (!Xx53) with hb_54 | hb_54
    ·replace H:=M.ite_t hb_54 H
     refine KF (i:=13) (v:=.bool (!Xx53)) (unb 31 16383) rfl rfl hT (anyM hM (by kernel_rfl)) hE rfl (KP rfl hE rfl rfl rfl) (fun w=>r_un hE rfl GB) (fun a hE=>?_)
     refine KF (i:=14) (v:=.bool (!Xx53)) (unb 31 32767) rfl rfl hT (anyM hM (by kernel_rfl)) hE rfl (KA rfl) (fun w=>Kd hE rfl rfl) (fun a hE=>?_)
     refine KF (i:=15) (v:=.bool (!Xx53)) (unb 31 65535) rfl rfl hT (anyM hM (by kernel_rfl)) hE rfl (KA rfl) (fun w=>KD hE rfl) (fun a hE=>?_)
     have hE:=hE.reb 52 (!Xx53) true hb_54 rfl
     replace hE:=hE.cut (l':=[(2,.int .i64 x2),(3,.string x3),(10,.int .i64 Xx4.2),(12,.int .i64 Xx8.2),(13,.pointer (some Xx13)),(14,.int .i64 Xx12.2),(15,.pointer (some Xx17)),(16,.int .i64 Xx16.2),(52,.bool true)]) (.cons rfl (.cons rfl (.cons rfl (.cons rfl (.cons rfl (.cons rfl (.cons rfl (.cons rfl (.cons rfl Subs.nil)))))))))
     refine Js [(16,some 53),(17,some 54),(18,some 55)] 12 hT hM hE (by kernel_rfl) (m':=524287) (by kernel_rfl) (fun a hE=>?_)
     refine KF (i:=19) (v:=.bool true) (unb 31 1048575) rfl rfl hT (anyM hM (by kernel_rfl)) hE rfl (KA rfl) (fun w=>Kc hE rfl rfl) (fun a hE=>?_)
     refine KF (i:=20) (v:=.bool true) (unb 31 2097151) rfl rfl hT (anyM hM (by kernel_rfl)) hE rfl (KA rfl) (fun w=>KD hE rfl) (fun a hE=>?_)
     refine Js [(21,some 58),(22,some 59),(23,some 60),(24,some 61)] 6 hT hM hE (by kernel_rfl) (m':=33554431) (by kernel_rfl) (fun a hE=>?_)
     refine KF (i:=25) (v:=.bool true) (unb 31 67108863) rfl rfl hT (anyM hM (by kernel_rfl)) hE rfl (KA rfl) (fun w=>Kc hE rfl rfl) (fun a hE=>?_)
     refine KF (i:=26) (v:=.bool true) (unb 31 134217727) rfl rfl hT (anyM hM (by kernel_rfl)) hE rfl (KA rfl) (fun w=>KD hE rfl) (fun a hE=>?_)
     refine Js [(27,some 64),(28,some 65),(29,some 66)] 1 hT hM hE (by kernel_rfl) (m':=1073741823) (by kernel_rfl) (fun a hE=>?_)
     refine KF (i:=30) (v:=.bool true) (unb 31 2147483647) rfl rfl hT (anyM hM (by kernel_rfl)) hE rfl (KA rfl) (fun w=>Kc hE rfl rfl) (fun a hE=>?_)
     refine JM hT (Wa hM (by kernel_rfl)) ?_
     exact ⟨true,hE.cut (.cons rfl (.cons rfl (.cons rfl Subs.nil))),hR,H⟩
    ·replace H:=M.ite_f hb_54 H
     rcases Kq (Xx4.2 != Xx8.2) with hb_55 | hb_55
     ·replace H:=M.ite_t hb_55 H
      refine KF (i:=13) (v:=.bool (!Xx53)) (unb 31 16383) rfl rfl hT (anyM hM (by kernel_rfl)) hE rfl (KP rfl hE rfl rfl rfl) (fun w=>r_un hE rfl GB) (fun a hE=>?_)
      refine KF (i:=14) (v:=.bool (!Xx53)) (unb 31 32767) rfl rfl hT (anyM hM (by kernel_rfl)) hE rfl (KA rfl) (fun w=>Kd hE rfl rfl) (fun a hE=>?_)
      refine KF (i:=15) (v:=.bool (!Xx53)) (unb 31 65535) rfl rfl hT (anyM hM (by kernel_rfl)) hE rfl (KA rfl) (fun w=>KD hE rfl) (fun a hE=>?_)
      have hE:=hE.reb 52 (!Xx53) false hb_54 rfl
      replace hE:=hE.cut (l':=[(2,.int .i64 x2),(3,.string x3),(10,.int .i64 Xx4.2),(12,.int .i64 Xx8.2),(13,.pointer (some Xx13)),(14,.int .i64 Xx12.2),(15,.pointer (some Xx17)),(16,.int .i64 Xx16.2),(52,.bool false)]) (.cons rfl (.cons rfl (.cons rfl (.cons rfl (.cons rfl (.cons rfl (.cons rfl (.cons rfl (.cons rfl Subs.nil)))))))))
      refine KF (i:=16) (v:=.int .i64 Xx4.2) (unb 31 131071) rfl rfl hT (anyM hM (by kernel_rfl)) hE rfl (KP rfl hE rfl rfl rfl) (fun w=>KD hE rfl) (fun a hE=>?_)
      refine KF (i:=17) (v:=.int .i64 Xx8.2) (unb 31 262143) rfl rfl hT (anyM hM (by kernel_rfl)) hE rfl (KP rfl hE rfl rfl rfl) (fun w=>KD hE rfl) (fun a hE=>?_)
      refine KF (i:=18) (v:=.bool (Xx4.2 != Xx8.2)) (unb 31 524287) rfl rfl hT (anyM hM (by kernel_rfl)) hE rfl (KP rfl hE rfl rfl rfl) (fun w=>KL hE rfl rfl KN Yi) (fun a hE=>?_)
      refine KF (i:=19) (v:=.bool (Xx4.2 != Xx8.2)) (unb 31 1048575) rfl rfl hT (anyM hM (by kernel_rfl)) hE rfl (KA rfl) (fun w=>Kd hE rfl rfl) (fun a hE=>?_)
      refine KF (i:=20) (v:=.bool (Xx4.2 != Xx8.2)) (unb 31 2097151) rfl rfl hT (anyM hM (by kernel_rfl)) hE rfl (KA rfl) (fun w=>KD hE rfl) (fun a hE=>?_)
      have hE:=hE.reb 57 (Xx4.2 != Xx8.2) true hb_55 rfl
      replace hE:=hE.cut (l':=[(2,.int .i64 x2),(3,.string x3),(13,.pointer (some Xx13)),(14,.int .i64 Xx12.2),(15,.pointer (some Xx17)),(16,.int .i64 Xx16.2),(57,.bool true)]) (.cons rfl (.cons rfl (.cons rfl (.cons rfl (.cons rfl (.cons rfl (.cons rfl Subs.nil)))))))
      refine Js [(21,some 58),(22,some 59),(23,some 60),(24,some 61)] 6 hT hM hE (by kernel_rfl) (m':=33554431) (by kernel_rfl) (fun a hE=>?_)
      refine KF (i:=25) (v:=.bool true) (unb 31 67108863) rfl rfl hT (anyM hM (by kernel_rfl)) hE rfl (KA rfl) (fun w=>Kc hE rfl rfl) (fun a hE=>?_)
      refine KF (i:=26) (v:=.bool true) (unb 31 134217727) rfl rfl hT (anyM hM (by kernel_rfl)) hE rfl (KA rfl) (fun w=>KD hE rfl) (fun a hE=>?_)
      refine Js [(27,some 64),(28,some 65),(29,some 66)] 1 hT hM hE (by kernel_rfl) (m':=1073741823) (by kernel_rfl) (fun a hE=>?_)
      refine KF (i:=30) (v:=.bool true) (unb 31 2147483647) rfl rfl hT (anyM hM (by kernel_rfl)) hE rfl (KA rfl) (fun w=>Kc hE rfl rfl) (fun a hE=>?_)
      refine JM hT (Wa hM (by kernel_rfl)) ?_
      exact ⟨true,hE.cut (.cons rfl (.cons rfl (.cons rfl Subs.nil))),hR,H⟩
     ·replace H:=M.ite_f hb_55 H
      obtain ⟨Xx56,qXx56,H⟩:=H
      obtain ⟨Xx57,qXx57,H⟩:=H
      refine KAx (fun w:World=>(fun h:Heap=>(Xx56.size=4∧∀ i,i < 4→KV h (Addr.add Xx13 i)=Xx56[i]?)∧(Xx57.size=4∧∀ i,i < 4→KV h (Addr.add Xx17 i)=Xx57[i]?)) w.heap) [23,24,25,26,27,28,29,30] (KED hT hM (by kernel_rfl)) ?_
      have hs:(fun h:Heap=>(Xx56.size=4∧∀ i,i < 4→KV h (Addr.add Xx13 i)=Xx56[i]?)∧(Xx57.size=4∧∀ i,i < 4→KV h (Addr.add Xx17 i)=Xx57[i]?)) w.heap:=⟨qXx56,qXx57⟩
      refine KF (i:=13) (v:=.bool (!Xx53)) (unb 31 16383) rfl rfl hT (anyM hM (by kernel_rfl)) hE rfl (KP rfl hE rfl rfl rfl) (fun w=>r_un hE rfl GB) (fun a hE=>?_)
      refine KF (i:=14) (v:=.bool (!Xx53)) (unb 31 32767) rfl rfl hT (anyM hM (by kernel_rfl)) hE rfl (KA rfl) (fun w=>Kd hE rfl rfl) (fun a hE=>?_)
      refine KF (i:=15) (v:=.bool (!Xx53)) (unb 31 65535) rfl rfl hT (anyM hM (by kernel_rfl)) hE rfl (KA rfl) (fun w=>KD hE rfl) (fun a hE=>?_)
      have hE:=hE.reb 52 (!Xx53) false hb_54 rfl
      replace hE:=hE.cut (l':=[(2,.int .i64 x2),(3,.string x3),(10,.int .i64 Xx4.2),(12,.int .i64 Xx8.2),(13,.pointer (some Xx13)),(14,.int .i64 Xx12.2),(15,.pointer (some Xx17)),(16,.int .i64 Xx16.2),(52,.bool false)]) (.cons rfl (.cons rfl (.cons rfl (.cons rfl (.cons rfl (.cons rfl (.cons rfl (.cons rfl (.cons rfl Subs.nil)))))))))
      refine KF (i:=16) (v:=.int .i64 Xx4.2) (unb 31 131071) rfl rfl hT (anyM hM (by kernel_rfl)) hE rfl (KP rfl hE rfl rfl rfl) (fun w=>KD hE rfl) (fun a hE=>?_)
      refine KF (i:=17) (v:=.int .i64 Xx8.2) (unb 31 262143) rfl rfl hT (anyM hM (by kernel_rfl)) hE rfl (KP rfl hE rfl rfl rfl) (fun w=>KD hE rfl) (fun a hE=>?_)
      refine KF (i:=18) (v:=.bool (Xx4.2 != Xx8.2)) (unb 31 524287) rfl rfl hT (anyM hM (by kernel_rfl)) hE rfl (KP rfl hE rfl rfl rfl) (fun w=>KL hE rfl rfl KN Yi) (fun a hE=>?_)
      refine KF (i:=19) (v:=.bool (Xx4.2 != Xx8.2)) (unb 31 1048575) rfl rfl hT (anyM hM (by kernel_rfl)) hE rfl (KA rfl) (fun w=>Kd hE rfl rfl) (fun a hE=>?_)
      refine KF (i:=20) (v:=.bool (Xx4.2 != Xx8.2)) (unb 31 2097151) rfl rfl hT (anyM hM (by kernel_rfl)) hE rfl (KA rfl) (fun w=>KD hE rfl) (fun a hE=>?_)
      have hE:=hE.reb 57 (Xx4.2 != Xx8.2) false hb_55 rfl
      replace hE:=hE.cut (l':=[(2,.int .i64 x2),(3,.string x3),(13,.pointer (some Xx13)),(14,.int .i64 Xx12.2),(15,.pointer (some Xx17)),(16,.int .i64 Xx16.2),(57,.bool false)]) (.cons rfl (.cons rfl (.cons rfl (.cons rfl (.cons rfl (.cons rfl (.cons rfl Subs.nil)))))))
      refine Kt (i:=21) (v:=.agg Xx56) (unb 31 4194303) rfl rfl hT (UB hM (by kernel_rfl)) hE rfl (KP rfl hE rfl rfl rfl) hs (fun w s=>ZN hE rfl ag24 s.1) (fun a hE=>?_)
      refine Kt (i:=22) (v:=.agg Xx57) (unb 31 8388607) rfl rfl hT (UB hM (by kernel_rfl)) hE rfl (KP rfl hE rfl rfl rfl) hs (fun w s=>ZN hE rfl ag24 s.2) (fun a hE=>?_)
      refine WM (i:=23) (unb 31 16777215) rfl rfl rfl hT (oneM hM (by kernel_rfl)) rfl hE hR (KP rfl hE rfl rfl rfl) JO rfl (Ja Xx56 Xx57) (M.unbind H) (fun Xx58 a w ea hR H=>?_)
      have hE:=Env.put_some hE rfl ea; clear ea
      rcases Kq (!Xx58) with hb_59 | hb_59
      ·replace H:=M.ite_t hb_59 H
       refine KF (i:=24) (v:=.bool (!Xx58)) (unb 31 33554431) rfl rfl hT (anyM hM (by kernel_rfl)) hE rfl (KP rfl hE rfl rfl rfl) (fun w=>r_un hE rfl GB) (fun a hE=>?_)
       refine KF (i:=25) (v:=.bool (!Xx58)) (unb 31 67108863) rfl rfl hT (anyM hM (by kernel_rfl)) hE rfl (KA rfl) (fun w=>Kd hE rfl rfl) (fun a hE=>?_)
       refine KF (i:=26) (v:=.bool (!Xx58)) (unb 31 134217727) rfl rfl hT (anyM hM (by kernel_rfl)) hE rfl (KA rfl) (fun w=>KD hE rfl) (fun a hE=>?_)
       have hE:=hE.reb 63 (!Xx58) true hb_59 rfl
       replace hE:=hE.cut (l':=[(2,.int .i64 x2),(3,.string x3),(14,.int .i64 Xx12.2),(16,.int .i64 Xx16.2),(63,.bool true)]) (.cons rfl (.cons rfl (.cons rfl (.cons rfl (.cons rfl Subs.nil)))))
       refine Js [(27,some 64),(28,some 65),(29,some 66)] 1 hT hM hE (by kernel_rfl) (m':=1073741823) (by kernel_rfl) (fun a hE=>?_)
       refine KF (i:=30) (v:=.bool true) (unb 31 2147483647) rfl rfl hT (anyM hM (by kernel_rfl)) hE rfl (KA rfl) (fun w=>Kc hE rfl rfl) (fun a hE=>?_)
       refine JM hT (Wa hM (by kernel_rfl)) ?_
       exact ⟨true,hE.cut (.cons rfl (.cons rfl (.cons rfl Subs.nil))),hR,H⟩
      ·replace H:=M.ite_f hb_59 H
       refine KF (i:=24) (v:=.bool (!Xx58)) (unb 31 33554431) rfl rfl hT (anyM hM (by kernel_rfl)) hE rfl (KP rfl hE rfl rfl rfl) (fun w=>r_un hE rfl GB) (fun a hE=>?_)
       refine KF (i:=25) (v:=.bool (!Xx58)) (unb 31 67108863) rfl rfl hT (anyM hM (by kernel_rfl)) hE rfl (KA rfl) (fun w=>Kd hE rfl rfl) (fun a hE=>?_)
       refine KF (i:=26) (v:=.bool (!Xx58)) (unb 31 134217727) rfl rfl hT (anyM hM (by kernel_rfl)) hE rfl (KA rfl) (fun w=>KD hE rfl) (fun a hE=>?_)
       have hE:=hE.reb 63 (!Xx58) false hb_59 rfl
       replace hE:=hE.cut (l':=[(2,.int .i64 x2),(3,.string x3),(14,.int .i64 Xx12.2),(16,.int .i64 Xx16.2),(63,.bool false)]) (.cons rfl (.cons rfl (.cons rfl (.cons rfl (.cons rfl Subs.nil)))))
       refine KF (i:=27) (v:=.int .i64 Xx12.2) (unb 31 268435455) rfl rfl hT (anyM hM (by kernel_rfl)) hE rfl (KP rfl hE rfl rfl rfl) (fun w=>KD hE rfl) (fun a hE=>?_)
       refine KF (i:=28) (v:=.int .i64 Xx16.2) (unb 31 536870911) rfl rfl hT (anyM hM (by kernel_rfl)) hE rfl (KP rfl hE rfl rfl rfl) (fun w=>KD hE rfl) (fun a hE=>?_)
       refine KF (i:=29) (v:=.bool (Xx12.2 != Xx16.2)) (unb 31 1073741823) rfl rfl hT (anyM hM (by kernel_rfl)) hE rfl (KP rfl hE rfl rfl rfl) (fun w=>KL hE rfl rfl KN Yi) (fun a hE=>?_)
       refine KF (i:=30) (v:=.bool (Xx12.2 != Xx16.2)) (unb 31 2147483647) rfl rfl hT (anyM hM (by kernel_rfl)) hE rfl (KA rfl) (fun w=>Kd hE rfl rfl) (fun a hE=>?_)
       refine JM hT (Wa hM (by kernel_rfl)) ?_
       exact ⟨Xx12.2 != Xx16.2,hE.cut (.cons rfl (.cons rfl (.cons rfl Subs.nil))),hR,H⟩
def ZP (x0:Option Addr):M (Value ⊕ (Unit)):=do
 let Xx1←nilP x0
 let Xx2←ldI .i64 ((Xx1).add 1)
 M.pure (.inl (Value.iface Jr (.agg (#[.int .i64 Xx2]:Array Value))))
theorem Zr (x0:Option Addr):Xl Go.Proofs.Tryz.prog 132 #[.pointer x0] (fun (r:Unit)=>.tuple #[]) (ZP x0):=by
 refine YH [(0,.pointer x0)] Go.Proofs.Tryz.func132 rfl rfl (Nat.le_of_ble_eq_true rfl) (Ke ⟨rfl,trivial⟩) (fun w0 w Q R X a hret hthr hE hR H=>?_)
 unfold ZP at H
 refine KC ?_
 refine KB (v:=.pointer x0) rfl rfl hE rfl (KD hE rfl) (fun a hE=>?_)
 obtain ⟨Xx1,qXx1,H⟩:=H
 refine KB (v:=.pointer (some Xx1)) rfl rfl hE rfl (KW hE (Jg rfl (congrArg Value.pointer qXx1))) (fun a hE=>?_)
 refine KB (v:=.pointer (some ((Xx1).add 1))) rfl rfl hE rfl (KI hE rfl JA) (fun a hE=>?_)
 obtain ⟨Xx2,qXx2,H⟩:=H
 refine KB (v:=.int .i64 Xx2) rfl rfl hE rfl (KU hE rfl sc3 qXx2) (fun a hE=>?_)
 refine KB (v:=.agg (#[.int .i64 Xx2]:Array Value)) rfl rfl hE rfl (Uw hE rfl KIg KJY (by rfl)) (fun a hE=>?_)
 refine KB (v:=(Value.iface Jr (.agg (#[.int .i64 Xx2]:Array Value)))) rfl rfl hE rfl (We hE rfl KJX) (fun a hE=>?_)
 exact KHc hE rfl (hthr _ _ hR H)
theorem KHu:Vg Go.Proofs.Tryz.f170 1 [[],[0],[1],[2],[],[4],[5],[6],[7],[3,8]] [[],[0],[1],[2],[],[4],[5],[6],[7],[3,8]] [[],[0],[0,1],[0,1,2],[],[4],[4,5],[4,5,6],[4,5,6,7],[0,1,2,3,4,5,6,7,8]]=true:=by kernel_rfl
theorem KHv:Vg Go.Proofs.Tryz.f170 2 [[],[0],[1],[2],[],[4],[5],[6],[3,7],[8,0,1,2,3,4,5,6,7,8]] [[],[0],[1],[2],[],[4],[5],[6],[3,7],[8]] [[],[0],[0,1],[0,1,2],[],[4],[4,5],[4,5,6],[0,1,2,3,4,5,6,7],[0,1,2,3,4,5,6,7,8]]=true:=by kernel_rfl
def ZC (x0:Option Addr):M (Int):=do
 let Xx4←nilP x0
 let Xx5←nilP x0
 let Xx6←ldI .i64 ((Xx4).add 1)
 let Xx7←ldS ((Xx5).add 0)
 M.ite (decide (Xx6 < (Xx7.size:Int))) (do
  let Xx9←nilP x0
  let Xx10←nilP x0
  let Xx11←ldS ((Xx9).add 0)
  let Xx12←ldI .i64 ((Xx10).add 1)
  let Xx13←ixS Xx11 Xx12
  M.pure Xx13
  ) (do
  M.pure 0
  )
theorem ZQ (x0:Option Addr):ZK Go.Proofs.Tryz.prog 170 #[.pointer x0] (fun (r:Int)=>.int .u8 r) (ZC x0):=by
 refine KY [(0,.pointer x0)] Go.Proofs.Tryz.func170 rfl rfl (Nat.le_of_ble_eq_true rfl) (Ke ⟨rfl,trivial⟩) (fun w0 w Q R a hret hE hR H=>?_)
 unfold ZC at H
 refine KH (fun K hK_1=>?_)
 refine KC ?_
 refine KB (v:=.int .u8 0) rfl rfl hE rfl (KE hE rfl) (fun a hE=>?_)
 refine KG ?_
 refine hK_1 _ _ ?_
 refine KH (fun K hK_2=>?_)
 refine KH (fun K hK_3=>?_)
 obtain ⟨Xx4,qXx4,H⟩:=H
 obtain ⟨Xx5,qXx5,H⟩:=H
 obtain ⟨Xx6,qXx6,H⟩:=H
 obtain ⟨Xx7,qXx7,H⟩:=H
 have hT:=Jf KHu rfl rfl
 refine Zq (fun w:World=>(fun h:Heap=>(KV h ((Xx4).add 1)=some (.int .i64 Xx6))∧(KV h ((Xx5).add 0)=some (.string Xx7))) w.heap) [9] #[false,false,false,false,false,false,false,false,false,false] mo hR rfl rfl (fun w' e=>by rw [e]; exact ⟨qXx6,qXx7⟩) (fun w hh hR hs=>?_)
 replace H:=M.at hh H; clear hh
 refine KF (i:=0) (v:=.pointer x0) #[true,false,false,false,false,false,false,false,false,false] rfl rfl hT (by kernel_rfl) hE rfl (KA rfl) (fun w=>KD hE rfl) (fun a hE=>?_)
 refine KF (i:=1) (v:=.pointer (some Xx4)) #[true,true,false,false,false,false,false,false,false,false] rfl rfl hT (by kernel_rfl) hE rfl (KA rfl) (fun w=>KW hE (Jg rfl (congrArg Value.pointer qXx4))) (fun a hE=>?_)
 refine KF (i:=2) (v:=.pointer (some ((Xx4).add 1))) #[true,true,true,false,false,false,false,false,false,false] rfl rfl hT (by kernel_rfl) hE rfl (KA rfl) (fun w=>KI hE rfl JA) (fun a hE=>?_)
 refine KF (i:=4) (v:=.pointer x0) #[true,true,true,false,true,false,false,false,false,false] rfl rfl hT (by kernel_rfl) hE rfl (KA rfl) (fun w=>KD hE rfl) (fun a hE=>?_)
 refine KF (i:=5) (v:=.pointer (some Xx5)) #[true,true,true,false,true,true,false,false,false,false] rfl rfl hT (by kernel_rfl) hE rfl (KA rfl) (fun w=>KW hE (Jg rfl (congrArg Value.pointer qXx5))) (fun a hE=>?_)
 refine KF (i:=6) (v:=.pointer (some ((Xx5).add 0))) #[true,true,true,false,true,true,true,false,false,false] rfl rfl hT (by kernel_rfl) hE rfl (KA rfl) (fun w=>KI hE rfl Wk) (fun a hE=>?_)
 refine Kt (i:=3) (v:=.int .i64 Xx6) #[true,true,true,true,true,true,true,false,false,false] rfl rfl hT (by kernel_rfl) hE rfl (KA rfl) hs (fun w s=>KU hE rfl sc3 s.1) (fun a hE=>?_)
 refine Kt (i:=7) (v:=.string Xx7) #[true,true,true,true,true,true,true,true,false,false] rfl rfl hT (by kernel_rfl) hE rfl (KA rfl) hs (fun w s=>KU hE rfl sc9 s.2) (fun a hE=>?_)
 refine KF (i:=8) (v:=.int .i64 (Xx7.size:Int)) #[true,true,true,true,true,true,true,true,true,false] rfl rfl hT (by kernel_rfl) hE rfl (KA rfl) (fun w=>U3 hE rfl un9) (fun a hE=>?_)
 refine KF (i:=9) (v:=.bool (decide (Xx6 < (Xx7.size:Int)))) #[true,true,true,true,true,true,true,true,true,true] rfl rfl hT (by kernel_rfl) hE rfl (KA rfl) (fun w=>KL hE rfl rfl KN JL) (fun a hE=>?_)
 refine JM hT (by kernel_rfl) ?_
 refine hK_3 _ _ ?_
 refine KS (decide (Xx6 < (Xx7.size:Int))) hE rfl (fun hb=>?_) (fun hb=>?_)
 ·replace H:=M.ite_t hb H
  refine KH (fun K hK_8=>?_)
  obtain ⟨Xx9,qXx9,H⟩:=H
  obtain ⟨Xx10,qXx10,H⟩:=H
  obtain ⟨Xx11,qXx11,H⟩:=H
  obtain ⟨Xx12,qXx12,H⟩:=H
  obtain ⟨Xx13,qXx13,H⟩:=H
  have hT:=Jf KHv rfl rfl
  refine Zq (fun w:World=>(fun h:Heap=>(KV h ((Xx9).add 0)=some (.string Xx11))∧(KV h ((Xx10).add 1)=some (.int .i64 Xx12))) w.heap) [8,9] #[false,false,false,false,false,false,false,false,false,false] mo hR rfl rfl (fun w' e=>by rw [e]; exact ⟨qXx11,qXx12⟩) (fun w hh hR hs=>?_)
  replace H:=M.at hh H; clear hh
  refine KF (i:=0) (v:=.pointer x0) #[true,false,false,false,false,false,false,false,false,false] rfl rfl hT (by kernel_rfl) hE rfl (KA rfl) (fun w=>KD hE rfl) (fun a hE=>?_)
  refine KF (i:=1) (v:=.pointer (some Xx9)) #[true,true,false,false,false,false,false,false,false,false] rfl rfl hT (by kernel_rfl) hE rfl (KA rfl) (fun w=>KW hE (Jg rfl (congrArg Value.pointer qXx9))) (fun a hE=>?_)
  refine KF (i:=2) (v:=.pointer (some ((Xx9).add 0))) #[true,true,true,false,false,false,false,false,false,false] rfl rfl hT (by kernel_rfl) hE rfl (KA rfl) (fun w=>KI hE rfl Wk) (fun a hE=>?_)
  refine KF (i:=4) (v:=.pointer x0) #[true,true,true,false,true,false,false,false,false,false] rfl rfl hT (by kernel_rfl) hE rfl (KA rfl) (fun w=>KD hE rfl) (fun a hE=>?_)
  refine KF (i:=5) (v:=.pointer (some Xx10)) #[true,true,true,false,true,true,false,false,false,false] rfl rfl hT (by kernel_rfl) hE rfl (KA rfl) (fun w=>KW hE (Jg rfl (congrArg Value.pointer qXx10))) (fun a hE=>?_)
  refine KF (i:=6) (v:=.pointer (some ((Xx10).add 1))) #[true,true,true,false,true,true,true,false,false,false] rfl rfl hT (by kernel_rfl) hE rfl (KA rfl) (fun w=>KI hE rfl JA) (fun a hE=>?_)
  refine Kt (i:=3) (v:=.string Xx11) #[true,true,true,true,true,true,true,false,false,false] rfl rfl hT (by kernel_rfl) hE rfl (KA rfl) hs (fun w s=>KU hE rfl sc9 s.1) (fun a hE=>?_)
  refine Kt (i:=7) (v:=.int .i64 Xx12) #[true,true,true,true,true,true,true,true,false,false] rfl rfl hT (by kernel_rfl) hE rfl (KA rfl) hs (fun w s=>KU hE rfl sc3 s.2) (fun a hE=>?_)
  refine KF (i:=8) (v:=.int .u8 Xx13) #[true,true,true,true,true,true,true,true,true,false] rfl rfl hT (by kernel_rfl) hE rfl (KA rfl) (fun w=>VW hE rfl rfl un9 qXx13) (fun a hE=>?_)
  refine KF (i:=9) (v:=.int .u8 Xx13) #[true,true,true,true,true,true,true,true,true,true] rfl rfl hT (by kernel_rfl) hE rfl (KA rfl) (fun w=>KE hE rfl) (fun a hE=>?_)
  refine JM hT (by kernel_rfl) ?_
  refine hK_8 _ _ ?_
  refine Kg ?_
  exact hret _ _ _ Xx13 _ hE hR (KM hE rfl (RV.tmp rfl RV.nil)) rfl H
 ·replace H:=M.ite_f hb H
  refine Ka ?_
  refine hK_2 _ _ ?_
  refine KH (fun K hK_14=>?_)
  refine KC ?_
  refine KB (v:=.int .u8 0) rfl rfl hE rfl (KE hE rfl) (fun a hE=>?_)
  refine KG ?_
  refine hK_14 _ _ ?_
  refine Kg ?_
  exact hret _ _ _ 0 _ hE hR (KM hE rfl (RV.tmp rfl RV.nil)) rfl H
end Gx
namespace Gx
open Go
set_option linter.unusedVariables false
set_option maxRecDepth 100000
def WS (x0:Int):M (Bool):=do
 let Xx3←M.ite (decide (x0 ≥ 48)) (do
  M.pure (decide (x0≤57))
  ) (do
  M.pure false
  )
 M.pure Xx3
theorem GM (x0:Int):ZK Go.Proofs.Tryz.prog 171 #[.int .u8 x0] (fun (r:Bool)=>.bool r) (WS x0):=by
 refine KY [(0,.int .u8 x0)] Go.Proofs.Tryz.func171 rfl rfl (Nat.le_of_ble_eq_true rfl) (Ke ⟨rfl,trivial⟩) (fun w0 w Q R a hret hE hR H=>?_)
 unfold WS at H
 refine KH (fun K hK_1=>?_)
 refine KC ?_
 refine KB (v:=.bool false) rfl rfl hE rfl (KE hE rfl) (fun a hE=>?_)
 refine KG ?_
 refine hK_1 _ _ ?_
 refine KH (fun K hK_2=>?_)
 refine KC ?_
 refine KB (v:=.int .u8 x0) rfl rfl hE rfl (KD hE rfl) (fun a hE=>?_)
 refine KB (v:=.bool (decide (x0 ≥ 48))) rfl rfl hE rfl (KL hE rfl rfl KN YJ) (fun a hE=>?_)
 refine KB (v:=.bool (decide (x0 ≥ 48))) rfl rfl hE rfl (KD hE rfl) (fun a hE=>?_)
 refine J5 (n:=(⟨9,[]⟩:Frm)) (w0:=w0) 3 (fun Xx3:Bool=>[(2,.bool false),(8,.bool Xx3)]) (M.unbind H) (fun Kr hKr H=>?_) ?_
 ·rcases Kq (decide (x0 ≥ 48)) with hb | hb
  ·replace H:=M.ite_t hb H
   have hE:=hE.reb 5 (decide (x0 ≥ 48)) true hb rfl
   refine t_on rfl hE rfl rfl rfl ?_
   refine KB (v:=.int .u8 x0) rfl rfl hE rfl (KD hE rfl) (fun a hE=>?_)
   refine t_on rfl hE rfl rfl rfl ?_
   refine KB (v:=.bool (decide (x0≤57))) rfl rfl hE rfl (KL hE rfl rfl KN KAC) (fun a hE=>?_)
   refine KB rfl rfl hE rfl (Kc hE rfl rfl) (fun a hE=>?_)
   refine KG ?_
   exact hKr _ _ _ (hE.cut (.cons rfl (.cons rfl Subs.nil))) hR H
  ·replace H:=M.ite_f hb H
   have hE:=hE.reb 5 (decide (x0 ≥ 48)) false hb rfl
   refine Kf rfl hE rfl rfl rfl (fun a ea=>?_)
   have hE:=Env.put_some hE rfl ea; clear ea
   refine Kf rfl hE rfl rfl rfl (fun a ea=>?_)
   have hE:=Env.put_some hE rfl ea; clear ea
   refine KB rfl rfl hE rfl (Kd hE rfl rfl) (fun a hE=>?_)
   refine KG ?_
   exact hKr _ _ _ (hE.cut (.cons rfl (.cons rfl Subs.nil))) hR H
 ·intro Xx3 a w hE hR H
  refine KB (v:=.bool Xx3) rfl rfl hE rfl (KE hE rfl) (fun a hE=>?_)
  refine KG ?_
  refine hK_2 _ _ ?_
  refine Kg ?_
  exact hret _ _ _ Xx3 _ hE hR (KM hE rfl (RV.tmp rfl RV.nil)) rfl H
noncomputable def KEs:Array Oper:=NZ Go.Proofs.Tryz.f172 9
def KEt:List (List Nat):=[[],[0],[1],[2],[],[],[5],[6],[7],[8],[3,4,9],[10],[11],[12],[12],[13,11,0,1,2,3,4,5,6,7,8,9,10,11,12,13],[14,15,0,1,2,3,4,5,6,7,8,9,10,11,12,13,14,15]]
def KEu:List (List Nat):=[[],[0],[1],[2],[],[],[5],[6],[7],[8],[3,4,9],[10],[11],[12],[12],[13],[14]]
def KEv:List (List Nat):=[[],[0],[0,1],[0,1,2],[],[],[5],[5,6],[5,6,7],[5,6,7,8],[0,1,2,3,4,5,6,7,8,9],[0,1,2,3,4,5,6,7,8,9,10],[0,1,2,3,4,5,6,7,8,9,10,11],[0,1,2,3,4,5,6,7,8,9,10,11,12],[0,1,2,3,4,5,6,7,8,9,10,11,12],[0,1,2,3,4,5,6,7,8,9,10,11,12,13],[0,1,2,3,4,5,6,7,8,9,10,11,12,13,14,15]]
theorem KHw:Vg Go.Proofs.Tryz.f172 9 KEt KEu KEv=true:=by kernel_rfl
theorem KGK:Gi 17 KEt KEu KEv [0,1,2,4,0,0,32,64,128,256,536,1024,2048,4096,4096,16383,65535] [0,1,2,4,0,0,32,64,128,256,536,1024,2048,4096,4096,8192,16384] [0,1,3,7,0,0,32,96,224,480,1023,2047,4095,8191,8191,16383,65535]=true:=by kernel_rfl
def UE (self1:(Int)→M (Value ⊕ (Int))) (C29:Option Addr) (C31:Int) (C32:Int) (C33:Int):M (Value ⊕ (Int)):=do
 M.ite (C33 != 0) (do
  M.pure (.inr C31)
  ) (do
  let Xx38←nilP C29
  let Xx39←ldI .i64 ((Xx38).add 1)
  let Xx40←nilP C29
  stV ((Xx40).add 1) (.int .i64 (IntKind.wrap .i64 (Xx39+1)))
  self1 C32
  )
def Ul (C15:Option Addr) (C16:Int) (self1:(Int)→M (Value ⊕ (Int))):(Int)→M (Value ⊕ (Int)):=fun s=>match s with
 | Xx14=>do
  let Xx20←ZC C15
  let Xx21←WS Xx20
  M.ite Xx21 (do
   let Xx23←nilP C15
   let Xx24←nilP C15
   let Xx25←ldS ((Xx23).add 0)
   let Xx26←ldI .i64 ((Xx24).add 1)
   let Xx27←slS Xx25 C16 (IntKind.wrap .i64 (Xx26+1))
   let Xx28←NY Go.Proofs.Tryz.prog KBl #[.string Xx27] (fun r:Int × Int=>.tuple #[.int .i64 r.1,.int .i64 r.2])
   M.ite (Xx28.2 == 7) (do
    thr (ZP C15) fun Xx43=>do
     UE self1 C15 Xx14 Xx28.1 Xx28.2
    ) (do
    UE self1 C15 Xx14 Xx28.1 Xx28.2
    )
   ) (do
   M.pure (.inr Xx14)
   )
def Jd (C10:Option Addr) (C11:Int):M (Value ⊕ (Int)):=do
 M.loop (Ul C10 C11) 0
def Je (C5:Option Addr) (C6:Int):M (Value ⊕ (Int)):=do
 let Xx8←nilP C5
 let Xx9←ldI .i64 ((Xx8).add 1)
 let Xx46←ZC C5
 let Xx47←WS Xx46
 let Xx48←M.ite (!Xx47) (do
  M.pure true
  ) (do
  let Xx49←M.ite (decide (Xx9 > C6)) (do
   let Xx50←ZC C5
   M.pure (Xx50 == 48)
   ) (do
   M.pure false
   )
  M.pure Xx49
  )
 M.ite Xx48 (do
  thr (ZP C5) fun Xx51=>do
   Jd C5 C6
  ) (do
  Jd C5 C6
  )
def UH (x0:Option Addr):M (Value ⊕ (Int)):=do
 let Xx3←nilP x0
 let Xx4←ldI .i64 ((Xx3).add 1)
 let Xx53←ZC x0
 M.ite (Xx53 == 45) (do
  let Xx54←nilP x0
  let Xx55←ldI .i64 ((Xx54).add 1)
  let Xx56←nilP x0
  stV ((Xx56).add 1) (.int .i64 (IntKind.wrap .i64 (Xx55+1)))
  Je x0 Xx4
  ) (do
  Je x0 Xx4
  )
theorem YM (x0:Option Addr):Xl Go.Proofs.Tryz.prog 172 #[.pointer x0] (fun (r:Int)=>.int .i64 r) (UH x0):=by
 refine YH [(0,.pointer x0)] Go.Proofs.Tryz.func172 rfl rfl (Nat.le_of_ble_eq_true rfl) (Ke ⟨rfl,trivial⟩) (fun w0 w Q R X a hret hthr hE hR H=>?_)
 unfold UH at H
 refine KH (fun K hK_1=>?_)
 refine KC ?_
 refine KB (v:=.int .i64 0) rfl rfl hE rfl (KE hE rfl) (fun a hE=>?_)
 refine KG ?_
 refine hK_1 _ _ ?_
 refine KH (fun K hK_2=>?_)
 refine KC ?_
 refine KB (v:=.pointer x0) rfl rfl hE rfl (KD hE rfl) (fun a hE=>?_)
 obtain ⟨Xx3,qXx3,H⟩:=H
 refine KB (v:=.pointer (some Xx3)) rfl rfl hE rfl (KW hE (Jg rfl (congrArg Value.pointer qXx3))) (fun a hE=>?_)
 refine KB (v:=.pointer (some ((Xx3).add 1))) rfl rfl hE rfl (KI hE rfl JA) (fun a hE=>?_)
 obtain ⟨Xx4,qXx4,H⟩:=H
 refine KB (v:=.int .i64 Xx4) rfl rfl hE rfl (KU hE rfl sc3 qXx4) (fun a hE=>?_)
 refine KB (v:=.int .i64 Xx4) rfl rfl hE rfl (KE hE rfl) (fun a hE=>?_)
 refine KG ?_
 refine hK_2 _ _ ?_
 refine Ku (fun a w=>Env (⟨76,[]⟩:Frm) a [(0,.pointer x0),(3,.int .i64 Xx4)]∧Rest w0 w∧(Je x0 Xx4).wp w.heap Q) ?_ ?_
 ·rintro a w ⟨hE,hR,H⟩
  unfold Je at H
  refine KH (fun K hK_7=>?_)
  refine KC ?_
  refine KB (v:=.pointer x0) rfl rfl hE rfl (KD hE rfl) (fun a hE=>?_)
  obtain ⟨Xx8,qXx8,H⟩:=H
  refine KB (v:=.pointer (some Xx8)) rfl rfl hE rfl (KW hE (Jg rfl (congrArg Value.pointer qXx8))) (fun a hE=>?_)
  refine KB (v:=.pointer (some ((Xx8).add 1))) rfl rfl hE rfl (KI hE rfl JA) (fun a hE=>?_)
  obtain ⟨Xx9,qXx9,H⟩:=H
  refine KB (v:=.int .i64 Xx9) rfl rfl hE rfl (KU hE rfl sc3 qXx9) (fun a hE=>?_)
  refine KB (v:=.int .i64 Xx4) rfl rfl hE rfl (KD hE rfl) (fun a hE=>?_)
  refine KB (v:=.bool (decide (Xx9 > Xx4))) rfl rfl hE rfl (KL hE rfl rfl KN YI) (fun a hE=>?_)
  refine KB (v:=.bool (decide (Xx9 > Xx4))) rfl rfl hE rfl (KE hE rfl) (fun a hE=>?_)
  refine KG ?_
  refine hK_7 _ _ ?_
  refine Ku (fun a w=>Env (⟨76,[]⟩:Frm) a [(0,.pointer x0),(3,.int .i64 Xx4)]∧Rest w0 w∧(Jd x0 Xx4).wp w.heap Q) ?_ ?_
  ·rintro a w ⟨hE,hR,H⟩
   unfold Jd at H
   refine KH (fun K hK_12=>?_)
   refine KC ?_
   refine KB (v:=.int .i64 0) rfl rfl hE rfl (KE hE rfl) (fun a hE=>?_)
   refine KG ?_
   refine hK_12 _ _ ?_
   refine KH (fun K hK_13=>?_)
   refine Kj ?_
   refine J7 (fun (s:Int)=>(⟨76,[]⟩:Frm)) (fun (s:Int)=>[(0,.pointer x0),(3,.int .i64 Xx4),(5,.int .i64 s)]) H (hE.cut (.cons rfl (.cons rfl (.cons rfl Subs.nil)))) hR (fun Y self1 hY_17 Xx14 a w hE hR H=>?_)
   replace hE:Env (⟨76,[]⟩:Frm) a [(0,.pointer x0),(3,.int .i64 Xx4),(5,.int .i64 Xx14)]:=hE
   replace H:(Ul x0 Xx4 self1 Xx14).wp w.heap Q:=H
   unfold Ul at H
   refine KH (fun K hK_18=>?_)
   refine KH (fun K hK_19=>?_)
   refine KC ?_
   refine KB (v:=.pointer x0) rfl rfl hE rfl (KD hE rfl) (fun a hE=>?_)
   refine KZ hE hR ZG rfl (ZQ x0) (M.unbind H) (fun Xx20 a w ea hR H=>?_)
   have hE:=Env.put_some hE rfl ea; clear ea
   refine KZ hE hR Xh rfl (GM Xx20) (M.unbind H) (fun Xx21 a w ea hR H=>?_)
   have hE:=Env.put_some hE rfl ea; clear ea
   refine KG ?_
   refine hK_19 _ _ ?_
   refine KS Xx21 hE rfl (fun hb=>?_) (fun hb=>?_)
   ·replace H:=M.ite_t hb H
    refine Ka ?_
    refine hK_18 _ _ ?_
    refine Kj ?_
    refine KH (fun K hK_22=>?_)
    obtain ⟨Xx23,qXx23,H⟩:=H
    obtain ⟨Xx24,qXx24,H⟩:=H
    obtain ⟨Xx25,qXx25,H⟩:=H
    obtain ⟨Xx26,qXx26,H⟩:=H
    obtain ⟨Xx27,qXx27,H⟩:=H
    refine VL (rops:=KEs) (by kernel_rfl) ?_
    have hT:Tab KEs _ _ _:=Jf KHw rfl (by kernel_rfl)
    have hM:=TabM.of KGK
    refine Zq (m:=17) (fun w:World=>(fun h:Heap=>(KV h ((Xx23).add 0)=some (.string Xx25))∧(KV h ((Xx24).add 1)=some (.int .i64 Xx26))) w.heap) [10,11,12,13,14,15,16] (unb 17 0) mo hR (by kernel_rfl) (by kernel_rfl) (fun w' e=>by rw [e]; exact ⟨qXx25,qXx26⟩) (fun w hh hR hs=>?_)
    replace H:=M.at hh H; clear hh
    refine KF (i:=0) (v:=.pointer x0) (unb 17 1) rfl rfl hT (anyM hM (by kernel_rfl)) hE rfl (KA rfl) (fun w=>KD hE rfl) (fun a hE=>?_)
    refine KF (i:=1) (v:=.pointer (some Xx23)) (unb 17 3) rfl rfl hT (anyM hM (by kernel_rfl)) hE rfl (KA rfl) (fun w=>KW hE (Jg rfl (congrArg Value.pointer qXx23))) (fun a hE=>?_)
    refine KF (i:=2) (v:=.pointer (some ((Xx23).add 0))) (unb 17 7) rfl rfl hT (anyM hM (by kernel_rfl)) hE rfl (KA rfl) (fun w=>KI hE rfl Wk) (fun a hE=>?_)
    refine KF (i:=4) (v:=.int .i64 Xx4) (unb 17 23) rfl rfl hT (anyM hM (by kernel_rfl)) hE rfl (KA rfl) (fun w=>KD hE rfl) (fun a hE=>?_)
    refine KF (i:=5) (v:=.pointer x0) (unb 17 55) rfl rfl hT (anyM hM (by kernel_rfl)) hE rfl (KA rfl) (fun w=>KD hE rfl) (fun a hE=>?_)
    refine KF (i:=6) (v:=.pointer (some Xx24)) (unb 17 119) rfl rfl hT (anyM hM (by kernel_rfl)) hE rfl (KA rfl) (fun w=>KW hE (Jg rfl (congrArg Value.pointer qXx24))) (fun a hE=>?_)
    refine KF (i:=7) (v:=.pointer (some ((Xx24).add 1))) (unb 17 247) rfl rfl hT (anyM hM (by kernel_rfl)) hE rfl (KA rfl) (fun w=>KI hE rfl JA) (fun a hE=>?_)
    refine Kt (i:=3) (v:=.string Xx25) (unb 17 255) rfl rfl hT (UB hM (by kernel_rfl)) hE rfl (KA rfl) hs (fun w s=>KU hE rfl sc9 s.1) (fun a hE=>?_)
    refine Kt (i:=8) (v:=.int .i64 Xx26) (unb 17 511) rfl rfl hT (UB hM (by kernel_rfl)) hE rfl (KA rfl) hs (fun w s=>KU hE rfl sc3 s.2) (fun a hE=>?_)
    refine KF (i:=9) (v:=.int .i64 (IntKind.wrap .i64 (Xx26+1))) (unb 17 1023) rfl rfl hT (anyM hM (by kernel_rfl)) hE rfl (KA rfl) (fun w=>KL hE rfl rfl KN JE) (fun a hE=>?_)
    refine KF (i:=10) (v:=.string Xx27) (unb 17 2047) rfl rfl hT (anyM hM (by kernel_rfl)) hE rfl (KA rfl) (fun w=>Na hE rfl rfl rfl un9 qXx27) (fun a hE=>?_)
    refine WM (i:=11) (unb 17 4095) rfl rfl rfl hT (oneM hM (by kernel_rfl)) rfl hE hR (KA rfl) KBm rfl (Ud) (M.unbind H) (fun Xx28 a w ea hR H=>?_)
    have hE:=Env.put_some hE rfl ea; clear ea
    refine KF (i:=12) (v:=.tuple #[.int .i64 Xx28.1,.int .i64 Xx28.2]) (unb 17 8191) rfl rfl hT (anyM hM (by kernel_rfl)) hE rfl (KA rfl) (fun w=>KD hE rfl) (fun a hE=>?_)
    refine KF (i:=13) (v:=.int .i64 Xx28.1) (unb 17 16383) rfl rfl hT (anyM hM (by kernel_rfl)) hE rfl (KA rfl) (fun w=>ZF hE rfl rfl) (fun a hE=>?_)
    refine KF (i:=14) (v:=.int .i64 Xx28.2) (unb 17 32767) rfl rfl hT (anyM hM (by kernel_rfl)) hE rfl (KA rfl) (fun w=>ZF hE rfl rfl) (fun a hE=>?_)
    refine KF (i:=15) (v:=.int .i64 Xx28.1) (unb 17 65535) rfl rfl hT (anyM hM (by kernel_rfl)) hE rfl (KA rfl) (fun w=>KE hE rfl) (fun a hE=>?_)
    refine KF (i:=16) (v:=.int .i64 Xx28.2) (unb 17 131071) rfl rfl hT (anyM hM (by kernel_rfl)) hE rfl (KA rfl) (fun w=>KE hE rfl) (fun a hE=>?_)
    refine JM hT (Wa hM (by kernel_rfl)) ?_
    refine hK_22 _ _ ?_
    refine Ku (fun a w=>Env (⟨76,[]⟩:Frm) a [(0,.pointer x0),(3,.int .i64 Xx4),(5,.int .i64 Xx14),(6,.int .i64 Xx28.1),(7,.int .i64 Xx28.2)]∧Rest w0 w∧(UE self1 x0 Xx14 Xx28.1 Xx28.2).wp w.heap Q) ?_ ?_
    ·rintro a w ⟨hE,hR,H⟩
     unfold UE at H
     refine KH (fun K hK_34=>?_)
     refine KH (fun K hK_35=>?_)
     refine KC ?_
     refine KB (v:=.int .i64 Xx28.2) rfl rfl hE rfl (KD hE rfl) (fun a hE=>?_)
     refine KB (v:=.bool (Xx28.2 != 0)) rfl rfl hE rfl (KL hE rfl rfl KN Yi) (fun a hE=>?_)
     refine KG ?_
     refine hK_35 _ _ ?_
     refine KS (Xx28.2 != 0) hE rfl (fun hb=>?_) (fun hb=>?_)
     ·replace H:=M.ite_t hb H
      refine KH (fun K hK_36=>?_)
      refine KC ?_
      refine KB (v:=.int .i64 Xx14) rfl rfl hE rfl (KD hE rfl) (fun a hE=>?_)
      refine KB (v:=.int .i64 Xx14) rfl rfl hE rfl (KE hE rfl) (fun a hE=>?_)
      refine KG ?_
      refine hK_36 _ _ ?_
      refine Kg ?_
      exact hret _ _ _ Xx14 _ hE hR (KM hE rfl (RV.tmp rfl RV.nil)) rfl H
     ·replace H:=M.ite_f hb H
      refine Ka ?_
      refine hK_34 _ _ ?_
      refine KH (fun K hK_37=>?_)
      refine KC ?_
      refine KB (v:=.int .i64 Xx28.1) rfl rfl hE rfl (KD hE rfl) (fun a hE=>?_)
      refine KB (v:=.int .i64 Xx28.1) rfl rfl hE rfl (KE hE rfl) (fun a hE=>?_)
      refine KG ?_
      refine hK_37 _ _ ?_
      refine KC ?_
      refine KB (v:=.pointer x0) rfl rfl hE rfl (KD hE rfl) (fun a hE=>?_)
      obtain ⟨Xx38,qXx38,H⟩:=H
      refine KB (v:=.pointer (some Xx38)) rfl rfl hE rfl (KW hE (Jg rfl (congrArg Value.pointer qXx38))) (fun a hE=>?_)
      refine KB (v:=.pointer (some ((Xx38).add 1))) rfl rfl hE rfl (KI hE rfl JA) (fun a hE=>?_)
      obtain ⟨Xx39,qXx39,H⟩:=H
      refine KB (v:=.int .i64 Xx39) rfl rfl hE rfl (KU hE rfl sc3 qXx39) (fun a hE=>?_)
      refine KB (v:=.int .i64 (IntKind.wrap .i64 (Xx39+1))) rfl rfl hE rfl (KL hE rfl rfl KN JE) (fun a hE=>?_)
      obtain ⟨Xx40,qXx40,H⟩:=H
      refine KB (v:=.pointer (some Xx40)) rfl rfl hE rfl (KW hE (Jg rfl (congrArg Value.pointer qXx40))) (fun a hE=>?_)
      refine KB (v:=.pointer (some ((Xx40).add 1))) rfl rfl hE rfl (KI hE rfl JA) (fun a hE=>?_)
      obtain ⟨u_41,qu_41,H⟩:=H
      refine JI rfl rfl hE hR (JK hE rfl rfl sz3 qu_41) (fun a w hE hR hh=>?_)
      replace H:=M.at hh H; clear hh
      refine KG ?_
      exact hY_17 Xx28.1 _ _ (hE.cut (.cons rfl (.cons rfl (.cons rfl Subs.nil)))) hR H
    ·skip
     refine KH (fun K hK_42=>?_)
     refine KC ?_
     refine KB (v:=.int .i64 Xx28.2) rfl rfl hE rfl (KD hE rfl) (fun a hE=>?_)
     refine KB (v:=.bool (Xx28.2 == 7)) rfl rfl hE rfl (KL hE rfl rfl KN Z5) (fun a hE=>?_)
     refine KG ?_
     refine hK_42 _ _ ?_
     refine KS (Xx28.2 == 7) hE rfl (fun hb=>?_) (fun hb=>?_)
     ·replace H:=M.ite_t hb H
      refine KC ?_
      refine KB (v:=.pointer x0) rfl rfl hE rfl (KD hE rfl) (fun a hE=>?_)
      refine UF hE hR Zg rfl (Zr x0) H (fun _ _ hR HQ=>Xu.ne rfl (Xu.ne rfl (hthr _ _ hR HQ))) (fun Xx43 a w ea hR H=>?_)
      have hE:=Env.put_some hE rfl ea; clear ea
      refine KG ?_
      exact ⟨hE.cut (.cons rfl (.cons rfl (.cons rfl (.cons rfl (.cons rfl Subs.nil))))),hR,H⟩
     ·replace H:=M.ite_f hb H
      refine Ka ?_
      exact ⟨hE.cut (.cons rfl (.cons rfl (.cons rfl (.cons rfl (.cons rfl Subs.nil))))),hR,H⟩
   ·replace H:=M.ite_f hb H
    refine J6 ?_
    refine Xu.same ?_
    refine hK_13 _ _ ?_
    refine KH (fun K hK_44=>?_)
    refine KC ?_
    refine KB (v:=.int .i64 Xx14) rfl rfl hE rfl (KD hE rfl) (fun a hE=>?_)
    refine KB (v:=.int .i64 Xx14) rfl rfl hE rfl (KE hE rfl) (fun a hE=>?_)
    refine KG ?_
    refine hK_44 _ _ ?_
    refine Kg ?_
    exact hret _ _ _ Xx14 _ hE hR (KM hE rfl (RV.tmp rfl RV.nil)) rfl H
  ·skip
   refine KH (fun K hK_45=>?_)
   refine KC ?_
   refine KB (v:=.pointer x0) rfl rfl hE rfl (KD hE rfl) (fun a hE=>?_)
   refine KZ hE hR ZG rfl (ZQ x0) (M.unbind H) (fun Xx46 a w ea hR H=>?_)
   have hE:=Env.put_some hE rfl ea; clear ea
   refine KZ hE hR Xh rfl (GM Xx46) (M.unbind H) (fun Xx47 a w ea hR H=>?_)
   have hE:=Env.put_some hE rfl ea; clear ea
   refine KB (v:=.bool (!Xx47)) rfl rfl hE rfl (r_un hE rfl GB) (fun a hE=>?_)
   refine KB (v:=.bool (!Xx47)) rfl rfl hE rfl (KD hE rfl) (fun a hE=>?_)
   refine J5 (n:=(⟨76,[]⟩:Frm)) (w0:=w0) 7 (fun Xx48:Bool=>[(0,.pointer x0),(3,.int .i64 Xx4),(39,.bool Xx48)]) (M.unbind H) (fun Kr hKr H=>?_) ?_
   ·rcases Kq (!Xx47) with hb | hb
    ·replace H:=M.ite_t hb H
     have hE:=hE.reb 32 (!Xx47) true hb rfl
     refine Kf rfl hE rfl rfl rfl (fun a ea=>?_)
     have hE:=Env.put_some hE rfl ea; clear ea
     refine Kf rfl hE rfl rfl rfl (fun a ea=>?_)
     have hE:=Env.put_some hE rfl ea; clear ea
     refine Ge rfl hE rfl rfl (fun b hb=>by cases hb) (fun a ea=>?_)
     have hE:=Env.put_some hE rfl ea; clear ea
     refine Ge rfl hE rfl rfl (fun b hb=>by cases hb) (fun a ea=>?_)
     have hE:=Env.put_some hE rfl ea; clear ea
     refine Ge rfl hE rfl rfl (fun b hb=>by cases hb) (fun a ea=>?_)
     have hE:=Env.put_some hE rfl ea; clear ea
     refine Kf rfl hE rfl rfl rfl (fun a ea=>?_)
     have hE:=Env.put_some hE rfl ea; clear ea
     refine KB rfl rfl hE rfl (Kc hE rfl rfl) (fun a hE=>?_)
     refine KG ?_
     exact hKr _ _ _ (hE.cut (.cons rfl (.cons rfl (.cons rfl Subs.nil)))) hR H
    ·replace H:=M.ite_f hb H
     have hE:=hE.reb 32 (!Xx47) false hb rfl
     refine t_on rfl hE rfl rfl rfl ?_
     refine KB (v:=.bool (decide (Xx9 > Xx4))) rfl rfl hE rfl (KD hE rfl) (fun a hE=>?_)
     refine t_on rfl hE rfl rfl rfl ?_
     refine KB (v:=.bool (decide (Xx9 > Xx4))) rfl rfl hE rfl (KD hE rfl) (fun a hE=>?_)
     refine J5 (n:=(⟨76,[]⟩:Frm)) (w0:=w0) 4 (fun Xx49:Bool=>[(0,.pointer x0),(3,.int .i64 Xx4),(32,.bool false),(38,.bool Xx49)]) (M.unbind H) (fun Kr hKr H=>?_) ?_
     ·rcases Kq (decide (Xx9 > Xx4)) with hb | hb
      ·replace H:=M.ite_t hb H
       have hE:=hE.reb 34 (decide (Xx9 > Xx4)) true hb rfl
       refine t_on rfl hE rfl rfl rfl ?_
       refine KB (v:=.pointer x0) rfl rfl hE rfl (KD hE rfl) (fun a hE=>?_)
       refine t_on rfl hE rfl rfl rfl ?_
       refine KZ hE hR ZG rfl (ZQ x0) (M.unbind H) (fun Xx50 a w ea hR H=>?_)
       have hE:=Env.put_some hE rfl ea; clear ea
       refine t_on rfl hE rfl rfl rfl ?_
       refine KB (v:=.bool (Xx50 == 48)) rfl rfl hE rfl (KL hE rfl rfl KN Z5) (fun a hE=>?_)
       refine t_on rfl hE rfl rfl rfl ?_
       refine KB rfl rfl hE rfl (Kc hE rfl rfl) (fun a hE=>?_)
       refine KG ?_
       exact hKr _ _ _ (hE.cut (.cons rfl (.cons rfl (.cons rfl (.cons rfl Subs.nil))))) hR H
      ·replace H:=M.ite_f hb H
       have hE:=hE.reb 34 (decide (Xx9 > Xx4)) false hb rfl
       refine Kf rfl hE rfl rfl rfl (fun a ea=>?_)
       have hE:=Env.put_some hE rfl ea; clear ea
       refine Kf rfl hE rfl rfl rfl (fun a ea=>?_)
       have hE:=Env.put_some hE rfl ea; clear ea
       refine Kf rfl hE rfl rfl rfl (fun a ea=>?_)
       have hE:=Env.put_some hE rfl ea; clear ea
       refine t_on rfl hE rfl rfl rfl ?_
       refine KB rfl rfl hE rfl (Kd hE rfl rfl) (fun a hE=>?_)
       refine KG ?_
       exact hKr _ _ _ (hE.cut (.cons rfl (.cons rfl (.cons rfl (.cons rfl Subs.nil))))) hR H
     ·intro Xx49 a w hE hR H
      refine KB rfl rfl hE rfl (Kd hE rfl rfl) (fun a hE=>?_)
      refine KG ?_
      exact hKr _ _ _ (hE.cut (.cons rfl (.cons rfl (.cons rfl Subs.nil)))) hR H
   ·intro Xx48 a w hE hR H
    refine KG ?_
    refine hK_45 _ _ ?_
    refine KS Xx48 hE rfl (fun hb=>?_) (fun hb=>?_)
    ·replace H:=M.ite_t hb H
     refine KC ?_
     refine KB (v:=.pointer x0) rfl rfl hE rfl (KD hE rfl) (fun a hE=>?_)
     refine UF hE hR Zg rfl (Zr x0) H (fun _ _ hR HQ=>hthr _ _ hR HQ) (fun Xx51 a w ea hR H=>?_)
     have hE:=Env.put_some hE rfl ea; clear ea
     refine KG ?_
     exact ⟨hE.cut (.cons rfl (.cons rfl Subs.nil)),hR,H⟩
    ·replace H:=M.ite_f hb H
     refine Ka ?_
     exact ⟨hE.cut (.cons rfl (.cons rfl Subs.nil)),hR,H⟩
 ·skip
  refine KH (fun K hK_52=>?_)
  refine KC ?_
  refine KB (v:=.pointer x0) rfl rfl hE rfl (KD hE rfl) (fun a hE=>?_)
  refine KZ hE hR ZG rfl (ZQ x0) (M.unbind H) (fun Xx53 a w ea hR H=>?_)
  have hE:=Env.put_some hE rfl ea; clear ea
  refine KB (v:=.bool (Xx53 == 45)) rfl rfl hE rfl (KL hE rfl rfl KN Z5) (fun a hE=>?_)
  refine KG ?_
  refine hK_52 _ _ ?_
  refine KS (Xx53 == 45) hE rfl (fun hb=>?_) (fun hb=>?_)
  ·replace H:=M.ite_t hb H
   refine KC ?_
   refine KB (v:=.pointer x0) rfl rfl hE rfl (KD hE rfl) (fun a hE=>?_)
   obtain ⟨Xx54,qXx54,H⟩:=H
   refine KB (v:=.pointer (some Xx54)) rfl rfl hE rfl (KW hE (Jg rfl (congrArg Value.pointer qXx54))) (fun a hE=>?_)
   refine KB (v:=.pointer (some ((Xx54).add 1))) rfl rfl hE rfl (KI hE rfl JA) (fun a hE=>?_)
   obtain ⟨Xx55,qXx55,H⟩:=H
   refine KB (v:=.int .i64 Xx55) rfl rfl hE rfl (KU hE rfl sc3 qXx55) (fun a hE=>?_)
   refine KB (v:=.int .i64 (IntKind.wrap .i64 (Xx55+1))) rfl rfl hE rfl (KL hE rfl rfl KN JE) (fun a hE=>?_)
   obtain ⟨Xx56,qXx56,H⟩:=H
   refine KB (v:=.pointer (some Xx56)) rfl rfl hE rfl (KW hE (Jg rfl (congrArg Value.pointer qXx56))) (fun a hE=>?_)
   refine KB (v:=.pointer (some ((Xx56).add 1))) rfl rfl hE rfl (KI hE rfl JA) (fun a hE=>?_)
   obtain ⟨u_57,qu_57,H⟩:=H
   refine JI rfl rfl hE hR (JK hE rfl rfl sz3 qu_57) (fun a w hE hR hh=>?_)
   replace H:=M.at hh H; clear hh
   refine KG ?_
   exact ⟨hE.cut (.cons rfl (.cons rfl Subs.nil)),hR,H⟩
  ·replace H:=M.ite_f hb H
   refine Ka ?_
   exact ⟨hE.cut (.cons rfl (.cons rfl Subs.nil)),hR,H⟩
def UW (self1:(Int)→M (Value ⊕ (Unit))) (C11:Option Addr) (C14:Int):M (Value ⊕ (Unit)):=do
 let Xx15←nilP C11
 let Xx16←ldI .i64 ((Xx15).add 1)
 let Xx17←nilP C11
 stV ((Xx17).add 1) (.int .i64 (IntKind.wrap .i64 (Xx16+1)))
 self1 (IntKind.wrap .i64 (C14+1))
def JZ (self1:(Int)→M (Value ⊕ (Unit))) (C20:Option Addr) (C23:Int) (Xx19:Bool):M (Value ⊕ (Unit)):=do
 M.ite Xx19 (do
  thr (ZP C20) fun Xx24=>do
   UW self1 C20 C23
  ) (do
  UW self1 C20 C23
  )
noncomputable def KBN:Array Oper:=NZ Go.Proofs.Tryz.f174 3
def KEw:List (List Nat):=[[],[0],[1],[2],[],[4],[5],[6],[7],[3,8],[9],[10],[11,10],[12,10],[13,10],[10],[15,10],[16,10],[17,10],[14,18,10],[10],[10],[20,21,10],[19,22,10],[10,23]]
def KEx:List (List Nat):=[[],[0],[1],[2],[],[4],[5],[6],[7],[3,8],[9],[10],[10,11],[10,12],[10,13],[10],[10,15],[10,16],[10,17],[10,14,18],[10],[10],[10,20,21],[10,19,22],[10,23]]
def KEy:List (List Nat):=[[],[0],[0,1],[0,1,2],[],[4],[4,5],[4,5,6],[4,5,6,7],[0,1,2,3,4,5,6,7,8],[0,1,2,3,4,5,6,7,8,9],[0,1,2,3,4,5,6,7,8,9,10],[0,1,2,3,4,5,6,7,8,9,10,11],[0,1,2,3,4,5,6,7,8,9,10,11,12],[0,1,2,3,4,5,6,7,8,9,10,11,12,13],[0,1,2,3,4,5,6,7,8,9,10],[0,1,2,3,4,5,6,7,8,9,10,15],[0,1,2,3,4,5,6,7,8,9,10,15,16],[0,1,2,3,4,5,6,7,8,9,10,15,16,17],[0,1,2,3,4,5,6,7,8,9,10,11,12,13,14,15,16,17,18],[0,1,2,3,4,5,6,7,8,9,10],[0,1,2,3,4,5,6,7,8,9,10],[0,1,2,3,4,5,6,7,8,9,10,20,21],[0,1,2,3,4,5,6,7,8,9,10,11,12,13,14,15,16,17,18,19,20,21,22],[0,1,2,3,4,5,6,7,8,9,10,11,12,13,14,15,16,17,18,19,20,21,22,23]]
theorem KEz:Vg Go.Proofs.Tryz.f174 3 KEw KEx KEy=true:=by kernel_rfl
theorem KC6:Gi 25 KEw KEx KEy [0,1,2,4,0,16,32,64,128,264,512,1024,3072,5120,9216,1024,33792,66560,132096,279552,1024,1024,3146752,4719616,8389632] [0,1,2,4,0,16,32,64,128,264,512,1024,3072,5120,9216,1024,33792,66560,132096,279552,1024,1024,3146752,4719616,8389632] [0,1,3,7,0,16,48,112,240,511,1023,2047,4095,8191,16383,2047,34815,100351,231423,524287,2047,2047,3147775,8388607,16777215]=true:=by kernel_rfl
def U1 (C3:Option Addr) (C4:ByteArray) (C5:Int) (self1:(Int)→M (Value ⊕ (Unit))):(Int)→M (Value ⊕ (Unit)):=fun s=>match s with
 | Xx2=>do
  M.ite (decide (Xx2 < C5)) (do
   let Xx25←nilP C3
   let Xx26←nilP C3
   let Xx27←ldI .i64 ((Xx25).add 1)
   let Xx28←ldS ((Xx26).add 0)
   M.ite (decide (Xx27 ≥ (Xx28.size:Int))) (do
    JZ self1 C3 Xx2 true
    ) (do
    let Xx30←nilP C3
    let Xx31←nilP C3
    let Xx32←ixS C4 Xx2
    let Xx33←ldS ((Xx30).add 0)
    let Xx34←ldI .i64 ((Xx31).add 1)
    let Xx35←ixS Xx33 Xx34
    JZ self1 C3 Xx2 (Xx35 != Xx32)
    )
   ) (do
   M.pure (.inr ())
   )
def Zl (x0:Option Addr) (x1:ByteArray):M (Value ⊕ (Unit)):=do
 M.loop (U1 x0 x1 (x1.size:Int)) 0
theorem JR (x0:Option Addr) (x1:ByteArray):Xl Go.Proofs.Tryz.prog 174 #[.pointer x0,.string x1] (fun (r:Unit)=>.tuple #[]) (Zl x0 x1):=by
 refine YH [(0,.pointer x0),(1,.string x1)] Go.Proofs.Tryz.func174 rfl rfl (Nat.le_of_ble_eq_true rfl) (Ke ⟨rfl,rfl,trivial⟩) (fun w0 w Q R X a hret hthr hE hR H=>?_)
 unfold Zl at H
 refine KH (fun K hK_1=>?_)
 refine KC ?_
 refine KB (v:=.string x1) rfl rfl hE rfl (KD hE rfl) (fun a hE=>?_)
 refine KB (v:=.int .i64 (x1.size:Int)) rfl rfl hE rfl (U3 hE rfl un9) (fun a hE=>?_)
 refine KB (v:=.int .i64 0) rfl rfl hE rfl (KD hE rfl) (fun a hE=>?_)
 refine KG ?_
 refine hK_1 _ _ ?_
 refine Kj ?_
 refine J7 (fun (s:Int)=>(⟨45,[]⟩:Frm)) (fun (s:Int)=>[(0,.pointer x0),(1,.string x1),(6,.int .i64 (x1.size:Int)),(7,.int .i64 s)]) H (hE.cut (.cons rfl (.cons rfl (.cons rfl (.cons rfl Subs.nil))))) hR (fun Y self1 hY_6 Xx2 a w hE hR H=>?_)
 replace hE:Env (⟨45,[]⟩:Frm) a [(0,.pointer x0),(1,.string x1),(6,.int .i64 (x1.size:Int)),(7,.int .i64 Xx2)]:=hE
 replace H:(U1 x0 x1 (x1.size:Int) self1 Xx2).wp w.heap Q:=H
 unfold U1 at H
 refine KH (fun K hK_7=>?_)
 refine KC ?_
 refine KB (v:=.bool (decide (Xx2 < (x1.size:Int)))) rfl rfl hE rfl (KL hE rfl rfl KN JL) (fun a hE=>?_)
 refine KG ?_
 refine hK_7 _ _ ?_
 refine KH (fun K hK_8=>?_)
 refine KS (decide (Xx2 < (x1.size:Int))) hE rfl (fun hb=>?_) (fun hb=>?_)
 ·replace H:=M.ite_t hb H
  refine Ka ?_
  refine hK_8 _ _ ?_
  refine KH (fun K hK_9=>?_)
  refine Kj ?_
  refine KH (fun K hK_10=>?_)
  refine KC ?_
  refine KB (v:=.int .i64 Xx2) rfl rfl hE rfl (KD hE rfl) (fun a hE=>?_)
  refine KB (v:=.int .i64 Xx2) rfl rfl hE rfl (KE hE rfl) (fun a hE=>?_)
  refine KG ?_
  refine hK_10 _ _ ?_
  refine Ku (fun a w=>Env (⟨45,[]⟩:Frm) a [(0,.pointer x0),(1,.string x1),(6,.int .i64 (x1.size:Int)),(7,.int .i64 Xx2)]∧Rest w0 w∧(UW self1 x0 Xx2).wp w.heap Q) ?_ ?_
  ·rintro a w ⟨hE,hR,H⟩
   unfold UW at H
   refine KC ?_
   refine KB (v:=.pointer x0) rfl rfl hE rfl (KD hE rfl) (fun a hE=>?_)
   obtain ⟨Xx15,qXx15,H⟩:=H
   refine KB (v:=.pointer (some Xx15)) rfl rfl hE rfl (KW hE (Jg rfl (congrArg Value.pointer qXx15))) (fun a hE=>?_)
   refine KB (v:=.pointer (some ((Xx15).add 1))) rfl rfl hE rfl (KI hE rfl JA) (fun a hE=>?_)
   obtain ⟨Xx16,qXx16,H⟩:=H
   refine KB (v:=.int .i64 Xx16) rfl rfl hE rfl (KU hE rfl sc3 qXx16) (fun a hE=>?_)
   refine KB (v:=.int .i64 (IntKind.wrap .i64 (Xx16+1))) rfl rfl hE rfl (KL hE rfl rfl KN JE) (fun a hE=>?_)
   obtain ⟨Xx17,qXx17,H⟩:=H
   refine KB (v:=.pointer (some Xx17)) rfl rfl hE rfl (KW hE (Jg rfl (congrArg Value.pointer qXx17))) (fun a hE=>?_)
   refine KB (v:=.pointer (some ((Xx17).add 1))) rfl rfl hE rfl (KI hE rfl JA) (fun a hE=>?_)
   obtain ⟨u_18,qu_18,H⟩:=H
   refine JI rfl rfl hE hR (JK hE rfl rfl sz3 qu_18) (fun a w hE hR hh=>?_)
   replace H:=M.at hh H; clear hh
   refine KG ?_
   refine hK_9 _ _ ?_
   refine KC ?_
   refine KB (v:=.int .i64 (IntKind.wrap .i64 (Xx2+1))) rfl rfl hE rfl (KL hE rfl rfl KN JE) (fun a hE=>?_)
   refine KB (v:=.int .i64 (IntKind.wrap .i64 (Xx2+1))) rfl rfl hE rfl (KD hE rfl) (fun a hE=>?_)
   refine KG ?_
   exact hY_6 (IntKind.wrap .i64 (Xx2+1)) _ _ (hE.cut (.cons rfl (.cons rfl (.cons rfl (.cons rfl Subs.nil))))) hR H
  ·skip
   refine Ku (fun a w=>∃ (Xx19:Bool),Env (⟨45,[]⟩:Frm) a [(0,.pointer x0),(1,.string x1),(6,.int .i64 (x1.size:Int)),(7,.int .i64 Xx2),(34,.bool Xx19)]∧Rest w0 w∧(JZ self1 x0 Xx2 Xx19).wp w.heap Q) ?_ ?_
   ·rintro a w ⟨Xx19,hE,hR,H⟩
    unfold JZ at H
    refine KS Xx19 hE rfl (fun hb=>?_) (fun hb=>?_)
    ·replace H:=M.ite_t hb H
     refine KC ?_
     refine KB (v:=.pointer x0) rfl rfl hE rfl (KD hE rfl) (fun a hE=>?_)
     refine UF hE hR Zg rfl (Zr x0) H (fun _ _ hR HQ=>Xu.ne rfl (Xu.ne rfl (hthr _ _ hR HQ))) (fun Xx24 a w ea hR H=>?_)
     have hE:=Env.put_some hE rfl ea; clear ea
     refine KG ?_
     exact ⟨hE.cut (.cons rfl (.cons rfl (.cons rfl (.cons rfl Subs.nil)))),hR,H⟩
    ·replace H:=M.ite_f hb H
     refine Ka ?_
     exact ⟨hE.cut (.cons rfl (.cons rfl (.cons rfl (.cons rfl Subs.nil)))),hR,H⟩
   ·skip
    obtain ⟨Xx25,qXx25,H⟩:=H
    obtain ⟨Xx26,qXx26,H⟩:=H
    obtain ⟨Xx27,qXx27,H⟩:=H
    obtain ⟨Xx28,qXx28,H⟩:=H
    rcases Kq (decide (Xx27 ≥ (Xx28.size:Int))) with hb_29 | hb_29
    ·replace H:=M.ite_t hb_29 H
     refine VL (rops:=KBN) (by kernel_rfl) ?_
     have hT:Tab KBN _ _ _:=Jf KEz rfl (by kernel_rfl)
     have hM:=TabM.of KC6
     refine Zq (m:=25) (fun w:World=>(fun h:Heap=>(KV h ((Xx25).add 1)=some (.int .i64 Xx27))∧(KV h ((Xx26).add 0)=some (.string Xx28))) w.heap) [9,10,11,12,13,14,15,16,17,18,19,20,21,22,23,24] (unb 25 0) mo hR (by kernel_rfl) (by kernel_rfl) (fun w' e=>by rw [e]; exact ⟨qXx27,qXx28⟩) (fun w hh hR hs=>?_)
     replace H:=M.at hh H; clear hh
     refine KF (i:=0) (v:=.pointer x0) (unb 25 1) rfl rfl hT (anyM hM (by kernel_rfl)) hE rfl (KA rfl) (fun w=>KD hE rfl) (fun a hE=>?_)
     refine KF (i:=1) (v:=.pointer (some Xx25)) (unb 25 3) rfl rfl hT (anyM hM (by kernel_rfl)) hE rfl (KA rfl) (fun w=>KW hE (Jg rfl (congrArg Value.pointer qXx25))) (fun a hE=>?_)
     refine KF (i:=2) (v:=.pointer (some ((Xx25).add 1))) (unb 25 7) rfl rfl hT (anyM hM (by kernel_rfl)) hE rfl (KA rfl) (fun w=>KI hE rfl JA) (fun a hE=>?_)
     refine KF (i:=4) (v:=.pointer x0) (unb 25 23) rfl rfl hT (anyM hM (by kernel_rfl)) hE rfl (KA rfl) (fun w=>KD hE rfl) (fun a hE=>?_)
     refine KF (i:=5) (v:=.pointer (some Xx26)) (unb 25 55) rfl rfl hT (anyM hM (by kernel_rfl)) hE rfl (KA rfl) (fun w=>KW hE (Jg rfl (congrArg Value.pointer qXx26))) (fun a hE=>?_)
     refine KF (i:=6) (v:=.pointer (some ((Xx26).add 0))) (unb 25 119) rfl rfl hT (anyM hM (by kernel_rfl)) hE rfl (KA rfl) (fun w=>KI hE rfl Wk) (fun a hE=>?_)
     refine Kt (i:=3) (v:=.int .i64 Xx27) (unb 25 127) rfl rfl hT (UB hM (by kernel_rfl)) hE rfl (KA rfl) hs (fun w s=>KU hE rfl sc3 s.1) (fun a hE=>?_)
     refine Kt (i:=7) (v:=.string Xx28) (unb 25 255) rfl rfl hT (UB hM (by kernel_rfl)) hE rfl (KA rfl) hs (fun w s=>KU hE rfl sc9 s.2) (fun a hE=>?_)
     refine KF (i:=8) (v:=.int .i64 (Xx28.size:Int)) (unb 25 511) rfl rfl hT (anyM hM (by kernel_rfl)) hE rfl (KA rfl) (fun w=>U3 hE rfl un9) (fun a hE=>?_)
     refine KF (i:=9) (v:=.bool (decide (Xx27 ≥ (Xx28.size:Int)))) (unb 25 1023) rfl rfl hT (anyM hM (by kernel_rfl)) hE rfl (KA rfl) (fun w=>KL hE rfl rfl KN YJ) (fun a hE=>?_)
     refine KF (i:=10) (v:=.bool (decide (Xx27 ≥ (Xx28.size:Int)))) (unb 25 2047) rfl rfl hT (anyM hM (by kernel_rfl)) hE rfl (KA rfl) (fun w=>KD hE rfl) (fun a hE=>?_)
     have hE:=hE.reb 20 (decide (Xx27 ≥ (Xx28.size:Int))) true hb_29 rfl
     replace hE:=hE.cut (l':=[(0,.pointer x0),(1,.string x1),(6,.int .i64 (x1.size:Int)),(7,.int .i64 Xx2),(4,.int .i64 Xx2),(20,.bool true)]) (.cons rfl (.cons rfl (.cons rfl (.cons rfl (.cons rfl (.cons rfl Subs.nil))))))
     refine Js [(11,some 21),(12,some 22),(13,some 23),(14,some 24),(15,some 25),(16,some 26),(17,some 27),(18,some 28),(19,some 29),(20,some 30),(21,some 31),(22,some 32),(23,some 33)] 1 hT hM hE (by kernel_rfl) (m':=16777215) (by kernel_rfl) (fun a hE=>?_)
     refine KF (i:=24) (v:=.bool true) (unb 25 33554431) rfl rfl hT (anyM hM (by kernel_rfl)) hE rfl (KA rfl) (fun w=>Kc hE rfl rfl) (fun a hE=>?_)
     refine JM hT (Wa hM (by kernel_rfl)) ?_
     exact ⟨true,hE.cut (.cons rfl (.cons rfl (.cons rfl (.cons rfl (.cons rfl Subs.nil))))),hR,H⟩
    ·replace H:=M.ite_f hb_29 H
     obtain ⟨Xx30,qXx30,H⟩:=H
     obtain ⟨Xx31,qXx31,H⟩:=H
     obtain ⟨Xx32,qXx32,H⟩:=H
     obtain ⟨Xx33,qXx33,H⟩:=H
     obtain ⟨Xx34,qXx34,H⟩:=H
     obtain ⟨Xx35,qXx35,H⟩:=H
     refine VL (rops:=KBN) (by kernel_rfl) ?_
     have hT:Tab KBN _ _ _:=Jf KEz rfl (by kernel_rfl)
     have hM:=TabM.of KC6
     refine Zq (m:=25) (fun w:World=>(fun h:Heap=>(KV h ((Xx25).add 1)=some (.int .i64 Xx27))∧(KV h ((Xx26).add 0)=some (.string Xx28))∧(KV h ((Xx30).add 0)=some (.string Xx33))∧(KV h ((Xx31).add 1)=some (.int .i64 Xx34))) w.heap) [19,23,24] (unb 25 0) mo hR (by kernel_rfl) (by kernel_rfl) (fun w' e=>by rw [e]; exact ⟨qXx27,qXx28,qXx33,qXx34⟩) (fun w hh hR hs=>?_)
     replace H:=M.at hh H; clear hh
     refine KF (i:=0) (v:=.pointer x0) (unb 25 1) rfl rfl hT (anyM hM (by kernel_rfl)) hE rfl (KA rfl) (fun w=>KD hE rfl) (fun a hE=>?_)
     refine KF (i:=1) (v:=.pointer (some Xx25)) (unb 25 3) rfl rfl hT (anyM hM (by kernel_rfl)) hE rfl (KA rfl) (fun w=>KW hE (Jg rfl (congrArg Value.pointer qXx25))) (fun a hE=>?_)
     refine KF (i:=2) (v:=.pointer (some ((Xx25).add 1))) (unb 25 7) rfl rfl hT (anyM hM (by kernel_rfl)) hE rfl (KA rfl) (fun w=>KI hE rfl JA) (fun a hE=>?_)
     refine KF (i:=4) (v:=.pointer x0) (unb 25 23) rfl rfl hT (anyM hM (by kernel_rfl)) hE rfl (KA rfl) (fun w=>KD hE rfl) (fun a hE=>?_)
     refine KF (i:=5) (v:=.pointer (some Xx26)) (unb 25 55) rfl rfl hT (anyM hM (by kernel_rfl)) hE rfl (KA rfl) (fun w=>KW hE (Jg rfl (congrArg Value.pointer qXx26))) (fun a hE=>?_)
     refine KF (i:=6) (v:=.pointer (some ((Xx26).add 0))) (unb 25 119) rfl rfl hT (anyM hM (by kernel_rfl)) hE rfl (KA rfl) (fun w=>KI hE rfl Wk) (fun a hE=>?_)
     refine Kt (i:=3) (v:=.int .i64 Xx27) (unb 25 127) rfl rfl hT (UB hM (by kernel_rfl)) hE rfl (KA rfl) hs (fun w s=>KU hE rfl sc3 s.1) (fun a hE=>?_)
     refine Kt (i:=7) (v:=.string Xx28) (unb 25 255) rfl rfl hT (UB hM (by kernel_rfl)) hE rfl (KA rfl) hs (fun w s=>KU hE rfl sc9 s.2.1) (fun a hE=>?_)
     refine KF (i:=8) (v:=.int .i64 (Xx28.size:Int)) (unb 25 511) rfl rfl hT (anyM hM (by kernel_rfl)) hE rfl (KA rfl) (fun w=>U3 hE rfl un9) (fun a hE=>?_)
     refine KF (i:=9) (v:=.bool (decide (Xx27 ≥ (Xx28.size:Int)))) (unb 25 1023) rfl rfl hT (anyM hM (by kernel_rfl)) hE rfl (KA rfl) (fun w=>KL hE rfl rfl KN YJ) (fun a hE=>?_)
     refine KF (i:=10) (v:=.bool (decide (Xx27 ≥ (Xx28.size:Int)))) (unb 25 2047) rfl rfl hT (anyM hM (by kernel_rfl)) hE rfl (KA rfl) (fun w=>KD hE rfl) (fun a hE=>?_)
     have hE:=hE.reb 20 (decide (Xx27 ≥ (Xx28.size:Int))) false hb_29 rfl
     replace hE:=hE.cut (l':=[(0,.pointer x0),(1,.string x1),(6,.int .i64 (x1.size:Int)),(7,.int .i64 Xx2),(4,.int .i64 Xx2),(20,.bool false)]) (.cons rfl (.cons rfl (.cons rfl (.cons rfl (.cons rfl (.cons rfl Subs.nil))))))
     refine KF (i:=11) (v:=.pointer x0) (unb 25 4095) rfl rfl hT (anyM hM (by kernel_rfl)) hE rfl (KP rfl hE rfl rfl rfl) (fun w=>KD hE rfl) (fun a hE=>?_)
     refine KF (i:=12) (v:=.pointer (some Xx30)) (unb 25 8191) rfl rfl hT (anyM hM (by kernel_rfl)) hE rfl (KP rfl hE rfl rfl rfl) (fun w=>KW hE (Jg rfl (congrArg Value.pointer qXx30))) (fun a hE=>?_)
     refine KF (i:=13) (v:=.pointer (some ((Xx30).add 0))) (unb 25 16383) rfl rfl hT (anyM hM (by kernel_rfl)) hE rfl (KP rfl hE rfl rfl rfl) (fun w=>KI hE rfl Wk) (fun a hE=>?_)
     refine KF (i:=15) (v:=.pointer x0) (unb 25 49151) rfl rfl hT (anyM hM (by kernel_rfl)) hE rfl (KP rfl hE rfl rfl rfl) (fun w=>KD hE rfl) (fun a hE=>?_)
     refine KF (i:=16) (v:=.pointer (some Xx31)) (unb 25 114687) rfl rfl hT (anyM hM (by kernel_rfl)) hE rfl (KP rfl hE rfl rfl rfl) (fun w=>KW hE (Jg rfl (congrArg Value.pointer qXx31))) (fun a hE=>?_)
     refine KF (i:=17) (v:=.pointer (some ((Xx31).add 1))) (unb 25 245759) rfl rfl hT (anyM hM (by kernel_rfl)) hE rfl (KP rfl hE rfl rfl rfl) (fun w=>KI hE rfl JA) (fun a hE=>?_)
     refine KF (i:=20) (v:=.string x1) (unb 25 1294335) rfl rfl hT (anyM hM (by kernel_rfl)) hE rfl (KP rfl hE rfl rfl rfl) (fun w=>KD hE rfl) (fun a hE=>?_)
     refine KF (i:=21) (v:=.int .i64 Xx2) (unb 25 3391487) rfl rfl hT (anyM hM (by kernel_rfl)) hE rfl (KP rfl hE rfl rfl rfl) (fun w=>KD hE rfl) (fun a hE=>?_)
     refine KF (i:=22) (v:=.int .u8 Xx32) (unb 25 7585791) rfl rfl hT (anyM hM (by kernel_rfl)) hE rfl (KP rfl hE rfl rfl rfl) (fun w=>VW hE rfl rfl un9 qXx32) (fun a hE=>?_)
     refine Kt (i:=14) (v:=.string Xx33) (unb 25 7602175) rfl rfl hT (UB hM (by kernel_rfl)) hE rfl (KP rfl hE rfl rfl rfl) hs (fun w s=>KU hE rfl sc9 s.2.2.1) (fun a hE=>?_)
     refine Kt (i:=18) (v:=.int .i64 Xx34) (unb 25 7864319) rfl rfl hT (UB hM (by kernel_rfl)) hE rfl (KP rfl hE rfl rfl rfl) hs (fun w s=>KU hE rfl sc3 s.2.2.2) (fun a hE=>?_)
     refine KF (i:=19) (v:=.int .u8 Xx35) (unb 25 8388607) rfl rfl hT (anyM hM (by kernel_rfl)) hE rfl (KP rfl hE rfl rfl rfl) (fun w=>VW hE rfl rfl un9 qXx35) (fun a hE=>?_)
     refine KF (i:=23) (v:=.bool (Xx35 != Xx32)) (unb 25 16777215) rfl rfl hT (anyM hM (by kernel_rfl)) hE rfl (KP rfl hE rfl rfl rfl) (fun w=>KL hE rfl rfl KN Yi) (fun a hE=>?_)
     refine KF (i:=24) (v:=.bool (Xx35 != Xx32)) (unb 25 33554431) rfl rfl hT (anyM hM (by kernel_rfl)) hE rfl (KA rfl) (fun w=>Kd hE rfl rfl) (fun a hE=>?_)
     refine JM hT (Wa hM (by kernel_rfl)) ?_
     exact ⟨Xx35 != Xx32,hE.cut (.cons rfl (.cons rfl (.cons rfl (.cons rfl (.cons rfl Subs.nil))))),hR,H⟩
 ·replace H:=M.ite_f hb H
  refine J6 ?_
  refine Xu.same ?_
  exact hret _ _ _ () _ hE hR (KM hE rfl RV.nil) rfl H
def Uc (x0:ByteArray) (x1:Int):M (Int):=do
 let Xx3←UL x0 x1
 M.pure Xx3
theorem XG (x0:ByteArray) (x1:Int):ZK Go.Proofs.Tryz.prog 242 #[.string x0,.int .u8 x1] (fun (r:Int)=>.int .i64 r) (Uc x0 x1):=by
 refine KY [(0,.string x0),(1,.int .u8 x1)] Go.Proofs.Tryz.func242 rfl rfl (Nat.le_of_ble_eq_true rfl) (Ke ⟨rfl,rfl,trivial⟩) (fun w0 w Q R a hret hE hR H=>?_)
 unfold Uc at H
 refine KH (fun K hK_1=>?_)
 refine KC ?_
 refine KB (v:=.int .i64 0) rfl rfl hE rfl (KE hE rfl) (fun a hE=>?_)
 refine KG ?_
 refine hK_1 _ _ ?_
 refine KH (fun K hK_2=>?_)
 refine KC ?_
 refine KB (v:=.string x0) rfl rfl hE rfl (KD hE rfl) (fun a hE=>?_)
 refine KB (v:=.int .u8 x1) rfl rfl hE rfl (KD hE rfl) (fun a hE=>?_)
 refine KZ hE hR Wi rfl (Wy x0 x1) (M.unbind H) (fun Xx3 a w ea hR H=>?_)
 have hE:=Env.put_some hE rfl ea; clear ea
 refine KB (v:=.int .i64 Xx3) rfl rfl hE rfl (KE hE rfl) (fun a hE=>?_)
 refine KG ?_
 refine hK_2 _ _ ?_
 refine Kg ?_
 exact hret _ _ _ Xx3 _ hE hR (KM hE rfl (RV.tmp rfl RV.nil)) rfl H
end Gx
namespace Gx
open Go
set_option linter.unusedVariables false
set_option maxRecDepth 100000
def Jy (C28:Option Addr) (C29:Int) (C30:Int):M (Value ⊕ (Int)):=do
 let Xx32←nilP C28
 let Xx33←ldI .i64 ((Xx32).add 1)
 let Xx34←nilP C28
 stV ((Xx34).add 1) (.int .i64 (IntKind.wrap .i64 (Xx33+1)))
 M.pure (.inr (IntKind.wrap .u8 (iOr .i64 (iShl .i64 C29 4) C30)))
def ZI (C38:Option Addr) (C39:Int) (C40:Int) (Xx37:Bool):M (Value ⊕ (Int)):=do
 M.ite Xx37 (do
  thr (ZP C38) fun Xx41=>do
   Jy C38 C39 C40
  ) (do
  Jy C38 C39 C40
  )
noncomputable def Xa:Array Oper:=NZ Go.Proofs.Tryz.f218 11
def KC7:List (List Nat):=[[],[0],[1],[2],[],[4],[5],[6],[7],[3,8],[9],[10],[11,10],[10,12],[13,10],[14],[15,14],[16,14,14],[17],[18,17],[17,19,14],[14,20]]
def KC8:List (List Nat):=[[],[0],[1],[2],[],[4],[5],[6],[7],[3,8],[9],[10],[10,11],[10,12],[13],[14],[14,15],[14,16],[17],[17,18],[14,17,19],[14,20]]
def KC9:List (List Nat):=[[],[0],[0,1],[0,1,2],[],[4],[4,5],[4,5,6],[4,5,6,7],[0,1,2,3,4,5,6,7,8],[0,1,2,3,4,5,6,7,8,9],[0,1,2,3,4,5,6,7,8,9,10],[0,1,2,3,4,5,6,7,8,9,10,11],[0,1,2,3,4,5,6,7,8,9,10,11,12],[0,1,2,3,4,5,6,7,8,9,10,11,12,13],[0,1,2,3,4,5,6,7,8,9,10,11,12,13,14],[0,1,2,3,4,5,6,7,8,9,10,11,12,13,14,15],[0,1,2,3,4,5,6,7,8,9,10,11,12,13,14,15,16],[0,1,2,3,4,5,6,7,8,9,10,11,12,13,14,15,16,17],[0,1,2,3,4,5,6,7,8,9,10,11,12,13,14,15,16,17,18],[0,1,2,3,4,5,6,7,8,9,10,11,12,13,14,15,16,17,18,19],[0,1,2,3,4,5,6,7,8,9,10,11,12,13,14,15,16,17,18,19,20]]
theorem zM:Vg Go.Proofs.Tryz.f218 11 KC7 KC8 KC9=true:=by kernel_rfl
theorem qR:Gi 22 KC7 KC8 KC9 [0,1,2,4,0,16,32,64,128,264,512,1024,3072,5120,9216,16384,49152,81920,131072,393216,671744,1064960] [0,1,2,4,0,16,32,64,128,264,512,1024,3072,5120,8192,16384,49152,81920,131072,393216,671744,1064960] [0,1,3,7,0,16,48,112,240,511,1023,2047,4095,8191,16383,32767,65535,131071,262143,524287,1048575,2097151]=true:=by kernel_rfl
def Jz (C18:Option Addr) (C19:Int):M (Value ⊕ (Int)):=do
 let Xx21←nilP C18
 let Xx22←ldI .i64 ((Xx21).add 1)
 let Xx23←nilP C18
 stV ((Xx23).add 1) (.int .i64 (IntKind.wrap .i64 (Xx22+1)))
 let Xx26←ZC C18
 let Xx27←Uc (⟨#[48,49,50,51,52,53,54,55,56,57,97,98,99,100,101,102]⟩:ByteArray) Xx26
 let Xx42←nilP C18
 let Xx43←nilP C18
 let Xx44←ldI .i64 ((Xx42).add 1)
 let Xx45←ldS ((Xx43).add 0)
 M.ite (decide (Xx44 ≥ (Xx45.size:Int))) (do
  ZI C18 C19 Xx27 true
  ) (do
  M.ite (decide (Xx27 < 0)) (do
   ZI C18 C19 Xx27 true
   ) (do
   M.ite (C19 == 7) (do
    ZI C18 C19 Xx27 (decide (Xx27 < 15))
    ) (do
    ZI C18 C19 Xx27 false
    )
   )
  )
def ZJ (C50:Option Addr) (C51:Int) (Xx49:Bool):M (Value ⊕ (Int)):=do
 M.ite Xx49 (do
  thr (ZP C50) fun Xx52=>do
   Jz C50 C51
  ) (do
  Jz C50 C51
  )
noncomputable def Gu:Array Oper:=NZ Go.Proofs.Tryz.f218 7
def KE0:List (List Nat):=[[],[0],[1],[2],[],[4],[5],[6],[7],[3,8],[9],[10],[11,10],[10,12],[13,10],[14],[15,14],[16,14,14],[17],[18,17],[17,19,14],[14,20]]
def KE1:List (List Nat):=[[],[0],[1],[2],[],[4],[5],[6],[7],[3,8],[9],[10],[10,11],[10,12],[13],[14],[14,15],[14,16],[17],[17,18],[14,17,19],[14,20]]
def KE2:List (List Nat):=[[],[0],[0,1],[0,1,2],[],[4],[4,5],[4,5,6],[4,5,6,7],[0,1,2,3,4,5,6,7,8],[0,1,2,3,4,5,6,7,8,9],[0,1,2,3,4,5,6,7,8,9,10],[0,1,2,3,4,5,6,7,8,9,10,11],[0,1,2,3,4,5,6,7,8,9,10,11,12],[0,1,2,3,4,5,6,7,8,9,10,11,12,13],[0,1,2,3,4,5,6,7,8,9,10,11,12,13,14],[0,1,2,3,4,5,6,7,8,9,10,11,12,13,14,15],[0,1,2,3,4,5,6,7,8,9,10,11,12,13,14,15,16],[0,1,2,3,4,5,6,7,8,9,10,11,12,13,14,15,16,17],[0,1,2,3,4,5,6,7,8,9,10,11,12,13,14,15,16,17,18],[0,1,2,3,4,5,6,7,8,9,10,11,12,13,14,15,16,17,18,19],[0,1,2,3,4,5,6,7,8,9,10,11,12,13,14,15,16,17,18,19,20]]
theorem KBO:Vg Go.Proofs.Tryz.f218 7 KE0 KE1 KE2=true:=by kernel_rfl
theorem zN:Gi 22 KE0 KE1 KE2 [0,1,2,4,0,16,32,64,128,264,512,1024,3072,5120,9216,16384,49152,81920,131072,393216,671744,1064960] [0,1,2,4,0,16,32,64,128,264,512,1024,3072,5120,8192,16384,49152,81920,131072,393216,671744,1064960] [0,1,3,7,0,16,48,112,240,511,1023,2047,4095,8191,16383,32767,65535,131071,262143,524287,1048575,2097151]=true:=by kernel_rfl
def UX (x0:Option Addr):M (Value ⊕ (Int)):=do
 let Xx4←ZC x0
 let Xx6←M.ite (Xx4 == 39) (do
  M.pure true
  ) (do
  M.pure (Xx4 == 92)
  )
 M.ite Xx6 (do
  let Xx8←nilP x0
  let Xx9←ldI .i64 ((Xx8).add 1)
  let Xx10←nilP x0
  stV ((Xx10).add 1) (.int .i64 (IntKind.wrap .i64 (Xx9+1)))
  M.pure (.inr Xx4)
  ) (do
  thr (Zl x0 (⟨#[120]⟩:ByteArray)) fun Xx14=>do
   let Xx16←ZC x0
   let Xx17←Uc (⟨#[48,49,50,51,52,53,54,55,56,57,97,98,99,100,101,102]⟩:ByteArray) Xx16
   let Xx53←nilP x0
   let Xx54←nilP x0
   let Xx55←ldI .i64 ((Xx53).add 1)
   let Xx56←ldS ((Xx54).add 0)
   M.ite (decide (Xx55 ≥ (Xx56.size:Int))) (do
    ZJ x0 Xx17 true
    ) (do
    M.ite (decide (Xx17 < 0)) (do
     ZJ x0 Xx17 true
     ) (do
     M.ite (decide (Xx17 > 1)) (do
      ZJ x0 Xx17 (decide (Xx17 < 7))
      ) (do
      ZJ x0 Xx17 false
      )
     )
    )
  )
theorem Gc (x0:Option Addr):Xl Go.Proofs.Tryz.prog 218 #[.pointer x0] (fun (r:Int)=>.int .u8 r) (UX x0):=by
 refine YH [(0,.pointer x0)] Go.Proofs.Tryz.func218 rfl rfl (Nat.le_of_ble_eq_true rfl) (Ke ⟨rfl,trivial⟩) (fun w0 w Q R X a hret hthr hE hR H=>?_)
 unfold UX at H
 refine KH (fun K hK_1=>?_)
 refine KC ?_
 refine KB (v:=.int .u8 0) rfl rfl hE rfl (KE hE rfl) (fun a hE=>?_)
 refine KG ?_
 refine hK_1 _ _ ?_
 refine KH (fun K hK_2=>?_)
 refine KH (fun K hK_3=>?_)
 refine KC ?_
 refine KB (v:=.pointer x0) rfl rfl hE rfl (KD hE rfl) (fun a hE=>?_)
 refine KZ hE hR ZG rfl (ZQ x0) (M.unbind H) (fun Xx4 a w ea hR H=>?_)
 have hE:=Env.put_some hE rfl ea; clear ea
 refine KB (v:=.int .u8 Xx4) rfl rfl hE rfl (KE hE rfl) (fun a hE=>?_)
 refine KG ?_
 refine hK_3 _ _ ?_
 refine KH (fun K hK_5=>?_)
 refine KC ?_
 refine KB (v:=.int .u8 Xx4) rfl rfl hE rfl (KD hE rfl) (fun a hE=>?_)
 refine KB (v:=.bool (Xx4 == 39)) rfl rfl hE rfl (KL hE rfl rfl KN Z5) (fun a hE=>?_)
 refine KB (v:=.bool (Xx4 == 39)) rfl rfl hE rfl (KD hE rfl) (fun a hE=>?_)
 refine J5 (n:=(⟨97,[]⟩:Frm)) (w0:=w0) 3 (fun Xx6:Bool=>[(0,.pointer x0),(3,.int .u8 Xx4),(13,.bool Xx6)]) (M.unbind H) (fun Kr hKr H=>?_) ?_
 ·rcases Kq (Xx4 == 39) with hb | hb
  ·replace H:=M.ite_t hb H
   have hE:=hE.reb 10 (Xx4 == 39) true hb rfl
   refine Kf rfl hE rfl rfl rfl (fun a ea=>?_)
   have hE:=Env.put_some hE rfl ea; clear ea
   refine Kf rfl hE rfl rfl rfl (fun a ea=>?_)
   have hE:=Env.put_some hE rfl ea; clear ea
   refine KB rfl rfl hE rfl (Kc hE rfl rfl) (fun a hE=>?_)
   refine KG ?_
   exact hKr _ _ _ (hE.cut (.cons rfl (.cons rfl (.cons rfl Subs.nil)))) hR H
  ·replace H:=M.ite_f hb H
   have hE:=hE.reb 10 (Xx4 == 39) false hb rfl
   refine t_on rfl hE rfl rfl rfl ?_
   refine KB (v:=.int .u8 Xx4) rfl rfl hE rfl (KD hE rfl) (fun a hE=>?_)
   refine t_on rfl hE rfl rfl rfl ?_
   refine KB (v:=.bool (Xx4 == 92)) rfl rfl hE rfl (KL hE rfl rfl KN Z5) (fun a hE=>?_)
   refine KB rfl rfl hE rfl (Kd hE rfl rfl) (fun a hE=>?_)
   refine KG ?_
   exact hKr _ _ _ (hE.cut (.cons rfl (.cons rfl (.cons rfl Subs.nil)))) hR H
 ·intro Xx6 a w hE hR H
  refine KG ?_
  refine hK_5 _ _ ?_
  refine KS Xx6 hE rfl (fun hb=>?_) (fun hb=>?_)
  ·replace H:=M.ite_t hb H
   refine KH (fun K hK_7=>?_)
   refine KC ?_
   refine KB (v:=.pointer x0) rfl rfl hE rfl (KD hE rfl) (fun a hE=>?_)
   obtain ⟨Xx8,qXx8,H⟩:=H
   refine KB (v:=.pointer (some Xx8)) rfl rfl hE rfl (KW hE (Jg rfl (congrArg Value.pointer qXx8))) (fun a hE=>?_)
   refine KB (v:=.pointer (some ((Xx8).add 1))) rfl rfl hE rfl (KI hE rfl JA) (fun a hE=>?_)
   obtain ⟨Xx9,qXx9,H⟩:=H
   refine KB (v:=.int .i64 Xx9) rfl rfl hE rfl (KU hE rfl sc3 qXx9) (fun a hE=>?_)
   refine KB (v:=.int .i64 (IntKind.wrap .i64 (Xx9+1))) rfl rfl hE rfl (KL hE rfl rfl KN JE) (fun a hE=>?_)
   obtain ⟨Xx10,qXx10,H⟩:=H
   refine KB (v:=.pointer (some Xx10)) rfl rfl hE rfl (KW hE (Jg rfl (congrArg Value.pointer qXx10))) (fun a hE=>?_)
   refine KB (v:=.pointer (some ((Xx10).add 1))) rfl rfl hE rfl (KI hE rfl JA) (fun a hE=>?_)
   obtain ⟨u_11,qu_11,H⟩:=H
   refine JI rfl rfl hE hR (JK hE rfl rfl sz3 qu_11) (fun a w hE hR hh=>?_)
   replace H:=M.at hh H; clear hh
   refine KG ?_
   refine hK_7 _ _ ?_
   refine KH (fun K hK_12=>?_)
   refine KC ?_
   refine KB (v:=.int .u8 Xx4) rfl rfl hE rfl (KD hE rfl) (fun a hE=>?_)
   refine KB (v:=.int .u8 Xx4) rfl rfl hE rfl (KE hE rfl) (fun a hE=>?_)
   refine KG ?_
   refine hK_12 _ _ ?_
   refine Kg ?_
   exact hret _ _ _ Xx4 _ hE hR (KM hE rfl (RV.tmp rfl RV.nil)) rfl H
  ·replace H:=M.ite_f hb H
   refine Ka ?_
   refine hK_2 _ _ ?_
   refine KH (fun K hK_13=>?_)
   refine KC ?_
   refine KB (v:=.pointer x0) rfl rfl hE rfl (KD hE rfl) (fun a hE=>?_)
   refine UF hE hR JG rfl (JR x0 (⟨#[120]⟩:ByteArray)) H (fun _ _ hR HQ=>hthr _ _ hR HQ) (fun Xx14 a w ea hR H=>?_)
   have hE:=Env.put_some hE rfl ea; clear ea
   refine KG ?_
   refine hK_13 _ _ ?_
   refine KH (fun K hK_15=>?_)
   refine KC ?_
   refine KB (v:=.pointer x0) rfl rfl hE rfl (KD hE rfl) (fun a hE=>?_)
   refine KZ hE hR ZG rfl (ZQ x0) (M.unbind H) (fun Xx16 a w ea hR H=>?_)
   have hE:=Env.put_some hE rfl ea; clear ea
   refine KZ hE hR Ye rfl (XG (⟨#[48,49,50,51,52,53,54,55,56,57,97,98,99,100,101,102]⟩:ByteArray) Xx16) (M.unbind H) (fun Xx17 a w ea hR H=>?_)
   have hE:=Env.put_some hE rfl ea; clear ea
   refine KB (v:=.int .i64 Xx17) rfl rfl hE rfl (KE hE rfl) (fun a hE=>?_)
   refine KG ?_
   refine hK_15 _ _ ?_
   refine Ku (fun a w=>Env (⟨97,[]⟩:Frm) a [(0,.pointer x0),(4,.int .i64 Xx17)]∧Rest w0 w∧(Jz x0 Xx17).wp w.heap Q) ?_ ?_
   ·rintro a w ⟨hE,hR,H⟩
    unfold Jz at H
    refine KH (fun K hK_20=>?_)
    refine KC ?_
    refine KB (v:=.pointer x0) rfl rfl hE rfl (KD hE rfl) (fun a hE=>?_)
    obtain ⟨Xx21,qXx21,H⟩:=H
    refine KB (v:=.pointer (some Xx21)) rfl rfl hE rfl (KW hE (Jg rfl (congrArg Value.pointer qXx21))) (fun a hE=>?_)
    refine KB (v:=.pointer (some ((Xx21).add 1))) rfl rfl hE rfl (KI hE rfl JA) (fun a hE=>?_)
    obtain ⟨Xx22,qXx22,H⟩:=H
    refine KB (v:=.int .i64 Xx22) rfl rfl hE rfl (KU hE rfl sc3 qXx22) (fun a hE=>?_)
    refine KB (v:=.int .i64 (IntKind.wrap .i64 (Xx22+1))) rfl rfl hE rfl (KL hE rfl rfl KN JE) (fun a hE=>?_)
    obtain ⟨Xx23,qXx23,H⟩:=H
    refine KB (v:=.pointer (some Xx23)) rfl rfl hE rfl (KW hE (Jg rfl (congrArg Value.pointer qXx23))) (fun a hE=>?_)
    refine KB (v:=.pointer (some ((Xx23).add 1))) rfl rfl hE rfl (KI hE rfl JA) (fun a hE=>?_)
    obtain ⟨u_24,qu_24,H⟩:=H
    refine JI rfl rfl hE hR (JK hE rfl rfl sz3 qu_24) (fun a w hE hR hh=>?_)
    replace H:=M.at hh H; clear hh
    refine KG ?_
    refine hK_20 _ _ ?_
    refine KH (fun K hK_25=>?_)
    refine KC ?_
    refine KB (v:=.pointer x0) rfl rfl hE rfl (KD hE rfl) (fun a hE=>?_)
    refine KZ hE hR ZG rfl (ZQ x0) (M.unbind H) (fun Xx26 a w ea hR H=>?_)
    have hE:=Env.put_some hE rfl ea; clear ea
    refine KZ hE hR Ye rfl (XG (⟨#[48,49,50,51,52,53,54,55,56,57,97,98,99,100,101,102]⟩:ByteArray) Xx26) (M.unbind H) (fun Xx27 a w ea hR H=>?_)
    have hE:=Env.put_some hE rfl ea; clear ea
    refine KB (v:=.int .i64 Xx27) rfl rfl hE rfl (KE hE rfl) (fun a hE=>?_)
    refine KG ?_
    refine hK_25 _ _ ?_
    refine Ku (fun a w=>Env (⟨97,[]⟩:Frm) a [(0,.pointer x0),(4,.int .i64 Xx17),(5,.int .i64 Xx27)]∧Rest w0 w∧(Jy x0 Xx17 Xx27).wp w.heap Q) ?_ ?_
    ·rintro a w ⟨hE,hR,H⟩
     unfold Jy at H
     refine KH (fun K hK_31=>?_)
     refine KC ?_
     refine KB (v:=.pointer x0) rfl rfl hE rfl (KD hE rfl) (fun a hE=>?_)
     obtain ⟨Xx32,qXx32,H⟩:=H
     refine KB (v:=.pointer (some Xx32)) rfl rfl hE rfl (KW hE (Jg rfl (congrArg Value.pointer qXx32))) (fun a hE=>?_)
     refine KB (v:=.pointer (some ((Xx32).add 1))) rfl rfl hE rfl (KI hE rfl JA) (fun a hE=>?_)
     obtain ⟨Xx33,qXx33,H⟩:=H
     refine KB (v:=.int .i64 Xx33) rfl rfl hE rfl (KU hE rfl sc3 qXx33) (fun a hE=>?_)
     refine KB (v:=.int .i64 (IntKind.wrap .i64 (Xx33+1))) rfl rfl hE rfl (KL hE rfl rfl KN JE) (fun a hE=>?_)
     obtain ⟨Xx34,qXx34,H⟩:=H
     refine KB (v:=.pointer (some Xx34)) rfl rfl hE rfl (KW hE (Jg rfl (congrArg Value.pointer qXx34))) (fun a hE=>?_)
     refine KB (v:=.pointer (some ((Xx34).add 1))) rfl rfl hE rfl (KI hE rfl JA) (fun a hE=>?_)
     obtain ⟨u_35,qu_35,H⟩:=H
     refine JI rfl rfl hE hR (JK hE rfl rfl sz3 qu_35) (fun a w hE hR hh=>?_)
     replace H:=M.at hh H; clear hh
     refine KG ?_
     refine hK_31 _ _ ?_
     refine KH (fun K hK_36=>?_)
     refine KC ?_
     refine KB (v:=.int .i64 Xx17) rfl rfl hE rfl (KD hE rfl) (fun a hE=>?_)
     refine KB (v:=.int .i64 (iShl .i64 Xx17 4)) rfl rfl hE rfl (KL hE rfl rfl KN (KJE ⟨by decide,rfl⟩)) (fun a hE=>?_)
     refine KB (v:=.int .i64 Xx27) rfl rfl hE rfl (KD hE rfl) (fun a hE=>?_)
     refine KB (v:=.int .i64 (iOr .i64 (iShl .i64 Xx17 4) Xx27)) rfl rfl hE rfl (KL hE rfl rfl KN b_or) (fun a hE=>?_)
     refine KB (v:=.int .u8 (IntKind.wrap .u8 (iOr .i64 (iShl .i64 Xx17 4) Xx27))) rfl rfl hE rfl (Ue hE rfl un3 un5) (fun a hE=>?_)
     refine KB (v:=.int .u8 (IntKind.wrap .u8 (iOr .i64 (iShl .i64 Xx17 4) Xx27))) rfl rfl hE rfl (KE hE rfl) (fun a hE=>?_)
     refine KG ?_
     refine hK_36 _ _ ?_
     refine Kg ?_
     exact hret _ _ _ (IntKind.wrap .u8 (iOr .i64 (iShl .i64 Xx17 4) Xx27)) _ hE hR (KM hE rfl (RV.tmp rfl RV.nil)) rfl H
    ·skip
     refine Ku (fun a w=>∃ (Xx37:Bool),Env (⟨97,[]⟩:Frm) a [(0,.pointer x0),(4,.int .i64 Xx17),(5,.int .i64 Xx27),(82,.bool Xx37)]∧Rest w0 w∧(ZI x0 Xx17 Xx27 Xx37).wp w.heap Q) ?_ ?_
     ·rintro a w ⟨Xx37,hE,hR,H⟩
      unfold ZI at H
      refine KS Xx37 hE rfl (fun hb=>?_) (fun hb=>?_)
      ·replace H:=M.ite_t hb H
       refine KC ?_
       refine KB (v:=.pointer x0) rfl rfl hE rfl (KD hE rfl) (fun a hE=>?_)
       refine UF hE hR Zg rfl (Zr x0) H (fun _ _ hR HQ=>hthr _ _ hR HQ) (fun Xx41 a w ea hR H=>?_)
       have hE:=Env.put_some hE rfl ea; clear ea
       refine KG ?_
       exact ⟨hE.cut (.cons rfl (.cons rfl (.cons rfl Subs.nil))),hR,H⟩
      ·replace H:=M.ite_f hb H
       refine Ka ?_
       exact ⟨hE.cut (.cons rfl (.cons rfl (.cons rfl Subs.nil))),hR,H⟩
     ·skip
      obtain ⟨Xx42,qXx42,H⟩:=H
      obtain ⟨Xx43,qXx43,H⟩:=H
      obtain ⟨Xx44,qXx44,H⟩:=H
      obtain ⟨Xx45,qXx45,H⟩:=H
      rcases Kq (decide (Xx44 ≥ (Xx45.size:Int))) with hb_46 | hb_46
      ·replace H:=M.ite_t hb_46 H
       refine VL (rops:=Xa) (by kernel_rfl) ?_
       have hT:Tab Xa _ _ _:=Jf zM rfl (by kernel_rfl)
       have hM:=TabM.of qR
       refine Zq (m:=22) (fun w:World=>(fun h:Heap=>(KV h ((Xx42).add 1)=some (.int .i64 Xx44))∧(KV h ((Xx43).add 0)=some (.string Xx45))) w.heap) [9,10,11,12,13,14,15,16,17,18,19,20,21] (unb 22 0) mo hR (by kernel_rfl) (by kernel_rfl) (fun w' e=>by rw [e]; exact ⟨qXx44,qXx45⟩) (fun w hh hR hs=>?_)
       replace H:=M.at hh H; clear hh
       refine KF (i:=0) (v:=.pointer x0) (unb 22 1) rfl rfl hT (anyM hM (by kernel_rfl)) hE rfl (KA rfl) (fun w=>KD hE rfl) (fun a hE=>?_)
       refine KF (i:=1) (v:=.pointer (some Xx42)) (unb 22 3) rfl rfl hT (anyM hM (by kernel_rfl)) hE rfl (KA rfl) (fun w=>KW hE (Jg rfl (congrArg Value.pointer qXx42))) (fun a hE=>?_)
       refine KF (i:=2) (v:=.pointer (some ((Xx42).add 1))) (unb 22 7) rfl rfl hT (anyM hM (by kernel_rfl)) hE rfl (KA rfl) (fun w=>KI hE rfl JA) (fun a hE=>?_)
       refine KF (i:=4) (v:=.pointer x0) (unb 22 23) rfl rfl hT (anyM hM (by kernel_rfl)) hE rfl (KA rfl) (fun w=>KD hE rfl) (fun a hE=>?_)
       refine KF (i:=5) (v:=.pointer (some Xx43)) (unb 22 55) rfl rfl hT (anyM hM (by kernel_rfl)) hE rfl (KA rfl) (fun w=>KW hE (Jg rfl (congrArg Value.pointer qXx43))) (fun a hE=>?_)
       refine KF (i:=6) (v:=.pointer (some ((Xx43).add 0))) (unb 22 119) rfl rfl hT (anyM hM (by kernel_rfl)) hE rfl (KA rfl) (fun w=>KI hE rfl Wk) (fun a hE=>?_)
       refine Kt (i:=3) (v:=.int .i64 Xx44) (unb 22 127) rfl rfl hT (UB hM (by kernel_rfl)) hE rfl (KA rfl) hs (fun w s=>KU hE rfl sc3 s.1) (fun a hE=>?_)
       refine Kt (i:=7) (v:=.string Xx45) (unb 22 255) rfl rfl hT (UB hM (by kernel_rfl)) hE rfl (KA rfl) hs (fun w s=>KU hE rfl sc9 s.2) (fun a hE=>?_)
       refine KF (i:=8) (v:=.int .i64 (Xx45.size:Int)) (unb 22 511) rfl rfl hT (anyM hM (by kernel_rfl)) hE rfl (KA rfl) (fun w=>U3 hE rfl un9) (fun a hE=>?_)
       refine KF (i:=9) (v:=.bool (decide (Xx44 ≥ (Xx45.size:Int)))) (unb 22 1023) rfl rfl hT (anyM hM (by kernel_rfl)) hE rfl (KA rfl) (fun w=>KL hE rfl rfl KN YJ) (fun a hE=>?_)
       refine KF (i:=10) (v:=.bool (decide (Xx44 ≥ (Xx45.size:Int)))) (unb 22 2047) rfl rfl hT (anyM hM (by kernel_rfl)) hE rfl (KA rfl) (fun w=>KD hE rfl) (fun a hE=>?_)
       have hE:=hE.reb 71 (decide (Xx44 ≥ (Xx45.size:Int))) true hb_46 rfl
       replace hE:=hE.cut (l':=[(0,.pointer x0),(4,.int .i64 Xx17),(5,.int .i64 Xx27),(71,.bool true)]) (.cons rfl (.cons rfl (.cons rfl (.cons rfl Subs.nil))))
       refine KAw (i:=11) (unb 22 4095) rfl rfl hT (anyM hM (by kernel_rfl)) (VF rfl hE rfl rfl rfl) (fun a ea=>?_)
       have hE:=Env.put_some hE rfl ea; clear ea
       refine KAw (i:=12) (unb 22 8191) rfl rfl hT (anyM hM (by kernel_rfl)) (VF rfl hE rfl rfl rfl) (fun a ea=>?_)
       have hE:=Env.put_some hE rfl ea; clear ea
       refine KF (i:=13) (v:=.bool true) (unb 22 16383) rfl rfl hT (anyM hM (by kernel_rfl)) hE rfl (KA rfl) (fun w=>Kc hE rfl rfl) (fun a hE=>?_)
       refine KF (i:=14) (v:=.bool true) (unb 22 32767) rfl rfl hT (anyM hM (by kernel_rfl)) hE rfl (KA rfl) (fun w=>KD hE rfl) (fun a hE=>?_)
       refine Js [(15,some 76),(16,some 77),(17,some 78),(18,some 79),(19,some 80),(20,some 81)] 1 hT hM hE (by kernel_rfl) (m':=2097151) (by kernel_rfl) (fun a hE=>?_)
       refine KF (i:=21) (v:=.bool true) (unb 22 4194303) rfl rfl hT (anyM hM (by kernel_rfl)) hE rfl (KA rfl) (fun w=>Kc hE rfl rfl) (fun a hE=>?_)
       refine JM hT (Wa hM (by kernel_rfl)) ?_
       exact ⟨true,hE.cut (.cons rfl (.cons rfl (.cons rfl (.cons rfl Subs.nil)))),hR,H⟩
      ·replace H:=M.ite_f hb_46 H
       rcases Kq (decide (Xx27 < 0)) with hb_47 | hb_47
       ·replace H:=M.ite_t hb_47 H
        refine VL (rops:=Xa) (by kernel_rfl) ?_
        have hT:Tab Xa _ _ _:=Jf zM rfl (by kernel_rfl)
        have hM:=TabM.of qR
        refine Zq (m:=22) (fun w:World=>(fun h:Heap=>(KV h ((Xx42).add 1)=some (.int .i64 Xx44))∧(KV h ((Xx43).add 0)=some (.string Xx45))) w.heap) [9,10,11,12,13,14,15,16,17,18,19,20,21] (unb 22 0) mo hR (by kernel_rfl) (by kernel_rfl) (fun w' e=>by rw [e]; exact ⟨qXx44,qXx45⟩) (fun w hh hR hs=>?_)
        replace H:=M.at hh H; clear hh
        refine KF (i:=0) (v:=.pointer x0) (unb 22 1) rfl rfl hT (anyM hM (by kernel_rfl)) hE rfl (KA rfl) (fun w=>KD hE rfl) (fun a hE=>?_)
        refine KF (i:=1) (v:=.pointer (some Xx42)) (unb 22 3) rfl rfl hT (anyM hM (by kernel_rfl)) hE rfl (KA rfl) (fun w=>KW hE (Jg rfl (congrArg Value.pointer qXx42))) (fun a hE=>?_)
        refine KF (i:=2) (v:=.pointer (some ((Xx42).add 1))) (unb 22 7) rfl rfl hT (anyM hM (by kernel_rfl)) hE rfl (KA rfl) (fun w=>KI hE rfl JA) (fun a hE=>?_)
        refine KF (i:=4) (v:=.pointer x0) (unb 22 23) rfl rfl hT (anyM hM (by kernel_rfl)) hE rfl (KA rfl) (fun w=>KD hE rfl) (fun a hE=>?_)
        refine KF (i:=5) (v:=.pointer (some Xx43)) (unb 22 55) rfl rfl hT (anyM hM (by kernel_rfl)) hE rfl (KA rfl) (fun w=>KW hE (Jg rfl (congrArg Value.pointer qXx43))) (fun a hE=>?_)
        refine KF (i:=6) (v:=.pointer (some ((Xx43).add 0))) (unb 22 119) rfl rfl hT (anyM hM (by kernel_rfl)) hE rfl (KA rfl) (fun w=>KI hE rfl Wk) (fun a hE=>?_)
        refine Kt (i:=3) (v:=.int .i64 Xx44) (unb 22 127) rfl rfl hT (UB hM (by kernel_rfl)) hE rfl (KA rfl) hs (fun w s=>KU hE rfl sc3 s.1) (fun a hE=>?_)
        refine Kt (i:=7) (v:=.string Xx45) (unb 22 255) rfl rfl hT (UB hM (by kernel_rfl)) hE rfl (KA rfl) hs (fun w s=>KU hE rfl sc9 s.2) (fun a hE=>?_)
        refine KF (i:=8) (v:=.int .i64 (Xx45.size:Int)) (unb 22 511) rfl rfl hT (anyM hM (by kernel_rfl)) hE rfl (KA rfl) (fun w=>U3 hE rfl un9) (fun a hE=>?_)
        refine KF (i:=9) (v:=.bool (decide (Xx44 ≥ (Xx45.size:Int)))) (unb 22 1023) rfl rfl hT (anyM hM (by kernel_rfl)) hE rfl (KA rfl) (fun w=>KL hE rfl rfl KN YJ) (fun a hE=>?_)
        refine KF (i:=10) (v:=.bool (decide (Xx44 ≥ (Xx45.size:Int)))) (unb 22 2047) rfl rfl hT (anyM hM (by kernel_rfl)) hE rfl (KA rfl) (fun w=>KD hE rfl) (fun a hE=>?_)
        have hE:=hE.reb 71 (decide (Xx44 ≥ (Xx45.size:Int))) false hb_46 rfl
        replace hE:=hE.cut (l':=[(0,.pointer x0),(4,.int .i64 Xx17),(5,.int .i64 Xx27),(71,.bool false)]) (.cons rfl (.cons rfl (.cons rfl (.cons rfl Subs.nil))))
        refine KF (i:=11) (v:=.int .i64 Xx27) (unb 22 4095) rfl rfl hT (anyM hM (by kernel_rfl)) hE rfl (KP rfl hE rfl rfl rfl) (fun w=>KD hE rfl) (fun a hE=>?_)
        refine KF (i:=12) (v:=.bool (decide (Xx27 < 0))) (unb 22 8191) rfl rfl hT (anyM hM (by kernel_rfl)) hE rfl (KP rfl hE rfl rfl rfl) (fun w=>KL hE rfl rfl KN JL) (fun a hE=>?_)
        refine KF (i:=13) (v:=.bool (decide (Xx27 < 0))) (unb 22 16383) rfl rfl hT (anyM hM (by kernel_rfl)) hE rfl (KA rfl) (fun w=>Kd hE rfl rfl) (fun a hE=>?_)
        refine KF (i:=14) (v:=.bool (decide (Xx27 < 0))) (unb 22 32767) rfl rfl hT (anyM hM (by kernel_rfl)) hE rfl (KA rfl) (fun w=>KD hE rfl) (fun a hE=>?_)
        have hE:=hE.reb 75 (decide (Xx27 < 0)) true hb_47 rfl
        replace hE:=hE.cut (l':=[(0,.pointer x0),(4,.int .i64 Xx17),(5,.int .i64 Xx27),(75,.bool true)]) (.cons rfl (.cons rfl (.cons rfl (.cons rfl Subs.nil))))
        refine Js [(15,some 76),(16,some 77),(17,some 78),(18,some 79),(19,some 80),(20,some 81)] 1 hT hM hE (by kernel_rfl) (m':=2097151) (by kernel_rfl) (fun a hE=>?_)
        refine KF (i:=21) (v:=.bool true) (unb 22 4194303) rfl rfl hT (anyM hM (by kernel_rfl)) hE rfl (KA rfl) (fun w=>Kc hE rfl rfl) (fun a hE=>?_)
        refine JM hT (Wa hM (by kernel_rfl)) ?_
        exact ⟨true,hE.cut (.cons rfl (.cons rfl (.cons rfl (.cons rfl Subs.nil)))),hR,H⟩
       ·replace H:=M.ite_f hb_47 H
        rcases Kq (Xx17 == 7) with hb_48 | hb_48
        ·replace H:=M.ite_t hb_48 H
         refine VL (rops:=Xa) (by kernel_rfl) ?_
         have hT:Tab Xa _ _ _:=Jf zM rfl (by kernel_rfl)
         have hM:=TabM.of qR
         refine Zq (m:=22) (fun w:World=>(fun h:Heap=>(KV h ((Xx42).add 1)=some (.int .i64 Xx44))∧(KV h ((Xx43).add 0)=some (.string Xx45))) w.heap) [9,10,11,12,13,14,15,16,17,18,19,20,21] (unb 22 0) mo hR (by kernel_rfl) (by kernel_rfl) (fun w' e=>by rw [e]; exact ⟨qXx44,qXx45⟩) (fun w hh hR hs=>?_)
         replace H:=M.at hh H; clear hh
         refine KF (i:=0) (v:=.pointer x0) (unb 22 1) rfl rfl hT (anyM hM (by kernel_rfl)) hE rfl (KA rfl) (fun w=>KD hE rfl) (fun a hE=>?_)
         refine KF (i:=1) (v:=.pointer (some Xx42)) (unb 22 3) rfl rfl hT (anyM hM (by kernel_rfl)) hE rfl (KA rfl) (fun w=>KW hE (Jg rfl (congrArg Value.pointer qXx42))) (fun a hE=>?_)
         refine KF (i:=2) (v:=.pointer (some ((Xx42).add 1))) (unb 22 7) rfl rfl hT (anyM hM (by kernel_rfl)) hE rfl (KA rfl) (fun w=>KI hE rfl JA) (fun a hE=>?_)
         refine KF (i:=4) (v:=.pointer x0) (unb 22 23) rfl rfl hT (anyM hM (by kernel_rfl)) hE rfl (KA rfl) (fun w=>KD hE rfl) (fun a hE=>?_)
         refine KF (i:=5) (v:=.pointer (some Xx43)) (unb 22 55) rfl rfl hT (anyM hM (by kernel_rfl)) hE rfl (KA rfl) (fun w=>KW hE (Jg rfl (congrArg Value.pointer qXx43))) (fun a hE=>?_)
         refine KF (i:=6) (v:=.pointer (some ((Xx43).add 0))) (unb 22 119) rfl rfl hT (anyM hM (by kernel_rfl)) hE rfl (KA rfl) (fun w=>KI hE rfl Wk) (fun a hE=>?_)
         refine Kt (i:=3) (v:=.int .i64 Xx44) (unb 22 127) rfl rfl hT (UB hM (by kernel_rfl)) hE rfl (KA rfl) hs (fun w s=>KU hE rfl sc3 s.1) (fun a hE=>?_)
         refine Kt (i:=7) (v:=.string Xx45) (unb 22 255) rfl rfl hT (UB hM (by kernel_rfl)) hE rfl (KA rfl) hs (fun w s=>KU hE rfl sc9 s.2) (fun a hE=>?_)
         refine KF (i:=8) (v:=.int .i64 (Xx45.size:Int)) (unb 22 511) rfl rfl hT (anyM hM (by kernel_rfl)) hE rfl (KA rfl) (fun w=>U3 hE rfl un9) (fun a hE=>?_)
         refine KF (i:=9) (v:=.bool (decide (Xx44 ≥ (Xx45.size:Int)))) (unb 22 1023) rfl rfl hT (anyM hM (by kernel_rfl)) hE rfl (KA rfl) (fun w=>KL hE rfl rfl KN YJ) (fun a hE=>?_)
         refine KF (i:=10) (v:=.bool (decide (Xx44 ≥ (Xx45.size:Int)))) (unb 22 2047) rfl rfl hT (anyM hM (by kernel_rfl)) hE rfl (KA rfl) (fun w=>KD hE rfl) (fun a hE=>?_)
         have hE:=hE.reb 71 (decide (Xx44 ≥ (Xx45.size:Int))) false hb_46 rfl
         replace hE:=hE.cut (l':=[(0,.pointer x0),(4,.int .i64 Xx17),(5,.int .i64 Xx27),(71,.bool false)]) (.cons rfl (.cons rfl (.cons rfl (.cons rfl Subs.nil))))
         refine KF (i:=11) (v:=.int .i64 Xx27) (unb 22 4095) rfl rfl hT (anyM hM (by kernel_rfl)) hE rfl (KP rfl hE rfl rfl rfl) (fun w=>KD hE rfl) (fun a hE=>?_)
         refine KF (i:=12) (v:=.bool (decide (Xx27 < 0))) (unb 22 8191) rfl rfl hT (anyM hM (by kernel_rfl)) hE rfl (KP rfl hE rfl rfl rfl) (fun w=>KL hE rfl rfl KN JL) (fun a hE=>?_)
         refine KF (i:=13) (v:=.bool (decide (Xx27 < 0))) (unb 22 16383) rfl rfl hT (anyM hM (by kernel_rfl)) hE rfl (KA rfl) (fun w=>Kd hE rfl rfl) (fun a hE=>?_)
         refine KF (i:=14) (v:=.bool (decide (Xx27 < 0))) (unb 22 32767) rfl rfl hT (anyM hM (by kernel_rfl)) hE rfl (KA rfl) (fun w=>KD hE rfl) (fun a hE=>?_)
         have hE:=hE.reb 75 (decide (Xx27 < 0)) false hb_47 rfl
         replace hE:=hE.cut (l':=[(0,.pointer x0),(4,.int .i64 Xx17),(5,.int .i64 Xx27),(75,.bool false)]) (.cons rfl (.cons rfl (.cons rfl (.cons rfl Subs.nil))))
         refine KF (i:=15) (v:=.int .i64 Xx17) (unb 22 65535) rfl rfl hT (anyM hM (by kernel_rfl)) hE rfl (KP rfl hE rfl rfl rfl) (fun w=>KD hE rfl) (fun a hE=>?_)
         refine KF (i:=16) (v:=.bool (Xx17 == 7)) (unb 22 131071) rfl rfl hT (anyM hM (by kernel_rfl)) hE rfl (KP rfl hE rfl rfl rfl) (fun w=>KL hE rfl rfl KN Z5) (fun a hE=>?_)
         refine KF (i:=17) (v:=.bool (Xx17 == 7)) (unb 22 262143) rfl rfl hT (anyM hM (by kernel_rfl)) hE rfl (KP rfl hE rfl rfl rfl) (fun w=>KD hE rfl) (fun a hE=>?_)
         have hE:=hE.reb 78 (Xx17 == 7) true hb_48 rfl
         replace hE:=hE.cut (l':=[(0,.pointer x0),(4,.int .i64 Xx17),(5,.int .i64 Xx27),(75,.bool false),(78,.bool true)]) (.cons rfl (.cons rfl (.cons rfl (.cons rfl (.cons rfl Subs.nil)))))
         refine KF (i:=18) (v:=.int .i64 Xx27) (unb 22 524287) rfl rfl hT (anyM hM (by kernel_rfl)) hE rfl (KP rfl hE rfl rfl rfl) (fun w=>KD hE rfl) (fun a hE=>?_)
         refine KF (i:=19) (v:=.bool (decide (Xx27 < 15))) (unb 22 1048575) rfl rfl hT (anyM hM (by kernel_rfl)) hE rfl (KP rfl hE rfl rfl rfl) (fun w=>KL hE rfl rfl KN JL) (fun a hE=>?_)
         refine KF (i:=20) (v:=.bool (decide (Xx27 < 15))) (unb 22 2097151) rfl rfl hT (anyM hM (by kernel_rfl)) hE rfl (KP rfl hE rfl rfl rfl) (fun w=>Kc hE rfl rfl) (fun a hE=>?_)
         refine KF (i:=21) (v:=.bool (decide (Xx27 < 15))) (unb 22 4194303) rfl rfl hT (anyM hM (by kernel_rfl)) hE rfl (KA rfl) (fun w=>Kd hE rfl rfl) (fun a hE=>?_)
         refine JM hT (Wa hM (by kernel_rfl)) ?_
         exact ⟨decide (Xx27 < 15),hE.cut (.cons rfl (.cons rfl (.cons rfl (.cons rfl Subs.nil)))),hR,H⟩
        ·replace H:=M.ite_f hb_48 H
         refine VL (rops:=Xa) (by kernel_rfl) ?_
         have hT:Tab Xa _ _ _:=Jf zM rfl (by kernel_rfl)
         have hM:=TabM.of qR
         refine Zq (m:=22) (fun w:World=>(fun h:Heap=>(KV h ((Xx42).add 1)=some (.int .i64 Xx44))∧(KV h ((Xx43).add 0)=some (.string Xx45))) w.heap) [9,10,11,12,13,14,15,16,17,18,19,20,21] (unb 22 0) mo hR (by kernel_rfl) (by kernel_rfl) (fun w' e=>by rw [e]; exact ⟨qXx44,qXx45⟩) (fun w hh hR hs=>?_)
         replace H:=M.at hh H; clear hh
         refine KF (i:=0) (v:=.pointer x0) (unb 22 1) rfl rfl hT (anyM hM (by kernel_rfl)) hE rfl (KA rfl) (fun w=>KD hE rfl) (fun a hE=>?_)
         refine KF (i:=1) (v:=.pointer (some Xx42)) (unb 22 3) rfl rfl hT (anyM hM (by kernel_rfl)) hE rfl (KA rfl) (fun w=>KW hE (Jg rfl (congrArg Value.pointer qXx42))) (fun a hE=>?_)
         refine KF (i:=2) (v:=.pointer (some ((Xx42).add 1))) (unb 22 7) rfl rfl hT (anyM hM (by kernel_rfl)) hE rfl (KA rfl) (fun w=>KI hE rfl JA) (fun a hE=>?_)
         refine KF (i:=4) (v:=.pointer x0) (unb 22 23) rfl rfl hT (anyM hM (by kernel_rfl)) hE rfl (KA rfl) (fun w=>KD hE rfl) (fun a hE=>?_)
         refine KF (i:=5) (v:=.pointer (some Xx43)) (unb 22 55) rfl rfl hT (anyM hM (by kernel_rfl)) hE rfl (KA rfl) (fun w=>KW hE (Jg rfl (congrArg Value.pointer qXx43))) (fun a hE=>?_)
         refine KF (i:=6) (v:=.pointer (some ((Xx43).add 0))) (unb 22 119) rfl rfl hT (anyM hM (by kernel_rfl)) hE rfl (KA rfl) (fun w=>KI hE rfl Wk) (fun a hE=>?_)
         refine Kt (i:=3) (v:=.int .i64 Xx44) (unb 22 127) rfl rfl hT (UB hM (by kernel_rfl)) hE rfl (KA rfl) hs (fun w s=>KU hE rfl sc3 s.1) (fun a hE=>?_)
         refine Kt (i:=7) (v:=.string Xx45) (unb 22 255) rfl rfl hT (UB hM (by kernel_rfl)) hE rfl (KA rfl) hs (fun w s=>KU hE rfl sc9 s.2) (fun a hE=>?_)
         refine KF (i:=8) (v:=.int .i64 (Xx45.size:Int)) (unb 22 511) rfl rfl hT (anyM hM (by kernel_rfl)) hE rfl (KA rfl) (fun w=>U3 hE rfl un9) (fun a hE=>?_)
         refine KF (i:=9) (v:=.bool (decide (Xx44 ≥ (Xx45.size:Int)))) (unb 22 1023) rfl rfl hT (anyM hM (by kernel_rfl)) hE rfl (KA rfl) (fun w=>KL hE rfl rfl KN YJ) (fun a hE=>?_)
         refine KF (i:=10) (v:=.bool (decide (Xx44 ≥ (Xx45.size:Int)))) (unb 22 2047) rfl rfl hT (anyM hM (by kernel_rfl)) hE rfl (KA rfl) (fun w=>KD hE rfl) (fun a hE=>?_)
         have hE:=hE.reb 71 (decide (Xx44 ≥ (Xx45.size:Int))) false hb_46 rfl
         replace hE:=hE.cut (l':=[(0,.pointer x0),(4,.int .i64 Xx17),(5,.int .i64 Xx27),(71,.bool false)]) (.cons rfl (.cons rfl (.cons rfl (.cons rfl Subs.nil))))
         refine KF (i:=11) (v:=.int .i64 Xx27) (unb 22 4095) rfl rfl hT (anyM hM (by kernel_rfl)) hE rfl (KP rfl hE rfl rfl rfl) (fun w=>KD hE rfl) (fun a hE=>?_)
         refine KF (i:=12) (v:=.bool (decide (Xx27 < 0))) (unb 22 8191) rfl rfl hT (anyM hM (by kernel_rfl)) hE rfl (KP rfl hE rfl rfl rfl) (fun w=>KL hE rfl rfl KN JL) (fun a hE=>?_)
         refine KF (i:=13) (v:=.bool (decide (Xx27 < 0))) (unb 22 16383) rfl rfl hT (anyM hM (by kernel_rfl)) hE rfl (KA rfl) (fun w=>Kd hE rfl rfl) (fun a hE=>?_)
         refine KF (i:=14) (v:=.bool (decide (Xx27 < 0))) (unb 22 32767) rfl rfl hT (anyM hM (by kernel_rfl)) hE rfl (KA rfl) (fun w=>KD hE rfl) (fun a hE=>?_)
         have hE:=hE.reb 75 (decide (Xx27 < 0)) false hb_47 rfl
         replace hE:=hE.cut (l':=[(0,.pointer x0),(4,.int .i64 Xx17),(5,.int .i64 Xx27),(75,.bool false)]) (.cons rfl (.cons rfl (.cons rfl (.cons rfl Subs.nil))))
         refine KF (i:=15) (v:=.int .i64 Xx17) (unb 22 65535) rfl rfl hT (anyM hM (by kernel_rfl)) hE rfl (KP rfl hE rfl rfl rfl) (fun w=>KD hE rfl) (fun a hE=>?_)
         refine KF (i:=16) (v:=.bool (Xx17 == 7)) (unb 22 131071) rfl rfl hT (anyM hM (by kernel_rfl)) hE rfl (KP rfl hE rfl rfl rfl) (fun w=>KL hE rfl rfl KN Z5) (fun a hE=>?_)
         refine KF (i:=17) (v:=.bool (Xx17 == 7)) (unb 22 262143) rfl rfl hT (anyM hM (by kernel_rfl)) hE rfl (KP rfl hE rfl rfl rfl) (fun w=>KD hE rfl) (fun a hE=>?_)
         have hE:=hE.reb 78 (Xx17 == 7) false hb_48 rfl
         replace hE:=hE.cut (l':=[(0,.pointer x0),(4,.int .i64 Xx17),(5,.int .i64 Xx27),(75,.bool false),(78,.bool false)]) (.cons rfl (.cons rfl (.cons rfl (.cons rfl (.cons rfl Subs.nil)))))
         refine KAw (i:=18) (unb 22 524287) rfl rfl hT (anyM hM (by kernel_rfl)) (VF rfl hE rfl rfl rfl) (fun a ea=>?_)
         have hE:=Env.put_some hE rfl ea; clear ea
         refine KAw (i:=19) (unb 22 1048575) rfl rfl hT (anyM hM (by kernel_rfl)) (VF rfl hE rfl rfl rfl) (fun a ea=>?_)
         have hE:=Env.put_some hE rfl ea; clear ea
         refine KF (i:=20) (v:=.bool false) (unb 22 2097151) rfl rfl hT (anyM hM (by kernel_rfl)) hE rfl (KP rfl hE rfl rfl rfl) (fun w=>Kd hE rfl rfl) (fun a hE=>?_)
         refine KF (i:=21) (v:=.bool false) (unb 22 4194303) rfl rfl hT (anyM hM (by kernel_rfl)) hE rfl (KA rfl) (fun w=>Kd hE rfl rfl) (fun a hE=>?_)
         refine JM hT (Wa hM (by kernel_rfl)) ?_
         exact ⟨false,hE.cut (.cons rfl (.cons rfl (.cons rfl (.cons rfl Subs.nil)))),hR,H⟩
   ·skip
    refine Ku (fun a w=>∃ (Xx49:Bool),Env (⟨97,[]⟩:Frm) a [(0,.pointer x0),(4,.int .i64 Xx17),(48,.bool Xx49)]∧Rest w0 w∧(ZJ x0 Xx17 Xx49).wp w.heap Q) ?_ ?_
    ·rintro a w ⟨Xx49,hE,hR,H⟩
     unfold ZJ at H
     refine KS Xx49 hE rfl (fun hb=>?_) (fun hb=>?_)
     ·replace H:=M.ite_t hb H
      refine KC ?_
      refine KB (v:=.pointer x0) rfl rfl hE rfl (KD hE rfl) (fun a hE=>?_)
      refine UF hE hR Zg rfl (Zr x0) H (fun _ _ hR HQ=>hthr _ _ hR HQ) (fun Xx52 a w ea hR H=>?_)
      have hE:=Env.put_some hE rfl ea; clear ea
      refine KG ?_
      exact ⟨hE.cut (.cons rfl (.cons rfl Subs.nil)),hR,H⟩
     ·replace H:=M.ite_f hb H
      refine Ka ?_
      exact ⟨hE.cut (.cons rfl (.cons rfl Subs.nil)),hR,H⟩
    ·skip
     obtain ⟨Xx53,qXx53,H⟩:=H
     obtain ⟨Xx54,qXx54,H⟩:=H
     obtain ⟨Xx55,qXx55,H⟩:=H
     obtain ⟨Xx56,qXx56,H⟩:=H
     rcases Kq (decide (Xx55 ≥ (Xx56.size:Int))) with hb_57 | hb_57
     ·replace H:=M.ite_t hb_57 H
      refine VL (rops:=Gu) (by kernel_rfl) ?_
      have hT:Tab Gu _ _ _:=Jf KBO rfl (by kernel_rfl)
      have hM:=TabM.of zN
      refine Zq (m:=22) (fun w:World=>(fun h:Heap=>(KV h ((Xx53).add 1)=some (.int .i64 Xx55))∧(KV h ((Xx54).add 0)=some (.string Xx56))) w.heap) [9,10,11,12,13,14,15,16,17,18,19,20,21] (unb 22 0) mo hR (by kernel_rfl) (by kernel_rfl) (fun w' e=>by rw [e]; exact ⟨qXx55,qXx56⟩) (fun w hh hR hs=>?_)
      replace H:=M.at hh H; clear hh
      refine KF (i:=0) (v:=.pointer x0) (unb 22 1) rfl rfl hT (anyM hM (by kernel_rfl)) hE rfl (KA rfl) (fun w=>KD hE rfl) (fun a hE=>?_)
      refine KF (i:=1) (v:=.pointer (some Xx53)) (unb 22 3) rfl rfl hT (anyM hM (by kernel_rfl)) hE rfl (KA rfl) (fun w=>KW hE (Jg rfl (congrArg Value.pointer qXx53))) (fun a hE=>?_)
      refine KF (i:=2) (v:=.pointer (some ((Xx53).add 1))) (unb 22 7) rfl rfl hT (anyM hM (by kernel_rfl)) hE rfl (KA rfl) (fun w=>KI hE rfl JA) (fun a hE=>?_)
      refine KF (i:=4) (v:=.pointer x0) (unb 22 23) rfl rfl hT (anyM hM (by kernel_rfl)) hE rfl (KA rfl) (fun w=>KD hE rfl) (fun a hE=>?_)
      refine KF (i:=5) (v:=.pointer (some Xx54)) (unb 22 55) rfl rfl hT (anyM hM (by kernel_rfl)) hE rfl (KA rfl) (fun w=>KW hE (Jg rfl (congrArg Value.pointer qXx54))) (fun a hE=>?_)
      refine KF (i:=6) (v:=.pointer (some ((Xx54).add 0))) (unb 22 119) rfl rfl hT (anyM hM (by kernel_rfl)) hE rfl (KA rfl) (fun w=>KI hE rfl Wk) (fun a hE=>?_)
      refine Kt (i:=3) (v:=.int .i64 Xx55) (unb 22 127) rfl rfl hT (UB hM (by kernel_rfl)) hE rfl (KA rfl) hs (fun w s=>KU hE rfl sc3 s.1) (fun a hE=>?_)
      refine Kt (i:=7) (v:=.string Xx56) (unb 22 255) rfl rfl hT (UB hM (by kernel_rfl)) hE rfl (KA rfl) hs (fun w s=>KU hE rfl sc9 s.2) (fun a hE=>?_)
      refine KF (i:=8) (v:=.int .i64 (Xx56.size:Int)) (unb 22 511) rfl rfl hT (anyM hM (by kernel_rfl)) hE rfl (KA rfl) (fun w=>U3 hE rfl un9) (fun a hE=>?_)
      refine KF (i:=9) (v:=.bool (decide (Xx55 ≥ (Xx56.size:Int)))) (unb 22 1023) rfl rfl hT (anyM hM (by kernel_rfl)) hE rfl (KA rfl) (fun w=>KL hE rfl rfl KN YJ) (fun a hE=>?_)
      refine KF (i:=10) (v:=.bool (decide (Xx55 ≥ (Xx56.size:Int)))) (unb 22 2047) rfl rfl hT (anyM hM (by kernel_rfl)) hE rfl (KA rfl) (fun w=>KD hE rfl) (fun a hE=>?_)
      have hE:=hE.reb 37 (decide (Xx55 ≥ (Xx56.size:Int))) true hb_57 rfl
      replace hE:=hE.cut (l':=[(0,.pointer x0),(4,.int .i64 Xx17),(37,.bool true)]) (.cons rfl (.cons rfl (.cons rfl Subs.nil)))
      refine KAw (i:=11) (unb 22 4095) rfl rfl hT (anyM hM (by kernel_rfl)) (VF rfl hE rfl rfl rfl) (fun a ea=>?_)
      have hE:=Env.put_some hE rfl ea; clear ea
      refine KAw (i:=12) (unb 22 8191) rfl rfl hT (anyM hM (by kernel_rfl)) (VF rfl hE rfl rfl rfl) (fun a ea=>?_)
      have hE:=Env.put_some hE rfl ea; clear ea
      refine KF (i:=13) (v:=.bool true) (unb 22 16383) rfl rfl hT (anyM hM (by kernel_rfl)) hE rfl (KA rfl) (fun w=>Kc hE rfl rfl) (fun a hE=>?_)
      refine KF (i:=14) (v:=.bool true) (unb 22 32767) rfl rfl hT (anyM hM (by kernel_rfl)) hE rfl (KA rfl) (fun w=>KD hE rfl) (fun a hE=>?_)
      refine Js [(15,some 42),(16,some 43),(17,some 44),(18,some 45),(19,some 46),(20,some 47)] 1 hT hM hE (by kernel_rfl) (m':=2097151) (by kernel_rfl) (fun a hE=>?_)
      refine KF (i:=21) (v:=.bool true) (unb 22 4194303) rfl rfl hT (anyM hM (by kernel_rfl)) hE rfl (KA rfl) (fun w=>Kc hE rfl rfl) (fun a hE=>?_)
      refine JM hT (Wa hM (by kernel_rfl)) ?_
      exact ⟨true,hE.cut (.cons rfl (.cons rfl (.cons rfl Subs.nil))),hR,H⟩
     ·replace H:=M.ite_f hb_57 H
      rcases Kq (decide (Xx17 < 0)) with hb_58 | hb_58
      ·replace H:=M.ite_t hb_58 H
       refine VL (rops:=Gu) (by kernel_rfl) ?_
       have hT:Tab Gu _ _ _:=Jf KBO rfl (by kernel_rfl)
       have hM:=TabM.of zN
       refine Zq (m:=22) (fun w:World=>(fun h:Heap=>(KV h ((Xx53).add 1)=some (.int .i64 Xx55))∧(KV h ((Xx54).add 0)=some (.string Xx56))) w.heap) [9,10,11,12,13,14,15,16,17,18,19,20,21] (unb 22 0) mo hR (by kernel_rfl) (by kernel_rfl) (fun w' e=>by rw [e]; exact ⟨qXx55,qXx56⟩) (fun w hh hR hs=>?_)
       replace H:=M.at hh H; clear hh
       refine KF (i:=0) (v:=.pointer x0) (unb 22 1) rfl rfl hT (anyM hM (by kernel_rfl)) hE rfl (KA rfl) (fun w=>KD hE rfl) (fun a hE=>?_)
       refine KF (i:=1) (v:=.pointer (some Xx53)) (unb 22 3) rfl rfl hT (anyM hM (by kernel_rfl)) hE rfl (KA rfl) (fun w=>KW hE (Jg rfl (congrArg Value.pointer qXx53))) (fun a hE=>?_)
       refine KF (i:=2) (v:=.pointer (some ((Xx53).add 1))) (unb 22 7) rfl rfl hT (anyM hM (by kernel_rfl)) hE rfl (KA rfl) (fun w=>KI hE rfl JA) (fun a hE=>?_)
       refine KF (i:=4) (v:=.pointer x0) (unb 22 23) rfl rfl hT (anyM hM (by kernel_rfl)) hE rfl (KA rfl) (fun w=>KD hE rfl) (fun a hE=>?_)
       refine KF (i:=5) (v:=.pointer (some Xx54)) (unb 22 55) rfl rfl hT (anyM hM (by kernel_rfl)) hE rfl (KA rfl) (fun w=>KW hE (Jg rfl (congrArg Value.pointer qXx54))) (fun a hE=>?_)
       refine KF (i:=6) (v:=.pointer (some ((Xx54).add 0))) (unb 22 119) rfl rfl hT (anyM hM (by kernel_rfl)) hE rfl (KA rfl) (fun w=>KI hE rfl Wk) (fun a hE=>?_)
       refine Kt (i:=3) (v:=.int .i64 Xx55) (unb 22 127) rfl rfl hT (UB hM (by kernel_rfl)) hE rfl (KA rfl) hs (fun w s=>KU hE rfl sc3 s.1) (fun a hE=>?_)
       refine Kt (i:=7) (v:=.string Xx56) (unb 22 255) rfl rfl hT (UB hM (by kernel_rfl)) hE rfl (KA rfl) hs (fun w s=>KU hE rfl sc9 s.2) (fun a hE=>?_)
       refine KF (i:=8) (v:=.int .i64 (Xx56.size:Int)) (unb 22 511) rfl rfl hT (anyM hM (by kernel_rfl)) hE rfl (KA rfl) (fun w=>U3 hE rfl un9) (fun a hE=>?_)
       refine KF (i:=9) (v:=.bool (decide (Xx55 ≥ (Xx56.size:Int)))) (unb 22 1023) rfl rfl hT (anyM hM (by kernel_rfl)) hE rfl (KA rfl) (fun w=>KL hE rfl rfl KN YJ) (fun a hE=>?_)
       refine KF (i:=10) (v:=.bool (decide (Xx55 ≥ (Xx56.size:Int)))) (unb 22 2047) rfl rfl hT (anyM hM (by kernel_rfl)) hE rfl (KA rfl) (fun w=>KD hE rfl) (fun a hE=>?_)
       have hE:=hE.reb 37 (decide (Xx55 ≥ (Xx56.size:Int))) false hb_57 rfl
       replace hE:=hE.cut (l':=[(0,.pointer x0),(4,.int .i64 Xx17),(37,.bool false)]) (.cons rfl (.cons rfl (.cons rfl Subs.nil)))
       refine KF (i:=11) (v:=.int .i64 Xx17) (unb 22 4095) rfl rfl hT (anyM hM (by kernel_rfl)) hE rfl (KP rfl hE rfl rfl rfl) (fun w=>KD hE rfl) (fun a hE=>?_)
       refine KF (i:=12) (v:=.bool (decide (Xx17 < 0))) (unb 22 8191) rfl rfl hT (anyM hM (by kernel_rfl)) hE rfl (KP rfl hE rfl rfl rfl) (fun w=>KL hE rfl rfl KN JL) (fun a hE=>?_)
       refine KF (i:=13) (v:=.bool (decide (Xx17 < 0))) (unb 22 16383) rfl rfl hT (anyM hM (by kernel_rfl)) hE rfl (KA rfl) (fun w=>Kd hE rfl rfl) (fun a hE=>?_)
       refine KF (i:=14) (v:=.bool (decide (Xx17 < 0))) (unb 22 32767) rfl rfl hT (anyM hM (by kernel_rfl)) hE rfl (KA rfl) (fun w=>KD hE rfl) (fun a hE=>?_)
       have hE:=hE.reb 41 (decide (Xx17 < 0)) true hb_58 rfl
       replace hE:=hE.cut (l':=[(0,.pointer x0),(4,.int .i64 Xx17),(41,.bool true)]) (.cons rfl (.cons rfl (.cons rfl Subs.nil)))
       refine Js [(15,some 42),(16,some 43),(17,some 44),(18,some 45),(19,some 46),(20,some 47)] 1 hT hM hE (by kernel_rfl) (m':=2097151) (by kernel_rfl) (fun a hE=>?_)
       refine KF (i:=21) (v:=.bool true) (unb 22 4194303) rfl rfl hT (anyM hM (by kernel_rfl)) hE rfl (KA rfl) (fun w=>Kc hE rfl rfl) (fun a hE=>?_)
       refine JM hT (Wa hM (by kernel_rfl)) ?_
       exact ⟨true,hE.cut (.cons rfl (.cons rfl (.cons rfl Subs.nil))),hR,H⟩
      ·replace H:=M.ite_f hb_58 H
       rcases Kq (decide (Xx17 > 1)) with hb_59 | hb_59
       ·replace H:=M.ite_t hb_59 H
        refine VL (rops:=Gu) (by kernel_rfl) ?_
        have hT:Tab Gu _ _ _:=Jf KBO rfl (by kernel_rfl)
        have hM:=TabM.of zN
        refine Zq (m:=22) (fun w:World=>(fun h:Heap=>(KV h ((Xx53).add 1)=some (.int .i64 Xx55))∧(KV h ((Xx54).add 0)=some (.string Xx56))) w.heap) [9,10,11,12,13,14,15,16,17,18,19,20,21] (unb 22 0) mo hR (by kernel_rfl) (by kernel_rfl) (fun w' e=>by rw [e]; exact ⟨qXx55,qXx56⟩) (fun w hh hR hs=>?_)
        replace H:=M.at hh H; clear hh
        refine KF (i:=0) (v:=.pointer x0) (unb 22 1) rfl rfl hT (anyM hM (by kernel_rfl)) hE rfl (KA rfl) (fun w=>KD hE rfl) (fun a hE=>?_)
        refine KF (i:=1) (v:=.pointer (some Xx53)) (unb 22 3) rfl rfl hT (anyM hM (by kernel_rfl)) hE rfl (KA rfl) (fun w=>KW hE (Jg rfl (congrArg Value.pointer qXx53))) (fun a hE=>?_)
        refine KF (i:=2) (v:=.pointer (some ((Xx53).add 1))) (unb 22 7) rfl rfl hT (anyM hM (by kernel_rfl)) hE rfl (KA rfl) (fun w=>KI hE rfl JA) (fun a hE=>?_)
        refine KF (i:=4) (v:=.pointer x0) (unb 22 23) rfl rfl hT (anyM hM (by kernel_rfl)) hE rfl (KA rfl) (fun w=>KD hE rfl) (fun a hE=>?_)
        refine KF (i:=5) (v:=.pointer (some Xx54)) (unb 22 55) rfl rfl hT (anyM hM (by kernel_rfl)) hE rfl (KA rfl) (fun w=>KW hE (Jg rfl (congrArg Value.pointer qXx54))) (fun a hE=>?_)
        refine KF (i:=6) (v:=.pointer (some ((Xx54).add 0))) (unb 22 119) rfl rfl hT (anyM hM (by kernel_rfl)) hE rfl (KA rfl) (fun w=>KI hE rfl Wk) (fun a hE=>?_)
        refine Kt (i:=3) (v:=.int .i64 Xx55) (unb 22 127) rfl rfl hT (UB hM (by kernel_rfl)) hE rfl (KA rfl) hs (fun w s=>KU hE rfl sc3 s.1) (fun a hE=>?_)
        refine Kt (i:=7) (v:=.string Xx56) (unb 22 255) rfl rfl hT (UB hM (by kernel_rfl)) hE rfl (KA rfl) hs (fun w s=>KU hE rfl sc9 s.2) (fun a hE=>?_)
        refine KF (i:=8) (v:=.int .i64 (Xx56.size:Int)) (unb 22 511) rfl rfl hT (anyM hM (by kernel_rfl)) hE rfl (KA rfl) (fun w=>U3 hE rfl un9) (fun a hE=>?_)
        refine KF (i:=9) (v:=.bool (decide (Xx55 ≥ (Xx56.size:Int)))) (unb 22 1023) rfl rfl hT (anyM hM (by kernel_rfl)) hE rfl (KA rfl) (fun w=>KL hE rfl rfl KN YJ) (fun a hE=>?_)
        refine KF (i:=10) (v:=.bool (decide (Xx55 ≥ (Xx56.size:Int)))) (unb 22 2047) rfl rfl hT (anyM hM (by kernel_rfl)) hE rfl (KA rfl) (fun w=>KD hE rfl) (fun a hE=>?_)
        have hE:=hE.reb 37 (decide (Xx55 ≥ (Xx56.size:Int))) false hb_57 rfl
        replace hE:=hE.cut (l':=[(0,.pointer x0),(4,.int .i64 Xx17),(37,.bool false)]) (.cons rfl (.cons rfl (.cons rfl Subs.nil)))
        refine KF (i:=11) (v:=.int .i64 Xx17) (unb 22 4095) rfl rfl hT (anyM hM (by kernel_rfl)) hE rfl (KP rfl hE rfl rfl rfl) (fun w=>KD hE rfl) (fun a hE=>?_)
        refine KF (i:=12) (v:=.bool (decide (Xx17 < 0))) (unb 22 8191) rfl rfl hT (anyM hM (by kernel_rfl)) hE rfl (KP rfl hE rfl rfl rfl) (fun w=>KL hE rfl rfl KN JL) (fun a hE=>?_)
        refine KF (i:=13) (v:=.bool (decide (Xx17 < 0))) (unb 22 16383) rfl rfl hT (anyM hM (by kernel_rfl)) hE rfl (KA rfl) (fun w=>Kd hE rfl rfl) (fun a hE=>?_)
        refine KF (i:=14) (v:=.bool (decide (Xx17 < 0))) (unb 22 32767) rfl rfl hT (anyM hM (by kernel_rfl)) hE rfl (KA rfl) (fun w=>KD hE rfl) (fun a hE=>?_)
        have hE:=hE.reb 41 (decide (Xx17 < 0)) false hb_58 rfl
        replace hE:=hE.cut (l':=[(0,.pointer x0),(4,.int .i64 Xx17),(41,.bool false)]) (.cons rfl (.cons rfl (.cons rfl Subs.nil)))
        refine KF (i:=15) (v:=.int .i64 Xx17) (unb 22 65535) rfl rfl hT (anyM hM (by kernel_rfl)) hE rfl (KP rfl hE rfl rfl rfl) (fun w=>KD hE rfl) (fun a hE=>?_)
        refine KF (i:=16) (v:=.bool (decide (Xx17 > 1))) (unb 22 131071) rfl rfl hT (anyM hM (by kernel_rfl)) hE rfl (KP rfl hE rfl rfl rfl) (fun w=>KL hE rfl rfl KN YI) (fun a hE=>?_)
        refine KF (i:=17) (v:=.bool (decide (Xx17 > 1))) (unb 22 262143) rfl rfl hT (anyM hM (by kernel_rfl)) hE rfl (KP rfl hE rfl rfl rfl) (fun w=>KD hE rfl) (fun a hE=>?_)
        have hE:=hE.reb 44 (decide (Xx17 > 1)) true hb_59 rfl
        replace hE:=hE.cut (l':=[(0,.pointer x0),(4,.int .i64 Xx17),(41,.bool false),(44,.bool true)]) (.cons rfl (.cons rfl (.cons rfl (.cons rfl Subs.nil))))
        refine KF (i:=18) (v:=.int .i64 Xx17) (unb 22 524287) rfl rfl hT (anyM hM (by kernel_rfl)) hE rfl (KP rfl hE rfl rfl rfl) (fun w=>KD hE rfl) (fun a hE=>?_)
        refine KF (i:=19) (v:=.bool (decide (Xx17 < 7))) (unb 22 1048575) rfl rfl hT (anyM hM (by kernel_rfl)) hE rfl (KP rfl hE rfl rfl rfl) (fun w=>KL hE rfl rfl KN JL) (fun a hE=>?_)
        refine KF (i:=20) (v:=.bool (decide (Xx17 < 7))) (unb 22 2097151) rfl rfl hT (anyM hM (by kernel_rfl)) hE rfl (KP rfl hE rfl rfl rfl) (fun w=>Kc hE rfl rfl) (fun a hE=>?_)
        refine KF (i:=21) (v:=.bool (decide (Xx17 < 7))) (unb 22 4194303) rfl rfl hT (anyM hM (by kernel_rfl)) hE rfl (KA rfl) (fun w=>Kd hE rfl rfl) (fun a hE=>?_)
        refine JM hT (Wa hM (by kernel_rfl)) ?_
        exact ⟨decide (Xx17 < 7),hE.cut (.cons rfl (.cons rfl (.cons rfl Subs.nil))),hR,H⟩
       ·replace H:=M.ite_f hb_59 H
        refine VL (rops:=Gu) (by kernel_rfl) ?_
        have hT:Tab Gu _ _ _:=Jf KBO rfl (by kernel_rfl)
        have hM:=TabM.of zN
        refine Zq (m:=22) (fun w:World=>(fun h:Heap=>(KV h ((Xx53).add 1)=some (.int .i64 Xx55))∧(KV h ((Xx54).add 0)=some (.string Xx56))) w.heap) [9,10,11,12,13,14,15,16,17,18,19,20,21] (unb 22 0) mo hR (by kernel_rfl) (by kernel_rfl) (fun w' e=>by rw [e]; exact ⟨qXx55,qXx56⟩) (fun w hh hR hs=>?_)
        replace H:=M.at hh H; clear hh
        refine KF (i:=0) (v:=.pointer x0) (unb 22 1) rfl rfl hT (anyM hM (by kernel_rfl)) hE rfl (KA rfl) (fun w=>KD hE rfl) (fun a hE=>?_)
        refine KF (i:=1) (v:=.pointer (some Xx53)) (unb 22 3) rfl rfl hT (anyM hM (by kernel_rfl)) hE rfl (KA rfl) (fun w=>KW hE (Jg rfl (congrArg Value.pointer qXx53))) (fun a hE=>?_)
        refine KF (i:=2) (v:=.pointer (some ((Xx53).add 1))) (unb 22 7) rfl rfl hT (anyM hM (by kernel_rfl)) hE rfl (KA rfl) (fun w=>KI hE rfl JA) (fun a hE=>?_)
        refine KF (i:=4) (v:=.pointer x0) (unb 22 23) rfl rfl hT (anyM hM (by kernel_rfl)) hE rfl (KA rfl) (fun w=>KD hE rfl) (fun a hE=>?_)
        refine KF (i:=5) (v:=.pointer (some Xx54)) (unb 22 55) rfl rfl hT (anyM hM (by kernel_rfl)) hE rfl (KA rfl) (fun w=>KW hE (Jg rfl (congrArg Value.pointer qXx54))) (fun a hE=>?_)
        refine KF (i:=6) (v:=.pointer (some ((Xx54).add 0))) (unb 22 119) rfl rfl hT (anyM hM (by kernel_rfl)) hE rfl (KA rfl) (fun w=>KI hE rfl Wk) (fun a hE=>?_)
        refine Kt (i:=3) (v:=.int .i64 Xx55) (unb 22 127) rfl rfl hT (UB hM (by kernel_rfl)) hE rfl (KA rfl) hs (fun w s=>KU hE rfl sc3 s.1) (fun a hE=>?_)
        refine Kt (i:=7) (v:=.string Xx56) (unb 22 255) rfl rfl hT (UB hM (by kernel_rfl)) hE rfl (KA rfl) hs (fun w s=>KU hE rfl sc9 s.2) (fun a hE=>?_)
        refine KF (i:=8) (v:=.int .i64 (Xx56.size:Int)) (unb 22 511) rfl rfl hT (anyM hM (by kernel_rfl)) hE rfl (KA rfl) (fun w=>U3 hE rfl un9) (fun a hE=>?_)
        refine KF (i:=9) (v:=.bool (decide (Xx55 ≥ (Xx56.size:Int)))) (unb 22 1023) rfl rfl hT (anyM hM (by kernel_rfl)) hE rfl (KA rfl) (fun w=>KL hE rfl rfl KN YJ) (fun a hE=>?_)
        refine KF (i:=10) (v:=.bool (decide (Xx55 ≥ (Xx56.size:Int)))) (unb 22 2047) rfl rfl hT (anyM hM (by kernel_rfl)) hE rfl (KA rfl) (fun w=>KD hE rfl) (fun a hE=>?_)
        have hE:=hE.reb 37 (decide (Xx55 ≥ (Xx56.size:Int))) false hb_57 rfl
        replace hE:=hE.cut (l':=[(0,.pointer x0),(4,.int .i64 Xx17),(37,.bool false)]) (.cons rfl (.cons rfl (.cons rfl Subs.nil)))
        refine KF (i:=11) (v:=.int .i64 Xx17) (unb 22 4095) rfl rfl hT (anyM hM (by kernel_rfl)) hE rfl (KP rfl hE rfl rfl rfl) (fun w=>KD hE rfl) (fun a hE=>?_)
        refine KF (i:=12) (v:=.bool (decide (Xx17 < 0))) (unb 22 8191) rfl rfl hT (anyM hM (by kernel_rfl)) hE rfl (KP rfl hE rfl rfl rfl) (fun w=>KL hE rfl rfl KN JL) (fun a hE=>?_)
        refine KF (i:=13) (v:=.bool (decide (Xx17 < 0))) (unb 22 16383) rfl rfl hT (anyM hM (by kernel_rfl)) hE rfl (KA rfl) (fun w=>Kd hE rfl rfl) (fun a hE=>?_)
        refine KF (i:=14) (v:=.bool (decide (Xx17 < 0))) (unb 22 32767) rfl rfl hT (anyM hM (by kernel_rfl)) hE rfl (KA rfl) (fun w=>KD hE rfl) (fun a hE=>?_)
        have hE:=hE.reb 41 (decide (Xx17 < 0)) false hb_58 rfl
        replace hE:=hE.cut (l':=[(0,.pointer x0),(4,.int .i64 Xx17),(41,.bool false)]) (.cons rfl (.cons rfl (.cons rfl Subs.nil)))
        refine KF (i:=15) (v:=.int .i64 Xx17) (unb 22 65535) rfl rfl hT (anyM hM (by kernel_rfl)) hE rfl (KP rfl hE rfl rfl rfl) (fun w=>KD hE rfl) (fun a hE=>?_)
        refine KF (i:=16) (v:=.bool (decide (Xx17 > 1))) (unb 22 131071) rfl rfl hT (anyM hM (by kernel_rfl)) hE rfl (KP rfl hE rfl rfl rfl) (fun w=>KL hE rfl rfl KN YI) (fun a hE=>?_)
        refine KF (i:=17) (v:=.bool (decide (Xx17 > 1))) (unb 22 262143) rfl rfl hT (anyM hM (by kernel_rfl)) hE rfl (KP rfl hE rfl rfl rfl) (fun w=>KD hE rfl) (fun a hE=>?_)
        have hE:=hE.reb 44 (decide (Xx17 > 1)) false hb_59 rfl
        replace hE:=hE.cut (l':=[(0,.pointer x0),(4,.int .i64 Xx17),(41,.bool false),(44,.bool false)]) (.cons rfl (.cons rfl (.cons rfl (.cons rfl Subs.nil))))
        refine KAw (i:=18) (unb 22 524287) rfl rfl hT (anyM hM (by kernel_rfl)) (VF rfl hE rfl rfl rfl) (fun a ea=>?_)
        have hE:=Env.put_some hE rfl ea; clear ea
        refine KAw (i:=19) (unb 22 1048575) rfl rfl hT (anyM hM (by kernel_rfl)) (VF rfl hE rfl rfl rfl) (fun a ea=>?_)
        have hE:=Env.put_some hE rfl ea; clear ea
        refine KF (i:=20) (v:=.bool false) (unb 22 2097151) rfl rfl hT (anyM hM (by kernel_rfl)) hE rfl (KP rfl hE rfl rfl rfl) (fun w=>Kd hE rfl rfl) (fun a hE=>?_)
        refine KF (i:=21) (v:=.bool false) (unb 22 4194303) rfl rfl hT (anyM hM (by kernel_rfl)) hE rfl (KA rfl) (fun w=>Kd hE rfl rfl) (fun a hE=>?_)
        refine JM hT (Wa hM (by kernel_rfl)) ?_
        exact ⟨false,hE.cut (.cons rfl (.cons rfl (.cons rfl Subs.nil))),hR,H⟩
end Gx
