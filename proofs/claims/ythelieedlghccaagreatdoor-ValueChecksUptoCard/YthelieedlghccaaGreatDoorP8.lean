/- Printed by program: Go functions as Lean programs, each tied to its code. No condition. -/
import Derived.Test.YthelieedlghccaaGreatDoorP0
import Derived.Test.YthelieedlghccaaGreatDoorP1
import Derived.Test.YthelieedlghccaaGreatDoorP2
import Derived.Test.YthelieedlghccaaGreatDoorP3
import Derived.Test.YthelieedlghccaaGreatDoorP4
import Derived.Test.YthelieedlghccaaGreatDoorP5
import Derived.Test.YthelieedlghccaaGreatDoorP6
import Derived.Test.YthelieedlghccaaGreatDoorP7
set_option linter.unusedVariables false
set_option linter.unusedSimpArgs false
namespace Gx
open Go
set_option linter.unusedVariables false
set_option maxRecDepth 100000
def Jl (C13:Int) (C14:Addr) (Xx12:Int):M (ByteArray):=do
 let Xx16←Uq Xx12
 let Xx18←slA C14 24 1 (IntKind.wrap .i64 (1+Xx16)) 1
 let Xx19←VM Xx18 Xx12
 M.ite (decide (C13 < 0)) (do
  let Xx23←ixA C14 24 0 1
  stV Xx23 (.int .u8 45)
  let Xx26←slA C14 24 0 (IntKind.wrap .i64 (1+Xx16)) 1
  let Xx27←b2s Xx26
  M.pure Xx27
  ) (do
  let Xx29←slA C14 24 1 (IntKind.wrap .i64 (1+Xx16)) 1
  let Xx30←b2s Xx29
  M.pure Xx30
  )
def J9 (x0:Int) (x1:Int):M (ByteArray):=do
 M.ite (x1 == 10) (do
  let Xx6←M.ite (decide (0≤x0)) (do
   M.pure (decide (x0 < 100))
   ) (do
   M.pure false
   )
  M.ite Xx6 (do
   let Xx8←VV x0
   M.pure Xx8
   ) (do
   let Xx10←mkB KCI (Array.replicate 24 (.int .u8 0):Array Value)
   M.ite (decide (x0 < 0)) (do
    Jl x0 Xx10 (IntKind.wrap .u64 (0 - (IntKind.wrap .u64 x0)))
    ) (do
    Jl x0 Xx10 (IntKind.wrap .u64 x0)
    )
   )
  ) (do
  let Xx33←J1 Sl.nil (IntKind.wrap .u64 x0) x1 (decide (x0 < 0)) false
  M.pure Xx33.2
  )
theorem Yu (x0:Int) (x1:Int):ZK Go.Proofs.Tryz.prog 198 #[.int .i64 x0,.int .i64 x1] (fun (r:ByteArray)=>.string r) (J9 x0 x1):=by
 refine KY [(0,.int .i64 x0),(1,.int .i64 x1)] Go.Proofs.Tryz.func198 rfl rfl (Nat.le_of_ble_eq_true rfl) (Ke ⟨rfl,rfl,trivial⟩) (fun w0 w Q R a hret hE hR H=>?_)
 unfold J9 at H
 refine KH (fun K hK_1=>?_)
 refine KC ?_
 refine KB (v:=.string ByteArray.empty) rfl rfl hE rfl (KE hE rfl) (fun a hE=>?_)
 refine KG ?_
 refine hK_1 _ _ ?_
 refine KH (fun K hK_2=>?_)
 refine KH (fun K hK_3=>?_)
 refine KC ?_
 refine KB (v:=.int .i64 x1) rfl rfl hE rfl (KD hE rfl) (fun a hE=>?_)
 refine KB (v:=.bool (x1 == 10)) rfl rfl hE rfl (KL hE rfl rfl KN Z5) (fun a hE=>?_)
 refine KG ?_
 refine hK_3 _ _ ?_
 refine KS (x1 == 10) hE rfl (fun hb=>?_) (fun hb=>?_)
 ·replace H:=M.ite_t hb H
  refine KH (fun K hK_4=>?_)
  refine KH (fun K hK_5=>?_)
  refine KC ?_
  refine KB (v:=.int .i64 x0) rfl rfl hE rfl (KD hE rfl) (fun a hE=>?_)
  refine KB (v:=.bool (decide (0≤x0))) rfl rfl hE rfl (KL hE rfl rfl KN KAC) (fun a hE=>?_)
  refine KB (v:=.bool (decide (0≤x0))) rfl rfl hE rfl (KD hE rfl) (fun a hE=>?_)
  refine J5 (n:=(⟨54,[]⟩:Frm)) (w0:=w0) 3 (fun Xx6:Bool=>[(0,.int .i64 x0),(17,.bool Xx6)]) (M.unbind H) (fun Kr hKr H=>?_) ?_
  ·rcases Kq (decide (0≤x0)) with hb | hb
   ·replace H:=M.ite_t hb H
    have hE:=hE.reb 14 (decide (0≤x0)) true hb rfl
    refine t_on rfl hE rfl rfl rfl ?_
    refine KB (v:=.int .i64 x0) rfl rfl hE rfl (KD hE rfl) (fun a hE=>?_)
    refine t_on rfl hE rfl rfl rfl ?_
    refine KB (v:=.bool (decide (x0 < 100))) rfl rfl hE rfl (KL hE rfl rfl KN JL) (fun a hE=>?_)
    refine KB rfl rfl hE rfl (Kc hE rfl rfl) (fun a hE=>?_)
    refine KG ?_
    exact hKr _ _ _ (hE.cut (.cons rfl (.cons rfl Subs.nil))) hR H
   ·replace H:=M.ite_f hb H
    have hE:=hE.reb 14 (decide (0≤x0)) false hb rfl
    refine Kf rfl hE rfl rfl rfl (fun a ea=>?_)
    have hE:=Env.put_some hE rfl ea; clear ea
    refine Kf rfl hE rfl rfl rfl (fun a ea=>?_)
    have hE:=Env.put_some hE rfl ea; clear ea
    refine KB rfl rfl hE rfl (Kd hE rfl rfl) (fun a hE=>?_)
    refine KG ?_
    exact hKr _ _ _ (hE.cut (.cons rfl (.cons rfl Subs.nil))) hR H
  ·intro Xx6 a w hE hR H
   refine KG ?_
   refine hK_5 _ _ ?_
   refine KS Xx6 hE rfl (fun hb=>?_) (fun hb=>?_)
   ·replace H:=M.ite_t hb H
    refine KH (fun K hK_7=>?_)
    refine KC ?_
    refine KB (v:=.int .i64 x0) rfl rfl hE rfl (KD hE rfl) (fun a hE=>?_)
    refine KZ hE hR Xf rfl (X2 x0) (M.unbind H) (fun Xx8 a w ea hR H=>?_)
    have hE:=Env.put_some hE rfl ea; clear ea
    refine KB (v:=.string Xx8) rfl rfl hE rfl (KE hE rfl) (fun a hE=>?_)
    refine KG ?_
    refine hK_7 _ _ ?_
    refine Kg ?_
    exact hret _ _ _ Xx8 _ hE hR (KM hE rfl (RV.tmp rfl RV.nil)) rfl H
   ·replace H:=M.ite_f hb H
    refine Ka ?_
    refine hK_4 _ _ ?_
    refine KH (fun K hK_9=>?_)
    refine KC ?_
    obtain ⟨Xx10,qXx10,H⟩:=H
    refine ZR (v:=.pointer (some Xx10)) rfl rfl hE rfl hR (Z4 KJT qXx10) (fun a w hE hR hh=>?_)
    replace H:=M.at hh H; clear hh
    refine KG ?_
    refine hK_9 _ _ ?_
    refine KH (fun K hK_11=>?_)
    refine KC ?_
    refine KB (v:=.int .i64 x0) rfl rfl hE rfl (KD hE rfl) (fun a hE=>?_)
    refine KB (v:=.int .u64 (IntKind.wrap .u64 x0)) rfl rfl hE rfl (Ue hE rfl un2 KEP) (fun a hE=>?_)
    refine KB (v:=.int .u64 (IntKind.wrap .u64 x0)) rfl rfl hE rfl (KE hE rfl) (fun a hE=>?_)
    refine KG ?_
    refine hK_11 _ _ ?_
    refine Ku (fun a w=>∃ (Xx12:Int),Env (⟨54,[]⟩:Frm) a [(0,.int .i64 x0),(5,.pointer (some Xx10)),(6,.int .u64 Xx12)]∧Rest w0 w∧(Jl x0 Xx10 Xx12).wp w.heap Q) ?_ ?_
    ·rintro a w ⟨Xx12,hE,hR,H⟩
     unfold Jl at H
     refine KH (fun K hK_15=>?_)
     refine KC ?_
     refine KB (v:=.int .u64 Xx12) rfl rfl hE rfl (KD hE rfl) (fun a hE=>?_)
     refine KZ hE hR YV rfl (Yt Xx12) (M.unbind H) (fun Xx16 a w ea hR H=>?_)
     have hE:=Env.put_some hE rfl ea; clear ea
     refine KB (v:=.int .i64 Xx16) rfl rfl hE rfl (KE hE rfl) (fun a hE=>?_)
     refine KG ?_
     refine hK_15 _ _ ?_
     refine KH (fun K hK_17=>?_)
     refine KC ?_
     refine KB (v:=.int .i64 Xx16) rfl rfl hE rfl (KD hE rfl) (fun a hE=>?_)
     refine KB (v:=.int .i64 (IntKind.wrap .i64 (1+Xx16))) rfl rfl hE rfl (KL hE rfl rfl KN JE) (fun a hE=>?_)
     obtain ⟨Xx18,qXx18,H⟩:=H
     refine KB (v:=(Xx18:Sl).v) rfl rfl hE rfl (zb hE rfl rfl rfl KF9 sz5 qXx18) (fun a hE=>?_)
     refine KB (v:=.int .u64 Xx12) rfl rfl hE rfl (KD hE rfl) (fun a hE=>?_)
     refine KZ hE hR Wv rfl (YA Xx18 Xx12) (M.unbind H) (fun Xx19 a w ea hR H=>?_)
     have hE:=Env.put_some hE rfl ea; clear ea
     refine KG ?_
     refine hK_17 _ _ ?_
     refine KH (fun K hK_20=>?_)
     refine KH (fun K hK_21=>?_)
     refine KC ?_
     refine KB (v:=.int .i64 x0) rfl rfl hE rfl (KD hE rfl) (fun a hE=>?_)
     refine KB (v:=.bool (decide (x0 < 0))) rfl rfl hE rfl (KL hE rfl rfl KN JL) (fun a hE=>?_)
     refine KG ?_
     refine hK_21 _ _ ?_
     refine KS (decide (x0 < 0)) hE rfl (fun hb=>?_) (fun hb=>?_)
     ·replace H:=M.ite_t hb H
      refine KH (fun K hK_22=>?_)
      refine KC ?_
      obtain ⟨Xx23,qXx23,H⟩:=H
      refine KB (v:=.pointer (some Xx23)) rfl rfl hE rfl (VD hE rfl rfl KF9 sz5 qXx23) (fun a hE=>?_)
      obtain ⟨u_24,qu_24,H⟩:=H
      refine JI rfl rfl hE hR (JK hE rfl rfl sz5 qu_24) (fun a w hE hR hh=>?_)
      replace H:=M.at hh H; clear hh
      refine KG ?_
      refine hK_22 _ _ ?_
      refine KH (fun K hK_25=>?_)
      refine KC ?_
      refine KB (v:=.int .i64 Xx16) rfl rfl hE rfl (KD hE rfl) (fun a hE=>?_)
      refine KB (v:=.int .i64 (IntKind.wrap .i64 (1+Xx16))) rfl rfl hE rfl (KL hE rfl rfl KN JE) (fun a hE=>?_)
      obtain ⟨Xx26,qXx26,H⟩:=H
      refine KB (v:=(Xx26:Sl).v) rfl rfl hE rfl (KDU hE rfl rfl KF9 sz5 qXx26) (fun a hE=>?_)
      obtain ⟨Xx27,qXx27,H⟩:=H
      refine KB (v:=.string Xx27) rfl rfl hE rfl (KA4 hE rfl un35 un9 un5 qXx27) (fun a hE=>?_)
      refine KB (v:=.string Xx27) rfl rfl hE rfl (KE hE rfl) (fun a hE=>?_)
      refine KG ?_
      refine hK_25 _ _ ?_
      refine Kg ?_
      exact hret _ _ _ Xx27 _ hE hR (KM hE rfl (RV.tmp rfl RV.nil)) rfl H
     ·replace H:=M.ite_f hb H
      refine Ka ?_
      refine hK_20 _ _ ?_
      refine KH (fun K hK_28=>?_)
      refine KC ?_
      refine KB (v:=.int .i64 Xx16) rfl rfl hE rfl (KD hE rfl) (fun a hE=>?_)
      refine KB (v:=.int .i64 (IntKind.wrap .i64 (1+Xx16))) rfl rfl hE rfl (KL hE rfl rfl KN JE) (fun a hE=>?_)
      obtain ⟨Xx29,qXx29,H⟩:=H
      refine KB (v:=(Xx29:Sl).v) rfl rfl hE rfl (zb hE rfl rfl rfl KF9 sz5 qXx29) (fun a hE=>?_)
      obtain ⟨Xx30,qXx30,H⟩:=H
      refine KB (v:=.string Xx30) rfl rfl hE rfl (KA4 hE rfl un35 un9 un5 qXx30) (fun a hE=>?_)
      refine KB (v:=.string Xx30) rfl rfl hE rfl (KE hE rfl) (fun a hE=>?_)
      refine KG ?_
      refine hK_28 _ _ ?_
      refine Kg ?_
      exact hret _ _ _ Xx30 _ hE hR (KM hE rfl (RV.tmp rfl RV.nil)) rfl H
    ·skip
     refine KH (fun K hK_31=>?_)
     refine KC ?_
     refine KB (v:=.int .i64 x0) rfl rfl hE rfl (KD hE rfl) (fun a hE=>?_)
     refine KB (v:=.bool (decide (x0 < 0))) rfl rfl hE rfl (KL hE rfl rfl KN JL) (fun a hE=>?_)
     refine KG ?_
     refine hK_31 _ _ ?_
     refine KS (decide (x0 < 0)) hE rfl (fun hb=>?_) (fun hb=>?_)
     ·replace H:=M.ite_t hb H
      refine KC ?_
      refine KB (v:=.int .u64 (IntKind.wrap .u64 x0)) rfl rfl hE rfl (KD hE rfl) (fun a hE=>?_)
      refine KB (v:=.int .u64 (IntKind.wrap .u64 (0 - (IntKind.wrap .u64 x0)))) rfl rfl hE rfl (r_un hE rfl KHG) (fun a hE=>?_)
      refine KB (v:=.int .u64 (IntKind.wrap .u64 (0 - (IntKind.wrap .u64 x0)))) rfl rfl hE rfl (KE hE rfl) (fun a hE=>?_)
      refine KG ?_
      exact ⟨IntKind.wrap .u64 (0 - (IntKind.wrap .u64 x0)),hE.cut (.cons rfl (.cons rfl (.cons rfl Subs.nil))),hR,H⟩
     ·replace H:=M.ite_f hb H
      refine Ka ?_
      exact ⟨IntKind.wrap .u64 x0,hE.cut (.cons rfl (.cons rfl (.cons rfl Subs.nil))),hR,H⟩
 ·replace H:=M.ite_f hb H
  refine Ka ?_
  refine hK_2 _ _ ?_
  refine KH (fun K hK_32=>?_)
  refine KC ?_
  refine KB (v:=.int .i64 x0) rfl rfl hE rfl (KD hE rfl) (fun a hE=>?_)
  refine KB (v:=.int .u64 (IntKind.wrap .u64 x0)) rfl rfl hE rfl (Ue hE rfl un2 KEP) (fun a hE=>?_)
  refine KB (v:=.int .i64 x1) rfl rfl hE rfl (KD hE rfl) (fun a hE=>?_)
  refine KB (v:=.int .i64 x0) rfl rfl hE rfl (KD hE rfl) (fun a hE=>?_)
  refine KB (v:=.bool (decide (x0 < 0))) rfl rfl hE rfl (KL hE rfl rfl KN JL) (fun a hE=>?_)
  refine KZ hE hR YK rfl (Ya Sl.nil (IntKind.wrap .u64 x0) x1 (decide (x0 < 0)) false) (M.unbind H) (fun Xx33 a w ea hR H=>?_)
  have hE:=Env.put_some hE rfl ea; clear ea
  refine KB (v:=.tuple #[(Xx33.1:Sl).v,.string Xx33.2]) rfl rfl hE rfl (KD hE rfl) (fun a hE=>?_)
  refine KB (v:=(Xx33.1:Sl).v) rfl rfl hE rfl (ZF hE rfl rfl) (fun a hE=>?_)
  refine KB (v:=.string Xx33.2) rfl rfl hE rfl (ZF hE rfl rfl) (fun a hE=>?_)
  refine KB (v:=(Xx33.1:Sl).v) rfl rfl hE rfl (KE hE rfl) (fun a hE=>?_)
  refine KB (v:=.string Xx33.2) rfl rfl hE rfl (KE hE rfl) (fun a hE=>?_)
  refine KG ?_
  refine hK_32 _ _ ?_
  refine KH (fun K hK_34=>?_)
  refine KC ?_
  refine KB (v:=.string Xx33.2) rfl rfl hE rfl (KD hE rfl) (fun a hE=>?_)
  refine KB (v:=.string Xx33.2) rfl rfl hE rfl (KE hE rfl) (fun a hE=>?_)
  refine KG ?_
  refine hK_34 _ _ ?_
  refine Kg ?_
  exact hret _ _ _ Xx33.2 _ hE hR (KM hE rfl (RV.tmp rfl RV.nil)) rfl H
theorem KHy:Vg Go.Proofs.Tryz.f136 3 [[],[],[],[1,2],[3],[0,4],[5,0,1,2,3,4,5]] [[],[],[],[1,2],[3],[0,4],[5]] [[],[],[],[1,2],[1,2,3],[0,1,2,3,4],[0,1,2,3,4,5]]=true:=by kernel_rfl
def Zp (C3:Value) (C4:Addr) (C5:Addr) (self1:(Int)→M (Unit)):(Int)→M (Unit):=fun s=>match s with
 | Xx2=>do
  let Xx9←ldL C4
  M.ite (decide (Xx2 < (Xx9.len:Int))) (do
   let Xx12←ldI .i64 C5
   let Xx13←ldL C4
   let Xx14←slL Xx13 Xx2 Xx13.len 4
   let Xx16←ldL C4
   let Xx17←slL3 Xx16 Xx2 (IntKind.wrap .i64 (Xx2+(iMin Xx12 (Xx14.len:Int)))) (IntKind.wrap .i64 (Xx2+(iMin Xx12 (Xx14.len:Int)))) 4
   let Xx18←GV Go.Proofs.Tryz.prog (fun r:Bool=>.bool r) C3 [(Xx17:Sl).v]
   M.ite (!Xx18) (do
    M.pure ()
    ) (do
    let Xx19←ldI .i64 C5
    self1 (IntKind.wrap .i64 (Xx2+Xx19))
    )
   ) (do
   M.pure ()
   )
def Jj (x0:Value) (x1:Addr) (x2:Addr):M (Unit):=do
 M.loop (Zp x0 x1 x2) 0
theorem Vw (x0:Value) (x1:Addr) (x2:Addr):ZK Go.Proofs.Tryz.prog 136 #[x0,.pointer (some x1),.pointer (some x2)] (fun (r:Unit)=>.tuple #[]) (Jj x0 x1 x2):=by
 refine KY [(0,x0),(1,.pointer (some x1)),(2,.pointer (some x2))] Go.Proofs.Tryz.func136 rfl rfl (Nat.le_of_ble_eq_true rfl) (Ke ⟨rfl,rfl,rfl,trivial⟩) (fun w0 w Q R a hret hE hR H=>?_)
 unfold Jj at H
 refine KH (fun K hK_1=>?_)
 refine KC ?_
 refine KB (v:=.int .i64 0) rfl rfl hE rfl (KE hE rfl) (fun a hE=>?_)
 refine KG ?_
 refine hK_1 _ _ ?_
 refine Kj ?_
 refine J7 (fun (s:Int)=>(⟨31,[]⟩:Frm)) (fun (s:Int)=>[(0,x0),(1,.pointer (some x1)),(2,.pointer (some x2)),(4,.int .i64 s)]) H (hE.cut (.cons rfl (.cons rfl (.cons rfl (.cons rfl Subs.nil))))) hR (fun Y self1 hY_6 Xx2 a w hE hR H=>?_)
 replace hE:Env (⟨31,[]⟩:Frm) a [(0,x0),(1,.pointer (some x1)),(2,.pointer (some x2)),(4,.int .i64 Xx2)]:=hE
 replace H:(Zp x0 x1 x2 self1 Xx2).wp w.heap Q:=H
 unfold Zp at H
 refine KH (fun K hK_7=>?_)
 refine KH (fun K hK_8=>?_)
 refine KC ?_
 refine KB (v:=.int .i64 Xx2) rfl rfl hE rfl (KD hE rfl) (fun a hE=>?_)
 obtain ⟨Xx9,qXx9,H⟩:=H
 refine KB (v:=(Xx9:Sl).v) rfl rfl hE rfl (KU hE rfl sc22 qXx9) (fun a hE=>?_)
 refine KB (v:=.int .i64 (Xx9.len:Int)) rfl rfl hE rfl (UA hE rfl 24 un22) (fun a hE=>?_)
 refine KB (v:=.bool (decide (Xx2 < (Xx9.len:Int)))) rfl rfl hE rfl (KL hE rfl rfl KN JL) (fun a hE=>?_)
 refine KG ?_
 refine hK_8 _ _ ?_
 refine KS (decide (Xx2 < (Xx9.len:Int))) hE rfl (fun hb=>?_) (fun hb=>?_)
 ·replace H:=M.ite_t hb H
  refine Ka ?_
  refine hK_7 _ _ ?_
  refine KH (fun K hK_10=>?_)
  refine Kj ?_
  refine KH (fun K hK_11=>?_)
  obtain ⟨Xx12,qXx12,H⟩:=H
  obtain ⟨Xx13,qXx13,H⟩:=H
  obtain ⟨Xx14,qXx14,H⟩:=H
  have hT:=Jf KHy rfl rfl
  refine Zq (fun w:World=>(fun h:Heap=>(KV h x2=some (.int .i64 Xx12))∧(KV h x1=some ((Xx13:Sl).v))) w.heap) [5,6] #[false,false,false,false,false,false,false] mo hR rfl rfl (fun w' e=>by rw [e]; exact ⟨qXx12,qXx13⟩) (fun w hh hR hs=>?_)
  replace H:=M.at hh H; clear hh
  refine KF (i:=2) (v:=.int .i64 Xx2) #[false,false,true,false,false,false,false] rfl rfl hT (by kernel_rfl) hE rfl (KA rfl) (fun w=>KD hE rfl) (fun a hE=>?_)
  refine Kt (i:=0) (v:=.int .i64 Xx12) #[true,false,true,false,false,false,false] rfl rfl hT (by kernel_rfl) hE rfl (KA rfl) hs (fun w s=>KU hE rfl sc3 s.1) (fun a hE=>?_)
  refine Kt (i:=1) (v:=(Xx13:Sl).v) #[true,true,true,false,false,false,false] rfl rfl hT (by kernel_rfl) hE rfl (KA rfl) hs (fun w s=>KU hE rfl sc22 s.2) (fun a hE=>?_)
  refine KF (i:=3) (v:=(Xx14:Sl).v) #[true,true,true,true,false,false,false] rfl rfl hT (by kernel_rfl) hE rfl (KA rfl) (fun w=>qf hE rfl rfl un22 sz24 qXx14) (fun a hE=>?_)
  refine KF (i:=4) (v:=.int .i64 (Xx14.len:Int)) #[true,true,true,true,true,false,false] rfl rfl hT (by kernel_rfl) hE rfl (KA rfl) (fun w=>UA hE rfl 24 un22) (fun a hE=>?_)
  refine KF (i:=5) (v:=.int .i64 (iMin Xx12 (Xx14.len:Int))) #[true,true,true,true,true,true,false] rfl rfl hT (by kernel_rfl) hE rfl (KA rfl) (fun w=>KJL hE rfl rfl) (fun a hE=>?_)
  refine KF (i:=6) (v:=.int .i64 (iMin Xx12 (Xx14.len:Int))) #[true,true,true,true,true,true,true] rfl rfl hT (by kernel_rfl) hE rfl (KA rfl) (fun w=>KE hE rfl) (fun a hE=>?_)
  refine JM hT (by kernel_rfl) ?_
  refine hK_11 _ _ ?_
  refine KH (fun K hK_15=>?_)
  refine KC ?_
  refine KB (v:=x0) rfl rfl hE rfl (KD hE rfl) (fun a hE=>?_)
  obtain ⟨Xx16,qXx16,H⟩:=H
  refine KB (v:=(Xx16:Sl).v) rfl rfl hE rfl (KU hE rfl sc22 qXx16) (fun a hE=>?_)
  refine KB (v:=.int .i64 Xx2) rfl rfl hE rfl (KD hE rfl) (fun a hE=>?_)
  refine KB (v:=.int .i64 Xx2) rfl rfl hE rfl (KD hE rfl) (fun a hE=>?_)
  refine KB (v:=.int .i64 (iMin Xx12 (Xx14.len:Int))) rfl rfl hE rfl (KD hE rfl) (fun a hE=>?_)
  refine KB (v:=.int .i64 (IntKind.wrap .i64 (Xx2+(iMin Xx12 (Xx14.len:Int))))) rfl rfl hE rfl (KL hE rfl rfl KN JE) (fun a hE=>?_)
  refine KB (v:=.int .i64 Xx2) rfl rfl hE rfl (KD hE rfl) (fun a hE=>?_)
  refine KB (v:=.int .i64 (iMin Xx12 (Xx14.len:Int))) rfl rfl hE rfl (KD hE rfl) (fun a hE=>?_)
  refine KB (v:=.int .i64 (IntKind.wrap .i64 (Xx2+(iMin Xx12 (Xx14.len:Int))))) rfl rfl hE rfl (KL hE rfl rfl KN JE) (fun a hE=>?_)
  obtain ⟨Xx17,qXx17,H⟩:=H
  refine KB (v:=(Xx17:Sl).v) rfl rfl hE rfl (KEJ hE rfl rfl rfl rfl un22 sz24 qXx17) (fun a hE=>?_)
  refine KA7 hE hR rfl rfl (M.unbind H) (fun Xx18 a w ea hR H=>?_)
  have hE:=Env.put_some hE rfl ea; clear ea
  refine KB (v:=.bool (!Xx18)) rfl rfl hE rfl (r_un hE rfl GB) (fun a hE=>?_)
  refine KG ?_
  refine hK_15 _ _ ?_
  refine KS (!Xx18) hE rfl (fun hb=>?_) (fun hb=>?_)
  ·replace H:=M.ite_t hb H
   refine Kg ?_
   exact hret _ _ _ () _ hE hR (KM hE rfl RV.nil) rfl H
  ·replace H:=M.ite_f hb H
   refine Ka ?_
   refine hK_10 _ _ ?_
   refine KC ?_
   refine KB (v:=.int .i64 Xx2) rfl rfl hE rfl (KD hE rfl) (fun a hE=>?_)
   obtain ⟨Xx19,qXx19,H⟩:=H
   refine KB (v:=.int .i64 Xx19) rfl rfl hE rfl (KU hE rfl sc3 qXx19) (fun a hE=>?_)
   refine KB (v:=.int .i64 (IntKind.wrap .i64 (Xx2+Xx19))) rfl rfl hE rfl (KL hE rfl rfl KN JE) (fun a hE=>?_)
   refine KB (v:=.int .i64 (IntKind.wrap .i64 (Xx2+Xx19))) rfl rfl hE rfl (KE hE rfl) (fun a hE=>?_)
   refine KG ?_
   exact hY_6 (IntKind.wrap .i64 (Xx2+Xx19)) _ _ (hE.cut (.cons rfl (.cons rfl (.cons rfl (.cons rfl Subs.nil))))) hR H
 ·replace H:=M.ite_f hb H
  refine J6 ?_
  refine Xu.same ?_
  exact hret _ _ _ () _ hE hR (KM hE rfl RV.nil) rfl H
theorem KIs:Vg Go.Proofs.Tryz.f80 1 [[],[0],[1],[],[3],[4],[2,5],[6,6,0,1,2,3,4,5,6]] [[],[0],[1],[],[3],[4],[2,5],[6]] [[],[0],[0,1],[],[3],[3,4],[0,1,2,3,4,5],[0,1,2,3,4,5,6]]=true:=by kernel_rfl
def GN (x0:Sl) (x1:Sl):M (Int):=do
 let Xx3←ixL x0 0 4
 let Xx4←ixL x1 0 4
 let Xx5←ldG 4 Xx3
 let Xx6←ldG 4 Xx4
 let Xx7←Uu Xx5 Xx6
 M.pure Xx7
theorem KBQ (x0:Sl) (x1:Sl):ZK Go.Proofs.Tryz.prog 80 #[(x0:Sl).v,(x1:Sl).v] (fun (r:Int)=>.int .i64 r) (GN x0 x1):=by
 refine KY [(0,(x0:Sl).v),(1,(x1:Sl).v)] Go.Proofs.Tryz.func80 rfl rfl (Nat.le_of_ble_eq_true rfl) (Ke ⟨rfl,rfl,trivial⟩) (fun w0 w Q R a hret hE hR H=>?_)
 unfold GN at H
 refine KH (fun K hK_1=>?_)
 refine KC ?_
 refine KB (v:=.int .i64 0) rfl rfl hE rfl (KE hE rfl) (fun a hE=>?_)
 refine KG ?_
 refine hK_1 _ _ ?_
 refine KH (fun K hK_2=>?_)
 obtain ⟨Xx3,qXx3,H⟩:=H
 obtain ⟨Xx4,qXx4,H⟩:=H
 obtain ⟨Xx5,qXx5,H⟩:=H
 obtain ⟨Xx6,qXx6,H⟩:=H
 have hT:=Jf KIs rfl rfl
 refine Zq (fun w:World=>(fun h:Heap=>(Xx5.size=4∧∀ i,i < 4→KV h (Addr.add Xx3 i)=Xx5[i]?)∧(Xx6.size=4∧∀ i,i < 4→KV h (Addr.add Xx4 i)=Xx6[i]?)) w.heap) [6,7] #[false,false,false,false,false,false,false,false] mo hR rfl rfl (fun w' e=>by rw [e]; exact ⟨qXx5,qXx6⟩) (fun w hh hR hs=>?_)
 replace H:=M.at hh H; clear hh
 refine KF (i:=0) (v:=(x0:Sl).v) #[true,false,false,false,false,false,false,false] rfl rfl hT (by kernel_rfl) hE rfl (KA rfl) (fun w=>KD hE rfl) (fun a hE=>?_)
 refine KF (i:=1) (v:=.pointer (some Xx3)) #[true,true,false,false,false,false,false,false] rfl rfl hT (by kernel_rfl) hE rfl (KA rfl) (fun w=>KR hE rfl rfl un22 sz24 qXx3) (fun a hE=>?_)
 refine KF (i:=3) (v:=(x1:Sl).v) #[true,true,false,true,false,false,false,false] rfl rfl hT (by kernel_rfl) hE rfl (KA rfl) (fun w=>KD hE rfl) (fun a hE=>?_)
 refine KF (i:=4) (v:=.pointer (some Xx4)) #[true,true,false,true,true,false,false,false] rfl rfl hT (by kernel_rfl) hE rfl (KA rfl) (fun w=>KR hE rfl rfl un22 sz24 qXx4) (fun a hE=>?_)
 refine Kt (i:=2) (v:=.agg Xx5) #[true,true,true,true,true,false,false,false] rfl rfl hT (by kernel_rfl) hE rfl (KA rfl) hs (fun w s=>ZN hE rfl ag24 s.1) (fun a hE=>?_)
 refine Kt (i:=5) (v:=.agg Xx6) #[true,true,true,true,true,true,false,false] rfl rfl hT (by kernel_rfl) hE rfl (KA rfl) hs (fun w s=>ZN hE rfl ag24 s.2) (fun a hE=>?_)
 refine WM (i:=6) #[true,true,true,true,true,true,true,false] rfl rfl rfl hT (by kernel_rfl) rfl hE hR (KA rfl) WL rfl (Wn Xx5 Xx6) (M.unbind H) (fun Xx7 a w ea hR H=>?_)
 have hE:=Env.put_some hE rfl ea; clear ea
 refine KF (i:=7) (v:=.int .i64 Xx7) #[true,true,true,true,true,true,true,true] rfl rfl hT (by kernel_rfl) hE rfl (KA rfl) (fun w=>KE hE rfl) (fun a hE=>?_)
 refine JM hT (by kernel_rfl) ?_
 refine hK_2 _ _ ?_
 refine Kg ?_
 exact hret _ _ _ Xx7 _ hE hR (KM hE rfl (RV.tmp rfl RV.nil)) rfl H
def Vc (C5:Sl) (C6:Int) (self1:(Int)→M (Bool)):(Int)→M (Bool):=fun s=>match s with
 | Xx4=>do
  M.ite (decide (Xx4 < (C5.len:Int))) (do
   let Xx12←ixL C5 Xx4 4
   let Xx13←ldG 4 Xx12
   let Xx14←NY Go.Proofs.Tryz.prog N9 #[.agg Xx13,.int .i64 (IntKind.wrap .i64 (C6+1))] (fun r:Bool=>.bool r)
   M.ite (!Xx14) (do
    M.pure false
    ) (do
    self1 (IntKind.wrap .i64 (Xx4+1))
    )
   ) (do
   M.pure true
   )
def Ws (x0:Sl) (x1:Int):M (Bool):=do
 M.loop (Vc x0 x1) 0
theorem qv (x0:Sl) (x1:Int):ZK Go.Proofs.Tryz.prog 139 #[(x0:Sl).v,.int .i64 x1] (fun (r:Bool)=>.bool r) (Ws x0 x1):=by
 refine KY [(0,(x0:Sl).v),(1,.int .i64 x1)] Go.Proofs.Tryz.func139 rfl rfl (Nat.le_of_ble_eq_true rfl) (Ke ⟨rfl,rfl,trivial⟩) (fun w0 w Q R a hret hE hR H=>?_)
 unfold Ws at H
 refine KH (fun K hK_1=>?_)
 refine KC ?_
 refine KB (v:=.bool false) rfl rfl hE rfl (KE hE rfl) (fun a hE=>?_)
 refine KG ?_
 refine hK_1 _ _ ?_
 refine KH (fun K hK_2=>?_)
 refine KH (fun K hK_3=>?_)
 refine KC ?_
 refine KB (v:=.int .i64 0) rfl rfl hE rfl (KE hE rfl) (fun a hE=>?_)
 refine KG ?_
 refine hK_3 _ _ ?_
 refine Kj ?_
 refine J7 (fun (s:Int)=>(⟨20,[]⟩:Frm)) (fun (s:Int)=>[(0,(x0:Sl).v),(1,.int .i64 x1),(5,.int .i64 s)]) H (hE.cut (.cons rfl (.cons rfl (.cons rfl Subs.nil)))) hR (fun Y self1 hY_7 Xx4 a w hE hR H=>?_)
 replace hE:Env (⟨20,[]⟩:Frm) a [(0,(x0:Sl).v),(1,.int .i64 x1),(5,.int .i64 Xx4)]:=hE
 replace H:(Vc x0 x1 self1 Xx4).wp w.heap Q:=H
 unfold Vc at H
 refine KH (fun K hK_8=>?_)
 refine KH (fun K hK_9=>?_)
 refine KC ?_
 refine KB (v:=.int .i64 Xx4) rfl rfl hE rfl (KD hE rfl) (fun a hE=>?_)
 refine KB (v:=(x0:Sl).v) rfl rfl hE rfl (KD hE rfl) (fun a hE=>?_)
 refine KB (v:=.int .i64 (x0.len:Int)) rfl rfl hE rfl (UA hE rfl 24 un22) (fun a hE=>?_)
 refine KB (v:=.bool (decide (Xx4 < (x0.len:Int)))) rfl rfl hE rfl (KL hE rfl rfl KN JL) (fun a hE=>?_)
 refine KG ?_
 refine hK_9 _ _ ?_
 refine KS (decide (Xx4 < (x0.len:Int))) hE rfl (fun hb=>?_) (fun hb=>?_)
 ·replace H:=M.ite_t hb H
  refine Ka ?_
  refine hK_8 _ _ ?_
  refine KH (fun K hK_10=>?_)
  refine Kj ?_
  refine KH (fun K hK_11=>?_)
  refine KC ?_
  refine KB (v:=(x0:Sl).v) rfl rfl hE rfl (KD hE rfl) (fun a hE=>?_)
  refine KB (v:=.int .i64 Xx4) rfl rfl hE rfl (KD hE rfl) (fun a hE=>?_)
  obtain ⟨Xx12,qXx12,H⟩:=H
  refine KB (v:=.pointer (some Xx12)) rfl rfl hE rfl (KR hE rfl rfl un22 sz24 qXx12) (fun a hE=>?_)
  obtain ⟨Xx13,qXx13,H⟩:=H
  refine KB (v:=.agg Xx13) rfl rfl hE rfl (ZN hE rfl ag24 qXx13) (fun a hE=>?_)
  refine KB (v:=.int .i64 x1) rfl rfl hE rfl (KD hE rfl) (fun a hE=>?_)
  refine KB (v:=.int .i64 (IntKind.wrap .i64 (x1+1))) rfl rfl hE rfl (KL hE rfl rfl KN JE) (fun a hE=>?_)
  refine KZ hE hR XT rfl (Ud) (M.unbind H) (fun Xx14 a w ea hR H=>?_)
  have hE:=Env.put_some hE rfl ea; clear ea
  refine KB (v:=.bool (!Xx14)) rfl rfl hE rfl (r_un hE rfl GB) (fun a hE=>?_)
  refine KG ?_
  refine hK_11 _ _ ?_
  refine KS (!Xx14) hE rfl (fun hb=>?_) (fun hb=>?_)
  ·replace H:=M.ite_t hb H
   refine KH (fun K hK_15=>?_)
   refine KC ?_
   refine KB (v:=.bool false) rfl rfl hE rfl (KE hE rfl) (fun a hE=>?_)
   refine KG ?_
   refine hK_15 _ _ ?_
   refine Kg ?_
   exact hret _ _ _ false _ hE hR (KM hE rfl (RV.tmp rfl RV.nil)) rfl H
  ·replace H:=M.ite_f hb H
   refine Ka ?_
   refine hK_10 _ _ ?_
   refine KC ?_
   refine KB (v:=.int .i64 Xx4) rfl rfl hE rfl (KD hE rfl) (fun a hE=>?_)
   refine KB (v:=.int .i64 (IntKind.wrap .i64 (Xx4+1))) rfl rfl hE rfl (KL hE rfl rfl KN JE) (fun a hE=>?_)
   refine KB (v:=.int .i64 (IntKind.wrap .i64 (Xx4+1))) rfl rfl hE rfl (KE hE rfl) (fun a hE=>?_)
   refine KG ?_
   exact hY_7 (IntKind.wrap .i64 (Xx4+1)) _ _ (hE.cut (.cons rfl (.cons rfl (.cons rfl Subs.nil)))) hR H
 ·replace H:=M.ite_f hb H
  refine J6 ?_
  refine Xu.same ?_
  refine hK_2 _ _ ?_
  refine KH (fun K hK_16=>?_)
  refine KC ?_
  refine KB (v:=.bool true) rfl rfl hE rfl (KE hE rfl) (fun a hE=>?_)
  refine KG ?_
  refine hK_16 _ _ ?_
  refine Kg ?_
  exact hret _ _ _ true _ hE hR (KM hE rfl (RV.tmp rfl RV.nil)) rfl H
def J3 (self1:(Sl)→M (Value ⊕ (Sl))) (C29:Option Addr) (C31:Int) (Xx28:Sl):M (Value ⊕ (Sl)):=do
 let Xx34←ZC C29
 let Xx36←M.ite (Xx34 != C31) (do
  M.pure (Xx34 != 44)
  ) (do
  M.pure false
  )
 M.ite Xx36 (do
  thr (ZP C29) fun Xx37=>do
   self1 Xx28
  ) (do
  self1 Xx28
  )
def J4 (self1:(Sl)→M (Value ⊕ (Sl))) (C18:Option Addr) (C19:Int) (C20:Int) (C21:Int) (C22:Sl):M (Value ⊕ (Sl)):=do
 thr (zT Go.Proofs.Tryz.prog Vh #[.pointer C18,.int .i64 (IntKind.wrap .i64 (C19+1))] (fun r:Array Value=>.agg r)) fun Xx24=>do
  let y_26←KA3 4 1 (#[.int .i64 0,.int .i64 0,.string ByteArray.empty,.slice none 0 0]:Array Value) [(0,.agg Xx24)]
  let Xx25←bdL KJ 1 y_26
  let Xx27←apL KJ 4 56 (#[.int .i64 0,.int .i64 0,.string ByteArray.empty,.slice none 0 0]:Array Value) C22 Xx25
  M.ite (C21 == 2) (do
   thr (Zl C18 (⟨#[58,32]⟩:ByteArray)) fun Xx40=>do
    thr (zT Go.Proofs.Tryz.prog Vh #[.pointer C18,.int .i64 (IntKind.wrap .i64 (C19+1))] (fun r:Array Value=>.agg r)) fun Xx41=>do
     let y_43←KA3 4 1 (#[.int .i64 0,.int .i64 0,.string ByteArray.empty,.slice none 0 0]:Array Value) [(0,.agg Xx41)]
     let Xx42←bdL KJ 1 y_43
     let Xx44←apL KJ 4 56 (#[.int .i64 0,.int .i64 0,.string ByteArray.empty,.slice none 0 0]:Array Value) Xx27 Xx42
     J3 self1 C18 C20 Xx44
   ) (do
   J3 self1 C18 C20 Xx27
   )
def U2 (C10:Option Addr) (C11:Int) (C12:Int) (C13:Int) (self1:(Sl)→M (Value ⊕ (Sl))):(Sl)→M (Value ⊕ (Sl)):=fun s=>match s with
 | Xx9=>do
  let Xx17←ZC C10
  M.ite (Xx17 != C12) (do
   M.ite (decide ((Xx9.len:Int) > 0)) (do
    thr (Zl C10 (⟨#[44,32]⟩:ByteArray)) fun Xx46=>do
     J4 self1 C10 C11 C12 C13 Xx9
    ) (do
    J4 self1 C10 C11 C12 C13 Xx9
    )
   ) (do
   let Xx48←nilP C10
   let Xx49←ldI .i64 ((Xx48).add 1)
   let Xx50←nilP C10
   stV ((Xx50).add 1) (.int .i64 (IntKind.wrap .i64 (Xx49+1)))
   M.pure (.inr Xx9)
   )
def Vx (x0:Option Addr) (x1:Int) (x2:Int) (x3:Int):M (Value ⊕ (Sl)):=do
 let Xx3←nilP x0
 let Xx4←ldI .i64 ((Xx3).add 1)
 let Xx5←nilP x0
 stV ((Xx5).add 1) (.int .i64 (IntKind.wrap .i64 (Xx4+1)))
 M.loop (U2 x0 x1 x2 x3) Sl.nil
theorem XJ (x0:Option Addr) (x1:Int) (x2:Int) (x3:Int):Xl Go.Proofs.Tryz.prog 176 #[.pointer x0,.int .i64 x1,.int .u8 x2,.int .i64 x3] (fun (r:Sl)=>(r:Sl).v) (Vx x0 x1 x2 x3):=by
 refine YH [(0,.pointer x0),(1,.int .i64 x1),(2,.int .u8 x2),(3,.int .i64 x3)] Go.Proofs.Tryz.func176 rfl rfl (Nat.le_of_ble_eq_true rfl) (Ke ⟨rfl,rfl,rfl,rfl,trivial⟩) (fun w0 w Q R X a hret hthr hE hR H=>?_)
 unfold Vx at H
 refine KH (fun K hK_1=>?_)
 refine KC ?_
 refine KB (v:=(Sl.nil:Sl).v) rfl rfl hE rfl (KE hE rfl) (fun a hE=>?_)
 refine KG ?_
 refine hK_1 _ _ ?_
 refine KH (fun K hK_2=>?_)
 refine KC ?_
 refine KB (v:=.pointer x0) rfl rfl hE rfl (KD hE rfl) (fun a hE=>?_)
 obtain ⟨Xx3,qXx3,H⟩:=H
 refine KB (v:=.pointer (some Xx3)) rfl rfl hE rfl (KW hE (Jg rfl (congrArg Value.pointer qXx3))) (fun a hE=>?_)
 refine KB (v:=.pointer (some ((Xx3).add 1))) rfl rfl hE rfl (KI hE rfl JA) (fun a hE=>?_)
 obtain ⟨Xx4,qXx4,H⟩:=H
 refine KB (v:=.int .i64 Xx4) rfl rfl hE rfl (KU hE rfl sc3 qXx4) (fun a hE=>?_)
 refine KB (v:=.int .i64 (IntKind.wrap .i64 (Xx4+1))) rfl rfl hE rfl (KL hE rfl rfl KN JE) (fun a hE=>?_)
 obtain ⟨Xx5,qXx5,H⟩:=H
 refine KB (v:=.pointer (some Xx5)) rfl rfl hE rfl (KW hE (Jg rfl (congrArg Value.pointer qXx5))) (fun a hE=>?_)
 refine KB (v:=.pointer (some ((Xx5).add 1))) rfl rfl hE rfl (KI hE rfl JA) (fun a hE=>?_)
 obtain ⟨u_6,qu_6,H⟩:=H
 refine JI rfl rfl hE hR (JK hE rfl rfl sz3 qu_6) (fun a w hE hR hh=>?_)
 replace H:=M.at hh H; clear hh
 refine KG ?_
 refine hK_2 _ _ ?_
 refine KH (fun K hK_7=>?_)
 refine KC ?_
 refine KB (v:=(Sl.nil:Sl).v) rfl rfl hE rfl (KE hE rfl) (fun a hE=>?_)
 refine KG ?_
 refine hK_7 _ _ ?_
 refine KH (fun K hK_8=>?_)
 refine Kj ?_
 refine J7 (fun (s:Sl)=>(⟨64,[]⟩:Frm)) (fun (s:Sl)=>[(0,.pointer x0),(1,.int .i64 x1),(2,.int .u8 x2),(3,.int .i64 x3),(9,(s:Sl).v)]) H (hE.cut (.cons rfl (.cons rfl (.cons rfl (.cons rfl (.cons rfl Subs.nil)))))) hR (fun Y self1 hY_14 Xx9 a w hE hR H=>?_)
 replace hE:Env (⟨64,[]⟩:Frm) a [(0,.pointer x0),(1,.int .i64 x1),(2,.int .u8 x2),(3,.int .i64 x3),(9,(Xx9:Sl).v)]:=hE
 replace H:(U2 x0 x1 x2 x3 self1 Xx9).wp w.heap Q:=H
 unfold U2 at H
 refine KH (fun K hK_15=>?_)
 refine KH (fun K hK_16=>?_)
 refine KC ?_
 refine KB (v:=.pointer x0) rfl rfl hE rfl (KD hE rfl) (fun a hE=>?_)
 refine KZ hE hR ZG rfl (ZQ x0) (M.unbind H) (fun Xx17 a w ea hR H=>?_)
 have hE:=Env.put_some hE rfl ea; clear ea
 refine KB (v:=.int .u8 x2) rfl rfl hE rfl (KD hE rfl) (fun a hE=>?_)
 refine KB (v:=.bool (Xx17 != x2)) rfl rfl hE rfl (KL hE rfl rfl KN Yi) (fun a hE=>?_)
 refine KG ?_
 refine hK_16 _ _ ?_
 refine KS (Xx17 != x2) hE rfl (fun hb=>?_) (fun hb=>?_)
 ·replace H:=M.ite_t hb H
  refine Ka ?_
  refine hK_15 _ _ ?_
  refine Kj ?_
  refine Ku (fun a w=>Env (⟨64,[]⟩:Frm) a [(0,.pointer x0),(1,.int .i64 x1),(2,.int .u8 x2),(3,.int .i64 x3),(9,(Xx9:Sl).v)]∧Rest w0 w∧(J4 self1 x0 x1 x2 x3 Xx9).wp w.heap Q) ?_ ?_
  ·rintro a w ⟨hE,hR,H⟩
   unfold J4 at H
   refine KH (fun K hK_23=>?_)
   refine KC ?_
   refine KB (v:=(Xx9:Sl).v) rfl rfl hE rfl (KD hE rfl) (fun a hE=>?_)
   refine KB (v:=.pointer x0) rfl rfl hE rfl (KD hE rfl) (fun a hE=>?_)
   refine KB (v:=.int .i64 x1) rfl rfl hE rfl (KD hE rfl) (fun a hE=>?_)
   refine KB (v:=.int .i64 (IntKind.wrap .i64 (x1+1))) rfl rfl hE rfl (KL hE rfl rfl KN JE) (fun a hE=>?_)
   refine UF hE hR Vj rfl (XN) H (fun _ _ hR HQ=>Xu.ne rfl (Xu.ne rfl (hthr _ _ hR HQ))) (fun Xx24 a w ea hR H=>?_)
   have hE:=Env.put_some hE rfl ea; clear ea
   obtain ⟨y_26,qy_26,H⟩:=H
   obtain ⟨Xx25,qXx25,H⟩:=H
   refine ZR (v:=(Xx25:Sl).v) rfl rfl hE rfl hR (YE hE rfl un22 sz24 zr24 rfl qy_26 qXx25) (fun a w hE hR hh=>?_)
   replace H:=M.at hh H; clear hh
   refine t_ex (fun Xx27=>(Xx27:Sl).v) rfl rfl hR (M.unbind H) (fun Q H=>Xm hE rfl rfl ap22 H) (fun Xx27 a w ea hR H=>?_)
   have hE:=Env.put_some hE rfl ea; clear ea
   refine KB (v:=(Xx27:Sl).v) rfl rfl hE rfl (KE hE rfl) (fun a hE=>?_)
   refine KG ?_
   refine hK_23 _ _ ?_
   refine Ku (fun a w=>∃ (Xx28:Sl),Env (⟨64,[]⟩:Frm) a [(0,.pointer x0),(1,.int .i64 x1),(2,.int .u8 x2),(3,.int .i64 x3),(9,(Xx28:Sl).v)]∧Rest w0 w∧(J3 self1 x0 x2 Xx28).wp w.heap Q) ?_ ?_
   ·rintro a w ⟨Xx28,hE,hR,H⟩
    unfold J3 at H
    refine KH (fun K hK_33=>?_)
    refine KC ?_
    refine KB (v:=.pointer x0) rfl rfl hE rfl (KD hE rfl) (fun a hE=>?_)
    refine KZ hE hR ZG rfl (ZQ x0) (M.unbind H) (fun Xx34 a w ea hR H=>?_)
    have hE:=Env.put_some hE rfl ea; clear ea
    refine KB (v:=.int .u8 Xx34) rfl rfl hE rfl (KE hE rfl) (fun a hE=>?_)
    refine KG ?_
    refine hK_33 _ _ ?_
    refine KH (fun K hK_35=>?_)
    refine KC ?_
    refine KB (v:=.int .u8 Xx34) rfl rfl hE rfl (KD hE rfl) (fun a hE=>?_)
    refine KB (v:=.int .u8 x2) rfl rfl hE rfl (KD hE rfl) (fun a hE=>?_)
    refine KB (v:=.bool (Xx34 != x2)) rfl rfl hE rfl (KL hE rfl rfl KN Yi) (fun a hE=>?_)
    refine KB (v:=.bool (Xx34 != x2)) rfl rfl hE rfl (KD hE rfl) (fun a hE=>?_)
    refine J5 (n:=(⟨64,[]⟩:Frm)) (w0:=w0) 3 (fun Xx36:Bool=>[(0,.pointer x0),(1,.int .i64 x1),(2,.int .u8 x2),(3,.int .i64 x3),(9,(Xx28:Sl).v),(53,.bool Xx36)]) (M.unbind H) (fun Kr hKr H=>?_) ?_
    ·rcases Kq (Xx34 != x2) with hb | hb
     ·replace H:=M.ite_t hb H
      have hE:=hE.reb 50 (Xx34 != x2) true hb rfl
      refine t_on rfl hE rfl rfl rfl ?_
      refine KB (v:=.int .u8 Xx34) rfl rfl hE rfl (KD hE rfl) (fun a hE=>?_)
      refine t_on rfl hE rfl rfl rfl ?_
      refine KB (v:=.bool (Xx34 != 44)) rfl rfl hE rfl (KL hE rfl rfl KN Yi) (fun a hE=>?_)
      refine KB rfl rfl hE rfl (Kc hE rfl rfl) (fun a hE=>?_)
      refine KG ?_
      exact hKr _ _ _ (hE.cut (.cons rfl (.cons rfl (.cons rfl (.cons rfl (.cons rfl (.cons rfl Subs.nil))))))) hR H
     ·replace H:=M.ite_f hb H
      have hE:=hE.reb 50 (Xx34 != x2) false hb rfl
      refine Kf rfl hE rfl rfl rfl (fun a ea=>?_)
      have hE:=Env.put_some hE rfl ea; clear ea
      refine Kf rfl hE rfl rfl rfl (fun a ea=>?_)
      have hE:=Env.put_some hE rfl ea; clear ea
      refine KB rfl rfl hE rfl (Kd hE rfl rfl) (fun a hE=>?_)
      refine KG ?_
      exact hKr _ _ _ (hE.cut (.cons rfl (.cons rfl (.cons rfl (.cons rfl (.cons rfl (.cons rfl Subs.nil))))))) hR H
    ·intro Xx36 a w hE hR H
     refine KG ?_
     refine hK_35 _ _ ?_
     refine KS Xx36 hE rfl (fun hb=>?_) (fun hb=>?_)
     ·replace H:=M.ite_t hb H
      refine KC ?_
      refine KB (v:=.pointer x0) rfl rfl hE rfl (KD hE rfl) (fun a hE=>?_)
      refine UF hE hR Zg rfl (Zr x0) H (fun _ _ hR HQ=>Xu.ne rfl (Xu.ne rfl (hthr _ _ hR HQ))) (fun Xx37 a w ea hR H=>?_)
      have hE:=Env.put_some hE rfl ea; clear ea
      refine KG ?_
      exact hY_14 Xx28 _ _ (hE.cut (.cons rfl (.cons rfl (.cons rfl (.cons rfl (.cons rfl Subs.nil)))))) hR H
     ·replace H:=M.ite_f hb H
      refine Ka ?_
      exact hY_14 Xx28 _ _ (hE.cut (.cons rfl (.cons rfl (.cons rfl (.cons rfl (.cons rfl Subs.nil)))))) hR H
   ·skip
    refine KH (fun K hK_38=>?_)
    refine KC ?_
    refine KB (v:=.int .i64 x3) rfl rfl hE rfl (KD hE rfl) (fun a hE=>?_)
    refine KB (v:=.bool (x3 == 2)) rfl rfl hE rfl (KL hE rfl rfl KN Z5) (fun a hE=>?_)
    refine KG ?_
    refine hK_38 _ _ ?_
    refine KS (x3 == 2) hE rfl (fun hb=>?_) (fun hb=>?_)
    ·replace H:=M.ite_t hb H
     refine KH (fun K hK_39=>?_)
     refine KC ?_
     refine KB (v:=.pointer x0) rfl rfl hE rfl (KD hE rfl) (fun a hE=>?_)
     refine UF hE hR JG rfl (JR x0 (⟨#[58,32]⟩:ByteArray)) H (fun _ _ hR HQ=>Xu.ne rfl (Xu.ne rfl (hthr _ _ hR HQ))) (fun Xx40 a w ea hR H=>?_)
     have hE:=Env.put_some hE rfl ea; clear ea
     refine KG ?_
     refine hK_39 _ _ ?_
     refine KC ?_
     refine KB (v:=(Xx27:Sl).v) rfl rfl hE rfl (KD hE rfl) (fun a hE=>?_)
     refine KB (v:=.pointer x0) rfl rfl hE rfl (KD hE rfl) (fun a hE=>?_)
     refine KB (v:=.int .i64 x1) rfl rfl hE rfl (KD hE rfl) (fun a hE=>?_)
     refine KB (v:=.int .i64 (IntKind.wrap .i64 (x1+1))) rfl rfl hE rfl (KL hE rfl rfl KN JE) (fun a hE=>?_)
     refine UF hE hR Vj rfl (XN) H (fun _ _ hR HQ=>Xu.ne rfl (Xu.ne rfl (hthr _ _ hR HQ))) (fun Xx41 a w ea hR H=>?_)
     have hE:=Env.put_some hE rfl ea; clear ea
     obtain ⟨y_43,qy_43,H⟩:=H
     obtain ⟨Xx42,qXx42,H⟩:=H
     refine ZR (v:=(Xx42:Sl).v) rfl rfl hE rfl hR (YE hE rfl un22 sz24 zr24 rfl qy_43 qXx42) (fun a w hE hR hh=>?_)
     replace H:=M.at hh H; clear hh
     refine t_ex (fun Xx44=>(Xx44:Sl).v) rfl rfl hR (M.unbind H) (fun Q H=>Xm hE rfl rfl ap22 H) (fun Xx44 a w ea hR H=>?_)
     have hE:=Env.put_some hE rfl ea; clear ea
     refine KB (v:=(Xx44:Sl).v) rfl rfl hE rfl (KE hE rfl) (fun a hE=>?_)
     refine KG ?_
     exact ⟨Xx44,hE.cut (.cons rfl (.cons rfl (.cons rfl (.cons rfl (.cons rfl Subs.nil))))),hR,H⟩
    ·replace H:=M.ite_f hb H
     refine Ka ?_
     exact ⟨Xx27,hE.cut (.cons rfl (.cons rfl (.cons rfl (.cons rfl (.cons rfl Subs.nil))))),hR,H⟩
  ·skip
   refine KH (fun K hK_45=>?_)
   refine KC ?_
   refine KB (v:=(Xx9:Sl).v) rfl rfl hE rfl (KD hE rfl) (fun a hE=>?_)
   refine KB (v:=.int .i64 (Xx9.len:Int)) rfl rfl hE rfl (UA hE rfl 24 un22) (fun a hE=>?_)
   refine KB (v:=.bool (decide ((Xx9.len:Int) > 0))) rfl rfl hE rfl (KL hE rfl rfl KN YI) (fun a hE=>?_)
   refine KG ?_
   refine hK_45 _ _ ?_
   refine KS (decide ((Xx9.len:Int) > 0)) hE rfl (fun hb=>?_) (fun hb=>?_)
   ·replace H:=M.ite_t hb H
    refine KC ?_
    refine KB (v:=.pointer x0) rfl rfl hE rfl (KD hE rfl) (fun a hE=>?_)
    refine UF hE hR JG rfl (JR x0 (⟨#[44,32]⟩:ByteArray)) H (fun _ _ hR HQ=>Xu.ne rfl (Xu.ne rfl (hthr _ _ hR HQ))) (fun Xx46 a w ea hR H=>?_)
    have hE:=Env.put_some hE rfl ea; clear ea
    refine KG ?_
    exact ⟨hE.cut (.cons rfl (.cons rfl (.cons rfl (.cons rfl (.cons rfl Subs.nil))))),hR,H⟩
   ·replace H:=M.ite_f hb H
    refine Ka ?_
    exact ⟨hE.cut (.cons rfl (.cons rfl (.cons rfl (.cons rfl (.cons rfl Subs.nil))))),hR,H⟩
 ·replace H:=M.ite_f hb H
  refine J6 ?_
  refine Xu.same ?_
  refine hK_8 _ _ ?_
  refine KH (fun K hK_47=>?_)
  refine KC ?_
  refine KB (v:=.pointer x0) rfl rfl hE rfl (KD hE rfl) (fun a hE=>?_)
  obtain ⟨Xx48,qXx48,H⟩:=H
  refine KB (v:=.pointer (some Xx48)) rfl rfl hE rfl (KW hE (Jg rfl (congrArg Value.pointer qXx48))) (fun a hE=>?_)
  refine KB (v:=.pointer (some ((Xx48).add 1))) rfl rfl hE rfl (KI hE rfl JA) (fun a hE=>?_)
  obtain ⟨Xx49,qXx49,H⟩:=H
  refine KB (v:=.int .i64 Xx49) rfl rfl hE rfl (KU hE rfl sc3 qXx49) (fun a hE=>?_)
  refine KB (v:=.int .i64 (IntKind.wrap .i64 (Xx49+1))) rfl rfl hE rfl (KL hE rfl rfl KN JE) (fun a hE=>?_)
  obtain ⟨Xx50,qXx50,H⟩:=H
  refine KB (v:=.pointer (some Xx50)) rfl rfl hE rfl (KW hE (Jg rfl (congrArg Value.pointer qXx50))) (fun a hE=>?_)
  refine KB (v:=.pointer (some ((Xx50).add 1))) rfl rfl hE rfl (KI hE rfl JA) (fun a hE=>?_)
  obtain ⟨u_51,qu_51,H⟩:=H
  refine JI rfl rfl hE hR (JK hE rfl rfl sz3 qu_51) (fun a w hE hR hh=>?_)
  replace H:=M.at hh H; clear hh
  refine KG ?_
  refine hK_47 _ _ ?_
  refine KH (fun K hK_52=>?_)
  refine KC ?_
  refine KB (v:=(Xx9:Sl).v) rfl rfl hE rfl (KD hE rfl) (fun a hE=>?_)
  refine KB (v:=(Xx9:Sl).v) rfl rfl hE rfl (KE hE rfl) (fun a hE=>?_)
  refine KG ?_
  refine hK_52 _ _ ?_
  refine Kg ?_
  exact hret _ _ _ Xx9 _ hE hR (KM hE rfl (RV.tmp rfl RV.nil)) rfl H
def GO (x0:Int):M (Bool):=do
 let Xx3←M.ite (decide (x0 < 48)) (do
  M.pure true
  ) (do
  M.pure (decide (x0 > 57))
  )
 M.pure Xx3
theorem KBR (x0:Int):ZK Go.Proofs.Tryz.prog 160 #[.int .u8 x0] (fun (r:Bool)=>.bool r) (GO x0):=by
 refine KY [(0,.int .u8 x0)] Go.Proofs.Tryz.func160 rfl rfl (Nat.le_of_ble_eq_true rfl) (Ke ⟨rfl,trivial⟩) (fun w0 w Q R a hret hE hR H=>?_)
 unfold GO at H
 refine KH (fun K hK_1=>?_)
 refine KC ?_
 refine KB (v:=.bool false) rfl rfl hE rfl (KE hE rfl) (fun a hE=>?_)
 refine KG ?_
 refine hK_1 _ _ ?_
 refine KH (fun K hK_2=>?_)
 refine KC ?_
 refine KB (v:=.int .u8 x0) rfl rfl hE rfl (KD hE rfl) (fun a hE=>?_)
 refine KB (v:=.bool (decide (x0 < 48))) rfl rfl hE rfl (KL hE rfl rfl KN JL) (fun a hE=>?_)
 refine KB (v:=.bool (decide (x0 < 48))) rfl rfl hE rfl (KD hE rfl) (fun a hE=>?_)
 refine J5 (n:=(⟨9,[]⟩:Frm)) (w0:=w0) 3 (fun Xx3:Bool=>[(2,.bool false),(8,.bool Xx3)]) (M.unbind H) (fun Kr hKr H=>?_) ?_
 ·rcases Kq (decide (x0 < 48)) with hb | hb
  ·replace H:=M.ite_t hb H
   have hE:=hE.reb 5 (decide (x0 < 48)) true hb rfl
   refine Kf rfl hE rfl rfl rfl (fun a ea=>?_)
   have hE:=Env.put_some hE rfl ea; clear ea
   refine Kf rfl hE rfl rfl rfl (fun a ea=>?_)
   have hE:=Env.put_some hE rfl ea; clear ea
   refine KB rfl rfl hE rfl (Kc hE rfl rfl) (fun a hE=>?_)
   refine KG ?_
   exact hKr _ _ _ (hE.cut (.cons rfl (.cons rfl Subs.nil))) hR H
  ·replace H:=M.ite_f hb H
   have hE:=hE.reb 5 (decide (x0 < 48)) false hb rfl
   refine t_on rfl hE rfl rfl rfl ?_
   refine KB (v:=.int .u8 x0) rfl rfl hE rfl (KD hE rfl) (fun a hE=>?_)
   refine t_on rfl hE rfl rfl rfl ?_
   refine KB (v:=.bool (decide (x0 > 57))) rfl rfl hE rfl (KL hE rfl rfl KN YI) (fun a hE=>?_)
   refine KB rfl rfl hE rfl (Kd hE rfl rfl) (fun a hE=>?_)
   refine KG ?_
   exact hKr _ _ _ (hE.cut (.cons rfl (.cons rfl Subs.nil))) hR H
 ·intro Xx3 a w hE hR H
  refine KB (v:=.bool Xx3) rfl rfl hE rfl (KE hE rfl) (fun a hE=>?_)
  refine KG ?_
  refine hK_2 _ _ ?_
  refine Kg ?_
  exact hret _ _ _ Xx3 _ hE hR (KM hE rfl (RV.tmp rfl RV.nil)) rfl H
end Gx
namespace Gx
open Go
set_option linter.unusedVariables false
set_option maxRecDepth 100000
end Gx
