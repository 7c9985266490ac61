/- Printed by program: Go functions as Lean programs, each tied to its code. No condition. -/
import Derived.Test.YthelieedlghccaaGreatDoorP0
import Derived.Test.YthelieedlghccaaGreatDoorP1
import Derived.Test.YthelieedlghccaaGreatDoorP2
import Derived.Test.YthelieedlghccaaGreatDoorP3
import Derived.Test.YthelieedlghccaaGreatDoorP4
set_option linter.unusedVariables false
set_option linter.unusedSimpArgs false
namespace Gx
open Go
set_option linter.unusedVariables false
set_option maxRecDepth 100000
theorem KIm:Vg Go.Proofs.Tryz.f20 8 [[],[],[1],[0,2],[3],[4],[5],[],[],[7,8],[9],[10],[11],[6,12]] [[],[],[1],[0,2],[3],[4],[5],[],[],[7,8],[9],[10],[11],[6,12]] [[],[],[1],[0,1,2],[0,1,2,3],[0,1,2,3,4],[0,1,2,3,4,5],[],[],[7,8],[7,8,9],[7,8,9,10],[7,8,9,10,11],[0,1,2,3,4,5,6,7,8,9,10,11,12]]=true:=by kernel_rfl
def XX (C16:Addr) (C17:Sl) (self1:(Int)→M (Array Value × Int)):(Int)→M (Array Value × Int):=fun s=>match s with
 | Xx15=>do
  M.ite (decide (Xx15 < (C17.len:Int))) (do
   let Xx23←ixL C17 (IntKind.wrap .i64 (Xx15 - 1)) 1
   let Xx24←ixL C17 Xx15 1
   let Xx25←ldL Xx23
   let Xx26←ixL Xx25 0 4
   let Xx27←ldG 4 Xx26
   let Xx28←ldL Xx24
   let Xx29←ixL Xx28 0 4
   let Xx30←ldG 4 Xx29
   let Xx31←Xv Xx27 Xx30
   M.ite Xx31 (do
    M.need ((#[.int .i64 0,.int .i64 0,.string ByteArray.empty,.slice none 0 0]:Array Value).size=4)
    stG C16 (#[.int .i64 0,.int .i64 0,.string ByteArray.empty,.slice none 0 0]:Array Value)
    let Rr34←ldG 4 C16
    M.pure (Rr34,5)
    ) (do
    self1 (IntKind.wrap .i64 (Xx15+1))
    )
   ) (do
   let Xx36←Zd C17
   let Xx37←Yz (#[.int .i64 5,.int .i64 0,.string ByteArray.empty,(Xx36:Sl).v]:Array Value)
   M.need (Xx37.1.size=4)
   stG C16 Xx37.1
   let Rr39←ldG 4 C16
   M.pure (Rr39,Xx37.2)
   )
def Xw (x0:Sl):M (Array Value × Int):=do
 let Xx2←mkB KJ (#[.int .i64 0,.int .i64 0,.string ByteArray.empty,.slice none 0 0]:Array Value)
 M.ite ((Int.tmod (x0.len:Int) 2) == 1) (do
  M.need ((#[.int .i64 0,.int .i64 0,.string ByteArray.empty,.slice none 0 0]:Array Value).size=4)
  stG Xx2 (#[.int .i64 0,.int .i64 0,.string ByteArray.empty,.slice none 0 0]:Array Value)
  let Rr7←ldG 4 Xx2
  M.pure (Rr7,1)
  ) (do
  let Xx9←JF x0 2
  let Xx10←JV Xx9
  let Xx12←Ko Xx10 (Value.func (.func Xd) #[] #[])
  M.loop (XX Xx2 Xx10) 1
  )
theorem zn (x0:Sl):ZK Go.Proofs.Tryz.prog 20 #[(x0:Sl).v] (fun (r:Array Value × Int)=>.tuple #[.agg r.1,.int .i64 r.2]) (Xw x0):=by
 refine KY [(0,(x0:Sl).v)] Go.Proofs.Tryz.func20 rfl rfl (Nat.le_of_ble_eq_true rfl) (Ke ⟨rfl,trivial⟩) (fun w0 w Q R a hret hE hR H=>?_)
 unfold Xw at H
 refine KH (fun K hK_1=>?_)
 refine KC ?_
 obtain ⟨Xx2,qXx2,H⟩:=H
 refine ZR (v:=.pointer (some Xx2)) rfl rfl hE rfl hR (Z4 zr24 qXx2) (fun a w hE hR hh=>?_)
 replace H:=M.at hh H; clear hh
 refine KB (v:=.int .i64 0) rfl rfl hE rfl (KE hE rfl) (fun a hE=>?_)
 refine KG ?_
 refine hK_1 _ _ ?_
 refine KH (fun K hK_3=>?_)
 refine KH (fun K hK_4=>?_)
 refine KC ?_
 refine KB (v:=(x0:Sl).v) rfl rfl hE rfl (KD hE rfl) (fun a hE=>?_)
 refine KB (v:=.int .i64 (x0.len:Int)) rfl rfl hE rfl (UA hE rfl 24 un22) (fun a hE=>?_)
 refine KB (v:=.int .i64 (Int.tmod (x0.len:Int) 2)) rfl rfl hE rfl (KL hE rfl rfl KN (KD3 ⟨by decide,rfl⟩)) (fun a hE=>?_)
 refine KB (v:=.bool ((Int.tmod (x0.len:Int) 2) == 1)) rfl rfl hE rfl (KL hE rfl rfl KN Z5) (fun a hE=>?_)
 refine KG ?_
 refine hK_4 _ _ ?_
 refine KS ((Int.tmod (x0.len:Int) 2) == 1) hE rfl (fun hb=>?_) (fun hb=>?_)
 ·replace H:=M.ite_t hb H
  refine KH (fun K hK_5=>?_)
  refine KC ?_
  refine KB (v:=.agg (#[.int .i64 0,.int .i64 0,.string ByteArray.empty,.slice none 0 0]:Array Value)) rfl rfl hE rfl (YD bd24) (fun a hE=>?_)
  obtain ⟨qz,H⟩:=H
  obtain ⟨u_6,qu_6,H⟩:=H
  refine JI rfl rfl hE hR (Kv hE rfl rfl sz24 qz qu_6) (fun a w hE hR hh=>?_)
  replace H:=M.at hh H; clear hh
  refine KB (v:=.int .i64 1) rfl rfl hE rfl (KE hE rfl) (fun a hE=>?_)
  refine KG ?_
  refine hK_5 _ _ ?_
  refine Kg ?_
  obtain ⟨Rr7,qRr7,H⟩:=H
  exact hret _ _ _ (Rr7,1) _ hE hR (KM hE rfl (RV.cellG rfl ag24 qRr7 (RV.tmp rfl RV.nil))) rfl H
 ·replace H:=M.ite_f hb H
  refine Ka ?_
  refine hK_3 _ _ ?_
  refine KH (fun K hK_8=>?_)
  refine KC ?_
  refine KB (v:=(x0:Sl).v) rfl rfl hE rfl (KD hE rfl) (fun a hE=>?_)
  refine KZ hE hR WA rfl (WH x0 2) (M.unbind H) (fun Xx9 a w ea hR H=>?_)
  have hE:=Env.put_some hE rfl ea; clear ea
  refine KZ hE hR YX rfl (Yp Xx9) (M.unbind H) (fun Xx10 a w ea hR H=>?_)
  have hE:=Env.put_some hE rfl ea; clear ea
  refine KB (v:=(Xx10:Sl).v) rfl rfl hE rfl (KE hE rfl) (fun a hE=>?_)
  refine KG ?_
  refine hK_8 _ _ ?_
  refine KH (fun K hK_11=>?_)
  refine KC ?_
  refine KB (v:=(Xx10:Sl).v) rfl rfl hE rfl (KD hE rfl) (fun a hE=>?_)
  refine KZ hE hR Um rfl (Un Xx10 (Value.func (.func Xd) #[] #[])) (M.unbind H) (fun Xx12 a w ea hR H=>?_)
  have hE:=Env.put_some hE rfl ea; clear ea
  refine KG ?_
  refine hK_11 _ _ ?_
  refine KH (fun K hK_13=>?_)
  refine KH (fun K hK_14=>?_)
  refine KC ?_
  refine KB (v:=.int .i64 1) rfl rfl hE rfl (KE hE rfl) (fun a hE=>?_)
  refine KG ?_
  refine hK_14 _ _ ?_
  refine Kj ?_
  refine J7 (fun (s:Int)=>(⟨43,[]⟩:Frm)) (fun (s:Int)=>[(2,.pointer (some Xx2)),(4,(Xx10:Sl).v),(5,.int .i64 s)]) H (hE.cut (.cons rfl (.cons rfl (.cons rfl Subs.nil)))) hR (fun Y self1 hY_18 Xx15 a w hE hR H=>?_)
  replace hE:Env (⟨43,[]⟩:Frm) a [(2,.pointer (some Xx2)),(4,(Xx10:Sl).v),(5,.int .i64 Xx15)]:=hE
  replace H:(XX Xx2 Xx10 self1 Xx15).wp w.heap Q:=H
  unfold XX at H
  refine KH (fun K hK_19=>?_)
  refine KH (fun K hK_20=>?_)
  refine KC ?_
  refine KB (v:=.int .i64 Xx15) rfl rfl hE rfl (KD hE rfl) (fun a hE=>?_)
  refine KB (v:=(Xx10:Sl).v) rfl rfl hE rfl (KD hE rfl) (fun a hE=>?_)
  refine KB (v:=.int .i64 (Xx10.len:Int)) rfl rfl hE rfl (UA hE rfl 22 un89) (fun a hE=>?_)
  refine KB (v:=.bool (decide (Xx15 < (Xx10.len:Int)))) rfl rfl hE rfl (KL hE rfl rfl KN JL) (fun a hE=>?_)
  refine KG ?_
  refine hK_20 _ _ ?_
  refine KS (decide (Xx15 < (Xx10.len:Int))) hE rfl (fun hb=>?_) (fun hb=>?_)
  ·replace H:=M.ite_t hb H
   refine Ka ?_
   refine hK_19 _ _ ?_
   refine KH (fun K hK_21=>?_)
   refine Kj ?_
   refine KH (fun K hK_22=>?_)
   obtain ⟨Xx23,qXx23,H⟩:=H
   obtain ⟨Xx24,qXx24,H⟩:=H
   obtain ⟨Xx25,qXx25,H⟩:=H
   obtain ⟨Xx26,qXx26,H⟩:=H
   obtain ⟨Xx27,qXx27,H⟩:=H
   obtain ⟨Xx28,qXx28,H⟩:=H
   obtain ⟨Xx29,qXx29,H⟩:=H
   obtain ⟨Xx30,qXx30,H⟩:=H
   have hT:=Jf KIm rfl rfl
   refine Zq (fun w:World=>(fun h:Heap=>(KV h Xx23=some ((Xx25:Sl).v))∧(Xx27.size=4∧∀ i,i < 4→KV h (Addr.add Xx26 i)=Xx27[i]?)∧(KV h Xx24=some ((Xx28:Sl).v))∧(Xx30.size=4∧∀ i,i < 4→KV h (Addr.add Xx29 i)=Xx30[i]?)) w.heap) [13] #[false,false,false,false,false,false,false,false,false,false,false,false,false,false] mo hR rfl rfl (fun w' e=>by rw [e]; exact ⟨qXx25,qXx27,qXx28,qXx30⟩) (fun w hh hR hs=>?_)
   replace H:=M.at hh H; clear hh
   refine KF (i:=0) (v:=(Xx10:Sl).v) #[true,false,false,false,false,false,false,false,false,false,false,false,false,false] rfl rfl hT (by kernel_rfl) hE rfl (KA rfl) (fun w=>KD hE rfl) (fun a hE=>?_)
   refine KF (i:=1) (v:=.int .i64 Xx15) #[true,true,false,false,false,false,false,false,false,false,false,false,false,false] rfl rfl hT (by kernel_rfl) hE rfl (KA rfl) (fun w=>KD hE rfl) (fun a hE=>?_)
   refine KF (i:=2) (v:=.int .i64 (IntKind.wrap .i64 (Xx15 - 1))) #[true,true,true,false,false,false,false,false,false,false,false,false,false,false] rfl rfl hT (by kernel_rfl) hE rfl (KA rfl) (fun w=>KL hE rfl rfl KN VA) (fun a hE=>?_)
   refine KF (i:=3) (v:=.pointer (some Xx23)) #[true,true,true,true,false,false,false,false,false,false,false,false,false,false] rfl rfl hT (by kernel_rfl) hE rfl (KA rfl) (fun w=>KR hE rfl rfl un89 sz22 qXx23) (fun a hE=>?_)
   refine KF (i:=7) (v:=(Xx10:Sl).v) #[true,true,true,true,false,false,false,true,false,false,false,false,false,false] rfl rfl hT (by kernel_rfl) hE rfl (KA rfl) (fun w=>KD hE rfl) (fun a hE=>?_)
   refine KF (i:=8) (v:=.int .i64 Xx15) #[true,true,true,true,false,false,false,true,true,false,false,false,false,false] rfl rfl hT (by kernel_rfl) hE rfl (KA rfl) (fun w=>KD hE rfl) (fun a hE=>?_)
   refine KF (i:=9) (v:=.pointer (some Xx24)) #[true,true,true,true,false,false,false,true,true,true,false,false,false,false] rfl rfl hT (by kernel_rfl) hE rfl (KA rfl) (fun w=>KR hE rfl rfl un89 sz22 qXx24) (fun a hE=>?_)
   refine Kt (i:=4) (v:=(Xx25:Sl).v) #[true,true,true,true,true,false,false,true,true,true,false,false,false,false] rfl rfl hT (by kernel_rfl) hE rfl (KA rfl) hs (fun w s=>KU hE rfl sc22 s.1) (fun a hE=>?_)
   refine KF (i:=5) (v:=.pointer (some Xx26)) #[true,true,true,true,true,true,false,true,true,true,false,false,false,false] rfl rfl hT (by kernel_rfl) hE rfl (KA rfl) (fun w=>KR hE rfl rfl un22 sz24 qXx26) (fun a hE=>?_)
   refine Kt (i:=6) (v:=.agg Xx27) #[true,true,true,true,true,true,true,true,true,true,false,false,false,false] rfl rfl hT (by kernel_rfl) hE rfl (KA rfl) hs (fun w s=>ZN hE rfl ag24 s.2.1) (fun a hE=>?_)
   refine Kt (i:=10) (v:=(Xx28:Sl).v) #[true,true,true,true,true,true,true,true,true,true,true,false,false,false] rfl rfl hT (by kernel_rfl) hE rfl (KA rfl) hs (fun w s=>KU hE rfl sc22 s.2.2.1) (fun a hE=>?_)
   refine KF (i:=11) (v:=.pointer (some Xx29)) #[true,true,true,true,true,true,true,true,true,true,true,true,false,false] rfl rfl hT (by kernel_rfl) hE rfl (KA rfl) (fun w=>KR hE rfl rfl un22 sz24 qXx29) (fun a hE=>?_)
   refine Kt (i:=12) (v:=.agg Xx30) #[true,true,true,true,true,true,true,true,true,true,true,true,true,false] rfl rfl hT (by kernel_rfl) hE rfl (KA rfl) hs (fun w s=>ZN hE rfl ag24 s.2.2.2) (fun a hE=>?_)
   refine WM (i:=13) #[true,true,true,true,true,true,true,true,true,true,true,true,true,true] rfl rfl rfl hT (by kernel_rfl) rfl hE hR (KA rfl) KBE rfl (KBp Xx27 Xx30) (M.unbind H) (fun Xx31 a w ea hR H=>?_)
   have hE:=Env.put_some hE rfl ea; clear ea
   refine JM hT (by kernel_rfl) ?_
   refine hK_22 _ _ ?_
   refine KS Xx31 hE rfl (fun hb=>?_) (fun hb=>?_)
   ·replace H:=M.ite_t hb H
    refine KH (fun K hK_32=>?_)
    refine KC ?_
    refine KB (v:=.agg (#[.int .i64 0,.int .i64 0,.string ByteArray.empty,.slice none 0 0]:Array Value)) rfl rfl hE rfl (YD bd24) (fun a hE=>?_)
    obtain ⟨qz,H⟩:=H
    obtain ⟨u_33,qu_33,H⟩:=H
    refine JI rfl rfl hE hR (Kv hE rfl rfl sz24 qz qu_33) (fun a w hE hR hh=>?_)
    replace H:=M.at hh H; clear hh
    refine KB (v:=.int .i64 5) rfl rfl hE rfl (KE hE rfl) (fun a hE=>?_)
    refine KG ?_
    refine hK_32 _ _ ?_
    refine Kg ?_
    obtain ⟨Rr34,qRr34,H⟩:=H
    exact hret _ _ _ (Rr34,5) _ hE hR (KM hE rfl (RV.cellG rfl ag24 qRr34 (RV.tmp rfl RV.nil))) rfl H
   ·replace H:=M.ite_f hb H
    refine Ka ?_
    refine hK_21 _ _ ?_
    refine KC ?_
    refine KB (v:=.int .i64 Xx15) rfl rfl hE rfl (KD hE rfl) (fun a hE=>?_)
    refine KB (v:=.int .i64 (IntKind.wrap .i64 (Xx15+1))) rfl rfl hE rfl (KL hE rfl rfl KN JE) (fun a hE=>?_)
    refine KB (v:=.int .i64 (IntKind.wrap .i64 (Xx15+1))) rfl rfl hE rfl (KE hE rfl) (fun a hE=>?_)
    refine KG ?_
    exact hY_18 (IntKind.wrap .i64 (Xx15+1)) _ _ (hE.cut (.cons rfl (.cons rfl (.cons rfl Subs.nil)))) hR H
  ·replace H:=M.ite_f hb H
   refine J6 ?_
   refine Xu.same ?_
   refine hK_13 _ _ ?_
   refine KH (fun K hK_35=>?_)
   refine KC ?_
   refine KB (v:=(Xx10:Sl).v) rfl rfl hE rfl (KD hE rfl) (fun a hE=>?_)
   refine KZ hE hR Vs rfl (WD Xx10) (M.unbind H) (fun Xx36 a w ea hR H=>?_)
   have hE:=Env.put_some hE rfl ea; clear ea
   refine KB (v:=.agg (#[.int .i64 5,.int .i64 0,.string ByteArray.empty,(Xx36:Sl).v]:Array Value)) rfl rfl hE rfl (Uw hE rfl zr24 pl24 (by rfl)) (fun a hE=>?_)
   refine KZ hE hR qI rfl (zE (#[.int .i64 5,.int .i64 0,.string ByteArray.empty,(Xx36:Sl).v]:Array Value)) (M.unbind H) (fun Xx37 a w ea hR H=>?_)
   have hE:=Env.put_some hE rfl ea; clear ea
   refine KB (v:=.agg Xx37.1) rfl rfl hE rfl (ZF hE rfl rfl) (fun a hE=>?_)
   refine KB (v:=.int .i64 Xx37.2) rfl rfl hE rfl (ZF hE rfl rfl) (fun a hE=>?_)
   obtain ⟨qz,H⟩:=H
   obtain ⟨u_38,qu_38,H⟩:=H
   refine JI rfl rfl hE hR (Kv hE rfl rfl sz24 qz qu_38) (fun a w hE hR hh=>?_)
   replace H:=M.at hh H; clear hh
   refine KB (v:=.int .i64 Xx37.2) rfl rfl hE rfl (KE hE rfl) (fun a hE=>?_)
   refine KG ?_
   refine hK_35 _ _ ?_
   refine Kg ?_
   obtain ⟨Rr39,qRr39,H⟩:=H
   exact hret _ _ _ (Rr39,Xx37.2) _ hE hR (KM hE rfl (RV.cellG rfl ag24 qRr39 (RV.tmp rfl RV.nil))) rfl H
def Xx (x0:Int):M (Array Value):=do
 let Xx2←mkB KJ (#[.int .i64 0,.int .i64 0,.string ByteArray.empty,.slice none 0 0]:Array Value)
 M.need ((#[.int .i64 1,.int .i64 x0,.string ByteArray.empty,.slice none 0 0]:Array Value).size=4)
 stG Xx2 (#[.int .i64 1,.int .i64 x0,.string ByteArray.empty,.slice none 0 0]:Array Value)
 let Rr5←ldG 4 Xx2
 M.pure Rr5
theorem Nq (x0:Int):ZK Go.Proofs.Tryz.prog 26 #[.int .i64 x0] (fun (r:Array Value)=>.agg r) (Xx x0):=by
 refine KY [(0,.int .i64 x0)] Go.Proofs.Tryz.func26 rfl rfl (Nat.le_of_ble_eq_true rfl) (Ke ⟨rfl,trivial⟩) (fun w0 w Q R a hret hE hR H=>?_)
 unfold Xx at H
 refine KH (fun K hK_1=>?_)
 refine KC ?_
 obtain ⟨Xx2,qXx2,H⟩:=H
 refine ZR (v:=.pointer (some Xx2)) rfl rfl hE rfl hR (Z4 zr24 qXx2) (fun a w hE hR hh=>?_)
 replace H:=M.at hh H; clear hh
 refine KG ?_
 refine hK_1 _ _ ?_
 refine KH (fun K hK_3=>?_)
 refine KC ?_
 refine KB (v:=.int .i64 x0) rfl rfl hE rfl (KD hE rfl) (fun a hE=>?_)
 refine KB (v:=.agg (#[.int .i64 1,.int .i64 x0,.string ByteArray.empty,.slice none 0 0]:Array Value)) rfl rfl hE rfl (Uw hE rfl zr24 pl24 (by rfl)) (fun a hE=>?_)
 obtain ⟨qz,H⟩:=H
 obtain ⟨u_4,qu_4,H⟩:=H
 refine JI rfl rfl hE hR (Kv hE rfl rfl sz24 qz qu_4) (fun a w hE hR hh=>?_)
 replace H:=M.at hh H; clear hh
 refine KG ?_
 refine hK_3 _ _ ?_
 refine Kg ?_
 obtain ⟨Rr5,qRr5,H⟩:=H
 exact hret _ _ _ Rr5 _ hE hR (KM hE rfl (RV.cellG rfl ag24 qRr5 RV.nil)) rfl H
def XC (x0:ByteArray):M (Array Value):=do
 let Xx2←mkB KJ (#[.int .i64 0,.int .i64 0,.string ByteArray.empty,.slice none 0 0]:Array Value)
 M.need ((#[.int .i64 2,.int .i64 0,.string x0,.slice none 0 0]:Array Value).size=4)
 stG Xx2 (#[.int .i64 2,.int .i64 0,.string x0,.slice none 0 0]:Array Value)
 let Rr5←ldG 4 Xx2
 M.pure Rr5
theorem GL (x0:ByteArray):ZK Go.Proofs.Tryz.prog 28 #[.string x0] (fun (r:Array Value)=>.agg r) (XC x0):=by
 refine KY [(0,.string x0)] Go.Proofs.Tryz.func28 rfl rfl (Nat.le_of_ble_eq_true rfl) (Ke ⟨rfl,trivial⟩) (fun w0 w Q R a hret hE hR H=>?_)
 unfold XC at H
 refine KH (fun K hK_1=>?_)
 refine KC ?_
 obtain ⟨Xx2,qXx2,H⟩:=H
 refine ZR (v:=.pointer (some Xx2)) rfl rfl hE rfl hR (Z4 zr24 qXx2) (fun a w hE hR hh=>?_)
 replace H:=M.at hh H; clear hh
 refine KG ?_
 refine hK_1 _ _ ?_
 refine KH (fun K hK_3=>?_)
 refine KC ?_
 refine KB (v:=.string x0) rfl rfl hE rfl (KD hE rfl) (fun a hE=>?_)
 refine KB (v:=.agg (#[.int .i64 2,.int .i64 0,.string x0,.slice none 0 0]:Array Value)) rfl rfl hE rfl (Uw hE rfl zr24 pl24 (by rfl)) (fun a hE=>?_)
 obtain ⟨qz,H⟩:=H
 obtain ⟨u_4,qu_4,H⟩:=H
 refine JI rfl rfl hE hR (Kv hE rfl rfl sz24 qz qu_4) (fun a w hE hR hh=>?_)
 replace H:=M.at hh H; clear hh
 refine KG ?_
 refine hK_3 _ _ ?_
 refine Kg ?_
 obtain ⟨Rr5,qRr5,H⟩:=H
 exact hret _ _ _ Rr5 _ hE hR (KM hE rfl (RV.cellG rfl ag24 qRr5 RV.nil)) rfl H
def Vv (C6:Addr) (C7:Addr):M (Array Value):=do
 let Xx9←ldG 4 C7
 M.need (Xx9.size=4)
 stG C6 Xx9
 let Rr11←ldG 4 C6
 M.pure Rr11
def WX (x0:Bool):M (Array Value):=do
 let Xx2←mkB KJ (#[.int .i64 0,.int .i64 0,.string ByteArray.empty,.slice none 0 0]:Array Value)
 let Xx4←mkB KJ (#[.int .i64 0,.int .i64 0,.string ByteArray.empty,.slice none 0 0]:Array Value)
 M.need ((#[.int .i64 3,.int .i64 0,.string ByteArray.empty,.slice none 0 0]:Array Value).size=4)
 stG Xx4 (#[.int .i64 3,.int .i64 0,.string ByteArray.empty,.slice none 0 0]:Array Value)
 M.ite x0 (do
  stV ((Xx4).add 1) (.int .i64 1)
  Vv Xx2 Xx4
  ) (do
  Vv Xx2 Xx4
  )
theorem XY (x0:Bool):ZK Go.Proofs.Tryz.prog 34 #[.bool x0] (fun (r:Array Value)=>.agg r) (WX x0):=by
 refine KY [(0,.bool x0)] Go.Proofs.Tryz.func34 rfl rfl (Nat.le_of_ble_eq_true rfl) (Ke ⟨rfl,trivial⟩) (fun w0 w Q R a hret hE hR H=>?_)
 unfold WX at H
 refine KH (fun K hK_1=>?_)
 refine KC ?_
 obtain ⟨Xx2,qXx2,H⟩:=H
 refine ZR (v:=.pointer (some Xx2)) rfl rfl hE rfl hR (Z4 zr24 qXx2) (fun a w hE hR hh=>?_)
 replace H:=M.at hh H; clear hh
 refine KG ?_
 refine hK_1 _ _ ?_
 refine KH (fun K hK_3=>?_)
 refine KC ?_
 refine KB (v:=.agg (#[.int .i64 3,.int .i64 0,.string ByteArray.empty,.slice none 0 0]:Array Value)) rfl rfl hE rfl (Uw hE rfl zr24 pl24 (by rfl)) (fun a hE=>?_)
 obtain ⟨Xx4,qXx4,H⟩:=H
 refine ZR (v:=.pointer (some Xx4)) rfl rfl hE rfl hR (Z4 zr24 qXx4) (fun a w hE hR hh=>?_)
 replace H:=M.at hh H; clear hh
 obtain ⟨qz,H⟩:=H
 obtain ⟨u_5,qu_5,H⟩:=H
 refine JI rfl rfl hE hR (Kv hE rfl rfl sz24 qz qu_5) (fun a w hE hR hh=>?_)
 replace H:=M.at hh H; clear hh
 refine KG ?_
 refine hK_3 _ _ ?_
 refine Ku (fun a w=>Env (⟨8,[]⟩:Frm) a [(2,.pointer (some Xx2)),(3,.pointer (some Xx4))]∧Rest w0 w∧(Vv Xx2 Xx4).wp w.heap Q) ?_ ?_
 ·rintro a w ⟨hE,hR,H⟩
  unfold Vv at H
  refine KH (fun K hK_8=>?_)
  refine KC ?_
  obtain ⟨Xx9,qXx9,H⟩:=H
  refine KB (v:=.agg Xx9) rfl rfl hE rfl (ZN hE rfl ag24 qXx9) (fun a hE=>?_)
  obtain ⟨qz,H⟩:=H
  obtain ⟨u_10,qu_10,H⟩:=H
  refine JI rfl rfl hE hR (Kv hE rfl rfl sz24 qz qu_10) (fun a w hE hR hh=>?_)
  replace H:=M.at hh H; clear hh
  refine KG ?_
  refine hK_8 _ _ ?_
  refine Kg ?_
  obtain ⟨Rr11,qRr11,H⟩:=H
  exact hret _ _ _ Rr11 _ hE hR (KM hE rfl (RV.cellG rfl ag24 qRr11 RV.nil)) rfl H
 ·skip
  refine KH (fun K hK_12=>?_)
  refine KC ?_
  refine KB (v:=.bool x0) rfl rfl hE rfl (KD hE rfl) (fun a hE=>?_)
  refine KG ?_
  refine hK_12 _ _ ?_
  refine KS x0 hE rfl (fun hb=>?_) (fun hb=>?_)
  ·replace H:=M.ite_t hb H
   refine KC ?_
   refine KB (v:=.pointer (some ((Xx4).add 1))) rfl rfl hE rfl (KI hE rfl Vy) (fun a hE=>?_)
   obtain ⟨u_13,qu_13,H⟩:=H
   refine JI rfl rfl hE hR (JK hE rfl rfl sz2 qu_13) (fun a w hE hR hh=>?_)
   replace H:=M.at hh H; clear hh
   refine KG ?_
   exact ⟨hE.cut (.cons rfl (.cons rfl Subs.nil)),hR,H⟩
  ·replace H:=M.ite_f hb H
   refine Ka ?_
   exact ⟨hE.cut (.cons rfl (.cons rfl Subs.nil)),hR,H⟩
def U8 :M (Bool):=do
 let Xx3←XC (⟨#[98]⟩:ByteArray)
 let Xx4←Xx 1
 let Xx5←XC (⟨#[97]⟩:ByteArray)
 let Xx6←WX true
 let y_8←KA3 4 4 (#[.int .i64 0,.int .i64 0,.string ByteArray.empty,.slice none 0 0]:Array Value) [(0,.agg Xx3),(1,.agg Xx4),(2,.agg Xx5),(3,.agg Xx6)]
 let Xx7←bdL KJ 4 y_8
 let Xx9←Xw Xx7
 let Xx10←mkB KJ (#[.int .i64 0,.int .i64 0,.string ByteArray.empty,.slice none 0 0]:Array Value)
 M.need (Xx9.1.size=4)
 stG Xx10 Xx9.1
 let Xx13←Y9 (⟨#[123,39,97,39,58,32,116,114,117,101,44,32,39,98,39,58,32,49,125]⟩:ByteArray)
 let Xx14←mkB KJ (#[.int .i64 0,.int .i64 0,.string ByteArray.empty,.slice none 0 0]:Array Value)
 M.need (Xx13.1.size=4)
 stG Xx14 Xx13.1
 let Xx17←M.ite (Xx9.2 == 0) (do
  let Xx18←ldG 4 Xx10
  let Xx19←Xt Xx18
  M.pure (sEq Xx19 (⟨#[123,39,97,39,58,32,116,114,117,101,44,32,39,98,39,58,32,49,125]⟩:ByteArray))
  ) (do
  M.pure false
  )
 let Xx20←M.ite Xx17 (do
  M.pure (Xx13.2.2 == 0)
  ) (do
  M.pure false
  )
 let Xx21←M.ite Xx20 (do
  M.pure (Xx13.2.1 == 0)
  ) (do
  M.pure false
  )
 let Xx22←M.ite Xx21 (do
  let Xx23←ldG 4 Xx10
  let Xx24←ldG 4 Xx14
  let Xx25←ZY Xx23 Xx24
  M.pure Xx25
  ) (do
  M.pure false
  )
 M.pure Xx22
theorem Nr :ZK Go.Proofs.Tryz.prog 14 #[] (fun (r:Bool)=>.bool r) (U8 ):=by
 refine KY [] Go.Proofs.Tryz.func14 rfl rfl (Nat.le_of_ble_eq_true rfl) (Ke trivial) (fun w0 w Q R a hret hE hR H=>?_)
 unfold U8 at H
 refine KH (fun K hK_1=>?_)
 refine KC ?_
 refine KB (v:=.bool false) rfl rfl hE rfl (KE hE rfl) (fun a hE=>?_)
 refine KG ?_
 refine hK_1 _ _ ?_
 refine KH (fun K hK_2=>?_)
 refine KC ?_
 refine KZ hE hR XU rfl (GL (⟨#[98]⟩:ByteArray)) (M.unbind H) (fun Xx3 a w ea hR H=>?_)
 have hE:=Env.put_some hE rfl ea; clear ea
 refine KZ hE hR Gq rfl (Nq 1) (M.unbind H) (fun Xx4 a w ea hR H=>?_)
 have hE:=Env.put_some hE rfl ea; clear ea
 refine KZ hE hR XU rfl (GL (⟨#[97]⟩:ByteArray)) (M.unbind H) (fun Xx5 a w ea hR H=>?_)
 have hE:=Env.put_some hE rfl ea; clear ea
 refine KZ hE hR Ym rfl (XY true) (M.unbind H) (fun Xx6 a w ea hR H=>?_)
 have hE:=Env.put_some hE rfl ea; clear ea
 obtain ⟨y_8,qy_8,H⟩:=H
 obtain ⟨Xx7,qXx7,H⟩:=H
 refine ZR (v:=(Xx7:Sl).v) rfl rfl hE rfl hR (YE hE rfl un22 sz24 zr24 rfl qy_8 qXx7) (fun a w hE hR hh=>?_)
 replace H:=M.at hh H; clear hh
 refine KZ hE hR zB rfl (zn Xx7) (M.unbind H) (fun Xx9 a w ea hR H=>?_)
 have hE:=Env.put_some hE rfl ea; clear ea
 refine KB (v:=.tuple #[.agg Xx9.1,.int .i64 Xx9.2]) rfl rfl hE rfl (KD hE rfl) (fun a hE=>?_)
 refine KB (v:=.agg Xx9.1) rfl rfl hE rfl (ZF hE rfl rfl) (fun a hE=>?_)
 refine KB (v:=.int .i64 Xx9.2) rfl rfl hE rfl (ZF hE rfl rfl) (fun a hE=>?_)
 obtain ⟨Xx10,qXx10,H⟩:=H
 refine ZR (v:=.pointer (some Xx10)) rfl rfl hE rfl hR (Z4 zr24 qXx10) (fun a w hE hR hh=>?_)
 replace H:=M.at hh H; clear hh
 obtain ⟨qz,H⟩:=H
 obtain ⟨u_11,qu_11,H⟩:=H
 refine JI rfl rfl hE hR (Kv hE rfl rfl sz24 qz qu_11) (fun a w hE hR hh=>?_)
 replace H:=M.at hh H; clear hh
 refine KB (v:=.int .i64 Xx9.2) rfl rfl hE rfl (KE hE rfl) (fun a hE=>?_)
 refine KG ?_
 refine hK_2 _ _ ?_
 refine KH (fun K hK_12=>?_)
 refine KC ?_
 refine KZ hE hR KAI rfl (KBJ (⟨#[123,39,97,39,58,32,116,114,117,101,44,32,39,98,39,58,32,49,125]⟩:ByteArray)) (M.unbind H) (fun Xx13 a w ea hR H=>?_)
 have hE:=Env.put_some hE rfl ea; clear ea
 refine KB (v:=.tuple #[.agg Xx13.1,.int .i64 Xx13.2.1,.int .i64 Xx13.2.2]) rfl rfl hE rfl (KD hE rfl) (fun a hE=>?_)
 refine KB (v:=.agg Xx13.1) rfl rfl hE rfl (ZF hE rfl rfl) (fun a hE=>?_)
 refine KB (v:=.int .i64 Xx13.2.1) rfl rfl hE rfl (ZF hE rfl rfl) (fun a hE=>?_)
 refine KB (v:=.int .i64 Xx13.2.2) rfl rfl hE rfl (ZF hE rfl rfl) (fun a hE=>?_)
 obtain ⟨Xx14,qXx14,H⟩:=H
 refine ZR (v:=.pointer (some Xx14)) rfl rfl hE rfl hR (Z4 zr24 qXx14) (fun a w hE hR hh=>?_)
 replace H:=M.at hh H; clear hh
 obtain ⟨qz,H⟩:=H
 obtain ⟨u_15,qu_15,H⟩:=H
 refine JI rfl rfl hE hR (Kv hE rfl rfl sz24 qz qu_15) (fun a w hE hR hh=>?_)
 replace H:=M.at hh H; clear hh
 refine KB (v:=.int .i64 Xx13.2.1) rfl rfl hE rfl (KE hE rfl) (fun a hE=>?_)
 refine KB (v:=.int .i64 Xx13.2.2) rfl rfl hE rfl (KE hE rfl) (fun a hE=>?_)
 refine KG ?_
 refine hK_12 _ _ ?_
 refine KH (fun K hK_16=>?_)
 refine KC ?_
 refine KB (v:=.int .i64 Xx9.2) rfl rfl hE rfl (KD hE rfl) (fun a hE=>?_)
 refine KB (v:=.bool (Xx9.2 == 0)) rfl rfl hE rfl (KL hE rfl rfl KN Z5) (fun a hE=>?_)
 refine KB (v:=.bool (Xx9.2 == 0)) rfl rfl hE rfl (KD hE rfl) (fun a hE=>?_)
 refine J5 (n:=(⟨40,[]⟩:Frm)) (w0:=w0) 4 (fun Xx17:Bool=>[(0,.bool false),(1,.pointer (some Xx10)),(3,.pointer (some Xx14)),(4,.int .i64 Xx13.2.1),(5,.int .i64 Xx13.2.2),(26,.bool Xx17)]) (M.unbind H) (fun Kr hKr H=>?_) ?_
 ·rcases Kq (Xx9.2 == 0) with hb | hb
  ·replace H:=M.ite_t hb H
   have hE:=hE.reb 22 (Xx9.2 == 0) true hb rfl
   refine t_on rfl hE rfl rfl rfl ?_
   obtain ⟨Xx18,qXx18,H⟩:=H
   refine KB (v:=.agg Xx18) rfl rfl hE rfl (ZN hE rfl ag24 qXx18) (fun a hE=>?_)
   refine t_on rfl hE rfl rfl rfl ?_
   refine KZ hE hR KBF rfl (KBo Xx18) (M.unbind H) (fun Xx19 a w ea hR H=>?_)
   have hE:=Env.put_some hE rfl ea; clear ea
   refine t_on rfl hE rfl rfl rfl ?_
   refine KB (v:=.bool (sEq Xx19 (⟨#[123,39,97,39,58,32,116,114,117,101,44,32,39,98,39,58,32,49,125]⟩:ByteArray))) rfl rfl hE rfl (KL hE rfl rfl Xc N4) (fun a hE=>?_)
   refine KB rfl rfl hE rfl (Kc hE rfl rfl) (fun a hE=>?_)
   refine KG ?_
   exact hKr _ _ _ (hE.cut (.cons rfl (.cons rfl (.cons rfl (.cons rfl (.cons rfl (.cons rfl Subs.nil))))))) hR H
  ·replace H:=M.ite_f hb H
   have hE:=hE.reb 22 (Xx9.2 == 0) false hb rfl
   refine Kf rfl hE rfl rfl rfl (fun a ea=>?_)
   have hE:=Env.put_some hE rfl ea; clear ea
   refine Kf rfl hE rfl rfl rfl (fun a ea=>?_)
   have hE:=Env.put_some hE rfl ea; clear ea
   refine Kf rfl hE rfl rfl rfl (fun a ea=>?_)
   have hE:=Env.put_some hE rfl ea; clear ea
   refine KB rfl rfl hE rfl (Kd hE rfl rfl) (fun a hE=>?_)
   refine KG ?_
   exact hKr _ _ _ (hE.cut (.cons rfl (.cons rfl (.cons rfl (.cons rfl (.cons rfl (.cons rfl Subs.nil))))))) hR H
 ·intro Xx17 a w hE hR H
  refine KB (v:=.bool Xx17) rfl rfl hE rfl (KD hE rfl) (fun a hE=>?_)
  refine J5 (n:=(⟨40,[]⟩:Frm)) (w0:=w0) 3 (fun Xx20:Bool=>[(0,.bool false),(1,.pointer (some Xx10)),(3,.pointer (some Xx14)),(4,.int .i64 Xx13.2.1),(30,.bool Xx20)]) (M.unbind H) (fun Kr hKr H=>?_) ?_
  ·rcases Kq Xx17 with hb | hb
   ·replace H:=M.ite_t hb H
    have hE:=hE.reb 27 Xx17 true hb rfl
    refine t_on rfl hE rfl rfl rfl ?_
    refine KB (v:=.int .i64 Xx13.2.2) rfl rfl hE rfl (KD hE rfl) (fun a hE=>?_)
    refine t_on rfl hE rfl rfl rfl ?_
    refine KB (v:=.bool (Xx13.2.2 == 0)) rfl rfl hE rfl (KL hE rfl rfl KN Z5) (fun a hE=>?_)
    refine KB rfl rfl hE rfl (Kc hE rfl rfl) (fun a hE=>?_)
    refine KG ?_
    exact hKr _ _ _ (hE.cut (.cons rfl (.cons rfl (.cons rfl (.cons rfl (.cons rfl Subs.nil)))))) hR H
   ·replace H:=M.ite_f hb H
    have hE:=hE.reb 27 Xx17 false hb rfl
    refine Kf rfl hE rfl rfl rfl (fun a ea=>?_)
    have hE:=Env.put_some hE rfl ea; clear ea
    refine Kf rfl hE rfl rfl rfl (fun a ea=>?_)
    have hE:=Env.put_some hE rfl ea; clear ea
    refine KB rfl rfl hE rfl (Kd hE rfl rfl) (fun a hE=>?_)
    refine KG ?_
    exact hKr _ _ _ (hE.cut (.cons rfl (.cons rfl (.cons rfl (.cons rfl (.cons rfl Subs.nil)))))) hR H
  ·intro Xx20 a w hE hR H
   refine KB (v:=.bool Xx20) rfl rfl hE rfl (KD hE rfl) (fun a hE=>?_)
   refine J5 (n:=(⟨40,[]⟩:Frm)) (w0:=w0) 3 (fun Xx21:Bool=>[(0,.bool false),(1,.pointer (some Xx10)),(3,.pointer (some Xx14)),(34,.bool Xx21)]) (M.unbind H) (fun Kr hKr H=>?_) ?_
   ·rcases Kq Xx20 with hb | hb
    ·replace H:=M.ite_t hb H
     have hE:=hE.reb 31 Xx20 true hb rfl
     refine t_on rfl hE rfl rfl rfl ?_
     refine KB (v:=.int .i64 Xx13.2.1) rfl rfl hE rfl (KD hE rfl) (fun a hE=>?_)
     refine t_on rfl hE rfl rfl rfl ?_
     refine KB (v:=.bool (Xx13.2.1 == 0)) rfl rfl hE rfl (KL hE rfl rfl KN Z5) (fun a hE=>?_)
     refine KB rfl rfl hE rfl (Kc hE rfl rfl) (fun a hE=>?_)
     refine KG ?_
     exact hKr _ _ _ (hE.cut (.cons rfl (.cons rfl (.cons rfl (.cons rfl Subs.nil))))) hR H
    ·replace H:=M.ite_f hb H
     have hE:=hE.reb 31 Xx20 false hb rfl
     refine Kf rfl hE rfl rfl rfl (fun a ea=>?_)
     have hE:=Env.put_some hE rfl ea; clear ea
     refine Kf rfl hE rfl rfl rfl (fun a ea=>?_)
     have hE:=Env.put_some hE rfl ea; clear ea
     refine KB rfl rfl hE rfl (Kd hE rfl rfl) (fun a hE=>?_)
     refine KG ?_
     exact hKr _ _ _ (hE.cut (.cons rfl (.cons rfl (.cons rfl (.cons rfl Subs.nil))))) hR H
   ·intro Xx21 a w hE hR H
    refine KB (v:=.bool Xx21) rfl rfl hE rfl (KD hE rfl) (fun a hE=>?_)
    refine J5 (n:=(⟨40,[]⟩:Frm)) (w0:=w0) 4 (fun Xx22:Bool=>[(0,.bool false),(39,.bool Xx22)]) (M.unbind H) (fun Kr hKr H=>?_) ?_
    ·rcases Kq Xx21 with hb | hb
     ·replace H:=M.ite_t hb H
      have hE:=hE.reb 35 Xx21 true hb rfl
      refine t_on rfl hE rfl rfl rfl ?_
      obtain ⟨Xx23,qXx23,H⟩:=H
      refine KB (v:=.agg Xx23) rfl rfl hE rfl (ZN hE rfl ag24 qXx23) (fun a hE=>?_)
      refine t_on rfl hE rfl rfl rfl ?_
      obtain ⟨Xx24,qXx24,H⟩:=H
      refine KB (v:=.agg Xx24) rfl rfl hE rfl (ZN hE rfl ag24 qXx24) (fun a hE=>?_)
      refine t_on rfl hE rfl rfl rfl ?_
      refine KZ hE hR JO rfl (Ja Xx23 Xx24) (M.unbind H) (fun Xx25 a w ea hR H=>?_)
      have hE:=Env.put_some hE rfl ea; clear ea
      refine KB rfl rfl hE rfl (Kc hE rfl rfl) (fun a hE=>?_)
      refine KG ?_
      exact hKr _ _ _ (hE.cut (.cons rfl (.cons rfl Subs.nil))) hR H
     ·replace H:=M.ite_f hb H
      have hE:=hE.reb 35 Xx21 false hb rfl
      refine Kf rfl hE rfl rfl rfl (fun a ea=>?_)
      have hE:=Env.put_some hE rfl ea; clear ea
      refine Kf rfl hE rfl rfl rfl (fun a ea=>?_)
      have hE:=Env.put_some hE rfl ea; clear ea
      refine Kf rfl hE rfl rfl rfl (fun a ea=>?_)
      have hE:=Env.put_some hE rfl ea; clear ea
      refine KB rfl rfl hE rfl (Kd hE rfl rfl) (fun a hE=>?_)
      refine KG ?_
      exact hKr _ _ _ (hE.cut (.cons rfl (.cons rfl Subs.nil))) hR H
    ·intro Xx22 a w hE hR H
     refine KB (v:=.bool Xx22) rfl rfl hE rfl (KE hE rfl) (fun a hE=>?_)
     refine KG ?_
     refine hK_16 _ _ ?_
     refine Kg ?_
     exact hret _ _ _ Xx22 _ hE hR (KM hE rfl (RV.tmp rfl RV.nil)) rfl H
def Xy (x0:Sl):M (Array Value × Int):=do
 let Xx2←mkB KJ (#[.int .i64 0,.int .i64 0,.string ByteArray.empty,.slice none 0 0]:Array Value)
 let Xx4←Yz (#[.int .i64 4,.int .i64 0,.string ByteArray.empty,(x0:Sl).v]:Array Value)
 M.need (Xx4.1.size=4)
 stG Xx2 Xx4.1
 let Rr6←ldG 4 Xx2
 M.pure (Rr6,Xx4.2)
theorem KBq (x0:Sl):ZK Go.Proofs.Tryz.prog 22 #[(x0:Sl).v] (fun (r:Array Value × Int)=>.tuple #[.agg r.1,.int .i64 r.2]) (Xy x0):=by
 refine KY [(0,(x0:Sl).v)] Go.Proofs.Tryz.func22 rfl rfl (Nat.le_of_ble_eq_true rfl) (Ke ⟨rfl,trivial⟩) (fun w0 w Q R a hret hE hR H=>?_)
 unfold Xy at H
 refine KH (fun K hK_1=>?_)
 refine KC ?_
 obtain ⟨Xx2,qXx2,H⟩:=H
 refine ZR (v:=.pointer (some Xx2)) rfl rfl hE rfl hR (Z4 zr24 qXx2) (fun a w hE hR hh=>?_)
 replace H:=M.at hh H; clear hh
 refine KB (v:=.int .i64 0) rfl rfl hE rfl (KE hE rfl) (fun a hE=>?_)
 refine KG ?_
 refine hK_1 _ _ ?_
 refine KH (fun K hK_3=>?_)
 refine KC ?_
 refine KB (v:=(x0:Sl).v) rfl rfl hE rfl (KD hE rfl) (fun a hE=>?_)
 refine KB (v:=.agg (#[.int .i64 4,.int .i64 0,.string ByteArray.empty,(x0:Sl).v]:Array Value)) rfl rfl hE rfl (Uw hE rfl zr24 pl24 (by rfl)) (fun a hE=>?_)
 refine KZ hE hR qI rfl (zE (#[.int .i64 4,.int .i64 0,.string ByteArray.empty,(x0:Sl).v]:Array Value)) (M.unbind H) (fun Xx4 a w ea hR H=>?_)
 have hE:=Env.put_some hE rfl ea; clear ea
 refine KB (v:=.agg Xx4.1) rfl rfl hE rfl (ZF hE rfl rfl) (fun a hE=>?_)
 refine KB (v:=.int .i64 Xx4.2) rfl rfl hE rfl (ZF hE rfl rfl) (fun a hE=>?_)
 obtain ⟨qz,H⟩:=H
 obtain ⟨u_5,qu_5,H⟩:=H
 refine JI rfl rfl hE hR (Kv hE rfl rfl sz24 qz qu_5) (fun a w hE hR hh=>?_)
 replace H:=M.at hh H; clear hh
 refine KB (v:=.int .i64 Xx4.2) rfl rfl hE rfl (KE hE rfl) (fun a hE=>?_)
 refine KG ?_
 refine hK_3 _ _ ?_
 refine Kg ?_
 obtain ⟨Rr6,qRr6,H⟩:=H
 exact hret _ _ _ (Rr6,Xx4.2) _ hE hR (KM hE rfl (RV.cellG rfl ag24 qRr6 (RV.tmp rfl RV.nil))) rfl H
theorem KHs:Vg Go.Proofs.Tryz.f140 4 [[],[],[1],[0,2],[3],[],[],[5,6],[7],[4,8],[9]] [[],[],[1],[0,2],[3],[],[],[5,6],[7],[4,8],[9]] [[],[],[1],[0,1,2],[0,1,2,3],[],[],[5,6],[5,6,7],[0,1,2,3,4,5,6,7,8],[0,1,2,3,4,5,6,7,8,9]]=true:=by kernel_rfl
def U0 (C5:Sl) (self1:(Int)→M (Bool)):(Int)→M (Bool):=fun s=>match s with
 | Xx4=>do
  M.ite (decide (Xx4 < (C5.len:Int))) (do
   let Xx11←ixL C5 (IntKind.wrap .i64 (Xx4 - 2)) 4
   let Xx12←ixL C5 Xx4 4
   let Xx13←ldG 4 Xx11
   let Xx14←ldG 4 Xx12
   let Xx15←JB Xx13 Xx14
   M.ite (decide (Xx15 ≥ 0)) (do
    M.pure false
    ) (do
    self1 (IntKind.wrap .i64 (Xx4+2))
    )
   ) (do
   M.pure true
   )
def U9 (x0:Sl):M (Bool):=do
 M.loop (U0 x0) 2
theorem Ns (x0:Sl):ZK Go.Proofs.Tryz.prog 140 #[(x0:Sl).v] (fun (r:Bool)=>.bool r) (U9 x0):=by
 refine KY [(0,(x0:Sl).v)] Go.Proofs.Tryz.func140 rfl rfl (Nat.le_of_ble_eq_true rfl) (Ke ⟨rfl,trivial⟩) (fun w0 w Q R a hret hE hR H=>?_)
 unfold U9 at H
 refine KH (fun K hK_1=>?_)
 refine KC ?_
 refine KB (v:=.bool false) rfl rfl hE rfl (KE hE rfl) (fun a hE=>?_)
 refine KG ?_
 refine hK_1 _ _ ?_
 refine KH (fun K hK_2=>?_)
 refine KH (fun K hK_3=>?_)
 refine KC ?_
 refine KB (v:=.int .i64 2) rfl rfl hE rfl (KE hE rfl) (fun a hE=>?_)
 refine KG ?_
 refine hK_3 _ _ ?_
 refine Kj ?_
 refine J7 (fun (s:Int)=>(⟨21,[]⟩:Frm)) (fun (s:Int)=>[(0,(x0:Sl).v),(3,.int .i64 s)]) H (hE.cut (.cons rfl (.cons rfl Subs.nil))) hR (fun Y self1 hY_6 Xx4 a w hE hR H=>?_)
 replace hE:Env (⟨21,[]⟩:Frm) a [(0,(x0:Sl).v),(3,.int .i64 Xx4)]:=hE
 replace H:(U0 x0 self1 Xx4).wp w.heap Q:=H
 unfold U0 at H
 refine KH (fun K hK_7=>?_)
 refine KH (fun K hK_8=>?_)
 refine KC ?_
 refine KB (v:=.int .i64 Xx4) rfl rfl hE rfl (KD hE rfl) (fun a hE=>?_)
 refine KB (v:=(x0:Sl).v) rfl rfl hE rfl (KD hE rfl) (fun a hE=>?_)
 refine KB (v:=.int .i64 (x0.len:Int)) rfl rfl hE rfl (UA hE rfl 24 un22) (fun a hE=>?_)
 refine KB (v:=.bool (decide (Xx4 < (x0.len:Int)))) rfl rfl hE rfl (KL hE rfl rfl KN JL) (fun a hE=>?_)
 refine KG ?_
 refine hK_8 _ _ ?_
 refine KS (decide (Xx4 < (x0.len:Int))) hE rfl (fun hb=>?_) (fun hb=>?_)
 ·replace H:=M.ite_t hb H
  refine Ka ?_
  refine hK_7 _ _ ?_
  refine KH (fun K hK_9=>?_)
  refine Kj ?_
  refine KH (fun K hK_10=>?_)
  obtain ⟨Xx11,qXx11,H⟩:=H
  obtain ⟨Xx12,qXx12,H⟩:=H
  obtain ⟨Xx13,qXx13,H⟩:=H
  obtain ⟨Xx14,qXx14,H⟩:=H
  have hT:=Jf KHs rfl rfl
  refine Zq (fun w:World=>(fun h:Heap=>(Xx13.size=4∧∀ i,i < 4→KV h (Addr.add Xx11 i)=Xx13[i]?)∧(Xx14.size=4∧∀ i,i < 4→KV h (Addr.add Xx12 i)=Xx14[i]?)) w.heap) [9,10] #[false,false,false,false,false,false,false,false,false,false,false] mo hR rfl rfl (fun w' e=>by rw [e]; exact ⟨qXx13,qXx14⟩) (fun w hh hR hs=>?_)
  replace H:=M.at hh H; clear hh
  refine KF (i:=0) (v:=(x0:Sl).v) #[true,false,false,false,false,false,false,false,false,false,false] rfl rfl hT (by kernel_rfl) hE rfl (KA rfl) (fun w=>KD hE rfl) (fun a hE=>?_)
  refine KF (i:=1) (v:=.int .i64 Xx4) #[true,true,false,false,false,false,false,false,false,false,false] rfl rfl hT (by kernel_rfl) hE rfl (KA rfl) (fun w=>KD hE rfl) (fun a hE=>?_)
  refine KF (i:=2) (v:=.int .i64 (IntKind.wrap .i64 (Xx4 - 2))) #[true,true,true,false,false,false,false,false,false,false,false] rfl rfl hT (by kernel_rfl) hE rfl (KA rfl) (fun w=>KL hE rfl rfl KN VA) (fun a hE=>?_)
  refine KF (i:=3) (v:=.pointer (some Xx11)) #[true,true,true,true,false,false,false,false,false,false,false] rfl rfl hT (by kernel_rfl) hE rfl (KA rfl) (fun w=>KR hE rfl rfl un22 sz24 qXx11) (fun a hE=>?_)
  refine KF (i:=5) (v:=(x0:Sl).v) #[true,true,true,true,false,true,false,false,false,false,false] rfl rfl hT (by kernel_rfl) hE rfl (KA rfl) (fun w=>KD hE rfl) (fun a hE=>?_)
  refine KF (i:=6) (v:=.int .i64 Xx4) #[true,true,true,true,false,true,true,false,false,false,false] rfl rfl hT (by kernel_rfl) hE rfl (KA rfl) (fun w=>KD hE rfl) (fun a hE=>?_)
  refine KF (i:=7) (v:=.pointer (some Xx12)) #[true,true,true,true,false,true,true,true,false,false,false] rfl rfl hT (by kernel_rfl) hE rfl (KA rfl) (fun w=>KR hE rfl rfl un22 sz24 qXx12) (fun a hE=>?_)
  refine Kt (i:=4) (v:=.agg Xx13) #[true,true,true,true,true,true,true,true,false,false,false] rfl rfl hT (by kernel_rfl) hE rfl (KA rfl) hs (fun w s=>ZN hE rfl ag24 s.1) (fun a hE=>?_)
  refine Kt (i:=8) (v:=.agg Xx14) #[true,true,true,true,true,true,true,true,true,false,false] rfl rfl hT (by kernel_rfl) hE rfl (KA rfl) hs (fun w s=>ZN hE rfl ag24 s.2) (fun a hE=>?_)
  refine WM (i:=9) #[true,true,true,true,true,true,true,true,true,true,false] rfl rfl rfl hT (by kernel_rfl) rfl hE hR (KA rfl) UC rfl (UM Xx13 Xx14) (M.unbind H) (fun Xx15 a w ea hR H=>?_)
  have hE:=Env.put_some hE rfl ea; clear ea
  refine KF (i:=10) (v:=.bool (decide (Xx15 ≥ 0))) #[true,true,true,true,true,true,true,true,true,true,true] rfl rfl hT (by kernel_rfl) hE rfl (KA rfl) (fun w=>KL hE rfl rfl KN YJ) (fun a hE=>?_)
  refine JM hT (by kernel_rfl) ?_
  refine hK_10 _ _ ?_
  refine KS (decide (Xx15 ≥ 0)) hE rfl (fun hb=>?_) (fun hb=>?_)
  ·replace H:=M.ite_t hb H
   refine KH (fun K hK_16=>?_)
   refine KC ?_
   refine KB (v:=.bool false) rfl rfl hE rfl (KE hE rfl) (fun a hE=>?_)
   refine KG ?_
   refine hK_16 _ _ ?_
   refine Kg ?_
   exact hret _ _ _ false _ hE hR (KM hE rfl (RV.tmp rfl RV.nil)) rfl H
  ·replace H:=M.ite_f hb H
   refine Ka ?_
   refine hK_9 _ _ ?_
   refine KC ?_
   refine KB (v:=.int .i64 Xx4) rfl rfl hE rfl (KD hE rfl) (fun a hE=>?_)
   refine KB (v:=.int .i64 (IntKind.wrap .i64 (Xx4+2))) rfl rfl hE rfl (KL hE rfl rfl KN JE) (fun a hE=>?_)
   refine KB (v:=.int .i64 (IntKind.wrap .i64 (Xx4+2))) rfl rfl hE rfl (KE hE rfl) (fun a hE=>?_)
   refine KG ?_
   exact hY_6 (IntKind.wrap .i64 (Xx4+2)) _ _ (hE.cut (.cons rfl (.cons rfl Subs.nil))) hR H
 ·replace H:=M.ite_f hb H
  refine J6 ?_
  refine Xu.same ?_
  refine hK_2 _ _ ?_
  refine KH (fun K hK_17=>?_)
  refine KC ?_
  refine KB (v:=.bool true) rfl rfl hE rfl (KE hE rfl) (fun a hE=>?_)
  refine KG ?_
  refine hK_17 _ _ ?_
  refine Kg ?_
  exact hret _ _ _ true _ hE hR (KM hE rfl (RV.tmp rfl RV.nil)) rfl H
end Gx
namespace Gx
open Go
set_option linter.unusedVariables false
set_option maxRecDepth 100000
def UQ (C24:Int) (C25:Addr) (C26:Int) (Xx23:Bool):M (Bool):=do
 M.ite Xx23 (do
  let Xx28←ldS ((C25).add 2)
  let Xx29←M.ite (sEq Xx28 ByteArray.empty) (do
   let Xx30←ldL ((C25).add 3)
   M.pure ((Xx30.len:Int) == 0)
   ) (do
   M.pure false
   )
  let Xx31←M.ite Xx29 (do
   let Xx32←ldI .i64 ((C25).add 1)
   M.pure (decide (Xx32 ≥ 1))
   ) (do
   M.pure false
   )
  let Xx33←M.ite Xx31 (do
   let Xx34←ldI .i64 ((C25).add 1)
   M.pure (decide (Xx34≤281474976710656))
   ) (do
   M.pure false
   )
  M.pure Xx33
  ) (do
  M.ite (C26 == 2) (do
   let Xx37←ldI .i64 ((C25).add 1)
   let Xx38←M.ite (Xx37 == 0) (do
    let Xx39←ldL ((C25).add 3)
    M.pure ((Xx39.len:Int) == 0)
    ) (do
    M.pure false
    )
   let Xx40←M.ite Xx38 (do
    let Xx41←ldS ((C25).add 2)
    M.pure (decide ((Xx41.size:Int)≤128))
    ) (do
    M.pure false
    )
   M.pure Xx40
   ) (do
   M.ite (C26 == 4) (do
    let Xx44←ldI .i64 ((C25).add 1)
    let Xx45←M.ite (Xx44 == 0) (do
     let Xx46←ldS ((C25).add 2)
     M.pure (sEq Xx46 ByteArray.empty)
     ) (do
     M.pure false
     )
    let Xx47←M.ite Xx45 (do
     let Xx48←ldL ((C25).add 3)
     M.pure (decide ((Xx48.len:Int)≤256))
     ) (do
     M.pure false
     )
    let Xx49←M.ite Xx47 (do
     let Xx50←ldL ((C25).add 3)
     let Xx51←NY Go.Proofs.Tryz.prog Wg #[(Xx50:Sl).v,.int .i64 C24] (fun r:Bool=>.bool r)
     M.pure Xx51
     ) (do
     M.pure false
     )
    M.pure Xx49
    ) (do
    M.ite (C26 == 5) (do
     let Xx54←ldI .i64 ((C25).add 1)
     let Xx55←M.ite (Xx54 == 0) (do
      let Xx56←ldS ((C25).add 2)
      M.pure (sEq Xx56 ByteArray.empty)
      ) (do
      M.pure false
      )
     let Xx57←M.ite Xx55 (do
      let Xx58←ldL ((C25).add 3)
      M.pure (decide ((Xx58.len:Int)≤512))
      ) (do
      M.pure false
      )
     let Xx59←M.ite Xx57 (do
      let Xx60←ldL ((C25).add 3)
      M.pure ((Int.tmod (Xx60.len:Int) 2) == 0)
      ) (do
      M.pure false
      )
     let Xx61←M.ite Xx59 (do
      let Xx62←ldL ((C25).add 3)
      let Xx63←NY Go.Proofs.Tryz.prog Wg #[(Xx62:Sl).v,.int .i64 C24] (fun r:Bool=>.bool r)
      M.pure Xx63
      ) (do
      M.pure false
      )
     let Xx64←M.ite Xx61 (do
      let Xx65←ldL ((C25).add 3)
      let Xx66←U9 Xx65
      M.pure Xx66
      ) (do
      M.pure false
      )
     M.pure Xx64
     ) (do
     M.pure false
     )
    )
   )
  )
def Uh (x0:Array Value) (x1:Int):M (Bool):=do
 let Xx2←mkB KJ x0
 M.ite (decide (x1 ≥ 8)) (do
  M.pure false
  ) (do
  let Xx8←ldI .i64 ((Xx2).add 0)
  M.ite (Xx8 == 1) (do
   let Xx11←ldS ((Xx2).add 2)
   let Xx12←M.ite (sEq Xx11 ByteArray.empty) (do
    let Xx13←ldL ((Xx2).add 3)
    M.pure ((Xx13.len:Int) == 0)
    ) (do
    M.pure false
    )
   M.pure Xx12
   ) (do
   M.ite (Xx8 == 3) (do
    let Xx16←ldS ((Xx2).add 2)
    let Xx17←M.ite (sEq Xx16 ByteArray.empty) (do
     let Xx18←ldL ((Xx2).add 3)
     M.pure ((Xx18.len:Int) == 0)
     ) (do
     M.pure false
     )
    let Xx19←M.ite Xx17 (do
     let Xx20←ldI .i64 ((Xx2).add 1)
     let Xx21←M.ite (Xx20 == 0) (do
      M.pure true
      ) (do
      let Xx22←ldI .i64 ((Xx2).add 1)
      M.pure (Xx22 == 1)
      )
     M.pure Xx21
     ) (do
     M.pure false
     )
    M.pure Xx19
    ) (do
    M.ite (Xx8 == 6) (do
     UQ x1 Xx2 Xx8 (Xx8 == 6)
     ) (do
     UQ x1 Xx2 Xx8 (Xx8 == 7)
     )
    )
   )
  )
theorem Xz (x0:Array Value) (x1:Int):ZK Go.Proofs.Tryz.prog 84 #[.agg x0,.int .i64 x1] (fun (r:Bool)=>.bool r) (Uh x0 x1):=by
 refine KY [(0,.agg x0),(1,.int .i64 x1)] Go.Proofs.Tryz.func84 rfl rfl (Nat.le_of_ble_eq_true rfl) (Ke ⟨rfl,rfl,trivial⟩) (fun w0 w Q R a hret hE hR H=>?_)
 unfold Uh at H
 refine KH (fun K hK_1=>?_)
 refine KC ?_
 obtain ⟨Xx2,qXx2,H⟩:=H
 refine ZR (v:=.pointer (some Xx2)) rfl rfl hE rfl hR (YP hE rfl qXx2) (fun a w hE hR hh=>?_)
 replace H:=M.at hh H; clear hh
 refine KB (v:=.bool false) rfl rfl hE rfl (KE hE rfl) (fun a hE=>?_)
 refine KG ?_
 refine hK_1 _ _ ?_
 refine KH (fun K hK_3=>?_)
 refine KH (fun K hK_4=>?_)
 refine KC ?_
 refine KB (v:=.int .i64 x1) rfl rfl hE rfl (KD hE rfl) (fun a hE=>?_)
 refine KB (v:=.bool (decide (x1 ≥ 8))) rfl rfl hE rfl (KL hE rfl rfl KN YJ) (fun a hE=>?_)
 refine KG ?_
 refine hK_4 _ _ ?_
 refine KS (decide (x1 ≥ 8)) hE rfl (fun hb=>?_) (fun hb=>?_)
 ·replace H:=M.ite_t hb H
  refine KH (fun K hK_5=>?_)
  refine KC ?_
  refine KB (v:=.bool false) rfl rfl hE rfl (KE hE rfl) (fun a hE=>?_)
  refine KG ?_
  refine hK_5 _ _ ?_
  refine Kg ?_
  exact hret _ _ _ false _ hE hR (KM hE rfl (RV.tmp rfl RV.nil)) rfl H
 ·replace H:=M.ite_f hb H
  refine Ka ?_
  refine hK_3 _ _ ?_
  refine KH (fun K hK_6=>?_)
  refine KH (fun K hK_7=>?_)
  refine KC ?_
  refine KB (v:=.pointer (some ((Xx2).add 0))) rfl rfl hE rfl (KI hE rfl qK) (fun a hE=>?_)
  obtain ⟨Xx8,qXx8,H⟩:=H
  refine KB (v:=.int .i64 Xx8) rfl rfl hE rfl (KU hE rfl sc3 qXx8) (fun a hE=>?_)
  refine KG ?_
  refine hK_7 _ _ ?_
  refine Kj ?_
  refine KH (fun K hK_9=>?_)
  refine KC ?_
  refine KB (v:=.bool (Xx8 == 1)) rfl rfl hE rfl (KL hE rfl rfl KN Z5) (fun a hE=>?_)
  refine KB (v:=.bool (Xx8 == 1)) rfl rfl hE rfl (KE hE rfl) (fun a hE=>?_)
  refine KG ?_
  refine hK_9 _ _ ?_
  refine KS (Xx8 == 1) hE rfl (fun hb=>?_) (fun hb=>?_)
  ·replace H:=M.ite_t hb H
   refine KH (fun K hK_10=>?_)
   refine KC ?_
   refine KB (v:=.pointer (some ((Xx2).add 2))) rfl rfl hE rfl (KI hE rfl XV) (fun a hE=>?_)
   obtain ⟨Xx11,qXx11,H⟩:=H
   refine KB (v:=.string Xx11) rfl rfl hE rfl (KU hE rfl sc9 qXx11) (fun a hE=>?_)
   refine KB (v:=.bool (sEq Xx11 ByteArray.empty)) rfl rfl hE rfl (KL hE rfl rfl Xc N4) (fun a hE=>?_)
   refine KB (v:=.bool (sEq Xx11 ByteArray.empty)) rfl rfl hE rfl (KD hE rfl) (fun a hE=>?_)
   refine J5 (n:=(⟨136,[]⟩:Frm)) (w0:=w0) 5 (fun Xx12:Bool=>[(4,.bool false),(19,.bool Xx12)]) (M.unbind H) (fun Kr hKr H=>?_) ?_
   ·rcases Kq (sEq Xx11 ByteArray.empty) with hb | hb
    ·replace H:=M.ite_t hb H
     have hE:=hE.reb 14 (sEq Xx11 ByteArray.empty) true hb rfl
     refine t_on rfl hE rfl rfl rfl ?_
     refine KB (v:=.pointer (some ((Xx2).add 3))) rfl rfl hE rfl (KI hE rfl UU) (fun a hE=>?_)
     refine t_on rfl hE rfl rfl rfl ?_
     obtain ⟨Xx13,qXx13,H⟩:=H
     refine KB (v:=(Xx13:Sl).v) rfl rfl hE rfl (KU hE rfl sc22 qXx13) (fun a hE=>?_)
     refine t_on rfl hE rfl rfl rfl ?_
     refine KB (v:=.int .i64 (Xx13.len:Int)) rfl rfl hE rfl (UA hE rfl 24 un22) (fun a hE=>?_)
     refine t_on rfl hE rfl rfl rfl ?_
     refine KB (v:=.bool ((Xx13.len:Int) == 0)) rfl rfl hE rfl (KL hE rfl rfl KN Z5) (fun a hE=>?_)
     refine KB rfl rfl hE rfl (Kc hE rfl rfl) (fun a hE=>?_)
     refine KG ?_
     exact hKr _ _ _ (hE.cut (.cons rfl (.cons rfl Subs.nil))) hR H
    ·replace H:=M.ite_f hb H
     have hE:=hE.reb 14 (sEq Xx11 ByteArray.empty) false hb rfl
     refine Kf rfl hE rfl rfl rfl (fun a ea=>?_)
     have hE:=Env.put_some hE rfl ea; clear ea
     refine Kf rfl hE rfl rfl rfl (fun a ea=>?_)
     have hE:=Env.put_some hE rfl ea; clear ea
     refine Kf rfl hE rfl rfl rfl (fun a ea=>?_)
     have hE:=Env.put_some hE rfl ea; clear ea
     refine Kf rfl hE rfl rfl rfl (fun a ea=>?_)
     have hE:=Env.put_some hE rfl ea; clear ea
     refine KB rfl rfl hE rfl (Kd hE rfl rfl) (fun a hE=>?_)
     refine KG ?_
     exact hKr _ _ _ (hE.cut (.cons rfl (.cons rfl Subs.nil))) hR H
   ·intro Xx12 a w hE hR H
    refine KB (v:=.bool Xx12) rfl rfl hE rfl (KE hE rfl) (fun a hE=>?_)
    refine KG ?_
    refine hK_10 _ _ ?_
    refine Kg ?_
    exact hret _ _ _ Xx12 _ hE hR (KM hE rfl (RV.tmp rfl RV.nil)) rfl H
  ·replace H:=M.ite_f hb H
   refine KH (fun K hK_14=>?_)
   refine KC ?_
   refine KB (v:=.bool (Xx8 == 3)) rfl rfl hE rfl (KL hE rfl rfl KN Z5) (fun a hE=>?_)
   refine KB (v:=.bool (Xx8 == 3)) rfl rfl hE rfl (KE hE rfl) (fun a hE=>?_)
   refine KG ?_
   refine hK_14 _ _ ?_
   refine KS (Xx8 == 3) hE rfl (fun hb=>?_) (fun hb=>?_)
   ·replace H:=M.ite_t hb H
    refine KH (fun K hK_15=>?_)
    refine KC ?_
    refine KB (v:=.pointer (some ((Xx2).add 2))) rfl rfl hE rfl (KI hE rfl XV) (fun a hE=>?_)
    obtain ⟨Xx16,qXx16,H⟩:=H
    refine KB (v:=.string Xx16) rfl rfl hE rfl (KU hE rfl sc9 qXx16) (fun a hE=>?_)
    refine KB (v:=.bool (sEq Xx16 ByteArray.empty)) rfl rfl hE rfl (KL hE rfl rfl Xc N4) (fun a hE=>?_)
    refine KB (v:=.bool (sEq Xx16 ByteArray.empty)) rfl rfl hE rfl (KD hE rfl) (fun a hE=>?_)
    refine J5 (n:=(⟨136,[]⟩:Frm)) (w0:=w0) 5 (fun Xx17:Bool=>[(2,.pointer (some Xx2)),(4,.bool false),(30,.bool Xx17)]) (M.unbind H) (fun Kr hKr H=>?_) ?_
    ·rcases Kq (sEq Xx16 ByteArray.empty) with hb | hb
     ·replace H:=M.ite_t hb H
      have hE:=hE.reb 25 (sEq Xx16 ByteArray.empty) true hb rfl
      refine t_on rfl hE rfl rfl rfl ?_
      refine KB (v:=.pointer (some ((Xx2).add 3))) rfl rfl hE rfl (KI hE rfl UU) (fun a hE=>?_)
      refine t_on rfl hE rfl rfl rfl ?_
      obtain ⟨Xx18,qXx18,H⟩:=H
      refine KB (v:=(Xx18:Sl).v) rfl rfl hE rfl (KU hE rfl sc22 qXx18) (fun a hE=>?_)
      refine t_on rfl hE rfl rfl rfl ?_
      refine KB (v:=.int .i64 (Xx18.len:Int)) rfl rfl hE rfl (UA hE rfl 24 un22) (fun a hE=>?_)
      refine t_on rfl hE rfl rfl rfl ?_
      refine KB (v:=.bool ((Xx18.len:Int) == 0)) rfl rfl hE rfl (KL hE rfl rfl KN Z5) (fun a hE=>?_)
      refine KB rfl rfl hE rfl (Kc hE rfl rfl) (fun a hE=>?_)
      refine KG ?_
      exact hKr _ _ _ (hE.cut (.cons rfl (.cons rfl (.cons rfl Subs.nil)))) hR H
     ·replace H:=M.ite_f hb H
      have hE:=hE.reb 25 (sEq Xx16 ByteArray.empty) false hb rfl
      refine Kf rfl hE rfl rfl rfl (fun a ea=>?_)
      have hE:=Env.put_some hE rfl ea; clear ea
      refine Kf rfl hE rfl rfl rfl (fun a ea=>?_)
      have hE:=Env.put_some hE rfl ea; clear ea
      refine Kf rfl hE rfl rfl rfl (fun a ea=>?_)
      have hE:=Env.put_some hE rfl ea; clear ea
      refine Kf rfl hE rfl rfl rfl (fun a ea=>?_)
      have hE:=Env.put_some hE rfl ea; clear ea
      refine KB rfl rfl hE rfl (Kd hE rfl rfl) (fun a hE=>?_)
      refine KG ?_
      exact hKr _ _ _ (hE.cut (.cons rfl (.cons rfl (.cons rfl Subs.nil)))) hR H
    ·intro Xx17 a w hE hR H
     refine KB (v:=.bool Xx17) rfl rfl hE rfl (KD hE rfl) (fun a hE=>?_)
     refine J5 (n:=(⟨136,[]⟩:Frm)) (w0:=w0) 9 (fun Xx19:Bool=>[(4,.bool false),(40,.bool Xx19)]) (M.unbind H) (fun Kr hKr H=>?_) ?_
     ·rcases Kq Xx17 with hb | hb
      ·replace H:=M.ite_t hb H
       have hE:=hE.reb 31 Xx17 true hb rfl
       refine t_on rfl hE rfl rfl rfl ?_
       refine KB (v:=.pointer (some ((Xx2).add 1))) rfl rfl hE rfl (KI hE rfl Vy) (fun a hE=>?_)
       refine t_on rfl hE rfl rfl rfl ?_
       obtain ⟨Xx20,qXx20,H⟩:=H
       refine KB (v:=.int .i64 Xx20) rfl rfl hE rfl (KU hE rfl sc2 qXx20) (fun a hE=>?_)
       refine t_on rfl hE rfl rfl rfl ?_
       refine KB (v:=.bool (Xx20 == 0)) rfl rfl hE rfl (KL hE rfl rfl KN Z5) (fun a hE=>?_)
       refine t_on rfl hE rfl rfl rfl ?_
       refine KB (v:=.bool (Xx20 == 0)) rfl rfl hE rfl (KD hE rfl) (fun a hE=>?_)
       refine J5 (n:=(⟨136,[]⟩:Frm)) (w0:=w0) 4 (fun Xx21:Bool=>[(4,.bool false),(31,.bool true),(39,.bool Xx21)]) (M.unbind H) (fun Kr hKr H=>?_) ?_
       ·rcases Kq (Xx20 == 0) with hb | hb
        ·replace H:=M.ite_t hb H
         have hE:=hE.reb 35 (Xx20 == 0) true hb rfl
         refine Kf rfl hE rfl rfl rfl (fun a ea=>?_)
         have hE:=Env.put_some hE rfl ea; clear ea
         refine Kf rfl hE rfl rfl rfl (fun a ea=>?_)
         have hE:=Env.put_some hE rfl ea; clear ea
         refine Kf rfl hE rfl rfl rfl (fun a ea=>?_)
         have hE:=Env.put_some hE rfl ea; clear ea
         refine t_on rfl hE rfl rfl rfl ?_
         refine KB rfl rfl hE rfl (Kc hE rfl rfl) (fun a hE=>?_)
         refine KG ?_
         exact hKr _ _ _ (hE.cut (.cons rfl (.cons rfl (.cons rfl Subs.nil)))) hR H
        ·replace H:=M.ite_f hb H
         have hE:=hE.reb 35 (Xx20 == 0) false hb rfl
         refine t_on rfl hE rfl rfl rfl ?_
         refine KB (v:=.pointer (some ((Xx2).add 1))) rfl rfl hE rfl (KI hE rfl Vy) (fun a hE=>?_)
         refine t_on rfl hE rfl rfl rfl ?_
         obtain ⟨Xx22,qXx22,H⟩:=H
         refine KB (v:=.int .i64 Xx22) rfl rfl hE rfl (KU hE rfl sc2 qXx22) (fun a hE=>?_)
         refine t_on rfl hE rfl rfl rfl ?_
         refine KB (v:=.bool (Xx22 == 1)) rfl rfl hE rfl (KL hE rfl rfl KN Z5) (fun a hE=>?_)
         refine t_on rfl hE rfl rfl rfl ?_
         refine KB rfl rfl hE rfl (Kd hE rfl rfl) (fun a hE=>?_)
         refine KG ?_
         exact hKr _ _ _ (hE.cut (.cons rfl (.cons rfl (.cons rfl Subs.nil)))) hR H
       ·intro Xx21 a w hE hR H
        refine KB rfl rfl hE rfl (Kc hE rfl rfl) (fun a hE=>?_)
        refine KG ?_
        exact hKr _ _ _ (hE.cut (.cons rfl (.cons rfl Subs.nil))) hR H
      ·replace H:=M.ite_f hb H
       have hE:=hE.reb 31 Xx17 false hb rfl
       refine Kf rfl hE rfl rfl rfl (fun a ea=>?_)
       have hE:=Env.put_some hE rfl ea; clear ea
       refine Kf rfl hE rfl rfl rfl (fun a ea=>?_)
       have hE:=Env.put_some hE rfl ea; clear ea
       refine Kf rfl hE rfl rfl rfl (fun a ea=>?_)
       have hE:=Env.put_some hE rfl ea; clear ea
       refine Kf rfl hE rfl rfl rfl (fun a ea=>?_)
       have hE:=Env.put_some hE rfl ea; clear ea
       refine Ge rfl hE rfl rfl (fun b hb=>by cases hb) (fun a ea=>?_)
       have hE:=Env.put_some hE rfl ea; clear ea
       refine Ge rfl hE rfl rfl (fun b hb=>by cases hb) (fun a ea=>?_)
       have hE:=Env.put_some hE rfl ea; clear ea
       refine Ge rfl hE rfl rfl (fun b hb=>by cases hb) (fun a ea=>?_)
       have hE:=Env.put_some hE rfl ea; clear ea
       refine Kf rfl hE rfl rfl rfl (fun a ea=>?_)
       have hE:=Env.put_some hE rfl ea; clear ea
       refine KB rfl rfl hE rfl (Kd hE rfl rfl) (fun a hE=>?_)
       refine KG ?_
       exact hKr _ _ _ (hE.cut (.cons rfl (.cons rfl Subs.nil))) hR H
     ·intro Xx19 a w hE hR H
      refine KB (v:=.bool Xx19) rfl rfl hE rfl (KE hE rfl) (fun a hE=>?_)
      refine KG ?_
      refine hK_15 _ _ ?_
      refine Kg ?_
      exact hret _ _ _ Xx19 _ hE hR (KM hE rfl (RV.tmp rfl RV.nil)) rfl H
   ·replace H:=M.ite_f hb H
    refine Ku (fun a w=>∃ (Xx23:Bool),Env (⟨136,[]⟩:Frm) a [(1,.int .i64 x1),(2,.pointer (some Xx2)),(8,.int .i64 Xx8),(41,.bool Xx23)]∧Rest w0 w∧(UQ x1 Xx2 Xx8 Xx23).wp w.heap Q) ?_ ?_
    ·rintro a w ⟨Xx23,hE,hR,H⟩
     unfold UQ at H
     refine KS Xx23 hE rfl (fun hb=>?_) (fun hb=>?_)
     ·replace H:=M.ite_t hb H
      refine KH (fun K hK_27=>?_)
      refine KC ?_
      refine KB (v:=.pointer (some ((Xx2).add 2))) rfl rfl hE rfl (KI hE rfl XV) (fun a hE=>?_)
      obtain ⟨Xx28,qXx28,H⟩:=H
      refine KB (v:=.string Xx28) rfl rfl hE rfl (KU hE rfl sc9 qXx28) (fun a hE=>?_)
      refine KB (v:=.bool (sEq Xx28 ByteArray.empty)) rfl rfl hE rfl (KL hE rfl rfl Xc N4) (fun a hE=>?_)
      refine KB (v:=.bool (sEq Xx28 ByteArray.empty)) rfl rfl hE rfl (KD hE rfl) (fun a hE=>?_)
      refine J5 (n:=(⟨136,[]⟩:Frm)) (w0:=w0) 5 (fun Xx29:Bool=>[(2,.pointer (some Xx2)),(52,.bool Xx29)]) (M.unbind H) (fun Kr hKr H=>?_) ?_
      ·rcases Kq (sEq Xx28 ByteArray.empty) with hb | hb
       ·replace H:=M.ite_t hb H
        have hE:=hE.reb 47 (sEq Xx28 ByteArray.empty) true hb rfl
        refine t_on rfl hE rfl rfl rfl ?_
        refine KB (v:=.pointer (some ((Xx2).add 3))) rfl rfl hE rfl (KI hE rfl UU) (fun a hE=>?_)
        refine t_on rfl hE rfl rfl rfl ?_
        obtain ⟨Xx30,qXx30,H⟩:=H
        refine KB (v:=(Xx30:Sl).v) rfl rfl hE rfl (KU hE rfl sc22 qXx30) (fun a hE=>?_)
        refine t_on rfl hE rfl rfl rfl ?_
        refine KB (v:=.int .i64 (Xx30.len:Int)) rfl rfl hE rfl (UA hE rfl 24 un22) (fun a hE=>?_)
        refine t_on rfl hE rfl rfl rfl ?_
        refine KB (v:=.bool ((Xx30.len:Int) == 0)) rfl rfl hE rfl (KL hE rfl rfl KN Z5) (fun a hE=>?_)
        refine KB rfl rfl hE rfl (Kc hE rfl rfl) (fun a hE=>?_)
        refine KG ?_
        exact hKr _ _ _ (hE.cut (.cons rfl (.cons rfl Subs.nil))) hR H
       ·replace H:=M.ite_f hb H
        have hE:=hE.reb 47 (sEq Xx28 ByteArray.empty) false hb rfl
        refine Kf rfl hE rfl rfl rfl (fun a ea=>?_)
        have hE:=Env.put_some hE rfl ea; clear ea
        refine Kf rfl hE rfl rfl rfl (fun a ea=>?_)
        have hE:=Env.put_some hE rfl ea; clear ea
        refine Kf rfl hE rfl rfl rfl (fun a ea=>?_)
        have hE:=Env.put_some hE rfl ea; clear ea
        refine Kf rfl hE rfl rfl rfl (fun a ea=>?_)
        have hE:=Env.put_some hE rfl ea; clear ea
        refine KB rfl rfl hE rfl (Kd hE rfl rfl) (fun a hE=>?_)
        refine KG ?_
        exact hKr _ _ _ (hE.cut (.cons rfl (.cons rfl Subs.nil))) hR H
      ·intro Xx29 a w hE hR H
       refine KB (v:=.bool Xx29) rfl rfl hE rfl (KD hE rfl) (fun a hE=>?_)
       refine J5 (n:=(⟨136,[]⟩:Frm)) (w0:=w0) 4 (fun Xx31:Bool=>[(2,.pointer (some Xx2)),(57,.bool Xx31)]) (M.unbind H) (fun Kr hKr H=>?_) ?_
       ·rcases Kq Xx29 with hb | hb
        ·replace H:=M.ite_t hb H
         have hE:=hE.reb 53 Xx29 true hb rfl
         refine t_on rfl hE rfl rfl rfl ?_
         refine KB (v:=.pointer (some ((Xx2).add 1))) rfl rfl hE rfl (KI hE rfl Vy) (fun a hE=>?_)
         refine t_on rfl hE rfl rfl rfl ?_
         obtain ⟨Xx32,qXx32,H⟩:=H
         refine KB (v:=.int .i64 Xx32) rfl rfl hE rfl (KU hE rfl sc2 qXx32) (fun a hE=>?_)
         refine t_on rfl hE rfl rfl rfl ?_
         refine KB (v:=.bool (decide (Xx32 ≥ 1))) rfl rfl hE rfl (KL hE rfl rfl KN YJ) (fun a hE=>?_)
         refine KB rfl rfl hE rfl (Kc hE rfl rfl) (fun a hE=>?_)
         refine KG ?_
         exact hKr _ _ _ (hE.cut (.cons rfl (.cons rfl Subs.nil))) hR H
        ·replace H:=M.ite_f hb H
         have hE:=hE.reb 53 Xx29 false hb rfl
         refine Kf rfl hE rfl rfl rfl (fun a ea=>?_)
         have hE:=Env.put_some hE rfl ea; clear ea
         refine Kf rfl hE rfl rfl rfl (fun a ea=>?_)
         have hE:=Env.put_some hE rfl ea; clear ea
         refine Kf rfl hE rfl rfl rfl (fun a ea=>?_)
         have hE:=Env.put_some hE rfl ea; clear ea
         refine KB rfl rfl hE rfl (Kd hE rfl rfl) (fun a hE=>?_)
         refine KG ?_
         exact hKr _ _ _ (hE.cut (.cons rfl (.cons rfl Subs.nil))) hR H
       ·intro Xx31 a w hE hR H
        refine KB (v:=.bool Xx31) rfl rfl hE rfl (KD hE rfl) (fun a hE=>?_)
        refine J5 (n:=(⟨136,[]⟩:Frm)) (w0:=w0) 4 (fun Xx33:Bool=>[(62,.bool Xx33)]) (M.unbind H) (fun Kr hKr H=>?_) ?_
        ·rcases Kq Xx31 with hb | hb
         ·replace H:=M.ite_t hb H
          have hE:=hE.reb 58 Xx31 true hb rfl
          refine t_on rfl hE rfl rfl rfl ?_
          refine KB (v:=.pointer (some ((Xx2).add 1))) rfl rfl hE rfl (KI hE rfl Vy) (fun a hE=>?_)
          refine t_on rfl hE rfl rfl rfl ?_
          obtain ⟨Xx34,qXx34,H⟩:=H
          refine KB (v:=.int .i64 Xx34) rfl rfl hE rfl (KU hE rfl sc2 qXx34) (fun a hE=>?_)
          refine t_on rfl hE rfl rfl rfl ?_
          refine KB (v:=.bool (decide (Xx34≤281474976710656))) rfl rfl hE rfl (KL hE rfl rfl KN KAC) (fun a hE=>?_)
          refine KB rfl rfl hE rfl (Kc hE rfl rfl) (fun a hE=>?_)
          refine KG ?_
          exact hKr _ _ _ (hE.cut (.cons rfl Subs.nil)) hR H
         ·replace H:=M.ite_f hb H
          have hE:=hE.reb 58 Xx31 false hb rfl
          refine Kf rfl hE rfl rfl rfl (fun a ea=>?_)
          have hE:=Env.put_some hE rfl ea; clear ea
          refine Kf rfl hE rfl rfl rfl (fun a ea=>?_)
          have hE:=Env.put_some hE rfl ea; clear ea
          refine Kf rfl hE rfl rfl rfl (fun a ea=>?_)
          have hE:=Env.put_some hE rfl ea; clear ea
          refine KB rfl rfl hE rfl (Kd hE rfl rfl) (fun a hE=>?_)
          refine KG ?_
          exact hKr _ _ _ (hE.cut (.cons rfl Subs.nil)) hR H
        ·intro Xx33 a w hE hR H
         refine KB (v:=.bool Xx33) rfl rfl hE rfl (KE hE rfl) (fun a hE=>?_)
         refine KG ?_
         refine hK_27 _ _ ?_
         refine Kg ?_
         exact hret _ _ _ Xx33 _ hE hR (KM hE rfl (RV.tmp rfl RV.nil)) rfl H
     ·replace H:=M.ite_f hb H
      refine KH (fun K hK_35=>?_)
      refine KC ?_
      refine KB (v:=.bool (Xx8 == 2)) rfl rfl hE rfl (KL hE rfl rfl KN Z5) (fun a hE=>?_)
      refine KB (v:=.bool (Xx8 == 2)) rfl rfl hE rfl (KE hE rfl) (fun a hE=>?_)
      refine KG ?_
      refine hK_35 _ _ ?_
      refine KS (Xx8 == 2) hE rfl (fun hb=>?_) (fun hb=>?_)
      ·replace H:=M.ite_t hb H
       refine KH (fun K hK_36=>?_)
       refine KC ?_
       refine KB (v:=.pointer (some ((Xx2).add 1))) rfl rfl hE rfl (KI hE rfl Vy) (fun a hE=>?_)
       obtain ⟨Xx37,qXx37,H⟩:=H
       refine KB (v:=.int .i64 Xx37) rfl rfl hE rfl (KU hE rfl sc2 qXx37) (fun a hE=>?_)
       refine KB (v:=.bool (Xx37 == 0)) rfl rfl hE rfl (KL hE rfl rfl KN Z5) (fun a hE=>?_)
       refine KB (v:=.bool (Xx37 == 0)) rfl rfl hE rfl (KD hE rfl) (fun a hE=>?_)
       refine J5 (n:=(⟨136,[]⟩:Frm)) (w0:=w0) 5 (fun Xx38:Bool=>[(2,.pointer (some Xx2)),(73,.bool Xx38)]) (M.unbind H) (fun Kr hKr H=>?_) ?_
       ·rcases Kq (Xx37 == 0) with hb | hb
        ·replace H:=M.ite_t hb H
         have hE:=hE.reb 68 (Xx37 == 0) true hb rfl
         refine t_on rfl hE rfl rfl rfl ?_
         refine KB (v:=.pointer (some ((Xx2).add 3))) rfl rfl hE rfl (KI hE rfl UU) (fun a hE=>?_)
         refine t_on rfl hE rfl rfl rfl ?_
         obtain ⟨Xx39,qXx39,H⟩:=H
         refine KB (v:=(Xx39:Sl).v) rfl rfl hE rfl (KU hE rfl sc22 qXx39) (fun a hE=>?_)
         refine t_on rfl hE rfl rfl rfl ?_
         refine KB (v:=.int .i64 (Xx39.len:Int)) rfl rfl hE rfl (UA hE rfl 24 un22) (fun a hE=>?_)
         refine t_on rfl hE rfl rfl rfl ?_
         refine KB (v:=.bool ((Xx39.len:Int) == 0)) rfl rfl hE rfl (KL hE rfl rfl KN Z5) (fun a hE=>?_)
         refine KB rfl rfl hE rfl (Kc hE rfl rfl) (fun a hE=>?_)
         refine KG ?_
         exact hKr _ _ _ (hE.cut (.cons rfl (.cons rfl Subs.nil))) hR H
        ·replace H:=M.ite_f hb H
         have hE:=hE.reb 68 (Xx37 == 0) false hb rfl
         refine Kf rfl hE rfl rfl rfl (fun a ea=>?_)
         have hE:=Env.put_some hE rfl ea; clear ea
         refine Kf rfl hE rfl rfl rfl (fun a ea=>?_)
         have hE:=Env.put_some hE rfl ea; clear ea
         refine Kf rfl hE rfl rfl rfl (fun a ea=>?_)
         have hE:=Env.put_some hE rfl ea; clear ea
         refine Kf rfl hE rfl rfl rfl (fun a ea=>?_)
         have hE:=Env.put_some hE rfl ea; clear ea
         refine KB rfl rfl hE rfl (Kd hE rfl rfl) (fun a hE=>?_)
         refine KG ?_
         exact hKr _ _ _ (hE.cut (.cons rfl (.cons rfl Subs.nil))) hR H
       ·intro Xx38 a w hE hR H
        refine KB (v:=.bool Xx38) rfl rfl hE rfl (KD hE rfl) (fun a hE=>?_)
        refine J5 (n:=(⟨136,[]⟩:Frm)) (w0:=w0) 5 (fun Xx40:Bool=>[(79,.bool Xx40)]) (M.unbind H) (fun Kr hKr H=>?_) ?_
        ·rcases Kq Xx38 with hb | hb
         ·replace H:=M.ite_t hb H
          have hE:=hE.reb 74 Xx38 true hb rfl
          refine t_on rfl hE rfl rfl rfl ?_
          refine KB (v:=.pointer (some ((Xx2).add 2))) rfl rfl hE rfl (KI hE rfl XV) (fun a hE=>?_)
          refine t_on rfl hE rfl rfl rfl ?_
          obtain ⟨Xx41,qXx41,H⟩:=H
          refine KB (v:=.string Xx41) rfl rfl hE rfl (KU hE rfl sc9 qXx41) (fun a hE=>?_)
          refine t_on rfl hE rfl rfl rfl ?_
          refine KB (v:=.int .i64 (Xx41.size:Int)) rfl rfl hE rfl (U3 hE rfl un9) (fun a hE=>?_)
          refine t_on rfl hE rfl rfl rfl ?_
          refine KB (v:=.bool (decide ((Xx41.size:Int)≤128))) rfl rfl hE rfl (KL hE rfl rfl KN KAC) (fun a hE=>?_)
          refine KB rfl rfl hE rfl (Kc hE rfl rfl) (fun a hE=>?_)
          refine KG ?_
          exact hKr _ _ _ (hE.cut (.cons rfl Subs.nil)) hR H
         ·replace H:=M.ite_f hb H
          have hE:=hE.reb 74 Xx38 false hb rfl
          refine Kf rfl hE rfl rfl rfl (fun a ea=>?_)
          have hE:=Env.put_some hE rfl ea; clear ea
          refine Kf rfl hE rfl rfl rfl (fun a ea=>?_)
          have hE:=Env.put_some hE rfl ea; clear ea
          refine Kf rfl hE rfl rfl rfl (fun a ea=>?_)
          have hE:=Env.put_some hE rfl ea; clear ea
          refine Kf rfl hE rfl rfl rfl (fun a ea=>?_)
          have hE:=Env.put_some hE rfl ea; clear ea
          refine KB rfl rfl hE rfl (Kd hE rfl rfl) (fun a hE=>?_)
          refine KG ?_
          exact hKr _ _ _ (hE.cut (.cons rfl Subs.nil)) hR H
        ·intro Xx40 a w hE hR H
         refine KB (v:=.bool Xx40) rfl rfl hE rfl (KE hE rfl) (fun a hE=>?_)
         refine KG ?_
         refine hK_36 _ _ ?_
         refine Kg ?_
         exact hret _ _ _ Xx40 _ hE hR (KM hE rfl (RV.tmp rfl RV.nil)) rfl H
      ·replace H:=M.ite_f hb H
       refine KH (fun K hK_42=>?_)
       refine KC ?_
       refine KB (v:=.bool (Xx8 == 4)) rfl rfl hE rfl (KL hE rfl rfl KN Z5) (fun a hE=>?_)
       refine KB (v:=.bool (Xx8 == 4)) rfl rfl hE rfl (KE hE rfl) (fun a hE=>?_)
       refine KG ?_
       refine hK_42 _ _ ?_
       refine KS (Xx8 == 4) hE rfl (fun hb=>?_) (fun hb=>?_)
       ·replace H:=M.ite_t hb H
        refine KH (fun K hK_43=>?_)
        refine KC ?_
        refine KB (v:=.pointer (some ((Xx2).add 1))) rfl rfl hE rfl (KI hE rfl Vy) (fun a hE=>?_)
        obtain ⟨Xx44,qXx44,H⟩:=H
        refine KB (v:=.int .i64 Xx44) rfl rfl hE rfl (KU hE rfl sc2 qXx44) (fun a hE=>?_)
        refine KB (v:=.bool (Xx44 == 0)) rfl rfl hE rfl (KL hE rfl rfl KN Z5) (fun a hE=>?_)
        refine KB (v:=.bool (Xx44 == 0)) rfl rfl hE rfl (KD hE rfl) (fun a hE=>?_)
        refine J5 (n:=(⟨136,[]⟩:Frm)) (w0:=w0) 4 (fun Xx45:Bool=>[(1,.int .i64 x1),(2,.pointer (some Xx2)),(89,.bool Xx45)]) (M.unbind H) (fun Kr hKr H=>?_) ?_
        ·rcases Kq (Xx44 == 0) with hb | hb
         ·replace H:=M.ite_t hb H
          have hE:=hE.reb 85 (Xx44 == 0) true hb rfl
          refine t_on rfl hE rfl rfl rfl ?_
          refine KB (v:=.pointer (some ((Xx2).add 2))) rfl rfl hE rfl (KI hE rfl XV) (fun a hE=>?_)
          refine t_on rfl hE rfl rfl rfl ?_
          obtain ⟨Xx46,qXx46,H⟩:=H
          refine KB (v:=.string Xx46) rfl rfl hE rfl (KU hE rfl sc9 qXx46) (fun a hE=>?_)
          refine t_on rfl hE rfl rfl rfl ?_
          refine KB (v:=.bool (sEq Xx46 ByteArray.empty)) rfl rfl hE rfl (KL hE rfl rfl Xc N4) (fun a hE=>?_)
          refine KB rfl rfl hE rfl (Kc hE rfl rfl) (fun a hE=>?_)
          refine KG ?_
          exact hKr _ _ _ (hE.cut (.cons rfl (.cons rfl (.cons rfl Subs.nil)))) hR H
         ·replace H:=M.ite_f hb H
          have hE:=hE.reb 85 (Xx44 == 0) false hb rfl
          refine Kf rfl hE rfl rfl rfl (fun a ea=>?_)
          have hE:=Env.put_some hE rfl ea; clear ea
          refine Kf rfl hE rfl rfl rfl (fun a ea=>?_)
          have hE:=Env.put_some hE rfl ea; clear ea
          refine Kf rfl hE rfl rfl rfl (fun a ea=>?_)
          have hE:=Env.put_some hE rfl ea; clear ea
          refine KB rfl rfl hE rfl (Kd hE rfl rfl) (fun a hE=>?_)
          refine KG ?_
          exact hKr _ _ _ (hE.cut (.cons rfl (.cons rfl (.cons rfl Subs.nil)))) hR H
        ·intro Xx45 a w hE hR H
         refine KB (v:=.bool Xx45) rfl rfl hE rfl (KD hE rfl) (fun a hE=>?_)
         refine J5 (n:=(⟨136,[]⟩:Frm)) (w0:=w0) 5 (fun Xx47:Bool=>[(1,.int .i64 x1),(2,.pointer (some Xx2)),(95,.bool Xx47)]) (M.unbind H) (fun Kr hKr H=>?_) ?_
         ·rcases Kq Xx45 with hb | hb
          ·replace H:=M.ite_t hb H
           have hE:=hE.reb 90 Xx45 true hb rfl
           refine t_on rfl hE rfl rfl rfl ?_
           refine KB (v:=.pointer (some ((Xx2).add 3))) rfl rfl hE rfl (KI hE rfl UU) (fun a hE=>?_)
           refine t_on rfl hE rfl rfl rfl ?_
           obtain ⟨Xx48,qXx48,H⟩:=H
           refine KB (v:=(Xx48:Sl).v) rfl rfl hE rfl (KU hE rfl sc22 qXx48) (fun a hE=>?_)
           refine t_on rfl hE rfl rfl rfl ?_
           refine KB (v:=.int .i64 (Xx48.len:Int)) rfl rfl hE rfl (UA hE rfl 24 un22) (fun a hE=>?_)
           refine t_on rfl hE rfl rfl rfl ?_
           refine KB (v:=.bool (decide ((Xx48.len:Int)≤256))) rfl rfl hE rfl (KL hE rfl rfl KN KAC) (fun a hE=>?_)
           refine KB rfl rfl hE rfl (Kc hE rfl rfl) (fun a hE=>?_)
           refine KG ?_
           exact hKr _ _ _ (hE.cut (.cons rfl (.cons rfl (.cons rfl Subs.nil)))) hR H
          ·replace H:=M.ite_f hb H
           have hE:=hE.reb 90 Xx45 false hb rfl
           refine Kf rfl hE rfl rfl rfl (fun a ea=>?_)
           have hE:=Env.put_some hE rfl ea; clear ea
           refine Kf rfl hE rfl rfl rfl (fun a ea=>?_)
           have hE:=Env.put_some hE rfl ea; clear ea
           refine Kf rfl hE rfl rfl rfl (fun a ea=>?_)
           have hE:=Env.put_some hE rfl ea; clear ea
           refine Kf rfl hE rfl rfl rfl (fun a ea=>?_)
           have hE:=Env.put_some hE rfl ea; clear ea
           refine KB rfl rfl hE rfl (Kd hE rfl rfl) (fun a hE=>?_)
           refine KG ?_
           exact hKr _ _ _ (hE.cut (.cons rfl (.cons rfl (.cons rfl Subs.nil)))) hR H
         ·intro Xx47 a w hE hR H
          refine KB (v:=.bool Xx47) rfl rfl hE rfl (KD hE rfl) (fun a hE=>?_)
          refine J5 (n:=(⟨136,[]⟩:Frm)) (w0:=w0) 5 (fun Xx49:Bool=>[(101,.bool Xx49)]) (M.unbind H) (fun Kr hKr H=>?_) ?_
          ·rcases Kq Xx47 with hb | hb
           ·replace H:=M.ite_t hb H
            have hE:=hE.reb 96 Xx47 true hb rfl
            refine t_on rfl hE rfl rfl rfl ?_
            refine KB (v:=.pointer (some ((Xx2).add 3))) rfl rfl hE rfl (KI hE rfl UU) (fun a hE=>?_)
            refine t_on rfl hE rfl rfl rfl ?_
            obtain ⟨Xx50,qXx50,H⟩:=H
            refine KB (v:=(Xx50:Sl).v) rfl rfl hE rfl (KU hE rfl sc22 qXx50) (fun a hE=>?_)
            refine t_on rfl hE rfl rfl rfl ?_
            refine KB (v:=.int .i64 x1) rfl rfl hE rfl (KD hE rfl) (fun a hE=>?_)
            refine t_on rfl hE rfl rfl rfl ?_
            refine KZ hE hR XS rfl (Ud) (M.unbind H) (fun Xx51 a w ea hR H=>?_)
            have hE:=Env.put_some hE rfl ea; clear ea
            refine KB rfl rfl hE rfl (Kc hE rfl rfl) (fun a hE=>?_)
            refine KG ?_
            exact hKr _ _ _ (hE.cut (.cons rfl Subs.nil)) hR H
           ·replace H:=M.ite_f hb H
            have hE:=hE.reb 96 Xx47 false hb rfl
            refine Kf rfl hE rfl rfl rfl (fun a ea=>?_)
            have hE:=Env.put_some hE rfl ea; clear ea
            refine Kf rfl hE rfl rfl rfl (fun a ea=>?_)
            have hE:=Env.put_some hE rfl ea; clear ea
            refine Kf rfl hE rfl rfl rfl (fun a ea=>?_)
            have hE:=Env.put_some hE rfl ea; clear ea
            refine Kf rfl hE rfl rfl rfl (fun a ea=>?_)
            have hE:=Env.put_some hE rfl ea; clear ea
            refine KB rfl rfl hE rfl (Kd hE rfl rfl) (fun a hE=>?_)
            refine KG ?_
            exact hKr _ _ _ (hE.cut (.cons rfl Subs.nil)) hR H
          ·intro Xx49 a w hE hR H
           refine KB (v:=.bool Xx49) rfl rfl hE rfl (KE hE rfl) (fun a hE=>?_)
           refine KG ?_
           refine hK_43 _ _ ?_
           refine Kg ?_
           exact hret _ _ _ Xx49 _ hE hR (KM hE rfl (RV.tmp rfl RV.nil)) rfl H
       ·replace H:=M.ite_f hb H
        refine KH (fun K hK_52=>?_)
        refine KC ?_
        refine KB (v:=.bool (Xx8 == 5)) rfl rfl hE rfl (KL hE rfl rfl KN Z5) (fun a hE=>?_)
        refine KB (v:=.bool (Xx8 == 5)) rfl rfl hE rfl (KE hE rfl) (fun a hE=>?_)
        refine KG ?_
        refine hK_52 _ _ ?_
        refine KS (Xx8 == 5) hE rfl (fun hb=>?_) (fun hb=>?_)
        ·replace H:=M.ite_t hb H
         refine KH (fun K hK_53=>?_)
         refine KC ?_
         refine KB (v:=.pointer (some ((Xx2).add 1))) rfl rfl hE rfl (KI hE rfl Vy) (fun a hE=>?_)
         obtain ⟨Xx54,qXx54,H⟩:=H
         refine KB (v:=.int .i64 Xx54) rfl rfl hE rfl (KU hE rfl sc2 qXx54) (fun a hE=>?_)
         refine KB (v:=.bool (Xx54 == 0)) rfl rfl hE rfl (KL hE rfl rfl KN Z5) (fun a hE=>?_)
         refine KB (v:=.bool (Xx54 == 0)) rfl rfl hE rfl (KD hE rfl) (fun a hE=>?_)
         refine J5 (n:=(⟨136,[]⟩:Frm)) (w0:=w0) 4 (fun Xx55:Bool=>[(1,.int .i64 x1),(2,.pointer (some Xx2)),(111,.bool Xx55)]) (M.unbind H) (fun Kr hKr H=>?_) ?_
         ·rcases Kq (Xx54 == 0) with hb | hb
          ·replace H:=M.ite_t hb H
           have hE:=hE.reb 107 (Xx54 == 0) true hb rfl
           refine t_on rfl hE rfl rfl rfl ?_
           refine KB (v:=.pointer (some ((Xx2).add 2))) rfl rfl hE rfl (KI hE rfl XV) (fun a hE=>?_)
           refine t_on rfl hE rfl rfl rfl ?_
           obtain ⟨Xx56,qXx56,H⟩:=H
           refine KB (v:=.string Xx56) rfl rfl hE rfl (KU hE rfl sc9 qXx56) (fun a hE=>?_)
           refine t_on rfl hE rfl rfl rfl ?_
           refine KB (v:=.bool (sEq Xx56 ByteArray.empty)) rfl rfl hE rfl (KL hE rfl rfl Xc N4) (fun a hE=>?_)
           refine KB rfl rfl hE rfl (Kc hE rfl rfl) (fun a hE=>?_)
           refine KG ?_
           exact hKr _ _ _ (hE.cut (.cons rfl (.cons rfl (.cons rfl Subs.nil)))) hR H
          ·replace H:=M.ite_f hb H
           have hE:=hE.reb 107 (Xx54 == 0) false hb rfl
           refine Kf rfl hE rfl rfl rfl (fun a ea=>?_)
           have hE:=Env.put_some hE rfl ea; clear ea
           refine Kf rfl hE rfl rfl rfl (fun a ea=>?_)
           have hE:=Env.put_some hE rfl ea; clear ea
           refine Kf rfl hE rfl rfl rfl (fun a ea=>?_)
           have hE:=Env.put_some hE rfl ea; clear ea
           refine KB rfl rfl hE rfl (Kd hE rfl rfl) (fun a hE=>?_)
           refine KG ?_
           exact hKr _ _ _ (hE.cut (.cons rfl (.cons rfl (.cons rfl Subs.nil)))) hR H
         ·intro Xx55 a w hE hR H
          refine KB (v:=.bool Xx55) rfl rfl hE rfl (KD hE rfl) (fun a hE=>?_)
          refine J5 (n:=(⟨136,[]⟩:Frm)) (w0:=w0) 5 (fun Xx57:Bool=>[(1,.int .i64 x1),(2,.pointer (some Xx2)),(117,.bool Xx57)]) (M.unbind H) (fun Kr hKr H=>?_) ?_
          ·rcases Kq Xx55 with hb | hb
           ·replace H:=M.ite_t hb H
            have hE:=hE.reb 112 Xx55 true hb rfl
            refine t_on rfl hE rfl rfl rfl ?_
            refine KB (v:=.pointer (some ((Xx2).add 3))) rfl rfl hE rfl (KI hE rfl UU) (fun a hE=>?_)
            refine t_on rfl hE rfl rfl rfl ?_
            obtain ⟨Xx58,qXx58,H⟩:=H
            refine KB (v:=(Xx58:Sl).v) rfl rfl hE rfl (KU hE rfl sc22 qXx58) (fun a hE=>?_)
            refine t_on rfl hE rfl rfl rfl ?_
            refine KB (v:=.int .i64 (Xx58.len:Int)) rfl rfl hE rfl (UA hE rfl 24 un22) (fun a hE=>?_)
            refine t_on rfl hE rfl rfl rfl ?_
            refine KB (v:=.bool (decide ((Xx58.len:Int)≤512))) rfl rfl hE rfl (KL hE rfl rfl KN KAC) (fun a hE=>?_)
            refine KB rfl rfl hE rfl (Kc hE rfl rfl) (fun a hE=>?_)
            refine KG ?_
            exact hKr _ _ _ (hE.cut (.cons rfl (.cons rfl (.cons rfl Subs.nil)))) hR H
           ·replace H:=M.ite_f hb H
            have hE:=hE.reb 112 Xx55 false hb rfl
            refine Kf rfl hE rfl rfl rfl (fun a ea=>?_)
            have hE:=Env.put_some hE rfl ea; clear ea
            refine Kf rfl hE rfl rfl rfl (fun a ea=>?_)
            have hE:=Env.put_some hE rfl ea; clear ea
            refine Kf rfl hE rfl rfl rfl (fun a ea=>?_)
            have hE:=Env.put_some hE rfl ea; clear ea
            refine Kf rfl hE rfl rfl rfl (fun a ea=>?_)
            have hE:=Env.put_some hE rfl ea; clear ea
            refine KB rfl rfl hE rfl (Kd hE rfl rfl) (fun a hE=>?_)
            refine KG ?_
            exact hKr _ _ _ (hE.cut (.cons rfl (.cons rfl (.cons rfl Subs.nil)))) hR H
          ·intro Xx57 a w hE hR H
           refine KB (v:=.bool Xx57) rfl rfl hE rfl (KD hE rfl) (fun a hE=>?_)
           refine J5 (n:=(⟨136,[]⟩:Frm)) (w0:=w0) 6 (fun Xx59:Bool=>[(1,.int .i64 x1),(2,.pointer (some Xx2)),(124,.bool Xx59)]) (M.unbind H) (fun Kr hKr H=>?_) ?_
           ·rcases Kq Xx57 with hb | hb
            ·replace H:=M.ite_t hb H
             have hE:=hE.reb 118 Xx57 true hb rfl
             refine t_on rfl hE rfl rfl rfl ?_
             refine KB (v:=.pointer (some ((Xx2).add 3))) rfl rfl hE rfl (KI hE rfl UU) (fun a hE=>?_)
             refine t_on rfl hE rfl rfl rfl ?_
             obtain ⟨Xx60,qXx60,H⟩:=H
             refine KB (v:=(Xx60:Sl).v) rfl rfl hE rfl (KU hE rfl sc22 qXx60) (fun a hE=>?_)
             refine t_on rfl hE rfl rfl rfl ?_
             refine KB (v:=.int .i64 (Xx60.len:Int)) rfl rfl hE rfl (UA hE rfl 24 un22) (fun a hE=>?_)
             refine t_on rfl hE rfl rfl rfl ?_
             refine KB (v:=.int .i64 (Int.tmod (Xx60.len:Int) 2)) rfl rfl hE rfl (KL hE rfl rfl KN (KD3 ⟨by decide,rfl⟩)) (fun a hE=>?_)
             refine t_on rfl hE rfl rfl rfl ?_
             refine KB (v:=.bool ((Int.tmod (Xx60.len:Int) 2) == 0)) rfl rfl hE rfl (KL hE rfl rfl KN Z5) (fun a hE=>?_)
             refine KB rfl rfl hE rfl (Kc hE rfl rfl) (fun a hE=>?_)
             refine KG ?_
             exact hKr _ _ _ (hE.cut (.cons rfl (.cons rfl (.cons rfl Subs.nil)))) hR H
            ·replace H:=M.ite_f hb H
             have hE:=hE.reb 118 Xx57 false hb rfl
             refine Kf rfl hE rfl rfl rfl (fun a ea=>?_)
             have hE:=Env.put_some hE rfl ea; clear ea
             refine Kf rfl hE rfl rfl rfl (fun a ea=>?_)
             have hE:=Env.put_some hE rfl ea; clear ea
             refine Kf rfl hE rfl rfl rfl (fun a ea=>?_)
             have hE:=Env.put_some hE rfl ea; clear ea
             refine Kf rfl hE rfl rfl rfl (fun a ea=>?_)
             have hE:=Env.put_some hE rfl ea; clear ea
             refine Kf rfl hE rfl rfl rfl (fun a ea=>?_)
             have hE:=Env.put_some hE rfl ea; clear ea
             refine KB rfl rfl hE rfl (Kd hE rfl rfl) (fun a hE=>?_)
             refine KG ?_
             exact hKr _ _ _ (hE.cut (.cons rfl (.cons rfl (.cons rfl Subs.nil)))) hR H
           ·intro Xx59 a w hE hR H
            refine KB (v:=.bool Xx59) rfl rfl hE rfl (KD hE rfl) (fun a hE=>?_)
            refine J5 (n:=(⟨136,[]⟩:Frm)) (w0:=w0) 5 (fun Xx61:Bool=>[(2,.pointer (some Xx2)),(130,.bool Xx61)]) (M.unbind H) (fun Kr hKr H=>?_) ?_
            ·rcases Kq Xx59 with hb | hb
             ·replace H:=M.ite_t hb H
              have hE:=hE.reb 125 Xx59 true hb rfl
              refine t_on rfl hE rfl rfl rfl ?_
              refine KB (v:=.pointer (some ((Xx2).add 3))) rfl rfl hE rfl (KI hE rfl UU) (fun a hE=>?_)
              refine t_on rfl hE rfl rfl rfl ?_
              obtain ⟨Xx62,qXx62,H⟩:=H
              refine KB (v:=(Xx62:Sl).v) rfl rfl hE rfl (KU hE rfl sc22 qXx62) (fun a hE=>?_)
              refine t_on rfl hE rfl rfl rfl ?_
              refine KB (v:=.int .i64 x1) rfl rfl hE rfl (KD hE rfl) (fun a hE=>?_)
              refine t_on rfl hE rfl rfl rfl ?_
              refine KZ hE hR XS rfl (Ud) (M.unbind H) (fun Xx63 a w ea hR H=>?_)
              have hE:=Env.put_some hE rfl ea; clear ea
              refine KB rfl rfl hE rfl (Kc hE rfl rfl) (fun a hE=>?_)
              refine KG ?_
              exact hKr _ _ _ (hE.cut (.cons rfl (.cons rfl Subs.nil))) hR H
             ·replace H:=M.ite_f hb H
              have hE:=hE.reb 125 Xx59 false hb rfl
              refine Kf rfl hE rfl rfl rfl (fun a ea=>?_)
              have hE:=Env.put_some hE rfl ea; clear ea
              refine Kf rfl hE rfl rfl rfl (fun a ea=>?_)
              have hE:=Env.put_some hE rfl ea; clear ea
              refine Kf rfl hE rfl rfl rfl (fun a ea=>?_)
              have hE:=Env.put_some hE rfl ea; clear ea
              refine Kf rfl hE rfl rfl rfl (fun a ea=>?_)
              have hE:=Env.put_some hE rfl ea; clear ea
              refine KB rfl rfl hE rfl (Kd hE rfl rfl) (fun a hE=>?_)
              refine KG ?_
              exact hKr _ _ _ (hE.cut (.cons rfl (.cons rfl Subs.nil))) hR H
            ·intro Xx61 a w hE hR H
             refine KB (v:=.bool Xx61) rfl rfl hE rfl (KD hE rfl) (fun a hE=>?_)
             refine J5 (n:=(⟨136,[]⟩:Frm)) (w0:=w0) 4 (fun Xx64:Bool=>[(135,.bool Xx64)]) (M.unbind H) (fun Kr hKr H=>?_) ?_
             ·rcases Kq Xx61 with hb | hb
              ·replace H:=M.ite_t hb H
               have hE:=hE.reb 131 Xx61 true hb rfl
               refine t_on rfl hE rfl rfl rfl ?_
               refine KB (v:=.pointer (some ((Xx2).add 3))) rfl rfl hE rfl (KI hE rfl UU) (fun a hE=>?_)
               refine t_on rfl hE rfl rfl rfl ?_
               obtain ⟨Xx65,qXx65,H⟩:=H
               refine KB (v:=(Xx65:Sl).v) rfl rfl hE rfl (KU hE rfl sc22 qXx65) (fun a hE=>?_)
               refine t_on rfl hE rfl rfl rfl ?_
               refine KZ hE hR NM rfl (Ns Xx65) (M.unbind H) (fun Xx66 a w ea hR H=>?_)
               have hE:=Env.put_some hE rfl ea; clear ea
               refine KB rfl rfl hE rfl (Kc hE rfl rfl) (fun a hE=>?_)
               refine KG ?_
               exact hKr _ _ _ (hE.cut (.cons rfl Subs.nil)) hR H
              ·replace H:=M.ite_f hb H
               have hE:=hE.reb 131 Xx61 false hb rfl
               refine Kf rfl hE rfl rfl rfl (fun a ea=>?_)
               have hE:=Env.put_some hE rfl ea; clear ea
               refine Kf rfl hE rfl rfl rfl (fun a ea=>?_)
               have hE:=Env.put_some hE rfl ea; clear ea
               refine Kf rfl hE rfl rfl rfl (fun a ea=>?_)
               have hE:=Env.put_some hE rfl ea; clear ea
               refine KB rfl rfl hE rfl (Kd hE rfl rfl) (fun a hE=>?_)
               refine KG ?_
               exact hKr _ _ _ (hE.cut (.cons rfl Subs.nil)) hR H
             ·intro Xx64 a w hE hR H
              refine KB (v:=.bool Xx64) rfl rfl hE rfl (KE hE rfl) (fun a hE=>?_)
              refine KG ?_
              refine hK_53 _ _ ?_
              refine Kg ?_
              exact hret _ _ _ Xx64 _ hE hR (KM hE rfl (RV.tmp rfl RV.nil)) rfl H
        ·replace H:=M.ite_f hb H
         refine Ka ?_
         refine hK_6 _ _ ?_
         refine KH (fun K hK_67=>?_)
         refine KC ?_
         refine KB (v:=.bool false) rfl rfl hE rfl (KE hE rfl) (fun a hE=>?_)
         refine KG ?_
         refine hK_67 _ _ ?_
         refine Kg ?_
         exact hret _ _ _ false _ hE hR (KM hE rfl (RV.tmp rfl RV.nil)) rfl H
    ·skip
     refine KH (fun K hK_68=>?_)
     refine KC ?_
     refine KB (v:=.bool (Xx8 == 6)) rfl rfl hE rfl (KL hE rfl rfl KN Z5) (fun a hE=>?_)
     refine KB (v:=.bool (Xx8 == 6)) rfl rfl hE rfl (KE hE rfl) (fun a hE=>?_)
     refine KG ?_
     refine hK_68 _ _ ?_
     refine KS (Xx8 == 6) hE rfl (fun hb=>?_) (fun hb=>?_)
     ·replace H:=M.ite_t hb H
      refine Ka ?_
      exact ⟨Xx8 == 6,hE.cut (.cons rfl (.cons rfl (.cons rfl (.cons rfl Subs.nil)))),hR,H⟩
     ·replace H:=M.ite_f hb H
      refine KC ?_
      refine KB (v:=.bool (Xx8 == 7)) rfl rfl hE rfl (KL hE rfl rfl KN Z5) (fun a hE=>?_)
      refine KB (v:=.bool (Xx8 == 7)) rfl rfl hE rfl (KE hE rfl) (fun a hE=>?_)
      refine KG ?_
      exact ⟨Xx8 == 7,hE.cut (.cons rfl (.cons rfl (.cons rfl (.cons rfl Subs.nil)))),hR,H⟩
def Ub (x0:Array Value):M (Int):=do
 let Xx2←mkB KJ x0
 let Xx5←ldG 4 Xx2
 let Xx6←Uh Xx5 0
 M.ite (!Xx6) (do
  M.pure 20
  ) (do
  M.pure 0
  )
theorem XD (x0:Array Value):ZK Go.Proofs.Tryz.prog 25 #[.agg x0] (fun (r:Int)=>.int .i64 r) (Ub x0):=by
 refine KY [(0,.agg x0)] Go.Proofs.Tryz.func25 rfl rfl (Nat.le_of_ble_eq_true rfl) (Ke ⟨rfl,trivial⟩) (fun w0 w Q R a hret hE hR H=>?_)
 unfold Ub at H
 refine KH (fun K hK_1=>?_)
 refine KC ?_
 obtain ⟨Xx2,qXx2,H⟩:=H
 refine ZR (v:=.pointer (some Xx2)) rfl rfl hE rfl hR (YP hE rfl qXx2) (fun a w hE hR hh=>?_)
 replace H:=M.at hh H; clear hh
 refine KB (v:=.int .i64 0) rfl rfl hE rfl (KE hE rfl) (fun a hE=>?_)
 refine KG ?_
 refine hK_1 _ _ ?_
 refine KH (fun K hK_3=>?_)
 refine KH (fun K hK_4=>?_)
 refine KC ?_
 obtain ⟨Xx5,qXx5,H⟩:=H
 refine KB (v:=.agg Xx5) rfl rfl hE rfl (ZN hE rfl ag24 qXx5) (fun a hE=>?_)
 refine KZ hE hR XT rfl (Xz Xx5 0) (M.unbind H) (fun Xx6 a w ea hR H=>?_)
 have hE:=Env.put_some hE rfl ea; clear ea
 refine KB (v:=.bool (!Xx6)) rfl rfl hE rfl (r_un hE rfl GB) (fun a hE=>?_)
 refine KG ?_
 refine hK_4 _ _ ?_
 refine KS (!Xx6) hE rfl (fun hb=>?_) (fun hb=>?_)
 ·replace H:=M.ite_t hb H
  refine KH (fun K hK_7=>?_)
  refine KC ?_
  refine KB (v:=.int .i64 20) rfl rfl hE rfl (KE hE rfl) (fun a hE=>?_)
  refine KG ?_
  refine hK_7 _ _ ?_
  refine Kg ?_
  exact hret _ _ _ 20 _ hE hR (KM hE rfl (RV.tmp rfl RV.nil)) rfl H
 ·replace H:=M.ite_f hb H
  refine Ka ?_
  refine hK_3 _ _ ?_
  refine KH (fun K hK_8=>?_)
  refine KC ?_
  refine KB (v:=.int .i64 0) rfl rfl hE rfl (KE hE rfl) (fun a hE=>?_)
  refine KG ?_
  refine hK_8 _ _ ?_
  refine Kg ?_
  exact hret _ _ _ 0 _ hE hR (KM hE rfl (RV.tmp rfl RV.nil)) rfl H
end Gx
namespace Gx
open Go
set_option linter.unusedVariables false
set_option maxRecDepth 100000
def Ur (x0:Array Value):M (Array Value × Int):=do
 let Xx2←mkB KJ x0
 let Xx3←mkB KJ (#[.int .i64 0,.int .i64 0,.string ByteArray.empty,.slice none 0 0]:Array Value)
 let Xx6←ldG 4 Xx2
 let Xx7←Ub Xx6
 M.ite (Xx7 != 0) (do
  M.need ((#[.int .i64 0,.int .i64 0,.string ByteArray.empty,.slice none 0 0]:Array Value).size=4)
  stG Xx3 (#[.int .i64 0,.int .i64 0,.string ByteArray.empty,.slice none 0 0]:Array Value)
  let Rr11←ldG 4 Xx3
  M.pure (Rr11,Xx7)
  ) (do
  let Xx13←ldG 4 Xx2
  M.need (Xx13.size=4)
  stG Xx3 Xx13
  let Rr15←ldG 4 Xx3
  M.pure (Rr15,0)
  )
theorem XZ (x0:Array Value):ZK Go.Proofs.Tryz.prog 83 #[.agg x0] (fun (r:Array Value × Int)=>.tuple #[.agg r.1,.int .i64 r.2]) (Ur x0):=by
 refine KY [(0,.agg x0)] Go.Proofs.Tryz.func83 rfl rfl (Nat.le_of_ble_eq_true rfl) (Ke ⟨rfl,trivial⟩) (fun w0 w Q R a hret hE hR H=>?_)
 unfold Ur at H
 refine KH (fun K hK_1=>?_)
 refine KC ?_
 obtain ⟨Xx2,qXx2,H⟩:=H
 refine ZR (v:=.pointer (some Xx2)) rfl rfl hE rfl hR (YP hE rfl qXx2) (fun a w hE hR hh=>?_)
 replace H:=M.at hh H; clear hh
 obtain ⟨Xx3,qXx3,H⟩:=H
 refine ZR (v:=.pointer (some Xx3)) rfl rfl hE rfl hR (Z4 zr24 qXx3) (fun a w hE hR hh=>?_)
 replace H:=M.at hh H; clear hh
 refine KB (v:=.int .i64 0) rfl rfl hE rfl (KE hE rfl) (fun a hE=>?_)
 refine KG ?_
 refine hK_1 _ _ ?_
 refine KH (fun K hK_4=>?_)
 refine KH (fun K hK_5=>?_)
 refine KC ?_
 obtain ⟨Xx6,qXx6,H⟩:=H
 refine KB (v:=.agg Xx6) rfl rfl hE rfl (ZN hE rfl ag24 qXx6) (fun a hE=>?_)
 refine KZ hE hR Yd rfl (XD Xx6) (M.unbind H) (fun Xx7 a w ea hR H=>?_)
 have hE:=Env.put_some hE rfl ea; clear ea
 refine KB (v:=.int .i64 Xx7) rfl rfl hE rfl (KE hE rfl) (fun a hE=>?_)
 refine KG ?_
 refine hK_5 _ _ ?_
 refine KH (fun K hK_8=>?_)
 refine KC ?_
 refine KB (v:=.int .i64 Xx7) rfl rfl hE rfl (KD hE rfl) (fun a hE=>?_)
 refine KB (v:=.bool (Xx7 != 0)) rfl rfl hE rfl (KL hE rfl rfl KN Yi) (fun a hE=>?_)
 refine KG ?_
 refine hK_8 _ _ ?_
 refine KS (Xx7 != 0) hE rfl (fun hb=>?_) (fun hb=>?_)
 ·replace H:=M.ite_t hb H
  refine KH (fun K hK_9=>?_)
  refine KC ?_
  refine KB (v:=.agg (#[.int .i64 0,.int .i64 0,.string ByteArray.empty,.slice none 0 0]:Array Value)) rfl rfl hE rfl (YD bd24) (fun a hE=>?_)
  refine KB (v:=.int .i64 Xx7) rfl rfl hE rfl (KD hE rfl) (fun a hE=>?_)
  obtain ⟨qz,H⟩:=H
  obtain ⟨u_10,qu_10,H⟩:=H
  refine JI rfl rfl hE hR (Kv hE rfl rfl sz24 qz qu_10) (fun a w hE hR hh=>?_)
  replace H:=M.at hh H; clear hh
  refine KB (v:=.int .i64 Xx7) rfl rfl hE rfl (KE hE rfl) (fun a hE=>?_)
  refine KG ?_
  refine hK_9 _ _ ?_
  refine Kg ?_
  obtain ⟨Rr11,qRr11,H⟩:=H
  exact hret _ _ _ (Rr11,Xx7) _ hE hR (KM hE rfl (RV.cellG rfl ag24 qRr11 (RV.tmp rfl RV.nil))) rfl H
 ·replace H:=M.ite_f hb H
  refine Ka ?_
  refine hK_4 _ _ ?_
  refine KH (fun K hK_12=>?_)
  refine KC ?_
  obtain ⟨Xx13,qXx13,H⟩:=H
  refine KB (v:=.agg Xx13) rfl rfl hE rfl (ZN hE rfl ag24 qXx13) (fun a hE=>?_)
  obtain ⟨qz,H⟩:=H
  obtain ⟨u_14,qu_14,H⟩:=H
  refine JI rfl rfl hE hR (Kv hE rfl rfl sz24 qz qu_14) (fun a w hE hR hh=>?_)
  replace H:=M.at hh H; clear hh
  refine KB (v:=.int .i64 0) rfl rfl hE rfl (KE hE rfl) (fun a hE=>?_)
  refine KG ?_
  refine hK_12 _ _ ?_
  refine Kg ?_
  obtain ⟨Rr15,qRr15,H⟩:=H
  exact hret _ _ _ (Rr15,0) _ hE hR (KM hE rfl (RV.cellG rfl ag24 qRr15 (RV.tmp rfl RV.nil))) rfl H
def VO (x0:Sl):M (Array Value × Int):=do
 let Xx2←mkB KJ (#[.int .i64 0,.int .i64 0,.string ByteArray.empty,.slice none 0 0]:Array Value)
 let Xx4←apL KJ 4 56 (#[.int .i64 0,.int .i64 0,.string ByteArray.empty,.slice none 0 0]:Array Value) Sl.nil x0
 let Xx5←Ur (#[.int .i64 4,.int .i64 0,.string ByteArray.empty,(Xx4:Sl).v]:Array Value)
 M.need (Xx5.1.size=4)
 stG Xx2 Xx5.1
 let Rr7←ldG 4 Xx2
 M.pure (Rr7,Xx5.2)
theorem qO (x0:Sl):ZK Go.Proofs.Tryz.prog 23 #[(x0:Sl).v] (fun (r:Array Value × Int)=>.tuple #[.agg r.1,.int .i64 r.2]) (VO x0):=by
 refine KY [(0,(x0:Sl).v)] Go.Proofs.Tryz.func23 rfl rfl (Nat.le_of_ble_eq_true rfl) (Ke ⟨rfl,trivial⟩) (fun w0 w Q R a hret hE hR H=>?_)
 unfold VO at H
 refine KH (fun K hK_1=>?_)
 refine KC ?_
 obtain ⟨Xx2,qXx2,H⟩:=H
 refine ZR (v:=.pointer (some Xx2)) rfl rfl hE rfl hR (Z4 zr24 qXx2) (fun a w hE hR hh=>?_)
 replace H:=M.at hh H; clear hh
 refine KB (v:=.int .i64 0) rfl rfl hE rfl (KE hE rfl) (fun a hE=>?_)
 refine KG ?_
 refine hK_1 _ _ ?_
 refine KH (fun K hK_3=>?_)
 refine KC ?_
 refine KB (v:=(x0:Sl).v) rfl rfl hE rfl (KD hE rfl) (fun a hE=>?_)
 refine t_ex (fun Xx4=>(Xx4:Sl).v) rfl rfl hR (M.unbind H) (fun Q H=>Xm hE rfl rfl ap22 H) (fun Xx4 a w ea hR H=>?_)
 have hE:=Env.put_some hE rfl ea; clear ea
 refine KB (v:=.agg (#[.int .i64 4,.int .i64 0,.string ByteArray.empty,(Xx4:Sl).v]:Array Value)) rfl rfl hE rfl (Uw hE rfl zr24 pl24 (by rfl)) (fun a hE=>?_)
 refine KZ hE hR Y5 rfl (XZ (#[.int .i64 4,.int .i64 0,.string ByteArray.empty,(Xx4:Sl).v]:Array Value)) (M.unbind H) (fun Xx5 a w ea hR H=>?_)
 have hE:=Env.put_some hE rfl ea; clear ea
 refine KB (v:=.agg Xx5.1) rfl rfl hE rfl (ZF hE rfl rfl) (fun a hE=>?_)
 refine KB (v:=.int .i64 Xx5.2) rfl rfl hE rfl (ZF hE rfl rfl) (fun a hE=>?_)
 obtain ⟨qz,H⟩:=H
 obtain ⟨u_6,qu_6,H⟩:=H
 refine JI rfl rfl hE hR (Kv hE rfl rfl sz24 qz qu_6) (fun a w hE hR hh=>?_)
 replace H:=M.at hh H; clear hh
 refine KB (v:=.int .i64 Xx5.2) rfl rfl hE rfl (KE hE rfl) (fun a hE=>?_)
 refine KG ?_
 refine hK_3 _ _ ?_
 refine Kg ?_
 obtain ⟨Rr7,qRr7,H⟩:=H
 exact hret _ _ _ (Rr7,Xx5.2) _ hE hR (KM hE rfl (RV.cellG rfl ag24 qRr7 (RV.tmp rfl RV.nil))) rfl H
noncomputable def KEj:Array Oper:=NZ Go.Proofs.Tryz.f24 13
def KEk:List (List Nat):=[[],[],[],[0,1,2],[],[],[4,5],[6],[],[],[9],[8,10],[11],[7,12],[3,13],[],[14,15,14],[16,16,0,1,2,3,4,5,6,7,8,9,10,11,12,13,14,15,16]]
def KEl:List (List Nat):=[[],[],[],[0,1,2],[],[],[4,5],[6],[],[],[9],[8,10],[11],[7,12],[3,13],[],[14,15],[0,16]]
def KEm:List (List Nat):=[[],[],[],[0,1,2],[],[],[4,5],[4,5,6],[],[],[9],[8,9,10],[8,9,10,11],[4,5,6,7,8,9,10,11,12],[0,1,2,3,4,5,6,7,8,9,10,11,12,13],[],[0,1,2,3,4,5,6,7,8,9,10,11,12,13,14,15],[0,1,2,3,4,5,6,7,8,9,10,11,12,13,14,15,16]]
theorem KHt:Vg Go.Proofs.Tryz.f24 13 KEk KEl KEm=true:=by kernel_rfl
theorem KGJ:Gi 18 KEk KEl KEm [0,0,0,7,0,0,48,64,0,0,512,1280,2048,4224,8200,0,49152,131071] [0,0,0,7,0,0,48,64,0,0,512,1280,2048,4224,8200,0,49152,65537] [0,0,0,7,0,0,48,112,0,0,512,1792,3840,8176,16383,0,65535,131071]=true:=by kernel_rfl
def Jx (self1:(Sl × Int)→M (Array Value × Int)) (C36:Sl) (C37:Addr) (C38:Sl) (C39:Int) (C40:Int) (Xx35:Bool):M (Array Value × Int):=do
 M.ite Xx35 (do
  M.need ((#[.int .i64 0,.int .i64 0,.string ByteArray.empty,.slice none 0 0]:Array Value).size=4)
  stG C37 (#[.int .i64 0,.int .i64 0,.string ByteArray.empty,.slice none 0 0]:Array Value)
  let Rr43←ldG 4 C37
  M.pure (Rr43,5)
  ) (do
  let Xx45←slL C38 C40 C38.len 4
  let Xx46←apL KJ 4 56 (#[.int .i64 0,.int .i64 0,.string ByteArray.empty,.slice none 0 0]:Array Value) Sl.nil Xx45
  let Xx47←slL3 C38 0 C40 C40 4
  let Xx48←ixL C36 C39 4
  let Xx49←ixL C36 (IntKind.wrap .i64 (C39+1)) 4
  let Xx50←ldG 4 Xx48
  let Xx51←ldG 4 Xx49
  let y_53←KA3 4 2 (#[.int .i64 0,.int .i64 0,.string ByteArray.empty,.slice none 0 0]:Array Value) [(0,.agg Xx50),(1,.agg Xx51)]
  let Xx52←bdL KJ 2 y_53
  let Xx54←apL KJ 4 56 (#[.int .i64 0,.int .i64 0,.string ByteArray.empty,.slice none 0 0]:Array Value) Xx47 Xx52
  let Xx55←apL KJ 4 56 (#[.int .i64 0,.int .i64 0,.string ByteArray.empty,.slice none 0 0]:Array Value) Xx54 Xx46
  self1 (Xx55,IntKind.wrap .i64 (C39+2))
  )
noncomputable def KBM:Array Oper:=NZ Go.Proofs.Tryz.f24 10
def KEn:List (List Nat):=[[],[],[1],[0,2],[3],[4],[4],[5,6,4],[7,4],[4],[4],[9,10,4],[11,4],[8,12,4,4],[13,4],[4,14]]
def KEo:List (List Nat):=[[],[],[1],[0,2],[3],[4],[4],[4,5,6],[4,7],[4],[4],[4,9,10],[4,11],[4,8,12],[4,13],[4,14]]
def KEp:List (List Nat):=[[],[],[1],[0,1,2],[0,1,2,3],[0,1,2,3,4],[0,1,2,3,4],[0,1,2,3,4,5,6],[0,1,2,3,4,5,6,7],[0,1,2,3,4],[0,1,2,3,4],[0,1,2,3,4,9,10],[0,1,2,3,4,9,10,11],[0,1,2,3,4,5,6,7,8,9,10,11,12],[0,1,2,3,4,5,6,7,8,9,10,11,12,13],[0,1,2,3,4,5,6,7,8,9,10,11,12,13,14]]
theorem KEq:Vg Go.Proofs.Tryz.f24 10 KEn KEo KEp=true:=by kernel_rfl
theorem KC4:Gi 16 KEn KEo KEp [0,0,2,5,8,16,16,112,144,16,16,1552,2064,4368,8208,16400] [0,0,2,5,8,16,16,112,144,16,16,1552,2064,4368,8208,16400] [0,0,2,7,15,31,31,127,255,31,31,1567,3615,8191,16383,32767]=true:=by kernel_rfl
def UR (self1:(Sl × Int)→M (Array Value × Int)) (self2:(Int)→M (Array Value × Int)) (C29:Sl) (C30:Addr) (C31:Sl) (C32:Int) (C33:Int) (Xx28:Bool):M (Array Value × Int):=do
 M.ite Xx28 (do
  self2 (IntKind.wrap .i64 (C33+2))
  ) (do
  M.ite (decide (C33 < (C31.len:Int))) (do
   let Xx57←ixL C31 C33 4
   let Xx58←ixL C29 C32 4
   let Xx59←ldG 4 Xx57
   let Xx60←ldG 4 Xx58
   let Xx61←JB Xx59 Xx60
   Jx self1 C29 C30 C31 C32 C33 (Xx61 == 0)
   ) (do
   Jx self1 C29 C30 C31 C32 C33 false
   )
  )
noncomputable def KC5:Array Oper:=NZ Go.Proofs.Tryz.f24 8
def KG1:List (List Nat):=[[],[],[1],[0,2],[3],[4],[4],[5,6,4],[7,4],[4],[4],[9,10,4],[11,4],[8,12,4,4],[13,4],[4,14]]
def KG2:List (List Nat):=[[],[],[1],[0,2],[3],[4],[4],[4,5,6],[4,7],[4],[4],[4,9,10],[4,11],[4,8,12],[4,13],[4,14]]
def KG3:List (List Nat):=[[],[],[1],[0,1,2],[0,1,2,3],[0,1,2,3,4],[0,1,2,3,4],[0,1,2,3,4,5,6],[0,1,2,3,4,5,6,7],[0,1,2,3,4],[0,1,2,3,4],[0,1,2,3,4,9,10],[0,1,2,3,4,9,10,11],[0,1,2,3,4,5,6,7,8,9,10,11,12],[0,1,2,3,4,5,6,7,8,9,10,11,12,13],[0,1,2,3,4,5,6,7,8,9,10,11,12,13,14]]
theorem KG4:Vg Go.Proofs.Tryz.f24 8 KG1 KG2 KG3=true:=by kernel_rfl
theorem KEr:Gi 16 KG1 KG2 KG3 [0,0,2,5,8,16,16,112,144,16,16,1552,2064,4368,8208,16400] [0,0,2,5,8,16,16,112,144,16,16,1552,2064,4368,8208,16400] [0,0,2,7,15,31,31,127,255,31,31,1567,3615,8191,16383,32767]=true:=by kernel_rfl
def VX (self1:(Sl × Int)→M (Array Value × Int)) (C22:Sl) (C23:Addr) (C24:Sl) (C25:Int) (self2:(Int)→M (Array Value × Int)):(Int)→M (Array Value × Int):=fun s=>match s with
 | Xx21=>do
  M.ite (decide (Xx21 < (C24.len:Int))) (do
   let Xx63←ixL C24 Xx21 4
   let Xx64←ixL C22 C25 4
   let Xx65←ldG 4 Xx63
   let Xx66←ldG 4 Xx64
   let Xx67←JB Xx65 Xx66
   UR self1 self2 C22 C23 C24 C25 Xx21 (decide (Xx67 < 0))
   ) (do
   UR self1 self2 C22 C23 C24 C25 Xx21 false
   )
def VY (C13:Sl) (C14:Addr) (self1:(Sl × Int)→M (Array Value × Int)):(Sl × Int)→M (Array Value × Int):=fun s=>match s with
 | (Xx11,Xx12)=>do
  M.ite (decide (Xx12 < (C13.len:Int))) (do
   M.loop (VX self1 C13 C14 Xx11 Xx12) 0
   ) (do
   let Xx69←Ur (#[.int .i64 5,.int .i64 0,.string ByteArray.empty,(Xx11:Sl).v]:Array Value)
   M.need (Xx69.1.size=4)
   stG C14 Xx69.1
   let Rr71←ldG 4 C14
   M.pure (Rr71,Xx69.2)
   )
def Vo (x0:Sl):M (Array Value × Int):=do
 let Xx2←mkB KJ (#[.int .i64 0,.int .i64 0,.string ByteArray.empty,.slice none 0 0]:Array Value)
 M.ite ((Int.tmod (x0.len:Int) 2) == 1) (do
  M.need ((#[.int .i64 0,.int .i64 0,.string ByteArray.empty,.slice none 0 0]:Array Value).size=4)
  stG Xx2 (#[.int .i64 0,.int .i64 0,.string ByteArray.empty,.slice none 0 0]:Array Value)
  let Rr7←ldG 4 Xx2
  M.pure (Rr7,1)
  ) (do
  M.loop (VY x0 Xx2) (Sl.nil,0)
  )
theorem qn (x0:Sl):ZK Go.Proofs.Tryz.prog 24 #[(x0:Sl).v] (fun (r:Array Value × Int)=>.tuple #[.agg r.1,.int .i64 r.2]) (Vo x0):=by
 refine KY [(0,(x0:Sl).v)] Go.Proofs.Tryz.func24 rfl rfl (Nat.le_of_ble_eq_true rfl) (Ke ⟨rfl,trivial⟩) (fun w0 w Q R a hret hE hR H=>?_)
 unfold Vo at H
 refine KH (fun K hK_1=>?_)
 refine KC ?_
 obtain ⟨Xx2,qXx2,H⟩:=H
 refine ZR (v:=.pointer (some Xx2)) rfl rfl hE rfl hR (Z4 zr24 qXx2) (fun a w hE hR hh=>?_)
 replace H:=M.at hh H; clear hh
 refine KB (v:=.int .i64 0) rfl rfl hE rfl (KE hE rfl) (fun a hE=>?_)
 refine KG ?_
 refine hK_1 _ _ ?_
 refine KH (fun K hK_3=>?_)
 refine KH (fun K hK_4=>?_)
 refine KC ?_
 refine KB (v:=(x0:Sl).v) rfl rfl hE rfl (KD hE rfl) (fun a hE=>?_)
 refine KB (v:=.int .i64 (x0.len:Int)) rfl rfl hE rfl (UA hE rfl 24 un22) (fun a hE=>?_)
 refine KB (v:=.int .i64 (Int.tmod (x0.len:Int) 2)) rfl rfl hE rfl (KL hE rfl rfl KN (KD3 ⟨by decide,rfl⟩)) (fun a hE=>?_)
 refine KB (v:=.bool ((Int.tmod (x0.len:Int) 2) == 1)) rfl rfl hE rfl (KL hE rfl rfl KN Z5) (fun a hE=>?_)
 refine KG ?_
 refine hK_4 _ _ ?_
 refine KS ((Int.tmod (x0.len:Int) 2) == 1) hE rfl (fun hb=>?_) (fun hb=>?_)
 ·replace H:=M.ite_t hb H
  refine KH (fun K hK_5=>?_)
  refine KC ?_
  refine KB (v:=.agg (#[.int .i64 0,.int .i64 0,.string ByteArray.empty,.slice none 0 0]:Array Value)) rfl rfl hE rfl (YD bd24) (fun a hE=>?_)
  obtain ⟨qz,H⟩:=H
  obtain ⟨u_6,qu_6,H⟩:=H
  refine JI rfl rfl hE hR (Kv hE rfl rfl sz24 qz qu_6) (fun a w hE hR hh=>?_)
  replace H:=M.at hh H; clear hh
  refine KB (v:=.int .i64 1) rfl rfl hE rfl (KE hE rfl) (fun a hE=>?_)
  refine KG ?_
  refine hK_5 _ _ ?_
  refine Kg ?_
  obtain ⟨Rr7,qRr7,H⟩:=H
  exact hret _ _ _ (Rr7,1) _ hE hR (KM hE rfl (RV.cellG rfl ag24 qRr7 (RV.tmp rfl RV.nil))) rfl H
 ·replace H:=M.ite_f hb H
  refine Ka ?_
  refine hK_3 _ _ ?_
  refine KH (fun K hK_8=>?_)
  refine KC ?_
  refine KB (v:=(Sl.nil:Sl).v) rfl rfl hE rfl (KE hE rfl) (fun a hE=>?_)
  refine KG ?_
  refine hK_8 _ _ ?_
  refine KH (fun K hK_9=>?_)
  refine KH (fun K hK_10=>?_)
  refine KC ?_
  refine KB (v:=.int .i64 0) rfl rfl hE rfl (KE hE rfl) (fun a hE=>?_)
  refine KG ?_
  refine hK_10 _ _ ?_
  refine Kj ?_
  refine J7 (fun (s:Sl × Int)=>(⟨80,[]⟩:Frm)) (fun (s:Sl × Int)=>[(0,(x0:Sl).v),(2,.pointer (some Xx2)),(4,(s.1:Sl).v),(5,.int .i64 s.2)]) H (hE.cut (.cons rfl (.cons rfl (.cons rfl (.cons rfl Subs.nil))))) hR (fun Y self1 hY_15 s a w hE hR H=>?_)
  rcases s with ⟨Xx11,Xx12⟩
  replace hE:Env (⟨80,[]⟩:Frm) a [(0,(x0:Sl).v),(2,.pointer (some Xx2)),(4,(Xx11:Sl).v),(5,.int .i64 Xx12)]:=hE
  replace H:(VY x0 Xx2 self1 (Xx11,Xx12)).wp w.heap Q:=H
  unfold VY at H
  refine KH (fun K hK_16=>?_)
  refine KH (fun K hK_17=>?_)
  refine KC ?_
  refine KB (v:=.int .i64 Xx12) rfl rfl hE rfl (KD hE rfl) (fun a hE=>?_)
  refine KB (v:=(x0:Sl).v) rfl rfl hE rfl (KD hE rfl) (fun a hE=>?_)
  refine KB (v:=.int .i64 (x0.len:Int)) rfl rfl hE rfl (UA hE rfl 24 un22) (fun a hE=>?_)
  refine KB (v:=.bool (decide (Xx12 < (x0.len:Int)))) rfl rfl hE rfl (KL hE rfl rfl KN JL) (fun a hE=>?_)
  refine KG ?_
  refine hK_17 _ _ ?_
  refine KS (decide (Xx12 < (x0.len:Int))) hE rfl (fun hb=>?_) (fun hb=>?_)
  ·replace H:=M.ite_t hb H
   refine Ka ?_
   refine hK_16 _ _ ?_
   refine KH (fun K hK_18=>?_)
   refine Kj ?_
   refine KH (fun K hK_19=>?_)
   refine KC ?_
   refine KB (v:=.int .i64 0) rfl rfl hE rfl (KE hE rfl) (fun a hE=>?_)
   refine KG ?_
   refine hK_19 _ _ ?_
   refine KH (fun K hK_20=>?_)
   refine Kj ?_
   refine J7 (fun (s:Int)=>(⟨80,[]⟩:Frm)) (fun (s:Int)=>[(0,(x0:Sl).v),(2,.pointer (some Xx2)),(4,(Xx11:Sl).v),(5,.int .i64 Xx12),(6,.int .i64 s)]) H (hE.cut (.cons rfl (.cons rfl (.cons rfl (.cons rfl (.cons rfl Subs.nil)))))) hR (fun Y self2 hY_26 Xx21 a w hE hR H=>?_)
   replace hE:Env (⟨80,[]⟩:Frm) a [(0,(x0:Sl).v),(2,.pointer (some Xx2)),(4,(Xx11:Sl).v),(5,.int .i64 Xx12),(6,.int .i64 Xx21)]:=hE
   replace H:(VX self1 x0 Xx2 Xx11 Xx12 self2 Xx21).wp w.heap Q:=H
   unfold VX at H
   refine KH (fun K hK_27=>?_)
   refine Ku (fun a w=>∃ (Xx28:Bool),Env (⟨80,[]⟩:Frm) a [(0,(x0:Sl).v),(2,.pointer (some Xx2)),(4,(Xx11:Sl).v),(5,.int .i64 Xx12),(6,.int .i64 Xx21),(34,.bool Xx28)]∧Rest w0 w∧(UR self1 self2 x0 Xx2 Xx11 Xx12 Xx21 Xx28).wp w.heap Q) ?_ ?_
   ·rintro a w ⟨Xx28,hE,hR,H⟩
    unfold UR at H
    refine KS Xx28 hE rfl (fun hb=>?_) (fun hb=>?_)
    ·replace H:=M.ite_t hb H
     refine Ka ?_
     refine hK_27 _ _ ?_
     refine Kj ?_
     refine KC ?_
     refine KB (v:=.int .i64 Xx21) rfl rfl hE rfl (KD hE rfl) (fun a hE=>?_)
     refine KB (v:=.int .i64 (IntKind.wrap .i64 (Xx21+2))) rfl rfl hE rfl (KL hE rfl rfl KN JE) (fun a hE=>?_)
     refine KB (v:=.int .i64 (IntKind.wrap .i64 (Xx21+2))) rfl rfl hE rfl (KE hE rfl) (fun a hE=>?_)
     refine KG ?_
     exact hY_26 (IntKind.wrap .i64 (Xx21+2)) _ _ (hE.cut (.cons rfl (.cons rfl (.cons rfl (.cons rfl (.cons rfl Subs.nil)))))) hR H
    ·replace H:=M.ite_f hb H
     refine J6 ?_
     refine Xu.same ?_
     refine hK_20 _ _ ?_
     refine KH (fun K hK_34=>?_)
     refine Ku (fun a w=>∃ (Xx35:Bool),Env (⟨80,[]⟩:Frm) a [(0,(x0:Sl).v),(2,.pointer (some Xx2)),(4,(Xx11:Sl).v),(5,.int .i64 Xx12),(6,.int .i64 Xx21),(52,.bool Xx35)]∧Rest w0 w∧(Jx self1 x0 Xx2 Xx11 Xx12 Xx21 Xx35).wp w.heap Q) ?_ ?_
     ·rintro a w ⟨Xx35,hE,hR,H⟩
      unfold Jx at H
      refine KS Xx35 hE rfl (fun hb=>?_) (fun hb=>?_)
      ·replace H:=M.ite_t hb H
       refine KH (fun K hK_41=>?_)
       refine KC ?_
       refine KB (v:=.agg (#[.int .i64 0,.int .i64 0,.string ByteArray.empty,.slice none 0 0]:Array Value)) rfl rfl hE rfl (YD bd24) (fun a hE=>?_)
       obtain ⟨qz,H⟩:=H
       obtain ⟨u_42,qu_42,H⟩:=H
       refine JI rfl rfl hE hR (Kv hE rfl rfl sz24 qz qu_42) (fun a w hE hR hh=>?_)
       replace H:=M.at hh H; clear hh
       refine KB (v:=.int .i64 5) rfl rfl hE rfl (KE hE rfl) (fun a hE=>?_)
       refine KG ?_
       refine hK_41 _ _ ?_
       refine Kg ?_
       obtain ⟨Rr43,qRr43,H⟩:=H
       exact hret _ _ _ (Rr43,5) _ hE hR (KM hE rfl (RV.cellG rfl ag24 qRr43 (RV.tmp rfl RV.nil))) rfl H
      ·replace H:=M.ite_f hb H
       refine Ka ?_
       refine hK_34 _ _ ?_
       refine KH (fun K hK_44=>?_)
       refine KC ?_
       refine KB (v:=(Xx11:Sl).v) rfl rfl hE rfl (KD hE rfl) (fun a hE=>?_)
       refine KB (v:=.int .i64 Xx21) rfl rfl hE rfl (KD hE rfl) (fun a hE=>?_)
       obtain ⟨Xx45,qXx45,H⟩:=H
       refine KB (v:=(Xx45:Sl).v) rfl rfl hE rfl (qf hE rfl rfl un22 sz24 qXx45) (fun a hE=>?_)
       refine t_ex (fun Xx46=>(Xx46:Sl).v) rfl rfl hR (M.unbind H) (fun Q H=>Xm hE rfl rfl ap22 H) (fun Xx46 a w ea hR H=>?_)
       have hE:=Env.put_some hE rfl ea; clear ea
       refine KB (v:=(Xx46:Sl).v) rfl rfl hE rfl (KE hE rfl) (fun a hE=>?_)
       refine KG ?_
       refine hK_44 _ _ ?_
       obtain ⟨Xx47,qXx47,H⟩:=H
       obtain ⟨Xx48,qXx48,H⟩:=H
       obtain ⟨Xx49,qXx49,H⟩:=H
       obtain ⟨Xx50,qXx50,H⟩:=H
       obtain ⟨Xx51,qXx51,H⟩:=H
       refine VL (rops:=KEj) (by kernel_rfl) ?_
       have hT:Tab KEj _ _ _:=Jf KHt rfl (by kernel_rfl)
       have hM:=TabM.of KGJ
       refine Zq (m:=18) (fun w:World=>(fun h:Heap=>(Xx50.size=4∧∀ i,i < 4→KV h (Addr.add Xx48 i)=Xx50[i]?)∧(Xx51.size=4∧∀ i,i < 4→KV h (Addr.add Xx49 i)=Xx51[i]?)) w.heap) [13,14,16,17] (unb 18 0) mo hR (by kernel_rfl) (by kernel_rfl) (fun w' e=>by rw [e]; exact ⟨qXx50,qXx51⟩) (fun w hh hR hs=>?_)
       replace H:=M.at hh H; clear hh
       refine KF (i:=0) (v:=(Xx11:Sl).v) (unb 18 1) rfl rfl hT (anyM hM (by kernel_rfl)) hE rfl (KA rfl) (fun w=>KD hE rfl) (fun a hE=>?_)
       refine KF (i:=1) (v:=.int .i64 Xx21) (unb 18 3) rfl rfl hT (anyM hM (by kernel_rfl)) hE rfl (KA rfl) (fun w=>KD hE rfl) (fun a hE=>?_)
       refine KF (i:=2) (v:=.int .i64 Xx21) (unb 18 7) rfl rfl hT (anyM hM (by kernel_rfl)) hE rfl (KA rfl) (fun w=>KD hE rfl) (fun a hE=>?_)
       refine KF (i:=3) (v:=(Xx47:Sl).v) (unb 18 15) rfl rfl hT (anyM hM (by kernel_rfl)) hE rfl (KA rfl) (fun w=>KCH hE rfl rfl rfl un22 sz24 qXx47) (fun a hE=>?_)
       refine KF (i:=4) (v:=(x0:Sl).v) (unb 18 31) rfl rfl hT (anyM hM (by kernel_rfl)) hE rfl (KA rfl) (fun w=>KD hE rfl) (fun a hE=>?_)
       refine KF (i:=5) (v:=.int .i64 Xx12) (unb 18 63) rfl rfl hT (anyM hM (by kernel_rfl)) hE rfl (KA rfl) (fun w=>KD hE rfl) (fun a hE=>?_)
       refine KF (i:=6) (v:=.pointer (some Xx48)) (unb 18 127) rfl rfl hT (anyM hM (by kernel_rfl)) hE rfl (KA rfl) (fun w=>KR hE rfl rfl un22 sz24 qXx48) (fun a hE=>?_)
       refine KF (i:=8) (v:=(x0:Sl).v) (unb 18 383) rfl rfl hT (anyM hM (by kernel_rfl)) hE rfl (KA rfl) (fun w=>KD hE rfl) (fun a hE=>?_)
       refine KF (i:=9) (v:=.int .i64 Xx12) (unb 18 895) rfl rfl hT (anyM hM (by kernel_rfl)) hE rfl (KA rfl) (fun w=>KD hE rfl) (fun a hE=>?_)
       refine KF (i:=10) (v:=.int .i64 (IntKind.wrap .i64 (Xx12+1))) (unb 18 1919) rfl rfl hT (anyM hM (by kernel_rfl)) hE rfl (KA rfl) (fun w=>KL hE rfl rfl KN JE) (fun a hE=>?_)
       refine KF (i:=11) (v:=.pointer (some Xx49)) (unb 18 3967) rfl rfl hT (anyM hM (by kernel_rfl)) hE rfl (KA rfl) (fun w=>KR hE rfl rfl un22 sz24 qXx49) (fun a hE=>?_)
       refine KF (i:=15) (v:=(Xx46:Sl).v) (unb 18 36735) rfl rfl hT (anyM hM (by kernel_rfl)) hE rfl (KA rfl) (fun w=>KD hE rfl) (fun a hE=>?_)
       refine Kt (i:=7) (v:=.agg Xx50) (unb 18 36863) rfl rfl hT (UB hM (by kernel_rfl)) hE rfl (KA rfl) hs (fun w s=>ZN hE rfl ag24 s.1) (fun a hE=>?_)
       refine Kt (i:=12) (v:=.agg Xx51) (unb 18 40959) rfl rfl hT (UB hM (by kernel_rfl)) hE rfl (KA rfl) hs (fun w s=>ZN hE rfl ag24 s.2) (fun a hE=>?_)
       obtain ⟨y_53,qy_53,H⟩:=H
       obtain ⟨Xx52,qXx52,H⟩:=H
       refine KCE (i:=13) (v:=(Xx52:Sl).v) (unb 18 49151) rfl rfl hT (oneM hM (by kernel_rfl)) rfl hE hR rfl (KA rfl) (YE hE rfl un22 sz24 zr24 rfl qy_53 qXx52)  (fun a w hE hR hh=>?_)
       replace H:=M.at hh H; clear hh
       refine KHO (i:=14) (fun Xx54=>(Xx54:Sl).v) (unb 18 65535) rfl rfl hT (oneM hM (by kernel_rfl)) rfl hR (KA rfl) (M.unbind H) (fun Q H=>Xm hE rfl rfl ap22 H) (fun Xx54 a w ea hR H=>?_)
       have hE:=Env.put_some hE rfl ea; clear ea
       refine KHO (i:=16) (fun Xx55=>(Xx55:Sl).v) (unb 18 131071) rfl rfl hT (oneM hM (by kernel_rfl)) rfl hR (KA rfl) (M.unbind H) (fun Q H=>Xm hE rfl rfl ap22 H) (fun Xx55 a w ea hR H=>?_)
       have hE:=Env.put_some hE rfl ea; clear ea
       refine KF (i:=17) (v:=(Xx55:Sl).v) (unb 18 262143) rfl rfl hT (anyM hM (by kernel_rfl)) hE rfl (KA rfl) (fun w=>KE hE rfl) (fun a hE=>?_)
       refine JM hT (Wa hM (by kernel_rfl)) ?_
       refine hK_18 _ _ ?_
       refine KC ?_
       refine KB (v:=.int .i64 Xx12) rfl rfl hE rfl (KD hE rfl) (fun a hE=>?_)
       refine KB (v:=.int .i64 (IntKind.wrap .i64 (Xx12+2))) rfl rfl hE rfl (KL hE rfl rfl KN JE) (fun a hE=>?_)
       refine KB (v:=.int .i64 (IntKind.wrap .i64 (Xx12+2))) rfl rfl hE rfl (KE hE rfl) (fun a hE=>?_)
       refine KG ?_
       exact hY_15 (Xx55,IntKind.wrap .i64 (Xx12+2)) _ _ (hE.cut (.cons rfl (.cons rfl (.cons rfl (.cons rfl Subs.nil))))) hR H
     ·skip
      rcases Kq (decide (Xx21 < (Xx11.len:Int))) with hb_56 | hb_56
      ·replace H:=M.ite_t hb_56 H
       obtain ⟨Xx57,qXx57,H⟩:=H
       obtain ⟨Xx58,qXx58,H⟩:=H
       obtain ⟨Xx59,qXx59,H⟩:=H
       obtain ⟨Xx60,qXx60,H⟩:=H
       refine VL (rops:=KBM) (by kernel_rfl) ?_
       have hT:Tab KBM _ _ _:=Jf KEq rfl (by kernel_rfl)
       have hM:=TabM.of KC4
       refine Zq (m:=16) (fun w:World=>(fun h:Heap=>(Xx59.size=4∧∀ i,i < 4→KV h (Addr.add Xx57 i)=Xx59[i]?)∧(Xx60.size=4∧∀ i,i < 4→KV h (Addr.add Xx58 i)=Xx60[i]?)) w.heap) [13,14,15] (unb 16 0) mo hR (by kernel_rfl) (by kernel_rfl) (fun w' e=>by rw [e]; exact ⟨qXx59,qXx60⟩) (fun w hh hR hs=>?_)
       replace H:=M.at hh H; clear hh
       refine KF (i:=0) (v:=.int .i64 Xx21) (unb 16 1) rfl rfl hT (anyM hM (by kernel_rfl)) hE rfl (KA rfl) (fun w=>KD hE rfl) (fun a hE=>?_)
       refine KF (i:=1) (v:=(Xx11:Sl).v) (unb 16 3) rfl rfl hT (anyM hM (by kernel_rfl)) hE rfl (KA rfl) (fun w=>KD hE rfl) (fun a hE=>?_)
       refine KF (i:=2) (v:=.int .i64 (Xx11.len:Int)) (unb 16 7) rfl rfl hT (anyM hM (by kernel_rfl)) hE rfl (KA rfl) (fun w=>UA hE rfl 24 un22) (fun a hE=>?_)
       refine KF (i:=3) (v:=.bool (decide (Xx21 < (Xx11.len:Int)))) (unb 16 15) rfl rfl hT (anyM hM (by kernel_rfl)) hE rfl (KA rfl) (fun w=>KL hE rfl rfl KN JL) (fun a hE=>?_)
       refine KF (i:=4) (v:=.bool (decide (Xx21 < (Xx11.len:Int)))) (unb 16 31) rfl rfl hT (anyM hM (by kernel_rfl)) hE rfl (KA rfl) (fun w=>KD hE rfl) (fun a hE=>?_)
       have hE:=hE.reb 41 (decide (Xx21 < (Xx11.len:Int))) true hb_56 rfl
       replace hE:=hE.cut (l':=[(0,(x0:Sl).v),(2,.pointer (some Xx2)),(4,(Xx11:Sl).v),(5,.int .i64 Xx12),(6,.int .i64 Xx21),(41,.bool true)]) (.cons rfl (.cons rfl (.cons rfl (.cons rfl (.cons rfl (.cons rfl Subs.nil))))))
       refine KF (i:=5) (v:=(Xx11:Sl).v) (unb 16 63) rfl rfl hT (anyM hM (by kernel_rfl)) hE rfl (KP rfl hE rfl rfl rfl) (fun w=>KD hE rfl) (fun a hE=>?_)
       refine KF (i:=6) (v:=.int .i64 Xx21) (unb 16 127) rfl rfl hT (anyM hM (by kernel_rfl)) hE rfl (KP rfl hE rfl rfl rfl) (fun w=>KD hE rfl) (fun a hE=>?_)
       refine KF (i:=7) (v:=.pointer (some Xx57)) (unb 16 255) rfl rfl hT (anyM hM (by kernel_rfl)) hE rfl (KP rfl hE rfl rfl rfl) (fun w=>KR hE rfl rfl un22 sz24 qXx57) (fun a hE=>?_)
       refine KF (i:=9) (v:=(x0:Sl).v) (unb 16 767) rfl rfl hT (anyM hM (by kernel_rfl)) hE rfl (KP rfl hE rfl rfl rfl) (fun w=>KD hE rfl) (fun a hE=>?_)
       refine KF (i:=10) (v:=.int .i64 Xx12) (unb 16 1791) rfl rfl hT (anyM hM (by kernel_rfl)) hE rfl (KP rfl hE rfl rfl rfl) (fun w=>KD hE rfl) (fun a hE=>?_)
       refine KF (i:=11) (v:=.pointer (some Xx58)) (unb 16 3839) rfl rfl hT (anyM hM (by kernel_rfl)) hE rfl (KP rfl hE rfl rfl rfl) (fun w=>KR hE rfl rfl un22 sz24 qXx58) (fun a hE=>?_)
       refine Kt (i:=8) (v:=.agg Xx59) (unb 16 4095) rfl rfl hT (UB hM (by kernel_rfl)) hE rfl (KP rfl hE rfl rfl rfl) hs (fun w s=>ZN hE rfl ag24 s.1) (fun a hE=>?_)
       refine Kt (i:=12) (v:=.agg Xx60) (unb 16 8191) rfl rfl hT (UB hM (by kernel_rfl)) hE rfl (KP rfl hE rfl rfl rfl) hs (fun w s=>ZN hE rfl ag24 s.2) (fun a hE=>?_)
       refine WM (i:=13) (unb 16 16383) rfl rfl rfl hT (oneM hM (by kernel_rfl)) rfl hE hR (KP rfl hE rfl rfl rfl) UC rfl (UM Xx59 Xx60) (M.unbind H) (fun Xx61 a w ea hR H=>?_)
       have hE:=Env.put_some hE rfl ea; clear ea
       refine KF (i:=14) (v:=.bool (Xx61 == 0)) (unb 16 32767) rfl rfl hT (anyM hM (by kernel_rfl)) hE rfl (KP rfl hE rfl rfl rfl) (fun w=>KL hE rfl rfl KN Z5) (fun a hE=>?_)
       refine KF (i:=15) (v:=.bool (Xx61 == 0)) (unb 16 65535) rfl rfl hT (anyM hM (by kernel_rfl)) hE rfl (KA rfl) (fun w=>Kc hE rfl rfl) (fun a hE=>?_)
       refine JM hT (Wa hM (by kernel_rfl)) ?_
       exact ⟨Xx61 == 0,hE.cut (.cons rfl (.cons rfl (.cons rfl (.cons rfl (.cons rfl (.cons rfl Subs.nil)))))),hR,H⟩
      ·replace H:=M.ite_f hb_56 H
       refine VL (rops:=KBM) (by kernel_rfl) ?_
       have hT:Tab KBM _ _ _:=Jf KEq rfl (by kernel_rfl)
       have hM:=TabM.of KC4
       refine Zq (m:=16) (fun w:World=>(fun h:Heap=>True) w.heap) [0,1,2,3,4,5,6,7,8,9,10,11,12,13,14,15] (unb 16 0) mo hR (by kernel_rfl) (by kernel_rfl) (fun w' e=>by rw [e]; exact trivial) (fun w hh hR hs=>?_)
       replace H:=M.at hh H; clear hh
       refine KF (i:=0) (v:=.int .i64 Xx21) (unb 16 1) rfl rfl hT (anyM hM (by kernel_rfl)) hE rfl (KA rfl) (fun w=>KD hE rfl) (fun a hE=>?_)
       refine KF (i:=1) (v:=(Xx11:Sl).v) (unb 16 3) rfl rfl hT (anyM hM (by kernel_rfl)) hE rfl (KA rfl) (fun w=>KD hE rfl) (fun a hE=>?_)
       refine KF (i:=2) (v:=.int .i64 (Xx11.len:Int)) (unb 16 7) rfl rfl hT (anyM hM (by kernel_rfl)) hE rfl (KA rfl) (fun w=>UA hE rfl 24 un22) (fun a hE=>?_)
       refine KF (i:=3) (v:=.bool (decide (Xx21 < (Xx11.len:Int)))) (unb 16 15) rfl rfl hT (anyM hM (by kernel_rfl)) hE rfl (KA rfl) (fun w=>KL hE rfl rfl KN JL) (fun a hE=>?_)
       refine KF (i:=4) (v:=.bool (decide (Xx21 < (Xx11.len:Int)))) (unb 16 31) rfl rfl hT (anyM hM (by kernel_rfl)) hE rfl (KA rfl) (fun w=>KD hE rfl) (fun a hE=>?_)
       have hE:=hE.reb 41 (decide (Xx21 < (Xx11.len:Int))) false hb_56 rfl
       replace hE:=hE.cut (l':=[(0,(x0:Sl).v),(2,.pointer (some Xx2)),(4,(Xx11:Sl).v),(5,.int .i64 Xx12),(6,.int .i64 Xx21),(41,.bool false)]) (.cons rfl (.cons rfl (.cons rfl (.cons rfl (.cons rfl (.cons rfl Subs.nil))))))
       refine Js [(5,some 42),(6,some 43),(7,some 44),(8,some 45),(9,some 46),(10,some 47),(11,some 48),(12,some 49),(13,some 50),(14,some 51)] 1 hT hM hE (by kernel_rfl) (m':=32767) (by kernel_rfl) (fun a hE=>?_)
       refine KF (i:=15) (v:=.bool false) (unb 16 65535) rfl rfl hT (anyM hM (by kernel_rfl)) hE rfl (KA rfl) (fun w=>Kd hE rfl rfl) (fun a hE=>?_)
       refine JM hT (Wa hM (by kernel_rfl)) ?_
       exact ⟨false,hE.cut (.cons rfl (.cons rfl (.cons rfl (.cons rfl (.cons rfl (.cons rfl Subs.nil)))))),hR,H⟩
   ·skip
    rcases Kq (decide (Xx21 < (Xx11.len:Int))) with hb_62 | hb_62
    ·replace H:=M.ite_t hb_62 H
     obtain ⟨Xx63,qXx63,H⟩:=H
     obtain ⟨Xx64,qXx64,H⟩:=H
     obtain ⟨Xx65,qXx65,H⟩:=H
     obtain ⟨Xx66,qXx66,H⟩:=H
     refine VL (rops:=KC5) (by kernel_rfl) ?_
     have hT:Tab KC5 _ _ _:=Jf KG4 rfl (by kernel_rfl)
     have hM:=TabM.of KEr
     refine Zq (m:=16) (fun w:World=>(fun h:Heap=>(Xx65.size=4∧∀ i,i < 4→KV h (Addr.add Xx63 i)=Xx65[i]?)∧(Xx66.size=4∧∀ i,i < 4→KV h (Addr.add Xx64 i)=Xx66[i]?)) w.heap) [13,14,15] (unb 16 0) mo hR (by kernel_rfl) (by kernel_rfl) (fun w' e=>by rw [e]; exact ⟨qXx65,qXx66⟩) (fun w hh hR hs=>?_)
     replace H:=M.at hh H; clear hh
     refine KF (i:=0) (v:=.int .i64 Xx21) (unb 16 1) rfl rfl hT (anyM hM (by kernel_rfl)) hE rfl (KA rfl) (fun w=>KD hE rfl) (fun a hE=>?_)
     refine KF (i:=1) (v:=(Xx11:Sl).v) (unb 16 3) rfl rfl hT (anyM hM (by kernel_rfl)) hE rfl (KA rfl) (fun w=>KD hE rfl) (fun a hE=>?_)
     refine KF (i:=2) (v:=.int .i64 (Xx11.len:Int)) (unb 16 7) rfl rfl hT (anyM hM (by kernel_rfl)) hE rfl (KA rfl) (fun w=>UA hE rfl 24 un22) (fun a hE=>?_)
     refine KF (i:=3) (v:=.bool (decide (Xx21 < (Xx11.len:Int)))) (unb 16 15) rfl rfl hT (anyM hM (by kernel_rfl)) hE rfl (KA rfl) (fun w=>KL hE rfl rfl KN JL) (fun a hE=>?_)
     refine KF (i:=4) (v:=.bool (decide (Xx21 < (Xx11.len:Int)))) (unb 16 31) rfl rfl hT (anyM hM (by kernel_rfl)) hE rfl (KA rfl) (fun w=>KD hE rfl) (fun a hE=>?_)
     have hE:=hE.reb 23 (decide (Xx21 < (Xx11.len:Int))) true hb_62 rfl
     replace hE:=hE.cut (l':=[(0,(x0:Sl).v),(2,.pointer (some Xx2)),(4,(Xx11:Sl).v),(5,.int .i64 Xx12),(6,.int .i64 Xx21),(23,.bool true)]) (.cons rfl (.cons rfl (.cons rfl (.cons rfl (.cons rfl (.cons rfl Subs.nil))))))
     refine KF (i:=5) (v:=(Xx11:Sl).v) (unb 16 63) rfl rfl hT (anyM hM (by kernel_rfl)) hE rfl (KP rfl hE rfl rfl rfl) (fun w=>KD hE rfl) (fun a hE=>?_)
     refine KF (i:=6) (v:=.int .i64 Xx21) (unb 16 127) rfl rfl hT (anyM hM (by kernel_rfl)) hE rfl (KP rfl hE rfl rfl rfl) (fun w=>KD hE rfl) (fun a hE=>?_)
     refine KF (i:=7) (v:=.pointer (some Xx63)) (unb 16 255) rfl rfl hT (anyM hM (by kernel_rfl)) hE rfl (KP rfl hE rfl rfl rfl) (fun w=>KR hE rfl rfl un22 sz24 qXx63) (fun a hE=>?_)
     refine KF (i:=9) (v:=(x0:Sl).v) (unb 16 767) rfl rfl hT (anyM hM (by kernel_rfl)) hE rfl (KP rfl hE rfl rfl rfl) (fun w=>KD hE rfl) (fun a hE=>?_)
     refine KF (i:=10) (v:=.int .i64 Xx12) (unb 16 1791) rfl rfl hT (anyM hM (by kernel_rfl)) hE rfl (KP rfl hE rfl rfl rfl) (fun w=>KD hE rfl) (fun a hE=>?_)
     refine KF (i:=11) (v:=.pointer (some Xx64)) (unb 16 3839) rfl rfl hT (anyM hM (by kernel_rfl)) hE rfl (KP rfl hE rfl rfl rfl) (fun w=>KR hE rfl rfl un22 sz24 qXx64) (fun a hE=>?_)
     refine Kt (i:=8) (v:=.agg Xx65) (unb 16 4095) rfl rfl hT (UB hM (by kernel_rfl)) hE rfl (KP rfl hE rfl rfl rfl) hs (fun w s=>ZN hE rfl ag24 s.1) (fun a hE=>?_)
     refine Kt (i:=12) (v:=.agg Xx66) (unb 16 8191) rfl rfl hT (UB hM (by kernel_rfl)) hE rfl (KP rfl hE rfl rfl rfl) hs (fun w s=>ZN hE rfl ag24 s.2) (fun a hE=>?_)
     refine WM (i:=13) (unb 16 16383) rfl rfl rfl hT (oneM hM (by kernel_rfl)) rfl hE hR (KP rfl hE rfl rfl rfl) UC rfl (UM Xx65 Xx66) (M.unbind H) (fun Xx67 a w ea hR H=>?_)
     have hE:=Env.put_some hE rfl ea; clear ea
     refine KF (i:=14) (v:=.bool (decide (Xx67 < 0))) (unb 16 32767) rfl rfl hT (anyM hM (by kernel_rfl)) hE rfl (KP rfl hE rfl rfl rfl) (fun w=>KL hE rfl rfl KN JL) (fun a hE=>?_)
     refine KF (i:=15) (v:=.bool (decide (Xx67 < 0))) (unb 16 65535) rfl rfl hT (anyM hM (by kernel_rfl)) hE rfl (KA rfl) (fun w=>Kc hE rfl rfl) (fun a hE=>?_)
     refine JM hT (Wa hM (by kernel_rfl)) ?_
     exact ⟨decide (Xx67 < 0),hE.cut (.cons rfl (.cons rfl (.cons rfl (.cons rfl (.cons rfl (.cons rfl Subs.nil)))))),hR,H⟩
    ·replace H:=M.ite_f hb_62 H
     refine VL (rops:=KC5) (by kernel_rfl) ?_
     have hT:Tab KC5 _ _ _:=Jf KG4 rfl (by kernel_rfl)
     have hM:=TabM.of KEr
     refine Zq (m:=16) (fun w:World=>(fun h:Heap=>True) w.heap) [0,1,2,3,4,5,6,7,8,9,10,11,12,13,14,15] (unb 16 0) mo hR (by kernel_rfl) (by kernel_rfl) (fun w' e=>by rw [e]; exact trivial) (fun w hh hR hs=>?_)
     replace H:=M.at hh H; clear hh
     refine KF (i:=0) (v:=.int .i64 Xx21) (unb 16 1) rfl rfl hT (anyM hM (by kernel_rfl)) hE rfl (KA rfl) (fun w=>KD hE rfl) (fun a hE=>?_)
     refine KF (i:=1) (v:=(Xx11:Sl).v) (unb 16 3) rfl rfl hT (anyM hM (by kernel_rfl)) hE rfl (KA rfl) (fun w=>KD hE rfl) (fun a hE=>?_)
     refine KF (i:=2) (v:=.int .i64 (Xx11.len:Int)) (unb 16 7) rfl rfl hT (anyM hM (by kernel_rfl)) hE rfl (KA rfl) (fun w=>UA hE rfl 24 un22) (fun a hE=>?_)
     refine KF (i:=3) (v:=.bool (decide (Xx21 < (Xx11.len:Int)))) (unb 16 15) rfl rfl hT (anyM hM (by kernel_rfl)) hE rfl (KA rfl) (fun w=>KL hE rfl rfl KN JL) (fun a hE=>?_)
     refine KF (i:=4) (v:=.bool (decide (Xx21 < (Xx11.len:Int)))) (unb 16 31) rfl rfl hT (anyM hM (by kernel_rfl)) hE rfl (KA rfl) (fun w=>KD hE rfl) (fun a hE=>?_)
     have hE:=hE.reb 23 (decide (Xx21 < (Xx11.len:Int))) false hb_62 rfl
     replace hE:=hE.cut (l':=[(0,(x0:Sl).v),(2,.pointer (some Xx2)),(4,(Xx11:Sl).v),(5,.int .i64 Xx12),(6,.int .i64 Xx21),(23,.bool false)]) (.cons rfl (.cons rfl (.cons rfl (.cons rfl (.cons rfl (.cons rfl Subs.nil))))))
     refine Js [(5,some 24),(6,some 25),(7,some 26),(8,some 27),(9,some 28),(10,some 29),(11,some 30),(12,some 31),(13,some 32),(14,some 33)] 1 hT hM hE (by kernel_rfl) (m':=32767) (by kernel_rfl) (fun a hE=>?_)
     refine KF (i:=15) (v:=.bool false) (unb 16 65535) rfl rfl hT (anyM hM (by kernel_rfl)) hE rfl (KA rfl) (fun w=>Kd hE rfl rfl) (fun a hE=>?_)
     refine JM hT (Wa hM (by kernel_rfl)) ?_
     exact ⟨false,hE.cut (.cons rfl (.cons rfl (.cons rfl (.cons rfl (.cons rfl (.cons rfl Subs.nil)))))),hR,H⟩
  ·replace H:=M.ite_f hb H
   refine J6 ?_
   refine Xu.same ?_
   refine hK_9 _ _ ?_
   refine KH (fun K hK_68=>?_)
   refine KC ?_
   refine KB (v:=(Xx11:Sl).v) rfl rfl hE rfl (KD hE rfl) (fun a hE=>?_)
   refine KB (v:=.agg (#[.int .i64 5,.int .i64 0,.string ByteArray.empty,(Xx11:Sl).v]:Array Value)) rfl rfl hE rfl (Uw hE rfl zr24 pl24 (by rfl)) (fun a hE=>?_)
   refine KZ hE hR Y5 rfl (XZ (#[.int .i64 5,.int .i64 0,.string ByteArray.empty,(Xx11:Sl).v]:Array Value)) (M.unbind H) (fun Xx69 a w ea hR H=>?_)
   have hE:=Env.put_some hE rfl ea; clear ea
   refine KB (v:=.agg Xx69.1) rfl rfl hE rfl (ZF hE rfl rfl) (fun a hE=>?_)
   refine KB (v:=.int .i64 Xx69.2) rfl rfl hE rfl (ZF hE rfl rfl) (fun a hE=>?_)
   obtain ⟨qz,H⟩:=H
   obtain ⟨u_70,qu_70,H⟩:=H
   refine JI rfl rfl hE hR (Kv hE rfl rfl sz24 qz qu_70) (fun a w hE hR hh=>?_)
   replace H:=M.at hh H; clear hh
   refine KB (v:=.int .i64 Xx69.2) rfl rfl hE rfl (KE hE rfl) (fun a hE=>?_)
   refine KG ?_
   refine hK_68 _ _ ?_
   refine Kg ?_
   obtain ⟨Rr71,qRr71,H⟩:=H
   exact hret _ _ _ (Rr71,Xx69.2) _ hE hR (KM hE rfl (RV.cellG rfl ag24 qRr71 (RV.tmp rfl RV.nil))) rfl H
def XE (x0:Int):M (Array Value):=do
 let Xx2←mkB KJ (#[.int .i64 0,.int .i64 0,.string ByteArray.empty,.slice none 0 0]:Array Value)
 M.need ((#[.int .i64 1,.int .i64 x0,.string ByteArray.empty,.slice none 0 0]:Array Value).size=4)
 stG Xx2 (#[.int .i64 1,.int .i64 x0,.string ByteArray.empty,.slice none 0 0]:Array Value)
 let Rr5←ldG 4 Xx2
 M.pure Rr5
theorem qo (x0:Int):ZK Go.Proofs.Tryz.prog 27 #[.int .i64 x0] (fun (r:Array Value)=>.agg r) (XE x0):=by
 refine KY [(0,.int .i64 x0)] Go.Proofs.Tryz.func27 rfl rfl (Nat.le_of_ble_eq_true rfl) (Ke ⟨rfl,trivial⟩) (fun w0 w Q R a hret hE hR H=>?_)
 unfold XE at H
 refine KH (fun K hK_1=>?_)
 refine KC ?_
 obtain ⟨Xx2,qXx2,H⟩:=H
 refine ZR (v:=.pointer (some Xx2)) rfl rfl hE rfl hR (Z4 zr24 qXx2) (fun a w hE hR hh=>?_)
 replace H:=M.at hh H; clear hh
 refine KG ?_
 refine hK_1 _ _ ?_
 refine KH (fun K hK_3=>?_)
 refine KC ?_
 refine KB (v:=.int .i64 x0) rfl rfl hE rfl (KD hE rfl) (fun a hE=>?_)
 refine KB (v:=.agg (#[.int .i64 1,.int .i64 x0,.string ByteArray.empty,.slice none 0 0]:Array Value)) rfl rfl hE rfl (Uw hE rfl zr24 pl24 (by rfl)) (fun a hE=>?_)
 obtain ⟨qz,H⟩:=H
 obtain ⟨u_4,qu_4,H⟩:=H
 refine JI rfl rfl hE hR (Kv hE rfl rfl sz24 qz qu_4) (fun a w hE hR hh=>?_)
 replace H:=M.at hh H; clear hh
 refine KG ?_
 refine hK_3 _ _ ?_
 refine Kg ?_
 obtain ⟨Rr5,qRr5,H⟩:=H
 exact hret _ _ _ Rr5 _ hE hR (KM hE rfl (RV.cellG rfl ag24 qRr5 RV.nil)) rfl H
def XF (x0:ByteArray):M (Array Value):=do
 let Xx2←mkB KJ (#[.int .i64 0,.int .i64 0,.string ByteArray.empty,.slice none 0 0]:Array Value)
 M.need ((#[.int .i64 2,.int .i64 0,.string x0,.slice none 0 0]:Array Value).size=4)
 stG Xx2 (#[.int .i64 2,.int .i64 0,.string x0,.slice none 0 0]:Array Value)
 let Rr5←ldG 4 Xx2
 M.pure Rr5
theorem qp (x0:ByteArray):ZK Go.Proofs.Tryz.prog 29 #[.string x0] (fun (r:Array Value)=>.agg r) (XF x0):=by
 refine KY [(0,.string x0)] Go.Proofs.Tryz.func29 rfl rfl (Nat.le_of_ble_eq_true rfl) (Ke ⟨rfl,trivial⟩) (fun w0 w Q R a hret hE hR H=>?_)
 unfold XF at H
 refine KH (fun K hK_1=>?_)
 refine KC ?_
 obtain ⟨Xx2,qXx2,H⟩:=H
 refine ZR (v:=.pointer (some Xx2)) rfl rfl hE rfl hR (Z4 zr24 qXx2) (fun a w hE hR hh=>?_)
 replace H:=M.at hh H; clear hh
 refine KG ?_
 refine hK_1 _ _ ?_
 refine KH (fun K hK_3=>?_)
 refine KC ?_
 refine KB (v:=.string x0) rfl rfl hE rfl (KD hE rfl) (fun a hE=>?_)
 refine KB (v:=.agg (#[.int .i64 2,.int .i64 0,.string x0,.slice none 0 0]:Array Value)) rfl rfl hE rfl (Uw hE rfl zr24 pl24 (by rfl)) (fun a hE=>?_)
 obtain ⟨qz,H⟩:=H
 obtain ⟨u_4,qu_4,H⟩:=H
 refine JI rfl rfl hE hR (Kv hE rfl rfl sz24 qz qu_4) (fun a w hE hR hh=>?_)
 replace H:=M.at hh H; clear hh
 refine KG ?_
 refine hK_3 _ _ ?_
 refine Kg ?_
 obtain ⟨Rr5,qRr5,H⟩:=H
 exact hret _ _ _ Rr5 _ hE hR (KM hE rfl (RV.cellG rfl ag24 qRr5 RV.nil)) rfl H
def Gt (x0:Int):M (Array Value):=do
 let Xx2←mkB KJ (#[.int .i64 0,.int .i64 0,.string ByteArray.empty,.slice none 0 0]:Array Value)
 M.need ((#[.int .i64 6,.int .i64 x0,.string ByteArray.empty,.slice none 0 0]:Array Value).size=4)
 stG Xx2 (#[.int .i64 6,.int .i64 x0,.string ByteArray.empty,.slice none 0 0]:Array Value)
 let Rr5←ldG 4 Xx2
 M.pure Rr5
theorem KAO (x0:Int):ZK Go.Proofs.Tryz.prog 30 #[.int .i64 x0] (fun (r:Array Value)=>.agg r) (Gt x0):=by
 refine KY [(0,.int .i64 x0)] Go.Proofs.Tryz.func30 rfl rfl (Nat.le_of_ble_eq_true rfl) (Ke ⟨rfl,trivial⟩) (fun w0 w Q R a hret hE hR H=>?_)
 unfold Gt at H
 refine KH (fun K hK_1=>?_)
 refine KC ?_
 obtain ⟨Xx2,qXx2,H⟩:=H
 refine ZR (v:=.pointer (some Xx2)) rfl rfl hE rfl hR (Z4 zr24 qXx2) (fun a w hE hR hh=>?_)
 replace H:=M.at hh H; clear hh
 refine KG ?_
 refine hK_1 _ _ ?_
 refine KH (fun K hK_3=>?_)
 refine KC ?_
 refine KB (v:=.int .i64 x0) rfl rfl hE rfl (KD hE rfl) (fun a hE=>?_)
 refine KB (v:=.agg (#[.int .i64 6,.int .i64 x0,.string ByteArray.empty,.slice none 0 0]:Array Value)) rfl rfl hE rfl (Uw hE rfl zr24 pl24 (by rfl)) (fun a hE=>?_)
 obtain ⟨qz,H⟩:=H
 obtain ⟨u_4,qu_4,H⟩:=H
 refine JI rfl rfl hE hR (Kv hE rfl rfl sz24 qz qu_4) (fun a w hE hR hh=>?_)
 replace H:=M.at hh H; clear hh
 refine KG ?_
 refine hK_3 _ _ ?_
 refine Kg ?_
 obtain ⟨Rr5,qRr5,H⟩:=H
 exact hret _ _ _ Rr5 _ hE hR (KM hE rfl (RV.cellG rfl ag24 qRr5 RV.nil)) rfl H
def Wq (x0:Int):M (Array Value):=do
 let Xx2←mkB KJ (#[.int .i64 0,.int .i64 0,.string ByteArray.empty,.slice none 0 0]:Array Value)
 M.need ((#[.int .i64 6,.int .i64 x0,.string ByteArray.empty,.slice none 0 0]:Array Value).size=4)
 stG Xx2 (#[.int .i64 6,.int .i64 x0,.string ByteArray.empty,.slice none 0 0]:Array Value)
 let Rr5←ldG 4 Xx2
 M.pure Rr5
theorem NO (x0:Int):ZK Go.Proofs.Tryz.prog 31 #[.int .i64 x0] (fun (r:Array Value)=>.agg r) (Wq x0):=by
 refine KY [(0,.int .i64 x0)] Go.Proofs.Tryz.func31 rfl rfl (Nat.le_of_ble_eq_true rfl) (Ke ⟨rfl,trivial⟩) (fun w0 w Q R a hret hE hR H=>?_)
 unfold Wq at H
 refine KH (fun K hK_1=>?_)
 refine KC ?_
 obtain ⟨Xx2,qXx2,H⟩:=H
 refine ZR (v:=.pointer (some Xx2)) rfl rfl hE rfl hR (Z4 zr24 qXx2) (fun a w hE hR hh=>?_)
 replace H:=M.at hh H; clear hh
 refine KG ?_
 refine hK_1 _ _ ?_
 refine KH (fun K hK_3=>?_)
 refine KC ?_
 refine KB (v:=.int .i64 x0) rfl rfl hE rfl (KD hE rfl) (fun a hE=>?_)
 refine KB (v:=.agg (#[.int .i64 6,.int .i64 x0,.string ByteArray.empty,.slice none 0 0]:Array Value)) rfl rfl hE rfl (Uw hE rfl zr24 pl24 (by rfl)) (fun a hE=>?_)
 obtain ⟨qz,H⟩:=H
 obtain ⟨u_4,qu_4,H⟩:=H
 refine JI rfl rfl hE hR (Kv hE rfl rfl sz24 qz qu_4) (fun a w hE hR hh=>?_)
 replace H:=M.at hh H; clear hh
 refine KG ?_
 refine hK_3 _ _ ?_
 refine Kg ?_
 obtain ⟨Rr5,qRr5,H⟩:=H
 exact hret _ _ _ Rr5 _ hE hR (KM hE rfl (RV.cellG rfl ag24 qRr5 RV.nil)) rfl H
def qq (x0:Int):M (Array Value):=do
 let Xx2←mkB KJ (#[.int .i64 0,.int .i64 0,.string ByteArray.empty,.slice none 0 0]:Array Value)
 M.need ((#[.int .i64 7,.int .i64 x0,.string ByteArray.empty,.slice none 0 0]:Array Value).size=4)
 stG Xx2 (#[.int .i64 7,.int .i64 x0,.string ByteArray.empty,.slice none 0 0]:Array Value)
 let Rr5←ldG 4 Xx2
 M.pure Rr5
theorem KBr (x0:Int):ZK Go.Proofs.Tryz.prog 32 #[.int .i64 x0] (fun (r:Array Value)=>.agg r) (qq x0):=by
 refine KY [(0,.int .i64 x0)] Go.Proofs.Tryz.func32 rfl rfl (Nat.le_of_ble_eq_true rfl) (Ke ⟨rfl,trivial⟩) (fun w0 w Q R a hret hE hR H=>?_)
 unfold qq at H
 refine KH (fun K hK_1=>?_)
 refine KC ?_
 obtain ⟨Xx2,qXx2,H⟩:=H
 refine ZR (v:=.pointer (some Xx2)) rfl rfl hE rfl hR (Z4 zr24 qXx2) (fun a w hE hR hh=>?_)
 replace H:=M.at hh H; clear hh
 refine KG ?_
 refine hK_1 _ _ ?_
 refine KH (fun K hK_3=>?_)
 refine KC ?_
 refine KB (v:=.int .i64 x0) rfl rfl hE rfl (KD hE rfl) (fun a hE=>?_)
 refine KB (v:=.agg (#[.int .i64 7,.int .i64 x0,.string ByteArray.empty,.slice none 0 0]:Array Value)) rfl rfl hE rfl (Uw hE rfl zr24 pl24 (by rfl)) (fun a hE=>?_)
 obtain ⟨qz,H⟩:=H
 obtain ⟨u_4,qu_4,H⟩:=H
 refine JI rfl rfl hE hR (Kv hE rfl rfl sz24 qz qu_4) (fun a w hE hR hh=>?_)
 replace H:=M.at hh H; clear hh
 refine KG ?_
 refine hK_3 _ _ ?_
 refine Kg ?_
 obtain ⟨Rr5,qRr5,H⟩:=H
 exact hret _ _ _ Rr5 _ hE hR (KM hE rfl (RV.cellG rfl ag24 qRr5 RV.nil)) rfl H
def YZ (x0:Int):M (Array Value):=do
 let Xx2←mkB KJ (#[.int .i64 0,.int .i64 0,.string ByteArray.empty,.slice none 0 0]:Array Value)
 M.need ((#[.int .i64 7,.int .i64 x0,.string ByteArray.empty,.slice none 0 0]:Array Value).size=4)
 stG Xx2 (#[.int .i64 7,.int .i64 x0,.string ByteArray.empty,.slice none 0 0]:Array Value)
 let Rr5←ldG 4 Xx2
 M.pure Rr5
theorem qP (x0:Int):ZK Go.Proofs.Tryz.prog 33 #[.int .i64 x0] (fun (r:Array Value)=>.agg r) (YZ x0):=by
 refine KY [(0,.int .i64 x0)] Go.Proofs.Tryz.func33 rfl rfl (Nat.le_of_ble_eq_true rfl) (Ke ⟨rfl,trivial⟩) (fun w0 w Q R a hret hE hR H=>?_)
 unfold YZ at H
 refine KH (fun K hK_1=>?_)
 refine KC ?_
 obtain ⟨Xx2,qXx2,H⟩:=H
 refine ZR (v:=.pointer (some Xx2)) rfl rfl hE rfl hR (Z4 zr24 qXx2) (fun a w hE hR hh=>?_)
 replace H:=M.at hh H; clear hh
 refine KG ?_
 refine hK_1 _ _ ?_
 refine KH (fun K hK_3=>?_)
 refine KC ?_
 refine KB (v:=.int .i64 x0) rfl rfl hE rfl (KD hE rfl) (fun a hE=>?_)
 refine KB (v:=.agg (#[.int .i64 7,.int .i64 x0,.string ByteArray.empty,.slice none 0 0]:Array Value)) rfl rfl hE rfl (Uw hE rfl zr24 pl24 (by rfl)) (fun a hE=>?_)
 obtain ⟨qz,H⟩:=H
 obtain ⟨u_4,qu_4,H⟩:=H
 refine JI rfl rfl hE hR (Kv hE rfl rfl sz24 qz qu_4) (fun a w hE hR hh=>?_)
 replace H:=M.at hh H; clear hh
 refine KG ?_
 refine hK_3 _ _ ?_
 refine Kg ?_
 obtain ⟨Rr5,qRr5,H⟩:=H
 exact hret _ _ _ Rr5 _ hE hR (KM hE rfl (RV.cellG rfl ag24 qRr5 RV.nil)) rfl H
def VP (x0:Bool):M (Array Value):=do
 let Xx2←mkB KJ (#[.int .i64 0,.int .i64 0,.string ByteArray.empty,.slice none 0 0]:Array Value)
 M.ite x0 (do
  M.need ((#[.int .i64 3,.int .i64 1,.string ByteArray.empty,.slice none 0 0]:Array Value).size=4)
  stG Xx2 (#[.int .i64 3,.int .i64 1,.string ByteArray.empty,.slice none 0 0]:Array Value)
  let Rr7←ldG 4 Xx2
  M.pure Rr7
  ) (do
  M.need ((#[.int .i64 3,.int .i64 0,.string ByteArray.empty,.slice none 0 0]:Array Value).size=4)
  stG Xx2 (#[.int .i64 3,.int .i64 0,.string ByteArray.empty,.slice none 0 0]:Array Value)
  let Rr10←ldG 4 Xx2
  M.pure Rr10
  )
theorem qQ (x0:Bool):ZK Go.Proofs.Tryz.prog 35 #[.bool x0] (fun (r:Array Value)=>.agg r) (VP x0):=by
 refine KY [(0,.bool x0)] Go.Proofs.Tryz.func35 rfl rfl (Nat.le_of_ble_eq_true rfl) (Ke ⟨rfl,trivial⟩) (fun w0 w Q R a hret hE hR H=>?_)
 unfold VP at H
 refine KH (fun K hK_1=>?_)
 refine KC ?_
 obtain ⟨Xx2,qXx2,H⟩:=H
 refine ZR (v:=.pointer (some Xx2)) rfl rfl hE rfl hR (Z4 zr24 qXx2) (fun a w hE hR hh=>?_)
 replace H:=M.at hh H; clear hh
 refine KG ?_
 refine hK_1 _ _ ?_
 refine KH (fun K hK_3=>?_)
 refine KH (fun K hK_4=>?_)
 refine KC ?_
 refine KB (v:=.bool x0) rfl rfl hE rfl (KD hE rfl) (fun a hE=>?_)
 refine KG ?_
 refine hK_4 _ _ ?_
 refine KS x0 hE rfl (fun hb=>?_) (fun hb=>?_)
 ·replace H:=M.ite_t hb H
  refine KH (fun K hK_5=>?_)
  refine KC ?_
  refine KB (v:=.agg (#[.int .i64 3,.int .i64 1,.string ByteArray.empty,.slice none 0 0]:Array Value)) rfl rfl hE rfl (Uw hE rfl zr24 pl24 (by rfl)) (fun a hE=>?_)
  obtain ⟨qz,H⟩:=H
  obtain ⟨u_6,qu_6,H⟩:=H
  refine JI rfl rfl hE hR (Kv hE rfl rfl sz24 qz qu_6) (fun a w hE hR hh=>?_)
  replace H:=M.at hh H; clear hh
  refine KG ?_
  refine hK_5 _ _ ?_
  refine Kg ?_
  obtain ⟨Rr7,qRr7,H⟩:=H
  exact hret _ _ _ Rr7 _ hE hR (KM hE rfl (RV.cellG rfl ag24 qRr7 RV.nil)) rfl H
 ·replace H:=M.ite_f hb H
  refine Ka ?_
  refine hK_3 _ _ ?_
  refine KH (fun K hK_8=>?_)
  refine KC ?_
  refine KB (v:=.agg (#[.int .i64 3,.int .i64 0,.string ByteArray.empty,.slice none 0 0]:Array Value)) rfl rfl hE rfl (Uw hE rfl zr24 pl24 (by rfl)) (fun a hE=>?_)
  obtain ⟨qz,H⟩:=H
  obtain ⟨u_9,qu_9,H⟩:=H
  refine JI rfl rfl hE hR (Kv hE rfl rfl sz24 qz qu_9) (fun a w hE hR hh=>?_)
  replace H:=M.at hh H; clear hh
  refine KG ?_
  refine hK_8 _ _ ?_
  refine Kg ?_
  obtain ⟨Rr10,qRr10,H⟩:=H
  exact hret _ _ _ Rr10 _ hE hR (KM hE rfl (RV.cellG rfl ag24 qRr10 RV.nil)) rfl H
end Gx
