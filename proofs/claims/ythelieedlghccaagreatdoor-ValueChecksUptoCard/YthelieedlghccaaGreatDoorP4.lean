/- Printed by program: Go functions as Lean programs, each tied to its code. No condition. -/
import Derived.Test.YthelieedlghccaaGreatDoorP0
import Derived.Test.YthelieedlghccaaGreatDoorP1
import Derived.Test.YthelieedlghccaaGreatDoorP2
import Derived.Test.YthelieedlghccaaGreatDoorP3
set_option linter.unusedVariables false
set_option linter.unusedSimpArgs false
namespace Gx
open Go
set_option linter.unusedVariables false
set_option maxRecDepth 100000
noncomputable def KEV:Array Oper:=NZ Go.Proofs.Tryz.f178 6
def KEW:List (List Nat):=[[],[],[],[],[3],[],[],[6],[5,7],[8],[],[],[10,11],[12],[0,1,0,1,5,6,7,8,9,13],[14,9,0,1,5,6,7,8,9,13],[2,4,0,1,2,3,4,5,6,7,8,9,10,11,12,13,14,15],[16,13,15,0,1,2,3,4,5,6,7,8,9,10,11,12,13,14,15]]
def KEX:List (List Nat):=[[],[],[],[],[3],[],[],[6],[5,7],[8],[],[],[10,11],[12],[0,1],[9,14],[2,4],[13,16]]
def KEY:List (List Nat):=[[],[],[],[],[3],[],[],[6],[5,6,7],[5,6,7,8],[],[],[10,11],[10,11,12],[0,1,5,6,7,8,9,10,11,12,13],[0,1,5,6,7,8,9,10,11,12,13,14],[0,1,2,3,4,5,6,7,8,9,10,11,12,13,14,15],[0,1,2,3,4,5,6,7,8,9,10,11,12,13,14,15,16]]
theorem KHp:Vg Go.Proofs.Tryz.f178 6 KEW KEX KEY=true:=by kernel_rfl
theorem KGD:Gi 18 KEW KEX KEY [0,0,0,0,8,0,0,64,160,256,0,0,3072,4096,9187,25571,65535,131071] [0,0,0,0,8,0,0,64,160,256,0,0,3072,4096,3,16896,20,73728] [0,0,0,0,8,0,0,64,224,480,0,0,3072,7168,16355,32739,65535,131071]=true:=by kernel_rfl
def Kk (self1:(Int)→M (Unit)) (self2:(Int)→M (Unit)) (C21:Sl) (C25:Int) (C26:Int) (Xx20:Bool):M (Unit):=do
 M.ite Xx20 (do
  let Xx28←ixL C21 (IntKind.wrap .i64 (C26 - 1)) 1
  let Xx29←ixL C21 C26 1
  let Xx30←ldL Xx28
  let Xx31←ldL Xx29
  let Xx32←ixL C21 C26 1
  stV Xx32 ((Xx30:Sl).v)
  let Xx34←ixL C21 (IntKind.wrap .i64 (C26 - 1)) 1
  stV Xx34 ((Xx31:Sl).v)
  self2 (IntKind.wrap .i64 (C26 - 1))
  ) (do
  self1 (IntKind.wrap .i64 (C25+1))
  )
noncomputable def KBL:Array Oper:=NZ Go.Proofs.Tryz.f178 4
def KEZ:List (List Nat):=[[],[],[0,1],[2],[3],[3],[3],[5,6,3],[7,3],[3],[3],[10,3],[9,11,3],[12,3],[4,8,13,3,3],[14,3],[3,15]]
def KEa:List (List Nat):=[[],[],[0,1],[2],[3],[3],[3],[3,5,6],[3,7],[3],[3],[3,10],[3,9,11],[3,12],[3,4,8,13],[3,14],[3,15]]
def KEb:List (List Nat):=[[],[],[0,1],[0,1,2],[0,1,2,3],[0,1,2,3],[0,1,2,3],[0,1,2,3,5,6],[0,1,2,3,5,6,7],[0,1,2,3],[0,1,2,3],[0,1,2,3,10],[0,1,2,3,9,10,11],[0,1,2,3,9,10,11,12],[0,1,2,3,4,5,6,7,8,9,10,11,12,13],[0,1,2,3,4,5,6,7,8,9,10,11,12,13,14],[0,1,2,3,4,5,6,7,8,9,10,11,12,13,14,15]]
theorem KEc:Vg Go.Proofs.Tryz.f178 4 KEZ KEa KEb=true:=by kernel_rfl
theorem KCv:Gi 17 KEZ KEa KEb [0,0,3,4,8,8,8,104,136,8,8,1032,2568,4104,8472,16392,32776] [0,0,3,4,8,8,8,104,136,8,8,1032,2568,4104,8472,16392,32776] [0,0,3,7,15,15,15,111,239,15,15,1039,3599,7695,16383,32767,65535]=true:=by kernel_rfl
def Za (self1:(Int)→M (Unit)) (C13:Sl) (C14:Int) (C16:Value) (C17:Int) (self2:(Int)→M (Unit)):(Int)→M (Unit):=fun s=>match s with
 | Xx12=>do
  M.ite (decide (Xx12 > C14)) (do
   let Xx37←ixL C13 Xx12 1
   let Xx38←ixL C13 (IntKind.wrap .i64 (Xx12 - 1)) 1
   let Xx39←ldL Xx37
   let Xx40←ldL Xx38
   let Xx41←KBj Go.Proofs.Tryz.prog (fun r:Int=>.int .i64 r) C16 [(Xx39:Sl).v,(Xx40:Sl).v]
   Kk self1 self2 C13 C17 Xx12 (decide (Xx41 < 0))
   ) (do
   Kk self1 self2 C13 C17 Xx12 false
   )
def Zb (C3:Sl) (C4:Int) (C5:Int) (C6:Value) (self1:(Int)→M (Unit)):(Int)→M (Unit):=fun s=>match s with
 | Xx2=>do
  M.ite (decide (Xx2 < C5)) (do
   M.loop (Za self1 C3 C4 C6 Xx2) Xx2
   ) (do
   M.pure ()
   )
def K0 (x0:Sl) (x1:Int) (x2:Int) (x3:Value):M (Unit):=do
 M.loop (Zb x0 x1 x2 x3) (IntKind.wrap .i64 (x1+1))
theorem UD (x0:Sl) (x1:Int) (x2:Int) (x3:Value):ZK Go.Proofs.Tryz.prog 178 #[(x0:Sl).v,.int .i64 x1,.int .i64 x2,x3] (fun (r:Unit)=>.tuple #[]) (K0 x0 x1 x2 x3):=by
 refine KY [(0,(x0:Sl).v),(1,.int .i64 x1),(2,.int .i64 x2),(3,x3)] Go.Proofs.Tryz.func178 rfl rfl (Nat.le_of_ble_eq_true rfl) (Ke ⟨rfl,rfl,rfl,rfl,trivial⟩) (fun w0 w Q R a hret hE hR H=>?_)
 unfold K0 at H
 refine KH (fun K hK_1=>?_)
 refine KC ?_
 refine KB (v:=.int .i64 x1) rfl rfl hE rfl (KD hE rfl) (fun a hE=>?_)
 refine KB (v:=.int .i64 (IntKind.wrap .i64 (x1+1))) rfl rfl hE rfl (KL hE rfl rfl KN JE) (fun a hE=>?_)
 refine KB (v:=.int .i64 (IntKind.wrap .i64 (x1+1))) rfl rfl hE rfl (KE hE rfl) (fun a hE=>?_)
 refine KG ?_
 refine hK_1 _ _ ?_
 refine Kj ?_
 refine J7 (fun (s:Int)=>(⟨53,[]⟩:Frm)) (fun (s:Int)=>[(0,(x0:Sl).v),(1,.int .i64 x1),(2,.int .i64 x2),(3,x3),(8,.int .i64 s)]) H (hE.cut (.cons rfl (.cons rfl (.cons rfl (.cons rfl (.cons rfl Subs.nil)))))) hR (fun Y self1 hY_7 Xx2 a w hE hR H=>?_)
 replace hE:Env (⟨53,[]⟩:Frm) a [(0,(x0:Sl).v),(1,.int .i64 x1),(2,.int .i64 x2),(3,x3),(8,.int .i64 Xx2)]:=hE
 replace H:(Zb x0 x1 x2 x3 self1 Xx2).wp w.heap Q:=H
 unfold Zb at H
 refine KH (fun K hK_8=>?_)
 refine KH (fun K hK_9=>?_)
 refine KC ?_
 refine KB (v:=.int .i64 Xx2) rfl rfl hE rfl (KD hE rfl) (fun a hE=>?_)
 refine KB (v:=.int .i64 x2) rfl rfl hE rfl (KD hE rfl) (fun a hE=>?_)
 refine KB (v:=.bool (decide (Xx2 < x2))) rfl rfl hE rfl (KL hE rfl rfl KN JL) (fun a hE=>?_)
 refine KG ?_
 refine hK_9 _ _ ?_
 refine KS (decide (Xx2 < x2)) hE rfl (fun hb=>?_) (fun hb=>?_)
 ·replace H:=M.ite_t hb H
  refine Ka ?_
  refine hK_8 _ _ ?_
  refine KH (fun K hK_10=>?_)
  refine Kj ?_
  refine KH (fun K hK_11=>?_)
  refine KC ?_
  refine KB (v:=.int .i64 Xx2) rfl rfl hE rfl (KD hE rfl) (fun a hE=>?_)
  refine KB (v:=.int .i64 Xx2) rfl rfl hE rfl (KE hE rfl) (fun a hE=>?_)
  refine KG ?_
  refine hK_11 _ _ ?_
  refine Kj ?_
  refine J7 (fun (s:Int)=>(⟨53,[]⟩:Frm)) (fun (s:Int)=>[(0,(x0:Sl).v),(1,.int .i64 x1),(2,.int .i64 x2),(3,x3),(8,.int .i64 Xx2),(9,.int .i64 s)]) H (hE.cut (.cons rfl (.cons rfl (.cons rfl (.cons rfl (.cons rfl (.cons rfl Subs.nil))))))) hR (fun Y self2 hY_18 Xx12 a w hE hR H=>?_)
  replace hE:Env (⟨53,[]⟩:Frm) a [(0,(x0:Sl).v),(1,.int .i64 x1),(2,.int .i64 x2),(3,x3),(8,.int .i64 Xx2),(9,.int .i64 Xx12)]:=hE
  replace H:(Za self1 x0 x1 x3 Xx2 self2 Xx12).wp w.heap Q:=H
  unfold Za at H
  refine KH (fun K hK_19=>?_)
  refine Ku (fun a w=>∃ (Xx20:Bool),Env (⟨53,[]⟩:Frm) a [(0,(x0:Sl).v),(1,.int .i64 x1),(2,.int .i64 x2),(3,x3),(8,.int .i64 Xx2),(9,.int .i64 Xx12),(34,.bool Xx20)]∧Rest w0 w∧(Kk self1 self2 x0 Xx2 Xx12 Xx20).wp w.heap Q) ?_ ?_
  ·rintro a w ⟨Xx20,hE,hR,H⟩
   unfold Kk at H
   refine KS Xx20 hE rfl (fun hb=>?_) (fun hb=>?_)
   ·replace H:=M.ite_t hb H
    refine Ka ?_
    refine hK_19 _ _ ?_
    refine KH (fun K hK_27=>?_)
    refine Kj ?_
    obtain ⟨Xx28,qXx28,H⟩:=H
    obtain ⟨Xx29,qXx29,H⟩:=H
    obtain ⟨Xx30,qXx30,H⟩:=H
    obtain ⟨Xx31,qXx31,H⟩:=H
    obtain ⟨Xx32,qXx32,H⟩:=H
    refine VL (rops:=KEV) (by kernel_rfl) ?_
    have hT:Tab KEV _ _ _:=Jf KHp rfl (by kernel_rfl)
    have hM:=TabM.of KGD
    refine Zq (m:=18) (fun w:World=>(fun h:Heap=>(KV h Xx28=some ((Xx30:Sl).v))∧(KV h Xx29=some ((Xx31:Sl).v))) w.heap) [14,15,16,17] (unb 18 0) mo hR (by kernel_rfl) (by kernel_rfl) (fun w' e=>by rw [e]; exact ⟨qXx30,qXx31⟩) (fun w hh hR hs=>?_)
    replace H:=M.at hh H; clear hh
    refine KF (i:=0) (v:=(x0:Sl).v) (unb 18 1) rfl rfl hT (anyM hM (by kernel_rfl)) hE rfl (KA rfl) (fun w=>KD hE rfl) (fun a hE=>?_)
    refine KF (i:=1) (v:=.int .i64 Xx12) (unb 18 3) rfl rfl hT (anyM hM (by kernel_rfl)) hE rfl (KA rfl) (fun w=>KD hE rfl) (fun a hE=>?_)
    refine KF (i:=2) (v:=(x0:Sl).v) (unb 18 7) rfl rfl hT (anyM hM (by kernel_rfl)) hE rfl (KA rfl) (fun w=>KD hE rfl) (fun a hE=>?_)
    refine KF (i:=3) (v:=.int .i64 Xx12) (unb 18 15) rfl rfl hT (anyM hM (by kernel_rfl)) hE rfl (KA rfl) (fun w=>KD hE rfl) (fun a hE=>?_)
    refine KF (i:=4) (v:=.int .i64 (IntKind.wrap .i64 (Xx12 - 1))) (unb 18 31) rfl rfl hT (anyM hM (by kernel_rfl)) hE rfl (KA rfl) (fun w=>KL hE rfl rfl KN VA) (fun a hE=>?_)
    refine KF (i:=5) (v:=(x0:Sl).v) (unb 18 63) rfl rfl hT (anyM hM (by kernel_rfl)) hE rfl (KA rfl) (fun w=>KD hE rfl) (fun a hE=>?_)
    refine KF (i:=6) (v:=.int .i64 Xx12) (unb 18 127) rfl rfl hT (anyM hM (by kernel_rfl)) hE rfl (KA rfl) (fun w=>KD hE rfl) (fun a hE=>?_)
    refine KF (i:=7) (v:=.int .i64 (IntKind.wrap .i64 (Xx12 - 1))) (unb 18 255) rfl rfl hT (anyM hM (by kernel_rfl)) hE rfl (KA rfl) (fun w=>KL hE rfl rfl KN VA) (fun a hE=>?_)
    refine KF (i:=8) (v:=.pointer (some Xx28)) (unb 18 511) rfl rfl hT (anyM hM (by kernel_rfl)) hE rfl (KA rfl) (fun w=>KR hE rfl rfl un89 sz22 qXx28) (fun a hE=>?_)
    refine KF (i:=10) (v:=(x0:Sl).v) (unb 18 1535) rfl rfl hT (anyM hM (by kernel_rfl)) hE rfl (KA rfl) (fun w=>KD hE rfl) (fun a hE=>?_)
    refine KF (i:=11) (v:=.int .i64 Xx12) (unb 18 3583) rfl rfl hT (anyM hM (by kernel_rfl)) hE rfl (KA rfl) (fun w=>KD hE rfl) (fun a hE=>?_)
    refine KF (i:=12) (v:=.pointer (some Xx29)) (unb 18 7679) rfl rfl hT (anyM hM (by kernel_rfl)) hE rfl (KA rfl) (fun w=>KR hE rfl rfl un89 sz22 qXx29) (fun a hE=>?_)
    refine Kt (i:=9) (v:=(Xx30:Sl).v) (unb 18 8191) rfl rfl hT (UB hM (by kernel_rfl)) hE rfl (KA rfl) hs (fun w s=>KU hE rfl sc22 s.1) (fun a hE=>?_)
    refine Kt (i:=13) (v:=(Xx31:Sl).v) (unb 18 16383) rfl rfl hT (UB hM (by kernel_rfl)) hE rfl (KA rfl) hs (fun w s=>KU hE rfl sc22 s.2) (fun a hE=>?_)
    refine KF (i:=14) (v:=.pointer (some Xx32)) (unb 18 32767) rfl rfl hT (anyM hM (by kernel_rfl)) hE rfl (KA rfl) (fun w=>KR hE rfl rfl un89 sz22 qXx32) (fun a hE=>?_)
    obtain ⟨u_33,qu_33,H⟩:=H
    refine Gh (i:=15) (unb 18 65535) rfl rfl hT (oneM hM (by kernel_rfl)) rfl hE hR (KA rfl) (JK hE rfl rfl sz22 qu_33)  (fun a w hE hR hh=>?_)
    replace H:=M.at hh H; clear hh
    obtain ⟨Xx34,qXx34,H⟩:=H
    refine KF (i:=16) (v:=.pointer (some Xx34)) (unb 18 131071) rfl rfl hT (anyM hM (by kernel_rfl)) hE rfl (KA rfl) (fun w=>KR hE rfl rfl un89 sz22 qXx34) (fun a hE=>?_)
    obtain ⟨u_35,qu_35,H⟩:=H
    refine Gh (i:=17) (unb 18 262143) rfl rfl hT (oneM hM (by kernel_rfl)) rfl hE hR (KA rfl) (JK hE rfl rfl sz22 qu_35)  (fun a w hE hR hh=>?_)
    replace H:=M.at hh H; clear hh
    refine JM hT (Wa hM (by kernel_rfl)) ?_
    refine hK_27 _ _ ?_
    refine KC ?_
    refine KB (v:=.int .i64 Xx12) rfl rfl hE rfl (KD hE rfl) (fun a hE=>?_)
    refine KB (v:=.int .i64 (IntKind.wrap .i64 (Xx12 - 1))) rfl rfl hE rfl (KL hE rfl rfl KN VA) (fun a hE=>?_)
    refine KB (v:=.int .i64 (IntKind.wrap .i64 (Xx12 - 1))) rfl rfl hE rfl (KE hE rfl) (fun a hE=>?_)
    refine KG ?_
    exact hY_18 (IntKind.wrap .i64 (Xx12 - 1)) _ _ (hE.cut (.cons rfl (.cons rfl (.cons rfl (.cons rfl (.cons rfl (.cons rfl Subs.nil))))))) hR H
   ·replace H:=M.ite_f hb H
    refine J6 ?_
    refine Xu.same ?_
    refine hK_10 _ _ ?_
    refine KC ?_
    refine KB (v:=.int .i64 Xx2) rfl rfl hE rfl (KD hE rfl) (fun a hE=>?_)
    refine KB (v:=.int .i64 (IntKind.wrap .i64 (Xx2+1))) rfl rfl hE rfl (KL hE rfl rfl KN JE) (fun a hE=>?_)
    refine KB (v:=.int .i64 (IntKind.wrap .i64 (Xx2+1))) rfl rfl hE rfl (KE hE rfl) (fun a hE=>?_)
    refine KG ?_
    exact hY_7 (IntKind.wrap .i64 (Xx2+1)) _ _ (hE.cut (.cons rfl (.cons rfl (.cons rfl (.cons rfl (.cons rfl Subs.nil)))))) hR H
  ·skip
   rcases Kq (decide (Xx12 > x1)) with hb_36 | hb_36
   ·replace H:=M.ite_t hb_36 H
    obtain ⟨Xx37,qXx37,H⟩:=H
    obtain ⟨Xx38,qXx38,H⟩:=H
    obtain ⟨Xx39,qXx39,H⟩:=H
    obtain ⟨Xx40,qXx40,H⟩:=H
    refine VL (rops:=KBL) (by kernel_rfl) ?_
    have hT:Tab KBL _ _ _:=Jf KEc rfl (by kernel_rfl)
    have hM:=TabM.of KCv
    refine Zq (m:=17) (fun w:World=>(fun h:Heap=>(KV h Xx37=some ((Xx39:Sl).v))∧(KV h Xx38=some ((Xx40:Sl).v))) w.heap) [14,15,16] (unb 17 0) mo hR (by kernel_rfl) (by kernel_rfl) (fun w' e=>by rw [e]; exact ⟨qXx39,qXx40⟩) (fun w hh hR hs=>?_)
    replace H:=M.at hh H; clear hh
    refine KF (i:=0) (v:=.int .i64 Xx12) (unb 17 1) rfl rfl hT (anyM hM (by kernel_rfl)) hE rfl (KA rfl) (fun w=>KD hE rfl) (fun a hE=>?_)
    refine KF (i:=1) (v:=.int .i64 x1) (unb 17 3) rfl rfl hT (anyM hM (by kernel_rfl)) hE rfl (KA rfl) (fun w=>KD hE rfl) (fun a hE=>?_)
    refine KF (i:=2) (v:=.bool (decide (Xx12 > x1))) (unb 17 7) rfl rfl hT (anyM hM (by kernel_rfl)) hE rfl (KA rfl) (fun w=>KL hE rfl rfl KN YI) (fun a hE=>?_)
    refine KF (i:=3) (v:=.bool (decide (Xx12 > x1))) (unb 17 15) rfl rfl hT (anyM hM (by kernel_rfl)) hE rfl (KA rfl) (fun w=>KD hE rfl) (fun a hE=>?_)
    have hE:=hE.reb 21 (decide (Xx12 > x1)) true hb_36 rfl
    replace hE:=hE.cut (l':=[(0,(x0:Sl).v),(1,.int .i64 x1),(2,.int .i64 x2),(3,x3),(8,.int .i64 Xx2),(9,.int .i64 Xx12),(21,.bool true)]) (.cons rfl (.cons rfl (.cons rfl (.cons rfl (.cons rfl (.cons rfl (.cons rfl Subs.nil)))))))
    refine KF (i:=4) (v:=x3) (unb 17 31) rfl rfl hT (anyM hM (by kernel_rfl)) hE rfl (KP rfl hE rfl rfl rfl) (fun w=>KD hE rfl) (fun a hE=>?_)
    refine KF (i:=5) (v:=(x0:Sl).v) (unb 17 63) rfl rfl hT (anyM hM (by kernel_rfl)) hE rfl (KP rfl hE rfl rfl rfl) (fun w=>KD hE rfl) (fun a hE=>?_)
    refine KF (i:=6) (v:=.int .i64 Xx12) (unb 17 127) rfl rfl hT (anyM hM (by kernel_rfl)) hE rfl (KP rfl hE rfl rfl rfl) (fun w=>KD hE rfl) (fun a hE=>?_)
    refine KF (i:=7) (v:=.pointer (some Xx37)) (unb 17 255) rfl rfl hT (anyM hM (by kernel_rfl)) hE rfl (KP rfl hE rfl rfl rfl) (fun w=>KR hE rfl rfl un89 sz22 qXx37) (fun a hE=>?_)
    refine KF (i:=9) (v:=(x0:Sl).v) (unb 17 767) rfl rfl hT (anyM hM (by kernel_rfl)) hE rfl (KP rfl hE rfl rfl rfl) (fun w=>KD hE rfl) (fun a hE=>?_)
    refine KF (i:=10) (v:=.int .i64 Xx12) (unb 17 1791) rfl rfl hT (anyM hM (by kernel_rfl)) hE rfl (KP rfl hE rfl rfl rfl) (fun w=>KD hE rfl) (fun a hE=>?_)
    refine KF (i:=11) (v:=.int .i64 (IntKind.wrap .i64 (Xx12 - 1))) (unb 17 3839) rfl rfl hT (anyM hM (by kernel_rfl)) hE rfl (KP rfl hE rfl rfl rfl) (fun w=>KL hE rfl rfl KN VA) (fun a hE=>?_)
    refine KF (i:=12) (v:=.pointer (some Xx38)) (unb 17 7935) rfl rfl hT (anyM hM (by kernel_rfl)) hE rfl (KP rfl hE rfl rfl rfl) (fun w=>KR hE rfl rfl un89 sz22 qXx38) (fun a hE=>?_)
    refine Kt (i:=8) (v:=(Xx39:Sl).v) (unb 17 8191) rfl rfl hT (UB hM (by kernel_rfl)) hE rfl (KP rfl hE rfl rfl rfl) hs (fun w s=>KU hE rfl sc22 s.1) (fun a hE=>?_)
    refine Kt (i:=13) (v:=(Xx40:Sl).v) (unb 17 16383) rfl rfl hT (UB hM (by kernel_rfl)) hE rfl (KP rfl hE rfl rfl rfl) hs (fun w s=>KU hE rfl sc22 s.2) (fun a hE=>?_)
    refine zL (i:=14) (unb 17 32767) rfl rfl rfl hT (oneM hM (by kernel_rfl)) rfl hE hR (KP rfl hE rfl rfl rfl) rfl rfl (M.unbind H) (fun Xx41 a w ea hR H=>?_)
    have hE:=Env.put_some hE rfl ea; clear ea
    refine KF (i:=15) (v:=.bool (decide (Xx41 < 0))) (unb 17 65535) rfl rfl hT (anyM hM (by kernel_rfl)) hE rfl (KP rfl hE rfl rfl rfl) (fun w=>KL hE rfl rfl KN JL) (fun a hE=>?_)
    refine KF (i:=16) (v:=.bool (decide (Xx41 < 0))) (unb 17 131071) rfl rfl hT (anyM hM (by kernel_rfl)) hE rfl (KA rfl) (fun w=>Kc hE rfl rfl) (fun a hE=>?_)
    refine JM hT (Wa hM (by kernel_rfl)) ?_
    exact ⟨decide (Xx41 < 0),hE.cut (.cons rfl (.cons rfl (.cons rfl (.cons rfl (.cons rfl (.cons rfl (.cons rfl Subs.nil))))))),hR,H⟩
   ·replace H:=M.ite_f hb_36 H
    refine VL (rops:=KBL) (by kernel_rfl) ?_
    have hT:Tab KBL _ _ _:=Jf KEc rfl (by kernel_rfl)
    have hM:=TabM.of KCv
    refine Zq (m:=17) (fun w:World=>(fun h:Heap=>True) w.heap) [0,1,2,3,4,5,6,7,8,9,10,11,12,13,14,15,16] (unb 17 0) mo hR (by kernel_rfl) (by kernel_rfl) (fun w' e=>by rw [e]; exact trivial) (fun w hh hR hs=>?_)
    replace H:=M.at hh H; clear hh
    refine KF (i:=0) (v:=.int .i64 Xx12) (unb 17 1) rfl rfl hT (anyM hM (by kernel_rfl)) hE rfl (KA rfl) (fun w=>KD hE rfl) (fun a hE=>?_)
    refine KF (i:=1) (v:=.int .i64 x1) (unb 17 3) rfl rfl hT (anyM hM (by kernel_rfl)) hE rfl (KA rfl) (fun w=>KD hE rfl) (fun a hE=>?_)
    refine KF (i:=2) (v:=.bool (decide (Xx12 > x1))) (unb 17 7) rfl rfl hT (anyM hM (by kernel_rfl)) hE rfl (KA rfl) (fun w=>KL hE rfl rfl KN YI) (fun a hE=>?_)
    refine KF (i:=3) (v:=.bool (decide (Xx12 > x1))) (unb 17 15) rfl rfl hT (anyM hM (by kernel_rfl)) hE rfl (KA rfl) (fun w=>KD hE rfl) (fun a hE=>?_)
    have hE:=hE.reb 21 (decide (Xx12 > x1)) false hb_36 rfl
    replace hE:=hE.cut (l':=[(0,(x0:Sl).v),(1,.int .i64 x1),(2,.int .i64 x2),(3,x3),(8,.int .i64 Xx2),(9,.int .i64 Xx12),(21,.bool false)]) (.cons rfl (.cons rfl (.cons rfl (.cons rfl (.cons rfl (.cons rfl (.cons rfl Subs.nil)))))))
    refine Js [(4,some 22),(5,some 23),(6,some 24),(7,some 25),(8,some 26),(9,some 27),(10,some 28),(11,some 29),(12,some 30),(13,some 31),(14,some 32),(15,some 33)] 1 hT hM hE (by kernel_rfl) (m':=65535) (by kernel_rfl) (fun a hE=>?_)
    refine KF (i:=16) (v:=.bool false) (unb 17 131071) rfl rfl hT (anyM hM (by kernel_rfl)) hE rfl (KA rfl) (fun w=>Kd hE rfl rfl) (fun a hE=>?_)
    refine JM hT (Wa hM (by kernel_rfl)) ?_
    exact ⟨false,hE.cut (.cons rfl (.cons rfl (.cons rfl (.cons rfl (.cons rfl (.cons rfl (.cons rfl Subs.nil))))))),hR,H⟩
 ·replace H:=M.ite_f hb H
  refine J6 ?_
  refine Xu.same ?_
  exact hret _ _ _ () _ hE hR (KM hE rfl RV.nil) rfl H
noncomputable def KEd:Array Oper:=NZ Go.Proofs.Tryz.f244 3
def KEe:List (List Nat):=[[],[],[],[1,2],[],[],[],[5,6],[],[],[],[9,10],[8,11],[12],[],[],[],[15,16],[14,17],[18],[0,3,0,1,2,3,8,9,10,11,12,13,19],[20,13,0,1,2,3,8,9,10,11,12,13,19],[4,7,0,1,2,3,4,5,6,7,8,9,10,11,12,13,14,15,16,17,18,19,20,21],[22,19,21,0,1,2,3,4,5,6,7,8,9,10,11,12,13,14,15,16,17,18,19,20,21]]
def KEf:List (List Nat):=[[],[],[],[1,2],[],[],[],[5,6],[],[],[],[9,10],[8,11],[12],[],[],[],[15,16],[14,17],[18],[0,3],[13,20],[4,7],[19,22]]
def KEg:List (List Nat):=[[],[],[],[1,2],[],[],[],[5,6],[],[],[],[9,10],[8,9,10,11],[8,9,10,11,12],[],[],[],[15,16],[14,15,16,17],[14,15,16,17,18],[0,1,2,3,8,9,10,11,12,13,14,15,16,17,18,19],[0,1,2,3,8,9,10,11,12,13,14,15,16,17,18,19,20],[0,1,2,3,4,5,6,7,8,9,10,11,12,13,14,15,16,17,18,19,20,21],[0,1,2,3,4,5,6,7,8,9,10,11,12,13,14,15,16,17,18,19,20,21,22]]
theorem KHq:Vg Go.Proofs.Tryz.f244 3 KEe KEf KEg=true:=by kernel_rfl
theorem KGE:Gi 24 KEe KEf KEg [0,0,0,6,0,0,0,96,0,0,0,1536,2304,4096,0,0,0,98304,147456,262144,540431,1589007,4194303,8388607] [0,0,0,6,0,0,0,96,0,0,0,1536,2304,4096,0,0,0,98304,147456,262144,9,1056768,144,4718592] [0,0,0,6,0,0,0,96,0,0,0,1536,3840,7936,0,0,0,98304,245760,507904,1048335,2096911,4194303,8388607]=true:=by kernel_rfl
def Zt (C3:Sl) (C4:Int) (C5:Int) (C6:Int) (self1:(Int)→M (Unit)):(Int)→M (Unit):=fun s=>match s with
 | Xx2=>do
  M.ite (decide (Xx2 < C6)) (do
   let Xx11←ixL C3 (IntKind.wrap .i64 (C5+Xx2)) 1
   let Xx12←ixL C3 (IntKind.wrap .i64 (C4+Xx2)) 1
   let Xx13←ldL Xx11
   let Xx14←ldL Xx12
   let Xx15←ixL C3 (IntKind.wrap .i64 (C4+Xx2)) 1
   stV Xx15 ((Xx13:Sl).v)
   let Xx17←ixL C3 (IntKind.wrap .i64 (C5+Xx2)) 1
   stV Xx17 ((Xx14:Sl).v)
   self1 (IntKind.wrap .i64 (Xx2+1))
   ) (do
   M.pure ()
   )
def Ky (x0:Sl) (x1:Int) (x2:Int) (x3:Int) (x4:Value):M (Unit):=do
 M.loop (Zt x0 x1 x2 x3) 0
theorem JY (x0:Sl) (x1:Int) (x2:Int) (x3:Int) (x4:Value):ZK Go.Proofs.Tryz.prog 244 #[(x0:Sl).v,.int .i64 x1,.int .i64 x2,.int .i64 x3,x4] (fun (r:Unit)=>.tuple #[]) (Ky x0 x1 x2 x3 x4):=by
 refine KY [(0,(x0:Sl).v),(1,.int .i64 x1),(2,.int .i64 x2),(3,.int .i64 x3),(4,x4)] Go.Proofs.Tryz.func244 rfl rfl (Nat.le_of_ble_eq_true rfl) (Ke ⟨rfl,rfl,rfl,rfl,rfl,trivial⟩) (fun w0 w Q R a hret hE hR H=>?_)
 unfold Ky at H
 refine KH (fun K hK_1=>?_)
 refine KC ?_
 refine KB (v:=.int .i64 0) rfl rfl hE rfl (KE hE rfl) (fun a hE=>?_)
 refine KG ?_
 refine hK_1 _ _ ?_
 refine Kj ?_
 refine J7 (fun (s:Int)=>(⟨38,[]⟩:Frm)) (fun (s:Int)=>[(0,(x0:Sl).v),(1,.int .i64 x1),(2,.int .i64 x2),(3,.int .i64 x3),(10,.int .i64 s)]) H (hE.cut (.cons rfl (.cons rfl (.cons rfl (.cons rfl (.cons rfl Subs.nil)))))) hR (fun Y self1 hY_7 Xx2 a w hE hR H=>?_)
 replace hE:Env (⟨38,[]⟩:Frm) a [(0,(x0:Sl).v),(1,.int .i64 x1),(2,.int .i64 x2),(3,.int .i64 x3),(10,.int .i64 Xx2)]:=hE
 replace H:(Zt x0 x1 x2 x3 self1 Xx2).wp w.heap Q:=H
 unfold Zt at H
 refine KH (fun K hK_8=>?_)
 refine KH (fun K hK_9=>?_)
 refine KC ?_
 refine KB (v:=.int .i64 Xx2) rfl rfl hE rfl (KD hE rfl) (fun a hE=>?_)
 refine KB (v:=.int .i64 x3) rfl rfl hE rfl (KD hE rfl) (fun a hE=>?_)
 refine KB (v:=.bool (decide (Xx2 < x3))) rfl rfl hE rfl (KL hE rfl rfl KN JL) (fun a hE=>?_)
 refine KG ?_
 refine hK_9 _ _ ?_
 refine KS (decide (Xx2 < x3)) hE rfl (fun hb=>?_) (fun hb=>?_)
 ·replace H:=M.ite_t hb H
  refine Ka ?_
  refine hK_8 _ _ ?_
  refine KH (fun K hK_10=>?_)
  refine Kj ?_
  obtain ⟨Xx11,qXx11,H⟩:=H
  obtain ⟨Xx12,qXx12,H⟩:=H
  obtain ⟨Xx13,qXx13,H⟩:=H
  obtain ⟨Xx14,qXx14,H⟩:=H
  obtain ⟨Xx15,qXx15,H⟩:=H
  refine VL (rops:=KEd) (by kernel_rfl) ?_
  have hT:Tab KEd _ _ _:=Jf KHq rfl (by kernel_rfl)
  have hM:=TabM.of KGE
  refine Zq (m:=24) (fun w:World=>(fun h:Heap=>(KV h Xx11=some ((Xx13:Sl).v))∧(KV h Xx12=some ((Xx14:Sl).v))) w.heap) [20,21,22,23] (unb 24 0) mo hR (by kernel_rfl) (by kernel_rfl) (fun w' e=>by rw [e]; exact ⟨qXx13,qXx14⟩) (fun w hh hR hs=>?_)
  replace H:=M.at hh H; clear hh
  refine KF (i:=0) (v:=(x0:Sl).v) (unb 24 1) rfl rfl hT (anyM hM (by kernel_rfl)) hE rfl (KA rfl) (fun w=>KD hE rfl) (fun a hE=>?_)
  refine KF (i:=1) (v:=.int .i64 x1) (unb 24 3) rfl rfl hT (anyM hM (by kernel_rfl)) hE rfl (KA rfl) (fun w=>KD hE rfl) (fun a hE=>?_)
  refine KF (i:=2) (v:=.int .i64 Xx2) (unb 24 7) rfl rfl hT (anyM hM (by kernel_rfl)) hE rfl (KA rfl) (fun w=>KD hE rfl) (fun a hE=>?_)
  refine KF (i:=3) (v:=.int .i64 (IntKind.wrap .i64 (x1+Xx2))) (unb 24 15) rfl rfl hT (anyM hM (by kernel_rfl)) hE rfl (KA rfl) (fun w=>KL hE rfl rfl KN JE) (fun a hE=>?_)
  refine KF (i:=4) (v:=(x0:Sl).v) (unb 24 31) rfl rfl hT (anyM hM (by kernel_rfl)) hE rfl (KA rfl) (fun w=>KD hE rfl) (fun a hE=>?_)
  refine KF (i:=5) (v:=.int .i64 x2) (unb 24 63) rfl rfl hT (anyM hM (by kernel_rfl)) hE rfl (KA rfl) (fun w=>KD hE rfl) (fun a hE=>?_)
  refine KF (i:=6) (v:=.int .i64 Xx2) (unb 24 127) rfl rfl hT (anyM hM (by kernel_rfl)) hE rfl (KA rfl) (fun w=>KD hE rfl) (fun a hE=>?_)
  refine KF (i:=7) (v:=.int .i64 (IntKind.wrap .i64 (x2+Xx2))) (unb 24 255) rfl rfl hT (anyM hM (by kernel_rfl)) hE rfl (KA rfl) (fun w=>KL hE rfl rfl KN JE) (fun a hE=>?_)
  refine KF (i:=8) (v:=(x0:Sl).v) (unb 24 511) rfl rfl hT (anyM hM (by kernel_rfl)) hE rfl (KA rfl) (fun w=>KD hE rfl) (fun a hE=>?_)
  refine KF (i:=9) (v:=.int .i64 x2) (unb 24 1023) rfl rfl hT (anyM hM (by kernel_rfl)) hE rfl (KA rfl) (fun w=>KD hE rfl) (fun a hE=>?_)
  refine KF (i:=10) (v:=.int .i64 Xx2) (unb 24 2047) rfl rfl hT (anyM hM (by kernel_rfl)) hE rfl (KA rfl) (fun w=>KD hE rfl) (fun a hE=>?_)
  refine KF (i:=11) (v:=.int .i64 (IntKind.wrap .i64 (x2+Xx2))) (unb 24 4095) rfl rfl hT (anyM hM (by kernel_rfl)) hE rfl (KA rfl) (fun w=>KL hE rfl rfl KN JE) (fun a hE=>?_)
  refine KF (i:=12) (v:=.pointer (some Xx11)) (unb 24 8191) rfl rfl hT (anyM hM (by kernel_rfl)) hE rfl (KA rfl) (fun w=>KR hE rfl rfl un89 sz22 qXx11) (fun a hE=>?_)
  refine KF (i:=14) (v:=(x0:Sl).v) (unb 24 24575) rfl rfl hT (anyM hM (by kernel_rfl)) hE rfl (KA rfl) (fun w=>KD hE rfl) (fun a hE=>?_)
  refine KF (i:=15) (v:=.int .i64 x1) (unb 24 57343) rfl rfl hT (anyM hM (by kernel_rfl)) hE rfl (KA rfl) (fun w=>KD hE rfl) (fun a hE=>?_)
  refine KF (i:=16) (v:=.int .i64 Xx2) (unb 24 122879) rfl rfl hT (anyM hM (by kernel_rfl)) hE rfl (KA rfl) (fun w=>KD hE rfl) (fun a hE=>?_)
  refine KF (i:=17) (v:=.int .i64 (IntKind.wrap .i64 (x1+Xx2))) (unb 24 253951) rfl rfl hT (anyM hM (by kernel_rfl)) hE rfl (KA rfl) (fun w=>KL hE rfl rfl KN JE) (fun a hE=>?_)
  refine KF (i:=18) (v:=.pointer (some Xx12)) (unb 24 516095) rfl rfl hT (anyM hM (by kernel_rfl)) hE rfl (KA rfl) (fun w=>KR hE rfl rfl un89 sz22 qXx12) (fun a hE=>?_)
  refine Kt (i:=13) (v:=(Xx13:Sl).v) (unb 24 524287) rfl rfl hT (UB hM (by kernel_rfl)) hE rfl (KA rfl) hs (fun w s=>KU hE rfl sc22 s.1) (fun a hE=>?_)
  refine Kt (i:=19) (v:=(Xx14:Sl).v) (unb 24 1048575) rfl rfl hT (UB hM (by kernel_rfl)) hE rfl (KA rfl) hs (fun w s=>KU hE rfl sc22 s.2) (fun a hE=>?_)
  refine KF (i:=20) (v:=.pointer (some Xx15)) (unb 24 2097151) rfl rfl hT (anyM hM (by kernel_rfl)) hE rfl (KA rfl) (fun w=>KR hE rfl rfl un89 sz22 qXx15) (fun a hE=>?_)
  obtain ⟨u_16,qu_16,H⟩:=H
  refine Gh (i:=21) (unb 24 4194303) rfl rfl hT (oneM hM (by kernel_rfl)) rfl hE hR (KA rfl) (JK hE rfl rfl sz22 qu_16)  (fun a w hE hR hh=>?_)
  replace H:=M.at hh H; clear hh
  obtain ⟨Xx17,qXx17,H⟩:=H
  refine KF (i:=22) (v:=.pointer (some Xx17)) (unb 24 8388607) rfl rfl hT (anyM hM (by kernel_rfl)) hE rfl (KA rfl) (fun w=>KR hE rfl rfl un89 sz22 qXx17) (fun a hE=>?_)
  obtain ⟨u_18,qu_18,H⟩:=H
  refine Gh (i:=23) (unb 24 16777215) rfl rfl hT (oneM hM (by kernel_rfl)) rfl hE hR (KA rfl) (JK hE rfl rfl sz22 qu_18)  (fun a w hE hR hh=>?_)
  replace H:=M.at hh H; clear hh
  refine JM hT (Wa hM (by kernel_rfl)) ?_
  refine hK_10 _ _ ?_
  refine KC ?_
  refine KB (v:=.int .i64 Xx2) rfl rfl hE rfl (KD hE rfl) (fun a hE=>?_)
  refine KB (v:=.int .i64 (IntKind.wrap .i64 (Xx2+1))) rfl rfl hE rfl (KL hE rfl rfl KN JE) (fun a hE=>?_)
  refine KB (v:=.int .i64 (IntKind.wrap .i64 (Xx2+1))) rfl rfl hE rfl (KE hE rfl) (fun a hE=>?_)
  refine KG ?_
  exact hY_7 (IntKind.wrap .i64 (Xx2+1)) _ _ (hE.cut (.cons rfl (.cons rfl (.cons rfl (.cons rfl (.cons rfl Subs.nil)))))) hR H
 ·replace H:=M.ite_f hb H
  refine J6 ?_
  refine Xu.same ?_
  exact hret _ _ _ () _ hE hR (KM hE rfl RV.nil) rfl H
def JC (C6:Sl) (C7:Int) (C8:Value) (self1:(Int × Int)→M (Unit)):(Int × Int)→M (Unit):=fun s=>match s with
 | (Xx4,Xx5)=>do
  M.ite (Xx4 != Xx5) (do
   M.ite (decide (Xx4 > Xx5)) (do
    let Xx14←Ky C6 (IntKind.wrap .i64 (C7 - Xx4)) C7 Xx5 C8
    self1 (IntKind.wrap .i64 (Xx4 - Xx5),Xx5)
    ) (do
    let Xx16←Ky C6 (IntKind.wrap .i64 (C7 - Xx4)) (IntKind.wrap .i64 ((IntKind.wrap .i64 (C7+Xx5)) - Xx4)) Xx4 C8
    self1 (Xx4,IntKind.wrap .i64 (Xx5 - Xx4))
    )
   ) (do
   let Xx17←Ky C6 (IntKind.wrap .i64 (C7 - Xx4)) C7 Xx4 C8
   M.pure ()
   )
def Zw (x0:Sl) (x1:Int) (x2:Int) (x3:Int) (x4:Value):M (Unit):=do
 M.loop (JC x0 x2 x4) (IntKind.wrap .i64 (x2 - x1),IntKind.wrap .i64 (x3 - x2))
theorem Wc (x0:Sl) (x1:Int) (x2:Int) (x3:Int) (x4:Value):ZK Go.Proofs.Tryz.prog 220 #[(x0:Sl).v,.int .i64 x1,.int .i64 x2,.int .i64 x3,x4] (fun (r:Unit)=>.tuple #[]) (Zw x0 x1 x2 x3 x4):=by
 refine KY [(0,(x0:Sl).v),(1,.int .i64 x1),(2,.int .i64 x2),(3,.int .i64 x3),(4,x4)] Go.Proofs.Tryz.func220 rfl rfl (Nat.le_of_ble_eq_true rfl) (Ke ⟨rfl,rfl,rfl,rfl,rfl,trivial⟩) (fun w0 w Q R a hret hE hR H=>?_)
 unfold Zw at H
 refine KH (fun K hK_1=>?_)
 refine KC ?_
 refine KB (v:=.int .i64 x2) rfl rfl hE rfl (KD hE rfl) (fun a hE=>?_)
 refine KB (v:=.int .i64 x1) rfl rfl hE rfl (KD hE rfl) (fun a hE=>?_)
 refine KB (v:=.int .i64 (IntKind.wrap .i64 (x2 - x1))) rfl rfl hE rfl (KL hE rfl rfl KN VA) (fun a hE=>?_)
 refine KB (v:=.int .i64 (IntKind.wrap .i64 (x2 - x1))) rfl rfl hE rfl (KE hE rfl) (fun a hE=>?_)
 refine KG ?_
 refine hK_1 _ _ ?_
 refine KH (fun K hK_2=>?_)
 refine KC ?_
 refine KB (v:=.int .i64 x3) rfl rfl hE rfl (KD hE rfl) (fun a hE=>?_)
 refine KB (v:=.int .i64 x2) rfl rfl hE rfl (KD hE rfl) (fun a hE=>?_)
 refine KB (v:=.int .i64 (IntKind.wrap .i64 (x3 - x2))) rfl rfl hE rfl (KL hE rfl rfl KN VA) (fun a hE=>?_)
 refine KB (v:=.int .i64 (IntKind.wrap .i64 (x3 - x2))) rfl rfl hE rfl (KE hE rfl) (fun a hE=>?_)
 refine KG ?_
 refine hK_2 _ _ ?_
 refine KH (fun K hK_3=>?_)
 refine Kj ?_
 refine J7 (fun (s:Int × Int)=>(⟨58,[]⟩:Frm)) (fun (s:Int × Int)=>[(0,(x0:Sl).v),(2,.int .i64 x2),(4,x4),(10,.int .i64 s.1),(11,.int .i64 s.2)]) H (hE.cut (.cons rfl (.cons rfl (.cons rfl (.cons rfl (.cons rfl Subs.nil)))))) hR (fun Y self1 hY_9 s a w hE hR H=>?_)
 rcases s with ⟨Xx4,Xx5⟩
 replace hE:Env (⟨58,[]⟩:Frm) a [(0,(x0:Sl).v),(2,.int .i64 x2),(4,x4),(10,.int .i64 Xx4),(11,.int .i64 Xx5)]:=hE
 replace H:(JC x0 x2 x4 self1 (Xx4,Xx5)).wp w.heap Q:=H
 unfold JC at H
 refine KH (fun K hK_10=>?_)
 refine KH (fun K hK_11=>?_)
 refine KC ?_
 refine KB (v:=.int .i64 Xx4) rfl rfl hE rfl (KD hE rfl) (fun a hE=>?_)
 refine KB (v:=.int .i64 Xx5) rfl rfl hE rfl (KD hE rfl) (fun a hE=>?_)
 refine KB (v:=.bool (Xx4 != Xx5)) rfl rfl hE rfl (KL hE rfl rfl KN Yi) (fun a hE=>?_)
 refine KG ?_
 refine hK_11 _ _ ?_
 refine KS (Xx4 != Xx5) hE rfl (fun hb=>?_) (fun hb=>?_)
 ·replace H:=M.ite_t hb H
  refine Ka ?_
  refine hK_10 _ _ ?_
  refine Kj ?_
  refine KH (fun K hK_12=>?_)
  refine KC ?_
  refine KB (v:=.int .i64 Xx4) rfl rfl hE rfl (KD hE rfl) (fun a hE=>?_)
  refine KB (v:=.int .i64 Xx5) rfl rfl hE rfl (KD hE rfl) (fun a hE=>?_)
  refine KB (v:=.bool (decide (Xx4 > Xx5))) rfl rfl hE rfl (KL hE rfl rfl KN YI) (fun a hE=>?_)
  refine KG ?_
  refine hK_12 _ _ ?_
  refine KS (decide (Xx4 > Xx5)) hE rfl (fun hb=>?_) (fun hb=>?_)
  ·replace H:=M.ite_t hb H
   refine KH (fun K hK_13=>?_)
   refine KC ?_
   refine KB (v:=(x0:Sl).v) rfl rfl hE rfl (KD hE rfl) (fun a hE=>?_)
   refine KB (v:=.int .i64 x2) rfl rfl hE rfl (KD hE rfl) (fun a hE=>?_)
   refine KB (v:=.int .i64 Xx4) rfl rfl hE rfl (KD hE rfl) (fun a hE=>?_)
   refine KB (v:=.int .i64 (IntKind.wrap .i64 (x2 - Xx4))) rfl rfl hE rfl (KL hE rfl rfl KN VA) (fun a hE=>?_)
   refine KB (v:=.int .i64 x2) rfl rfl hE rfl (KD hE rfl) (fun a hE=>?_)
   refine KB (v:=.int .i64 Xx5) rfl rfl hE rfl (KD hE rfl) (fun a hE=>?_)
   refine KB (v:=x4) rfl rfl hE rfl (KD hE rfl) (fun a hE=>?_)
   refine KZ hE hR JT rfl (JY x0 (IntKind.wrap .i64 (x2 - Xx4)) x2 Xx5 x4) (M.unbind H) (fun Xx14 a w ea hR H=>?_)
   have hE:=Env.put_some hE rfl ea; clear ea
   refine KG ?_
   refine hK_13 _ _ ?_
   refine KC ?_
   refine KB (v:=.int .i64 Xx4) rfl rfl hE rfl (KD hE rfl) (fun a hE=>?_)
   refine KB (v:=.int .i64 Xx5) rfl rfl hE rfl (KD hE rfl) (fun a hE=>?_)
   refine KB (v:=.int .i64 (IntKind.wrap .i64 (Xx4 - Xx5))) rfl rfl hE rfl (KL hE rfl rfl KN VA) (fun a hE=>?_)
   refine KB (v:=.int .i64 (IntKind.wrap .i64 (Xx4 - Xx5))) rfl rfl hE rfl (KE hE rfl) (fun a hE=>?_)
   refine KG ?_
   exact hY_9 (IntKind.wrap .i64 (Xx4 - Xx5),Xx5) _ _ (hE.cut (.cons rfl (.cons rfl (.cons rfl (.cons rfl (.cons rfl Subs.nil)))))) hR H
  ·replace H:=M.ite_f hb H
   refine KH (fun K hK_15=>?_)
   refine KC ?_
   refine KB (v:=(x0:Sl).v) rfl rfl hE rfl (KD hE rfl) (fun a hE=>?_)
   refine KB (v:=.int .i64 x2) rfl rfl hE rfl (KD hE rfl) (fun a hE=>?_)
   refine KB (v:=.int .i64 Xx4) rfl rfl hE rfl (KD hE rfl) (fun a hE=>?_)
   refine KB (v:=.int .i64 (IntKind.wrap .i64 (x2 - Xx4))) rfl rfl hE rfl (KL hE rfl rfl KN VA) (fun a hE=>?_)
   refine KB (v:=.int .i64 x2) rfl rfl hE rfl (KD hE rfl) (fun a hE=>?_)
   refine KB (v:=.int .i64 Xx5) rfl rfl hE rfl (KD hE rfl) (fun a hE=>?_)
   refine KB (v:=.int .i64 (IntKind.wrap .i64 (x2+Xx5))) rfl rfl hE rfl (KL hE rfl rfl KN JE) (fun a hE=>?_)
   refine KB (v:=.int .i64 Xx4) rfl rfl hE rfl (KD hE rfl) (fun a hE=>?_)
   refine KB (v:=.int .i64 (IntKind.wrap .i64 ((IntKind.wrap .i64 (x2+Xx5)) - Xx4))) rfl rfl hE rfl (KL hE rfl rfl KN VA) (fun a hE=>?_)
   refine KB (v:=.int .i64 Xx4) rfl rfl hE rfl (KD hE rfl) (fun a hE=>?_)
   refine KB (v:=x4) rfl rfl hE rfl (KD hE rfl) (fun a hE=>?_)
   refine KZ hE hR JT rfl (JY x0 (IntKind.wrap .i64 (x2 - Xx4)) (IntKind.wrap .i64 ((IntKind.wrap .i64 (x2+Xx5)) - Xx4)) Xx4 x4) (M.unbind H) (fun Xx16 a w ea hR H=>?_)
   have hE:=Env.put_some hE rfl ea; clear ea
   refine KG ?_
   refine hK_15 _ _ ?_
   refine KC ?_
   refine KB (v:=.int .i64 Xx5) rfl rfl hE rfl (KD hE rfl) (fun a hE=>?_)
   refine KB (v:=.int .i64 Xx4) rfl rfl hE rfl (KD hE rfl) (fun a hE=>?_)
   refine KB (v:=.int .i64 (IntKind.wrap .i64 (Xx5 - Xx4))) rfl rfl hE rfl (KL hE rfl rfl KN VA) (fun a hE=>?_)
   refine KB (v:=.int .i64 (IntKind.wrap .i64 (Xx5 - Xx4))) rfl rfl hE rfl (KE hE rfl) (fun a hE=>?_)
   refine KG ?_
   exact hY_9 (Xx4,IntKind.wrap .i64 (Xx5 - Xx4)) _ _ (hE.cut (.cons rfl (.cons rfl (.cons rfl (.cons rfl (.cons rfl Subs.nil)))))) hR H
 ·replace H:=M.ite_f hb H
  refine J6 ?_
  refine Xu.same ?_
  refine hK_3 _ _ ?_
  refine KC ?_
  refine KB (v:=(x0:Sl).v) rfl rfl hE rfl (KD hE rfl) (fun a hE=>?_)
  refine KB (v:=.int .i64 x2) rfl rfl hE rfl (KD hE rfl) (fun a hE=>?_)
  refine KB (v:=.int .i64 Xx4) rfl rfl hE rfl (KD hE rfl) (fun a hE=>?_)
  refine KB (v:=.int .i64 (IntKind.wrap .i64 (x2 - Xx4))) rfl rfl hE rfl (KL hE rfl rfl KN VA) (fun a hE=>?_)
  refine KB (v:=.int .i64 x2) rfl rfl hE rfl (KD hE rfl) (fun a hE=>?_)
  refine KB (v:=.int .i64 Xx4) rfl rfl hE rfl (KD hE rfl) (fun a hE=>?_)
  refine KB (v:=x4) rfl rfl hE rfl (KD hE rfl) (fun a hE=>?_)
  refine KZ hE hR JT rfl (JY x0 (IntKind.wrap .i64 (x2 - Xx4)) x2 Xx4 x4) (M.unbind H) (fun Xx17 a w ea hR H=>?_)
  have hE:=Env.put_some hE rfl ea; clear ea
  refine KG ?_
  exact hret _ _ _ () _ hE hR (KM hE rfl RV.nil) rfl H
end Gx
namespace Gx
open Go
set_option linter.unusedVariables false
set_option maxRecDepth 100000
theorem KHr:Vg Go.Proofs.Tryz.f179 5 [[],[],[],[1,2],[3],[],[],[5,6],[7],[0,4,8],[9]] [[],[],[],[1,2],[3],[],[],[5,6],[7],[0,4,8],[9]] [[],[],[],[1,2],[1,2,3],[],[],[5,6],[5,6,7],[0,1,2,3,4,5,6,7,8],[0,1,2,3,4,5,6,7,8,9]]=true:=by kernel_rfl
noncomputable def KCw:Array Oper:=NZ Go.Proofs.Tryz.f179 11
def KCx:List (List Nat):=[[],[],[],[],[3],[],[],[6],[5,7],[8],[],[],[10,11],[12],[0,1,0,1,5,6,7,8,9,13],[14,9,0,1,5,6,7,8,9,13],[2,4,0,1,2,3,4,5,6,7,8,9,10,11,12,13,14,15],[16,13,15,0,1,2,3,4,5,6,7,8,9,10,11,12,13,14,15]]
def KCy:List (List Nat):=[[],[],[],[],[3],[],[],[6],[5,7],[8],[],[],[10,11],[12],[0,1],[9,14],[2,4],[13,16]]
def KCz:List (List Nat):=[[],[],[],[],[3],[],[],[6],[5,6,7],[5,6,7,8],[],[],[10,11],[10,11,12],[0,1,5,6,7,8,9,10,11,12,13],[0,1,5,6,7,8,9,10,11,12,13,14],[0,1,2,3,4,5,6,7,8,9,10,11,12,13,14,15],[0,1,2,3,4,5,6,7,8,9,10,11,12,13,14,15,16]]
theorem KGF:Vg Go.Proofs.Tryz.f179 11 KCx KCy KCz=true:=by kernel_rfl
theorem KEh:Gi 18 KCx KCy KCz [0,0,0,0,8,0,0,64,160,256,0,0,3072,4096,9187,25571,65535,131071] [0,0,0,0,8,0,0,64,160,256,0,0,3072,4096,3,16896,20,73728] [0,0,0,0,8,0,0,64,224,480,0,0,3072,7168,16355,32739,65535,131071]=true:=by kernel_rfl
def Zz (C24:Sl) (C25:Int) (self2:(Int)→M (Unit)):(Int)→M (Unit):=fun s=>match s with
 | Xx23=>do
  M.ite (decide (Xx23 < (IntKind.wrap .i64 (C25 - 1)))) (do
   let Xx30←ixL C24 (IntKind.wrap .i64 (Xx23+1)) 1
   let Xx31←ixL C24 Xx23 1
   let Xx32←ldL Xx30
   let Xx33←ldL Xx31
   let Xx34←ixL C24 Xx23 1
   stV Xx34 ((Xx32:Sl).v)
   let Xx36←ixL C24 (IntKind.wrap .i64 (Xx23+1)) 1
   stV Xx36 ((Xx33:Sl).v)
   self2 (IntKind.wrap .i64 (Xx23+1))
   ) (do
   M.pure ()
   )
def ZS (C8:Sl) (C9:Int) (C10:Value) (self1:(Int × Int)→M (Unit)):(Int × Int)→M (Unit):=fun s=>match s with
 | (Xx6,Xx7)=>do
  M.ite (decide (Xx6 < Xx7)) (do
   let Xx16←ixL C8 (IntKind.wrap .i64 (iShr .u64 (IntKind.wrap .u64 (IntKind.wrap .i64 (Xx6+Xx7))) 1)) 1
   let Xx17←ixL C8 C9 1
   let Xx18←ldL Xx16
   let Xx19←ldL Xx17
   let Xx20←KBj Go.Proofs.Tryz.prog (fun r:Int=>.int .i64 r) C10 [(Xx18:Sl).v,(Xx19:Sl).v]
   M.ite (decide (Xx20 < 0)) (do
    self1 (IntKind.wrap .i64 ((IntKind.wrap .i64 (iShr .u64 (IntKind.wrap .u64 (IntKind.wrap .i64 (Xx6+Xx7))) 1))+1),Xx7)
    ) (do
    self1 (Xx6,IntKind.wrap .i64 (iShr .u64 (IntKind.wrap .u64 (IntKind.wrap .i64 (Xx6+Xx7))) 1))
    )
   ) (do
   M.loop (Zz C8 Xx6) C9
   )
theorem KGG:Vg Go.Proofs.Tryz.f179 17 [[],[],[],[1,2],[3],[],[],[5,6],[7],[0,4,8],[9],[10]] [[],[],[],[1,2],[3],[],[],[5,6],[7],[0,4,8],[9],[10]] [[],[],[],[1,2],[1,2,3],[],[],[5,6],[5,6,7],[0,1,2,3,4,5,6,7,8],[0,1,2,3,4,5,6,7,8,9],[0,1,2,3,4,5,6,7,8,9,10]]=true:=by kernel_rfl
noncomputable def KC0:Array Oper:=NZ Go.Proofs.Tryz.f179 23
def KC1:List (List Nat):=[[],[],[],[],[3],[],[],[6],[5,7],[8],[],[],[10,11],[12],[0,1,0,1,5,6,7,8,9,13],[14,9,0,1,5,6,7,8,9,13],[2,4,0,1,2,3,4,5,6,7,8,9,10,11,12,13,14,15],[16,13,15,0,1,2,3,4,5,6,7,8,9,10,11,12,13,14,15]]
def KC2:List (List Nat):=[[],[],[],[],[3],[],[],[6],[5,7],[8],[],[],[10,11],[12],[0,1],[9,14],[2,4],[13,16]]
def KC3:List (List Nat):=[[],[],[],[],[3],[],[],[6],[5,6,7],[5,6,7,8],[],[],[10,11],[10,11,12],[0,1,5,6,7,8,9,10,11,12,13],[0,1,5,6,7,8,9,10,11,12,13,14],[0,1,2,3,4,5,6,7,8,9,10,11,12,13,14,15],[0,1,2,3,4,5,6,7,8,9,10,11,12,13,14,15,16]]
theorem KGH:Vg Go.Proofs.Tryz.f179 23 KC1 KC2 KC3=true:=by kernel_rfl
theorem KEi:Gi 18 KC1 KC2 KC3 [0,0,0,0,8,0,0,64,160,256,0,0,3072,4096,9187,25571,65535,131071] [0,0,0,0,8,0,0,64,160,256,0,0,3072,4096,3,16896,20,73728] [0,0,0,0,8,0,0,64,224,480,0,0,3072,7168,16355,32739,65535,131071]=true:=by kernel_rfl
def Z0 (C61:Sl) (C62:Int) (self4:(Int)→M (Unit)):(Int)→M (Unit):=fun s=>match s with
 | Xx60=>do
  M.ite (decide (Xx60 > C62)) (do
   let Xx67←ixL C61 (IntKind.wrap .i64 (Xx60 - 1)) 1
   let Xx68←ixL C61 Xx60 1
   let Xx69←ldL Xx67
   let Xx70←ldL Xx68
   let Xx71←ixL C61 Xx60 1
   stV Xx71 ((Xx69:Sl).v)
   let Xx73←ixL C61 (IntKind.wrap .i64 (Xx60 - 1)) 1
   stV Xx73 ((Xx70:Sl).v)
   self4 (IntKind.wrap .i64 (Xx60 - 1))
   ) (do
   M.pure ()
   )
def ZT (C45:Sl) (C46:Int) (C47:Value) (self3:(Int × Int)→M (Unit)):(Int × Int)→M (Unit):=fun s=>match s with
 | (Xx43,Xx44)=>do
  M.ite (decide (Xx43 < Xx44)) (do
   let Xx53←ixL C45 C46 1
   let Xx54←ixL C45 (IntKind.wrap .i64 (iShr .u64 (IntKind.wrap .u64 (IntKind.wrap .i64 (Xx43+Xx44))) 1)) 1
   let Xx55←ldL Xx53
   let Xx56←ldL Xx54
   let Xx57←KBj Go.Proofs.Tryz.prog (fun r:Int=>.int .i64 r) C47 [(Xx55:Sl).v,(Xx56:Sl).v]
   M.ite (!(decide (Xx57 < 0))) (do
    self3 (IntKind.wrap .i64 ((IntKind.wrap .i64 (iShr .u64 (IntKind.wrap .u64 (IntKind.wrap .i64 (Xx43+Xx44))) 1))+1),Xx44)
    ) (do
    self3 (Xx43,IntKind.wrap .i64 (iShr .u64 (IntKind.wrap .u64 (IntKind.wrap .i64 (Xx43+Xx44))) 1))
    )
   ) (do
   M.loop (Z0 C45 Xx43) C46
   )
theorem KGI:Vg Go.Proofs.Tryz.f179 35 [[],[],[],[],[2,3],[1,4],[5],[],[],[7,8],[9],[0,6,10],[11],[12]] [[],[],[],[],[2,3],[1,4],[5],[],[],[7,8],[9],[0,6,10],[11],[12]] [[],[],[],[],[2,3],[1,2,3,4],[1,2,3,4,5],[],[],[7,8],[7,8,9],[0,1,2,3,4,5,6,7,8,9,10],[0,1,2,3,4,5,6,7,8,9,10,11],[0,1,2,3,4,5,6,7,8,9,10,11,12]]=true:=by kernel_rfl
def ZU (C117:Sl) (C118:Int) (C119:Value) (C120:Int) (C121:Int):M (Unit):=do
 let Xx123←M.ite (decide (C120 < C121)) (do
  M.pure (decide (C121 < C118))
  ) (do
  M.pure false
  )
 M.ite Xx123 (do
  let Xx124←NY Go.Proofs.Tryz.prog JX #[(C117:Sl).v,.int .i64 C120,.int .i64 C121,.int .i64 C118,C119] (fun r:Unit=>.tuple #[])
  M.pure ()
  ) (do
  M.pure ()
  )
def ZA (C110:Sl) (C111:Int) (C112:Int) (C113:Value) (C114:Int) (C115:Int) (C116:Int):M (Unit):=do
 let Xx126←M.ite (decide (C111 < C115)) (do
  M.pure (decide (C115 < C114))
  ) (do
  M.pure false
  )
 M.ite Xx126 (do
  let Xx127←NY Go.Proofs.Tryz.prog JX #[(C110:Sl).v,.int .i64 C111,.int .i64 C115,.int .i64 C114,C113] (fun r:Unit=>.tuple #[])
  ZU C110 C112 C113 C114 C116
  ) (do
  ZU C110 C112 C113 C114 C116
  )
def Z1 (C91:Sl) (C92:Int) (C93:Int) (C94:Int) (C95:Value) (C96:Int) (C97:Int) (C98:Int) (self5:(Int × Int)→M (Unit)):(Int × Int)→M (Unit):=fun s=>match s with
 | (Xx89,Xx90)=>do
  M.ite (decide (Xx89 < Xx90)) (do
   let Xx104←ixL C91 (IntKind.wrap .i64 (C98 - (IntKind.wrap .i64 (iShr .u64 (IntKind.wrap .u64 (IntKind.wrap .i64 (Xx89+Xx90))) 1)))) 1
   let Xx105←ixL C91 (IntKind.wrap .i64 (iShr .u64 (IntKind.wrap .u64 (IntKind.wrap .i64 (Xx89+Xx90))) 1)) 1
   let Xx106←ldL Xx104
   let Xx107←ldL Xx105
   let Xx108←KBj Go.Proofs.Tryz.prog (fun r:Int=>.int .i64 r) C95 [(Xx106:Sl).v,(Xx107:Sl).v]
   M.ite (!(decide (Xx108 < 0))) (do
    self5 (IntKind.wrap .i64 ((IntKind.wrap .i64 (iShr .u64 (IntKind.wrap .u64 (IntKind.wrap .i64 (Xx89+Xx90))) 1))+1),Xx90)
    ) (do
    self5 (Xx89,IntKind.wrap .i64 (iShr .u64 (IntKind.wrap .u64 (IntKind.wrap .i64 (Xx89+Xx90))) 1))
    )
   ) (do
   let Xx129←M.ite (decide (Xx89 < C93)) (do
    M.pure (decide (C93 < (IntKind.wrap .i64 (C97 - Xx89))))
    ) (do
    M.pure false
    )
   M.ite Xx129 (do
    let Xx130←Zw C91 Xx89 C93 (IntKind.wrap .i64 (C97 - Xx89)) C95
    ZA C91 C92 C94 C95 C96 Xx89 (IntKind.wrap .i64 (C97 - Xx89))
    ) (do
    ZA C91 C92 C94 C95 C96 Xx89 (IntKind.wrap .i64 (C97 - Xx89))
    )
   )
def ZB (C80:Sl) (C81:Int) (C82:Int) (C83:Int) (C84:Value) (C85:Int) (C86:Int) (Xx78:Int) (Xx79:Int):M (Unit):=do
 M.loop (Z1 C80 C81 C82 C83 C84 C85 C86 (IntKind.wrap .i64 (C86 - 1))) (Xx78,Xx79)
def ZL (x0:Sl) (x1:Int) (x2:Int) (x3:Int) (x4:Value):M (Unit):=do
 M.ite ((IntKind.wrap .i64 (x2 - x1)) == 1) (do
  M.loop (ZS x0 x1 x4) (x2,x3)
  ) (do
  M.ite ((IntKind.wrap .i64 (x3 - x2)) == 1) (do
   M.loop (ZT x0 x2 x4) (x1,x2)
   ) (do
   M.ite (decide (x2 > (IntKind.wrap .i64 (iShr .u64 (IntKind.wrap .u64 (IntKind.wrap .i64 (x1+x3))) 1)))) (do
    ZB x0 x1 x2 x3 x4 (IntKind.wrap .i64 (iShr .u64 (IntKind.wrap .u64 (IntKind.wrap .i64 (x1+x3))) 1)) (IntKind.wrap .i64 ((IntKind.wrap .i64 (iShr .u64 (IntKind.wrap .u64 (IntKind.wrap .i64 (x1+x3))) 1))+x2)) (IntKind.wrap .i64 ((IntKind.wrap .i64 ((IntKind.wrap .i64 (iShr .u64 (IntKind.wrap .u64 (IntKind.wrap .i64 (x1+x3))) 1))+x2)) - x3)) (IntKind.wrap .i64 (iShr .u64 (IntKind.wrap .u64 (IntKind.wrap .i64 (x1+x3))) 1))
    ) (do
    ZB x0 x1 x2 x3 x4 (IntKind.wrap .i64 (iShr .u64 (IntKind.wrap .u64 (IntKind.wrap .i64 (x1+x3))) 1)) (IntKind.wrap .i64 ((IntKind.wrap .i64 (iShr .u64 (IntKind.wrap .u64 (IntKind.wrap .i64 (x1+x3))) 1))+x2)) x1 x2
    )
   )
  )
theorem Ji (x0:Sl) (x1:Int) (x2:Int) (x3:Int) (x4:Value):ZK Go.Proofs.Tryz.prog 179 #[(x0:Sl).v,.int .i64 x1,.int .i64 x2,.int .i64 x3,x4] (fun (r:Unit)=>.tuple #[]) (ZL x0 x1 x2 x3 x4):=by
 refine KY [(0,(x0:Sl).v),(1,.int .i64 x1),(2,.int .i64 x2),(3,.int .i64 x3),(4,x4)] Go.Proofs.Tryz.func179 rfl rfl (Nat.le_of_ble_eq_true rfl) (Ke ⟨rfl,rfl,rfl,rfl,rfl,trivial⟩) (fun w0 w Q R a hret hE hR H=>?_)
 unfold ZL at H
 refine KH (fun K hK_1=>?_)
 refine KH (fun K hK_2=>?_)
 refine KC ?_
 refine KB (v:=.int .i64 x2) rfl rfl hE rfl (KD hE rfl) (fun a hE=>?_)
 refine KB (v:=.int .i64 x1) rfl rfl hE rfl (KD hE rfl) (fun a hE=>?_)
 refine KB (v:=.int .i64 (IntKind.wrap .i64 (x2 - x1))) rfl rfl hE rfl (KL hE rfl rfl KN VA) (fun a hE=>?_)
 refine KB (v:=.bool ((IntKind.wrap .i64 (x2 - x1)) == 1)) rfl rfl hE rfl (KL hE rfl rfl KN Z5) (fun a hE=>?_)
 refine KG ?_
 refine hK_2 _ _ ?_
 refine KS ((IntKind.wrap .i64 (x2 - x1)) == 1) hE rfl (fun hb=>?_) (fun hb=>?_)
 ·replace H:=M.ite_t hb H
  refine KH (fun K hK_3=>?_)
  refine KC ?_
  refine KB (v:=.int .i64 x2) rfl rfl hE rfl (KD hE rfl) (fun a hE=>?_)
  refine KB (v:=.int .i64 x2) rfl rfl hE rfl (KE hE rfl) (fun a hE=>?_)
  refine KG ?_
  refine hK_3 _ _ ?_
  refine KH (fun K hK_4=>?_)
  refine KC ?_
  refine KB (v:=.int .i64 x3) rfl rfl hE rfl (KD hE rfl) (fun a hE=>?_)
  refine KB (v:=.int .i64 x3) rfl rfl hE rfl (KE hE rfl) (fun a hE=>?_)
  refine KG ?_
  refine hK_4 _ _ ?_
  refine KH (fun K hK_5=>?_)
  refine Kj ?_
  refine J7 (fun (s:Int × Int)=>(⟨220,[]⟩:Frm)) (fun (s:Int × Int)=>[(0,(x0:Sl).v),(1,.int .i64 x1),(4,x4),(10,.int .i64 s.1),(11,.int .i64 s.2)]) H (hE.cut (.cons rfl (.cons rfl (.cons rfl (.cons rfl (.cons rfl Subs.nil)))))) hR (fun Y self1 hY_11 s a w hE hR H=>?_)
  rcases s with ⟨Xx6,Xx7⟩
  replace hE:Env (⟨220,[]⟩:Frm) a [(0,(x0:Sl).v),(1,.int .i64 x1),(4,x4),(10,.int .i64 Xx6),(11,.int .i64 Xx7)]:=hE
  replace H:(ZS x0 x1 x4 self1 (Xx6,Xx7)).wp w.heap Q:=H
  unfold ZS at H
  refine KH (fun K hK_12=>?_)
  refine KH (fun K hK_13=>?_)
  refine KC ?_
  refine KB (v:=.int .i64 Xx6) rfl rfl hE rfl (KD hE rfl) (fun a hE=>?_)
  refine KB (v:=.int .i64 Xx7) rfl rfl hE rfl (KD hE rfl) (fun a hE=>?_)
  refine KB (v:=.bool (decide (Xx6 < Xx7))) rfl rfl hE rfl (KL hE rfl rfl KN JL) (fun a hE=>?_)
  refine KG ?_
  refine hK_13 _ _ ?_
  refine KS (decide (Xx6 < Xx7)) hE rfl (fun hb=>?_) (fun hb=>?_)
  ·replace H:=M.ite_t hb H
   refine Ka ?_
   refine hK_12 _ _ ?_
   refine Kj ?_
   refine KH (fun K hK_14=>?_)
   refine KC ?_
   refine KB (v:=.int .i64 Xx6) rfl rfl hE rfl (KD hE rfl) (fun a hE=>?_)
   refine KB (v:=.int .i64 Xx7) rfl rfl hE rfl (KD hE rfl) (fun a hE=>?_)
   refine KB (v:=.int .i64 (IntKind.wrap .i64 (Xx6+Xx7))) rfl rfl hE rfl (KL hE rfl rfl KN JE) (fun a hE=>?_)
   refine KB (v:=.int .u64 (IntKind.wrap .u64 (IntKind.wrap .i64 (Xx6+Xx7)))) rfl rfl hE rfl (Ue hE rfl un3 zh) (fun a hE=>?_)
   refine KB (v:=.int .u64 (iShr .u64 (IntKind.wrap .u64 (IntKind.wrap .i64 (Xx6+Xx7))) 1)) rfl rfl hE rfl (KL hE rfl rfl KN (zX ⟨by decide,rfl⟩)) (fun a hE=>?_)
   refine KB (v:=.int .i64 (IntKind.wrap .i64 (iShr .u64 (IntKind.wrap .u64 (IntKind.wrap .i64 (Xx6+Xx7))) 1))) rfl rfl hE rfl (Ue hE rfl zh un3) (fun a hE=>?_)
   refine KB (v:=.int .i64 (IntKind.wrap .i64 (iShr .u64 (IntKind.wrap .u64 (IntKind.wrap .i64 (Xx6+Xx7))) 1))) rfl rfl hE rfl (KE hE rfl) (fun a hE=>?_)
   refine KG ?_
   refine hK_14 _ _ ?_
   refine KH (fun K hK_15=>?_)
   obtain ⟨Xx16,qXx16,H⟩:=H
   obtain ⟨Xx17,qXx17,H⟩:=H
   obtain ⟨Xx18,qXx18,H⟩:=H
   obtain ⟨Xx19,qXx19,H⟩:=H
   have hT:=Jf KHr rfl rfl
   refine Zq (fun w:World=>(fun h:Heap=>(KV h Xx16=some ((Xx18:Sl).v))∧(KV h Xx17=some ((Xx19:Sl).v))) w.heap) [9,10] #[false,false,false,false,false,false,false,false,false,false,false] mo hR rfl rfl (fun w' e=>by rw [e]; exact ⟨qXx18,qXx19⟩) (fun w hh hR hs=>?_)
   replace H:=M.at hh H; clear hh
   refine KF (i:=0) (v:=x4) #[true,false,false,false,false,false,false,false,false,false,false] rfl rfl hT (by kernel_rfl) hE rfl (KA rfl) (fun w=>KD hE rfl) (fun a hE=>?_)
   refine KF (i:=1) (v:=(x0:Sl).v) #[true,true,false,false,false,false,false,false,false,false,false] rfl rfl hT (by kernel_rfl) hE rfl (KA rfl) (fun w=>KD hE rfl) (fun a hE=>?_)
   refine KF (i:=2) (v:=.int .i64 (IntKind.wrap .i64 (iShr .u64 (IntKind.wrap .u64 (IntKind.wrap .i64 (Xx6+Xx7))) 1))) #[true,true,true,false,false,false,false,false,false,false,false] rfl rfl hT (by kernel_rfl) hE rfl (KA rfl) (fun w=>KD hE rfl) (fun a hE=>?_)
   refine KF (i:=3) (v:=.pointer (some Xx16)) #[true,true,true,true,false,false,false,false,false,false,false] rfl rfl hT (by kernel_rfl) hE rfl (KA rfl) (fun w=>KR hE rfl rfl un89 sz22 qXx16) (fun a hE=>?_)
   refine KF (i:=5) (v:=(x0:Sl).v) #[true,true,true,true,false,true,false,false,false,false,false] rfl rfl hT (by kernel_rfl) hE rfl (KA rfl) (fun w=>KD hE rfl) (fun a hE=>?_)
   refine KF (i:=6) (v:=.int .i64 x1) #[true,true,true,true,false,true,true,false,false,false,false] rfl rfl hT (by kernel_rfl) hE rfl (KA rfl) (fun w=>KD hE rfl) (fun a hE=>?_)
   refine KF (i:=7) (v:=.pointer (some Xx17)) #[true,true,true,true,false,true,true,true,false,false,false] rfl rfl hT (by kernel_rfl) hE rfl (KA rfl) (fun w=>KR hE rfl rfl un89 sz22 qXx17) (fun a hE=>?_)
   refine Kt (i:=4) (v:=(Xx18:Sl).v) #[true,true,true,true,true,true,true,true,false,false,false] rfl rfl hT (by kernel_rfl) hE rfl (KA rfl) hs (fun w s=>KU hE rfl sc22 s.1) (fun a hE=>?_)
   refine Kt (i:=8) (v:=(Xx19:Sl).v) #[true,true,true,true,true,true,true,true,true,false,false] rfl rfl hT (by kernel_rfl) hE rfl (KA rfl) hs (fun w s=>KU hE rfl sc22 s.2) (fun a hE=>?_)
   refine zL (i:=9) #[true,true,true,true,true,true,true,true,true,true,false] rfl rfl rfl hT (by kernel_rfl) rfl hE hR (KA rfl) rfl rfl (M.unbind H) (fun Xx20 a w ea hR H=>?_)
   have hE:=Env.put_some hE rfl ea; clear ea
   refine KF (i:=10) (v:=.bool (decide (Xx20 < 0))) #[true,true,true,true,true,true,true,true,true,true,true] rfl rfl hT (by kernel_rfl) hE rfl (KA rfl) (fun w=>KL hE rfl rfl KN JL) (fun a hE=>?_)
   refine JM hT (by kernel_rfl) ?_
   refine hK_15 _ _ ?_
   refine KS (decide (Xx20 < 0)) hE rfl (fun hb=>?_) (fun hb=>?_)
   ·replace H:=M.ite_t hb H
    refine KC ?_
    refine KB (v:=.int .i64 (IntKind.wrap .i64 (iShr .u64 (IntKind.wrap .u64 (IntKind.wrap .i64 (Xx6+Xx7))) 1))) rfl rfl hE rfl (KD hE rfl) (fun a hE=>?_)
    refine KB (v:=.int .i64 (IntKind.wrap .i64 ((IntKind.wrap .i64 (iShr .u64 (IntKind.wrap .u64 (IntKind.wrap .i64 (Xx6+Xx7))) 1))+1))) rfl rfl hE rfl (KL hE rfl rfl KN JE) (fun a hE=>?_)
    refine KB (v:=.int .i64 (IntKind.wrap .i64 ((IntKind.wrap .i64 (iShr .u64 (IntKind.wrap .u64 (IntKind.wrap .i64 (Xx6+Xx7))) 1))+1))) rfl rfl hE rfl (KE hE rfl) (fun a hE=>?_)
    refine KG ?_
    exact hY_11 (IntKind.wrap .i64 ((IntKind.wrap .i64 (iShr .u64 (IntKind.wrap .u64 (IntKind.wrap .i64 (Xx6+Xx7))) 1))+1),Xx7) _ _ (hE.cut (.cons rfl (.cons rfl (.cons rfl (.cons rfl (.cons rfl Subs.nil)))))) hR H
   ·replace H:=M.ite_f hb H
    refine KC ?_
    refine KB (v:=.int .i64 (IntKind.wrap .i64 (iShr .u64 (IntKind.wrap .u64 (IntKind.wrap .i64 (Xx6+Xx7))) 1))) rfl rfl hE rfl (KD hE rfl) (fun a hE=>?_)
    refine KB (v:=.int .i64 (IntKind.wrap .i64 (iShr .u64 (IntKind.wrap .u64 (IntKind.wrap .i64 (Xx6+Xx7))) 1))) rfl rfl hE rfl (KE hE rfl) (fun a hE=>?_)
    refine KG ?_
    exact hY_11 (Xx6,IntKind.wrap .i64 (iShr .u64 (IntKind.wrap .u64 (IntKind.wrap .i64 (Xx6+Xx7))) 1)) _ _ (hE.cut (.cons rfl (.cons rfl (.cons rfl (.cons rfl (.cons rfl Subs.nil)))))) hR H
  ·replace H:=M.ite_f hb H
   refine J6 ?_
   refine Xu.same ?_
   refine hK_5 _ _ ?_
   refine KH (fun K hK_21=>?_)
   refine KH (fun K hK_22=>?_)
   refine KC ?_
   refine KB (v:=.int .i64 x1) rfl rfl hE rfl (KD hE rfl) (fun a hE=>?_)
   refine KB (v:=.int .i64 x1) rfl rfl hE rfl (KE hE rfl) (fun a hE=>?_)
   refine KG ?_
   refine hK_22 _ _ ?_
   refine Kj ?_
   refine J7 (fun (s:Int)=>(⟨220,[]⟩:Frm)) (fun (s:Int)=>[(0,(x0:Sl).v),(10,.int .i64 Xx6),(13,.int .i64 s)]) H (hE.cut (.cons rfl (.cons rfl (.cons rfl Subs.nil)))) hR (fun Y self2 hY_26 Xx23 a w hE hR H=>?_)
   replace hE:Env (⟨220,[]⟩:Frm) a [(0,(x0:Sl).v),(10,.int .i64 Xx6),(13,.int .i64 Xx23)]:=hE
   replace H:(Zz x0 Xx6 self2 Xx23).wp w.heap Q:=H
   unfold Zz at H
   refine KH (fun K hK_27=>?_)
   refine KH (fun K hK_28=>?_)
   refine KC ?_
   refine KB (v:=.int .i64 Xx23) rfl rfl hE rfl (KD hE rfl) (fun a hE=>?_)
   refine KB (v:=.int .i64 Xx6) rfl rfl hE rfl (KD hE rfl) (fun a hE=>?_)
   refine KB (v:=.int .i64 (IntKind.wrap .i64 (Xx6 - 1))) rfl rfl hE rfl (KL hE rfl rfl KN VA) (fun a hE=>?_)
   refine KB (v:=.bool (decide (Xx23 < (IntKind.wrap .i64 (Xx6 - 1))))) rfl rfl hE rfl (KL hE rfl rfl KN JL) (fun a hE=>?_)
   refine KG ?_
   refine hK_28 _ _ ?_
   refine KS (decide (Xx23 < (IntKind.wrap .i64 (Xx6 - 1)))) hE rfl (fun hb=>?_) (fun hb=>?_)
   ·replace H:=M.ite_t hb H
    refine Ka ?_
    refine hK_27 _ _ ?_
    refine KH (fun K hK_29=>?_)
    refine Kj ?_
    obtain ⟨Xx30,qXx30,H⟩:=H
    obtain ⟨Xx31,qXx31,H⟩:=H
    obtain ⟨Xx32,qXx32,H⟩:=H
    obtain ⟨Xx33,qXx33,H⟩:=H
    obtain ⟨Xx34,qXx34,H⟩:=H
    refine VL (rops:=KCw) (by kernel_rfl) ?_
    have hT:Tab KCw _ _ _:=Jf KGF rfl (by kernel_rfl)
    have hM:=TabM.of KEh
    refine Zq (m:=18) (fun w:World=>(fun h:Heap=>(KV h Xx30=some ((Xx32:Sl).v))∧(KV h Xx31=some ((Xx33:Sl).v))) w.heap) [14,15,16,17] (unb 18 0) mo hR (by kernel_rfl) (by kernel_rfl) (fun w' e=>by rw [e]; exact ⟨qXx32,qXx33⟩) (fun w hh hR hs=>?_)
    replace H:=M.at hh H; clear hh
    refine KF (i:=0) (v:=(x0:Sl).v) (unb 18 1) rfl rfl hT (anyM hM (by kernel_rfl)) hE rfl (KA rfl) (fun w=>KD hE rfl) (fun a hE=>?_)
    refine KF (i:=1) (v:=.int .i64 Xx23) (unb 18 3) rfl rfl hT (anyM hM (by kernel_rfl)) hE rfl (KA rfl) (fun w=>KD hE rfl) (fun a hE=>?_)
    refine KF (i:=2) (v:=(x0:Sl).v) (unb 18 7) rfl rfl hT (anyM hM (by kernel_rfl)) hE rfl (KA rfl) (fun w=>KD hE rfl) (fun a hE=>?_)
    refine KF (i:=3) (v:=.int .i64 Xx23) (unb 18 15) rfl rfl hT (anyM hM (by kernel_rfl)) hE rfl (KA rfl) (fun w=>KD hE rfl) (fun a hE=>?_)
    refine KF (i:=4) (v:=.int .i64 (IntKind.wrap .i64 (Xx23+1))) (unb 18 31) rfl rfl hT (anyM hM (by kernel_rfl)) hE rfl (KA rfl) (fun w=>KL hE rfl rfl KN JE) (fun a hE=>?_)
    refine KF (i:=5) (v:=(x0:Sl).v) (unb 18 63) rfl rfl hT (anyM hM (by kernel_rfl)) hE rfl (KA rfl) (fun w=>KD hE rfl) (fun a hE=>?_)
    refine KF (i:=6) (v:=.int .i64 Xx23) (unb 18 127) rfl rfl hT (anyM hM (by kernel_rfl)) hE rfl (KA rfl) (fun w=>KD hE rfl) (fun a hE=>?_)
    refine KF (i:=7) (v:=.int .i64 (IntKind.wrap .i64 (Xx23+1))) (unb 18 255) rfl rfl hT (anyM hM (by kernel_rfl)) hE rfl (KA rfl) (fun w=>KL hE rfl rfl KN JE) (fun a hE=>?_)
    refine KF (i:=8) (v:=.pointer (some Xx30)) (unb 18 511) rfl rfl hT (anyM hM (by kernel_rfl)) hE rfl (KA rfl) (fun w=>KR hE rfl rfl un89 sz22 qXx30) (fun a hE=>?_)
    refine KF (i:=10) (v:=(x0:Sl).v) (unb 18 1535) rfl rfl hT (anyM hM (by kernel_rfl)) hE rfl (KA rfl) (fun w=>KD hE rfl) (fun a hE=>?_)
    refine KF (i:=11) (v:=.int .i64 Xx23) (unb 18 3583) rfl rfl hT (anyM hM (by kernel_rfl)) hE rfl (KA rfl) (fun w=>KD hE rfl) (fun a hE=>?_)
    refine KF (i:=12) (v:=.pointer (some Xx31)) (unb 18 7679) rfl rfl hT (anyM hM (by kernel_rfl)) hE rfl (KA rfl) (fun w=>KR hE rfl rfl un89 sz22 qXx31) (fun a hE=>?_)
    refine Kt (i:=9) (v:=(Xx32:Sl).v) (unb 18 8191) rfl rfl hT (UB hM (by kernel_rfl)) hE rfl (KA rfl) hs (fun w s=>KU hE rfl sc22 s.1) (fun a hE=>?_)
    refine Kt (i:=13) (v:=(Xx33:Sl).v) (unb 18 16383) rfl rfl hT (UB hM (by kernel_rfl)) hE rfl (KA rfl) hs (fun w s=>KU hE rfl sc22 s.2) (fun a hE=>?_)
    refine KF (i:=14) (v:=.pointer (some Xx34)) (unb 18 32767) rfl rfl hT (anyM hM (by kernel_rfl)) hE rfl (KA rfl) (fun w=>KR hE rfl rfl un89 sz22 qXx34) (fun a hE=>?_)
    obtain ⟨u_35,qu_35,H⟩:=H
    refine Gh (i:=15) (unb 18 65535) rfl rfl hT (oneM hM (by kernel_rfl)) rfl hE hR (KA rfl) (JK hE rfl rfl sz22 qu_35)  (fun a w hE hR hh=>?_)
    replace H:=M.at hh H; clear hh
    obtain ⟨Xx36,qXx36,H⟩:=H
    refine KF (i:=16) (v:=.pointer (some Xx36)) (unb 18 131071) rfl rfl hT (anyM hM (by kernel_rfl)) hE rfl (KA rfl) (fun w=>KR hE rfl rfl un89 sz22 qXx36) (fun a hE=>?_)
    obtain ⟨u_37,qu_37,H⟩:=H
    refine Gh (i:=17) (unb 18 262143) rfl rfl hT (oneM hM (by kernel_rfl)) rfl hE hR (KA rfl) (JK hE rfl rfl sz22 qu_37)  (fun a w hE hR hh=>?_)
    replace H:=M.at hh H; clear hh
    refine JM hT (Wa hM (by kernel_rfl)) ?_
    refine hK_29 _ _ ?_
    refine KC ?_
    refine KB (v:=.int .i64 Xx23) rfl rfl hE rfl (KD hE rfl) (fun a hE=>?_)
    refine KB (v:=.int .i64 (IntKind.wrap .i64 (Xx23+1))) rfl rfl hE rfl (KL hE rfl rfl KN JE) (fun a hE=>?_)
    refine KB (v:=.int .i64 (IntKind.wrap .i64 (Xx23+1))) rfl rfl hE rfl (KE hE rfl) (fun a hE=>?_)
    refine KG ?_
    exact hY_26 (IntKind.wrap .i64 (Xx23+1)) _ _ (hE.cut (.cons rfl (.cons rfl (.cons rfl Subs.nil)))) hR H
   ·replace H:=M.ite_f hb H
    refine J6 ?_
    refine Xu.same ?_
    refine hK_21 _ _ ?_
    refine Kg ?_
    exact hret _ _ _ () _ hE hR (KM hE rfl RV.nil) rfl H
 ·replace H:=M.ite_f hb H
  refine Ka ?_
  refine hK_1 _ _ ?_
  refine KH (fun K hK_38=>?_)
  refine KH (fun K hK_39=>?_)
  refine KC ?_
  refine KB (v:=.int .i64 x3) rfl rfl hE rfl (KD hE rfl) (fun a hE=>?_)
  refine KB (v:=.int .i64 x2) rfl rfl hE rfl (KD hE rfl) (fun a hE=>?_)
  refine KB (v:=.int .i64 (IntKind.wrap .i64 (x3 - x2))) rfl rfl hE rfl (KL hE rfl rfl KN VA) (fun a hE=>?_)
  refine KB (v:=.bool ((IntKind.wrap .i64 (x3 - x2)) == 1)) rfl rfl hE rfl (KL hE rfl rfl KN Z5) (fun a hE=>?_)
  refine KG ?_
  refine hK_39 _ _ ?_
  refine KS ((IntKind.wrap .i64 (x3 - x2)) == 1) hE rfl (fun hb=>?_) (fun hb=>?_)
  ·replace H:=M.ite_t hb H
   refine KH (fun K hK_40=>?_)
   refine KC ?_
   refine KB (v:=.int .i64 x1) rfl rfl hE rfl (KD hE rfl) (fun a hE=>?_)
   refine KB (v:=.int .i64 x1) rfl rfl hE rfl (KE hE rfl) (fun a hE=>?_)
   refine KG ?_
   refine hK_40 _ _ ?_
   refine KH (fun K hK_41=>?_)
   refine KC ?_
   refine KB (v:=.int .i64 x2) rfl rfl hE rfl (KD hE rfl) (fun a hE=>?_)
   refine KB (v:=.int .i64 x2) rfl rfl hE rfl (KE hE rfl) (fun a hE=>?_)
   refine KG ?_
   refine hK_41 _ _ ?_
   refine KH (fun K hK_42=>?_)
   refine Kj ?_
   refine J7 (fun (s:Int × Int)=>(⟨220,[]⟩:Frm)) (fun (s:Int × Int)=>[(0,(x0:Sl).v),(2,.int .i64 x2),(4,x4),(14,.int .i64 s.1),(15,.int .i64 s.2)]) H (hE.cut (.cons rfl (.cons rfl (.cons rfl (.cons rfl (.cons rfl Subs.nil)))))) hR (fun Y self3 hY_48 s a w hE hR H=>?_)
   rcases s with ⟨Xx43,Xx44⟩
   replace hE:Env (⟨220,[]⟩:Frm) a [(0,(x0:Sl).v),(2,.int .i64 x2),(4,x4),(14,.int .i64 Xx43),(15,.int .i64 Xx44)]:=hE
   replace H:(ZT x0 x2 x4 self3 (Xx43,Xx44)).wp w.heap Q:=H
   unfold ZT at H
   refine KH (fun K hK_49=>?_)
   refine KH (fun K hK_50=>?_)
   refine KC ?_
   refine KB (v:=.int .i64 Xx43) rfl rfl hE rfl (KD hE rfl) (fun a hE=>?_)
   refine KB (v:=.int .i64 Xx44) rfl rfl hE rfl (KD hE rfl) (fun a hE=>?_)
   refine KB (v:=.bool (decide (Xx43 < Xx44))) rfl rfl hE rfl (KL hE rfl rfl KN JL) (fun a hE=>?_)
   refine KG ?_
   refine hK_50 _ _ ?_
   refine KS (decide (Xx43 < Xx44)) hE rfl (fun hb=>?_) (fun hb=>?_)
   ·replace H:=M.ite_t hb H
    refine Ka ?_
    refine hK_49 _ _ ?_
    refine Kj ?_
    refine KH (fun K hK_51=>?_)
    refine KC ?_
    refine KB (v:=.int .i64 Xx43) rfl rfl hE rfl (KD hE rfl) (fun a hE=>?_)
    refine KB (v:=.int .i64 Xx44) rfl rfl hE rfl (KD hE rfl) (fun a hE=>?_)
    refine KB (v:=.int .i64 (IntKind.wrap .i64 (Xx43+Xx44))) rfl rfl hE rfl (KL hE rfl rfl KN JE) (fun a hE=>?_)
    refine KB (v:=.int .u64 (IntKind.wrap .u64 (IntKind.wrap .i64 (Xx43+Xx44)))) rfl rfl hE rfl (Ue hE rfl un3 zh) (fun a hE=>?_)
    refine KB (v:=.int .u64 (iShr .u64 (IntKind.wrap .u64 (IntKind.wrap .i64 (Xx43+Xx44))) 1)) rfl rfl hE rfl (KL hE rfl rfl KN (zX ⟨by decide,rfl⟩)) (fun a hE=>?_)
    refine KB (v:=.int .i64 (IntKind.wrap .i64 (iShr .u64 (IntKind.wrap .u64 (IntKind.wrap .i64 (Xx43+Xx44))) 1))) rfl rfl hE rfl (Ue hE rfl zh un3) (fun a hE=>?_)
    refine KB (v:=.int .i64 (IntKind.wrap .i64 (iShr .u64 (IntKind.wrap .u64 (IntKind.wrap .i64 (Xx43+Xx44))) 1))) rfl rfl hE rfl (KE hE rfl) (fun a hE=>?_)
    refine KG ?_
    refine hK_51 _ _ ?_
    refine KH (fun K hK_52=>?_)
    obtain ⟨Xx53,qXx53,H⟩:=H
    obtain ⟨Xx54,qXx54,H⟩:=H
    obtain ⟨Xx55,qXx55,H⟩:=H
    obtain ⟨Xx56,qXx56,H⟩:=H
    have hT:=Jf KGG rfl rfl
    refine Zq (fun w:World=>(fun h:Heap=>(KV h Xx53=some ((Xx55:Sl).v))∧(KV h Xx54=some ((Xx56:Sl).v))) w.heap) [9,10,11] #[false,false,false,false,false,false,false,false,false,false,false,false] mo hR rfl rfl (fun w' e=>by rw [e]; exact ⟨qXx55,qXx56⟩) (fun w hh hR hs=>?_)
    replace H:=M.at hh H; clear hh
    refine KF (i:=0) (v:=x4) #[true,false,false,false,false,false,false,false,false,false,false,false] rfl rfl hT (by kernel_rfl) hE rfl (KA rfl) (fun w=>KD hE rfl) (fun a hE=>?_)
    refine KF (i:=1) (v:=(x0:Sl).v) #[true,true,false,false,false,false,false,false,false,false,false,false] rfl rfl hT (by kernel_rfl) hE rfl (KA rfl) (fun w=>KD hE rfl) (fun a hE=>?_)
    refine KF (i:=2) (v:=.int .i64 x2) #[true,true,true,false,false,false,false,false,false,false,false,false] rfl rfl hT (by kernel_rfl) hE rfl (KA rfl) (fun w=>KD hE rfl) (fun a hE=>?_)
    refine KF (i:=3) (v:=.pointer (some Xx53)) #[true,true,true,true,false,false,false,false,false,false,false,false] rfl rfl hT (by kernel_rfl) hE rfl (KA rfl) (fun w=>KR hE rfl rfl un89 sz22 qXx53) (fun a hE=>?_)
    refine KF (i:=5) (v:=(x0:Sl).v) #[true,true,true,true,false,true,false,false,false,false,false,false] rfl rfl hT (by kernel_rfl) hE rfl (KA rfl) (fun w=>KD hE rfl) (fun a hE=>?_)
    refine KF (i:=6) (v:=.int .i64 (IntKind.wrap .i64 (iShr .u64 (IntKind.wrap .u64 (IntKind.wrap .i64 (Xx43+Xx44))) 1))) #[true,true,true,true,false,true,true,false,false,false,false,false] rfl rfl hT (by kernel_rfl) hE rfl (KA rfl) (fun w=>KD hE rfl) (fun a hE=>?_)
    refine KF (i:=7) (v:=.pointer (some Xx54)) #[true,true,true,true,false,true,true,true,false,false,false,false] rfl rfl hT (by kernel_rfl) hE rfl (KA rfl) (fun w=>KR hE rfl rfl un89 sz22 qXx54) (fun a hE=>?_)
    refine Kt (i:=4) (v:=(Xx55:Sl).v) #[true,true,true,true,true,true,true,true,false,false,false,false] rfl rfl hT (by kernel_rfl) hE rfl (KA rfl) hs (fun w s=>KU hE rfl sc22 s.1) (fun a hE=>?_)
    refine Kt (i:=8) (v:=(Xx56:Sl).v) #[true,true,true,true,true,true,true,true,true,false,false,false] rfl rfl hT (by kernel_rfl) hE rfl (KA rfl) hs (fun w s=>KU hE rfl sc22 s.2) (fun a hE=>?_)
    refine zL (i:=9) #[true,true,true,true,true,true,true,true,true,true,false,false] rfl rfl rfl hT (by kernel_rfl) rfl hE hR (KA rfl) rfl rfl (M.unbind H) (fun Xx57 a w ea hR H=>?_)
    have hE:=Env.put_some hE rfl ea; clear ea
    refine KF (i:=10) (v:=.bool (decide (Xx57 < 0))) #[true,true,true,true,true,true,true,true,true,true,true,false] rfl rfl hT (by kernel_rfl) hE rfl (KA rfl) (fun w=>KL hE rfl rfl KN JL) (fun a hE=>?_)
    refine KF (i:=11) (v:=.bool (!(decide (Xx57 < 0)))) #[true,true,true,true,true,true,true,true,true,true,true,true] rfl rfl hT (by kernel_rfl) hE rfl (KA rfl) (fun w=>r_un hE rfl GB) (fun a hE=>?_)
    refine JM hT (by kernel_rfl) ?_
    refine hK_52 _ _ ?_
    refine KS (!(decide (Xx57 < 0))) hE rfl (fun hb=>?_) (fun hb=>?_)
    ·replace H:=M.ite_t hb H
     refine KC ?_
     refine KB (v:=.int .i64 (IntKind.wrap .i64 (iShr .u64 (IntKind.wrap .u64 (IntKind.wrap .i64 (Xx43+Xx44))) 1))) rfl rfl hE rfl (KD hE rfl) (fun a hE=>?_)
     refine KB (v:=.int .i64 (IntKind.wrap .i64 ((IntKind.wrap .i64 (iShr .u64 (IntKind.wrap .u64 (IntKind.wrap .i64 (Xx43+Xx44))) 1))+1))) rfl rfl hE rfl (KL hE rfl rfl KN JE) (fun a hE=>?_)
     refine KB (v:=.int .i64 (IntKind.wrap .i64 ((IntKind.wrap .i64 (iShr .u64 (IntKind.wrap .u64 (IntKind.wrap .i64 (Xx43+Xx44))) 1))+1))) rfl rfl hE rfl (KE hE rfl) (fun a hE=>?_)
     refine KG ?_
     exact hY_48 (IntKind.wrap .i64 ((IntKind.wrap .i64 (iShr .u64 (IntKind.wrap .u64 (IntKind.wrap .i64 (Xx43+Xx44))) 1))+1),Xx44) _ _ (hE.cut (.cons rfl (.cons rfl (.cons rfl (.cons rfl (.cons rfl Subs.nil)))))) hR H
    ·replace H:=M.ite_f hb H
     refine KC ?_
     refine KB (v:=.int .i64 (IntKind.wrap .i64 (iShr .u64 (IntKind.wrap .u64 (IntKind.wrap .i64 (Xx43+Xx44))) 1))) rfl rfl hE rfl (KD hE rfl) (fun a hE=>?_)
     refine KB (v:=.int .i64 (IntKind.wrap .i64 (iShr .u64 (IntKind.wrap .u64 (IntKind.wrap .i64 (Xx43+Xx44))) 1))) rfl rfl hE rfl (KE hE rfl) (fun a hE=>?_)
     refine KG ?_
     exact hY_48 (Xx43,IntKind.wrap .i64 (iShr .u64 (IntKind.wrap .u64 (IntKind.wrap .i64 (Xx43+Xx44))) 1)) _ _ (hE.cut (.cons rfl (.cons rfl (.cons rfl (.cons rfl (.cons rfl Subs.nil)))))) hR H
   ·replace H:=M.ite_f hb H
    refine J6 ?_
    refine Xu.same ?_
    refine hK_42 _ _ ?_
    refine KH (fun K hK_58=>?_)
    refine KH (fun K hK_59=>?_)
    refine KC ?_
    refine KB (v:=.int .i64 x2) rfl rfl hE rfl (KD hE rfl) (fun a hE=>?_)
    refine KB (v:=.int .i64 x2) rfl rfl hE rfl (KE hE rfl) (fun a hE=>?_)
    refine KG ?_
    refine hK_59 _ _ ?_
    refine Kj ?_
    refine J7 (fun (s:Int)=>(⟨220,[]⟩:Frm)) (fun (s:Int)=>[(0,(x0:Sl).v),(14,.int .i64 Xx43),(17,.int .i64 s)]) H (hE.cut (.cons rfl (.cons rfl (.cons rfl Subs.nil)))) hR (fun Y self4 hY_63 Xx60 a w hE hR H=>?_)
    replace hE:Env (⟨220,[]⟩:Frm) a [(0,(x0:Sl).v),(14,.int .i64 Xx43),(17,.int .i64 Xx60)]:=hE
    replace H:(Z0 x0 Xx43 self4 Xx60).wp w.heap Q:=H
    unfold Z0 at H
    refine KH (fun K hK_64=>?_)
    refine KH (fun K hK_65=>?_)
    refine KC ?_
    refine KB (v:=.int .i64 Xx60) rfl rfl hE rfl (KD hE rfl) (fun a hE=>?_)
    refine KB (v:=.int .i64 Xx43) rfl rfl hE rfl (KD hE rfl) (fun a hE=>?_)
    refine KB (v:=.bool (decide (Xx60 > Xx43))) rfl rfl hE rfl (KL hE rfl rfl KN YI) (fun a hE=>?_)
    refine KG ?_
    refine hK_65 _ _ ?_
    refine KS (decide (Xx60 > Xx43)) hE rfl (fun hb=>?_) (fun hb=>?_)
    ·replace H:=M.ite_t hb H
     refine Ka ?_
     refine hK_64 _ _ ?_
     refine KH (fun K hK_66=>?_)
     refine Kj ?_
     obtain ⟨Xx67,qXx67,H⟩:=H
     obtain ⟨Xx68,qXx68,H⟩:=H
     obtain ⟨Xx69,qXx69,H⟩:=H
     obtain ⟨Xx70,qXx70,H⟩:=H
     obtain ⟨Xx71,qXx71,H⟩:=H
     refine VL (rops:=KC0) (by kernel_rfl) ?_
     have hT:Tab KC0 _ _ _:=Jf KGH rfl (by kernel_rfl)
     have hM:=TabM.of KEi
     refine Zq (m:=18) (fun w:World=>(fun h:Heap=>(KV h Xx67=some ((Xx69:Sl).v))∧(KV h Xx68=some ((Xx70:Sl).v))) w.heap) [14,15,16,17] (unb 18 0) mo hR (by kernel_rfl) (by kernel_rfl) (fun w' e=>by rw [e]; exact ⟨qXx69,qXx70⟩) (fun w hh hR hs=>?_)
     replace H:=M.at hh H; clear hh
     refine KF (i:=0) (v:=(x0:Sl).v) (unb 18 1) rfl rfl hT (anyM hM (by kernel_rfl)) hE rfl (KA rfl) (fun w=>KD hE rfl) (fun a hE=>?_)
     refine KF (i:=1) (v:=.int .i64 Xx60) (unb 18 3) rfl rfl hT (anyM hM (by kernel_rfl)) hE rfl (KA rfl) (fun w=>KD hE rfl) (fun a hE=>?_)
     refine KF (i:=2) (v:=(x0:Sl).v) (unb 18 7) rfl rfl hT (anyM hM (by kernel_rfl)) hE rfl (KA rfl) (fun w=>KD hE rfl) (fun a hE=>?_)
     refine KF (i:=3) (v:=.int .i64 Xx60) (unb 18 15) rfl rfl hT (anyM hM (by kernel_rfl)) hE rfl (KA rfl) (fun w=>KD hE rfl) (fun a hE=>?_)
     refine KF (i:=4) (v:=.int .i64 (IntKind.wrap .i64 (Xx60 - 1))) (unb 18 31) rfl rfl hT (anyM hM (by kernel_rfl)) hE rfl (KA rfl) (fun w=>KL hE rfl rfl KN VA) (fun a hE=>?_)
     refine KF (i:=5) (v:=(x0:Sl).v) (unb 18 63) rfl rfl hT (anyM hM (by kernel_rfl)) hE rfl (KA rfl) (fun w=>KD hE rfl) (fun a hE=>?_)
     refine KF (i:=6) (v:=.int .i64 Xx60) (unb 18 127) rfl rfl hT (anyM hM (by kernel_rfl)) hE rfl (KA rfl) (fun w=>KD hE rfl) (fun a hE=>?_)
     refine KF (i:=7) (v:=.int .i64 (IntKind.wrap .i64 (Xx60 - 1))) (unb 18 255) rfl rfl hT (anyM hM (by kernel_rfl)) hE rfl (KA rfl) (fun w=>KL hE rfl rfl KN VA) (fun a hE=>?_)
     refine KF (i:=8) (v:=.pointer (some Xx67)) (unb 18 511) rfl rfl hT (anyM hM (by kernel_rfl)) hE rfl (KA rfl) (fun w=>KR hE rfl rfl un89 sz22 qXx67) (fun a hE=>?_)
     refine KF (i:=10) (v:=(x0:Sl).v) (unb 18 1535) rfl rfl hT (anyM hM (by kernel_rfl)) hE rfl (KA rfl) (fun w=>KD hE rfl) (fun a hE=>?_)
     refine KF (i:=11) (v:=.int .i64 Xx60) (unb 18 3583) rfl rfl hT (anyM hM (by kernel_rfl)) hE rfl (KA rfl) (fun w=>KD hE rfl) (fun a hE=>?_)
     refine KF (i:=12) (v:=.pointer (some Xx68)) (unb 18 7679) rfl rfl hT (anyM hM (by kernel_rfl)) hE rfl (KA rfl) (fun w=>KR hE rfl rfl un89 sz22 qXx68) (fun a hE=>?_)
     refine Kt (i:=9) (v:=(Xx69:Sl).v) (unb 18 8191) rfl rfl hT (UB hM (by kernel_rfl)) hE rfl (KA rfl) hs (fun w s=>KU hE rfl sc22 s.1) (fun a hE=>?_)
     refine Kt (i:=13) (v:=(Xx70:Sl).v) (unb 18 16383) rfl rfl hT (UB hM (by kernel_rfl)) hE rfl (KA rfl) hs (fun w s=>KU hE rfl sc22 s.2) (fun a hE=>?_)
     refine KF (i:=14) (v:=.pointer (some Xx71)) (unb 18 32767) rfl rfl hT (anyM hM (by kernel_rfl)) hE rfl (KA rfl) (fun w=>KR hE rfl rfl un89 sz22 qXx71) (fun a hE=>?_)
     obtain ⟨u_72,qu_72,H⟩:=H
     refine Gh (i:=15) (unb 18 65535) rfl rfl hT (oneM hM (by kernel_rfl)) rfl hE hR (KA rfl) (JK hE rfl rfl sz22 qu_72)  (fun a w hE hR hh=>?_)
     replace H:=M.at hh H; clear hh
     obtain ⟨Xx73,qXx73,H⟩:=H
     refine KF (i:=16) (v:=.pointer (some Xx73)) (unb 18 131071) rfl rfl hT (anyM hM (by kernel_rfl)) hE rfl (KA rfl) (fun w=>KR hE rfl rfl un89 sz22 qXx73) (fun a hE=>?_)
     obtain ⟨u_74,qu_74,H⟩:=H
     refine Gh (i:=17) (unb 18 262143) rfl rfl hT (oneM hM (by kernel_rfl)) rfl hE hR (KA rfl) (JK hE rfl rfl sz22 qu_74)  (fun a w hE hR hh=>?_)
     replace H:=M.at hh H; clear hh
     refine JM hT (Wa hM (by kernel_rfl)) ?_
     refine hK_66 _ _ ?_
     refine KC ?_
     refine KB (v:=.int .i64 Xx60) rfl rfl hE rfl (KD hE rfl) (fun a hE=>?_)
     refine KB (v:=.int .i64 (IntKind.wrap .i64 (Xx60 - 1))) rfl rfl hE rfl (KL hE rfl rfl KN VA) (fun a hE=>?_)
     refine KB (v:=.int .i64 (IntKind.wrap .i64 (Xx60 - 1))) rfl rfl hE rfl (KE hE rfl) (fun a hE=>?_)
     refine KG ?_
     exact hY_63 (IntKind.wrap .i64 (Xx60 - 1)) _ _ (hE.cut (.cons rfl (.cons rfl (.cons rfl Subs.nil)))) hR H
    ·replace H:=M.ite_f hb H
     refine J6 ?_
     refine Xu.same ?_
     refine hK_58 _ _ ?_
     refine Kg ?_
     exact hret _ _ _ () _ hE hR (KM hE rfl RV.nil) rfl H
  ·replace H:=M.ite_f hb H
   refine Ka ?_
   refine hK_38 _ _ ?_
   refine KH (fun K hK_75=>?_)
   refine KC ?_
   refine KB (v:=.int .i64 x1) rfl rfl hE rfl (KD hE rfl) (fun a hE=>?_)
   refine KB (v:=.int .i64 x3) rfl rfl hE rfl (KD hE rfl) (fun a hE=>?_)
   refine KB (v:=.int .i64 (IntKind.wrap .i64 (x1+x3))) rfl rfl hE rfl (KL hE rfl rfl KN JE) (fun a hE=>?_)
   refine KB (v:=.int .u64 (IntKind.wrap .u64 (IntKind.wrap .i64 (x1+x3)))) rfl rfl hE rfl (Ue hE rfl un3 zh) (fun a hE=>?_)
   refine KB (v:=.int .u64 (iShr .u64 (IntKind.wrap .u64 (IntKind.wrap .i64 (x1+x3))) 1)) rfl rfl hE rfl (KL hE rfl rfl KN (zX ⟨by decide,rfl⟩)) (fun a hE=>?_)
   refine KB (v:=.int .i64 (IntKind.wrap .i64 (iShr .u64 (IntKind.wrap .u64 (IntKind.wrap .i64 (x1+x3))) 1))) rfl rfl hE rfl (Ue hE rfl zh un3) (fun a hE=>?_)
   refine KB (v:=.int .i64 (IntKind.wrap .i64 (iShr .u64 (IntKind.wrap .u64 (IntKind.wrap .i64 (x1+x3))) 1))) rfl rfl hE rfl (KE hE rfl) (fun a hE=>?_)
   refine KG ?_
   refine hK_75 _ _ ?_
   refine KH (fun K hK_76=>?_)
   refine KC ?_
   refine KB (v:=.int .i64 (IntKind.wrap .i64 (iShr .u64 (IntKind.wrap .u64 (IntKind.wrap .i64 (x1+x3))) 1))) rfl rfl hE rfl (KD hE rfl) (fun a hE=>?_)
   refine KB (v:=.int .i64 x2) rfl rfl hE rfl (KD hE rfl) (fun a hE=>?_)
   refine KB (v:=.int .i64 (IntKind.wrap .i64 ((IntKind.wrap .i64 (iShr .u64 (IntKind.wrap .u64 (IntKind.wrap .i64 (x1+x3))) 1))+x2))) rfl rfl hE rfl (KL hE rfl rfl KN JE) (fun a hE=>?_)
   refine KB (v:=.int .i64 (IntKind.wrap .i64 ((IntKind.wrap .i64 (iShr .u64 (IntKind.wrap .u64 (IntKind.wrap .i64 (x1+x3))) 1))+x2))) rfl rfl hE rfl (KE hE rfl) (fun a hE=>?_)
   refine KG ?_
   refine hK_76 _ _ ?_
   refine KH (fun K hK_77=>?_)
   refine KC ?_
   refine KB (v:=.int .i64 0) rfl rfl hE rfl (KE hE rfl) (fun a hE=>?_)
   refine KB (v:=.int .i64 0) rfl rfl hE rfl (KE hE rfl) (fun a hE=>?_)
   refine KG ?_
   refine hK_77 _ _ ?_
   refine Ku (fun a w=>∃ (Xx78:Int),∃ (Xx79:Int),Env (⟨220,[]⟩:Frm) a [(0,(x0:Sl).v),(1,.int .i64 x1),(2,.int .i64 x2),(3,.int .i64 x3),(4,x4),(18,.int .i64 (IntKind.wrap .i64 (iShr .u64 (IntKind.wrap .u64 (IntKind.wrap .i64 (x1+x3))) 1))),(19,.int .i64 (IntKind.wrap .i64 ((IntKind.wrap .i64 (iShr .u64 (IntKind.wrap .u64 (IntKind.wrap .i64 (x1+x3))) 1))+x2))),(20,.int .i64 Xx78),(21,.int .i64 Xx79)]∧Rest w0 w∧(ZB x0 x1 x2 x3 x4 (IntKind.wrap .i64 (iShr .u64 (IntKind.wrap .u64 (IntKind.wrap .i64 (x1+x3))) 1)) (IntKind.wrap .i64 ((IntKind.wrap .i64 (iShr .u64 (IntKind.wrap .u64 (IntKind.wrap .i64 (x1+x3))) 1))+x2)) Xx78 Xx79).wp w.heap Q) ?_ ?_
   ·rintro a w ⟨Xx78,Xx79,hE,hR,H⟩
    unfold ZB at H
    refine KH (fun K hK_87=>?_)
    refine KC ?_
    refine KB (v:=.int .i64 (IntKind.wrap .i64 ((IntKind.wrap .i64 (iShr .u64 (IntKind.wrap .u64 (IntKind.wrap .i64 (x1+x3))) 1))+x2))) rfl rfl hE rfl (KD hE rfl) (fun a hE=>?_)
    refine KB (v:=.int .i64 (IntKind.wrap .i64 ((IntKind.wrap .i64 ((IntKind.wrap .i64 (iShr .u64 (IntKind.wrap .u64 (IntKind.wrap .i64 (x1+x3))) 1))+x2)) - 1))) rfl rfl hE rfl (KL hE rfl rfl KN VA) (fun a hE=>?_)
    refine KB (v:=.int .i64 (IntKind.wrap .i64 ((IntKind.wrap .i64 ((IntKind.wrap .i64 (iShr .u64 (IntKind.wrap .u64 (IntKind.wrap .i64 (x1+x3))) 1))+x2)) - 1))) rfl rfl hE rfl (KE hE rfl) (fun a hE=>?_)
    refine KG ?_
    refine hK_87 _ _ ?_
    refine KH (fun K hK_88=>?_)
    refine Kj ?_
    refine J7 (fun (s:Int × Int)=>(⟨220,[]⟩:Frm)) (fun (s:Int × Int)=>[(0,(x0:Sl).v),(1,.int .i64 x1),(2,.int .i64 x2),(3,.int .i64 x3),(4,x4),(18,.int .i64 (IntKind.wrap .i64 (iShr .u64 (IntKind.wrap .u64 (IntKind.wrap .i64 (x1+x3))) 1))),(19,.int .i64 (IntKind.wrap .i64 ((IntKind.wrap .i64 (iShr .u64 (IntKind.wrap .u64 (IntKind.wrap .i64 (x1+x3))) 1))+x2))),(20,.int .i64 s.1),(21,.int .i64 s.2),(22,.int .i64 (IntKind.wrap .i64 ((IntKind.wrap .i64 ((IntKind.wrap .i64 (iShr .u64 (IntKind.wrap .u64 (IntKind.wrap .i64 (x1+x3))) 1))+x2)) - 1)))]) H (hE.cut (.cons rfl (.cons rfl (.cons rfl (.cons rfl (.cons rfl (.cons rfl (.cons rfl (.cons rfl (.cons rfl (.cons rfl Subs.nil))))))))))) hR (fun Y self5 hY_99 s a w hE hR H=>?_)
    rcases s with ⟨Xx89,Xx90⟩
    replace hE:Env (⟨220,[]⟩:Frm) a [(0,(x0:Sl).v),(1,.int .i64 x1),(2,.int .i64 x2),(3,.int .i64 x3),(4,x4),(18,.int .i64 (IntKind.wrap .i64 (iShr .u64 (IntKind.wrap .u64 (IntKind.wrap .i64 (x1+x3))) 1))),(19,.int .i64 (IntKind.wrap .i64 ((IntKind.wrap .i64 (iShr .u64 (IntKind.wrap .u64 (IntKind.wrap .i64 (x1+x3))) 1))+x2))),(20,.int .i64 Xx89),(21,.int .i64 Xx90),(22,.int .i64 (IntKind.wrap .i64 ((IntKind.wrap .i64 ((IntKind.wrap .i64 (iShr .u64 (IntKind.wrap .u64 (IntKind.wrap .i64 (x1+x3))) 1))+x2)) - 1)))]:=hE
    replace H:(Z1 x0 x1 x2 x3 x4 (IntKind.wrap .i64 (iShr .u64 (IntKind.wrap .u64 (IntKind.wrap .i64 (x1+x3))) 1)) (IntKind.wrap .i64 ((IntKind.wrap .i64 (iShr .u64 (IntKind.wrap .u64 (IntKind.wrap .i64 (x1+x3))) 1))+x2)) (IntKind.wrap .i64 ((IntKind.wrap .i64 ((IntKind.wrap .i64 (iShr .u64 (IntKind.wrap .u64 (IntKind.wrap .i64 (x1+x3))) 1))+x2)) - 1)) self5 (Xx89,Xx90)).wp w.heap Q:=H
    unfold Z1 at H
    refine KH (fun K hK_100=>?_)
    refine KH (fun K hK_101=>?_)
    refine KC ?_
    refine KB (v:=.int .i64 Xx89) rfl rfl hE rfl (KD hE rfl) (fun a hE=>?_)
    refine KB (v:=.int .i64 Xx90) rfl rfl hE rfl (KD hE rfl) (fun a hE=>?_)
    refine KB (v:=.bool (decide (Xx89 < Xx90))) rfl rfl hE rfl (KL hE rfl rfl KN JL) (fun a hE=>?_)
    refine KG ?_
    refine hK_101 _ _ ?_
    refine KS (decide (Xx89 < Xx90)) hE rfl (fun hb=>?_) (fun hb=>?_)
    ·replace H:=M.ite_t hb H
     refine Ka ?_
     refine hK_100 _ _ ?_
     refine Kj ?_
     refine KH (fun K hK_102=>?_)
     refine KC ?_
     refine KB (v:=.int .i64 Xx89) rfl rfl hE rfl (KD hE rfl) (fun a hE=>?_)
     refine KB (v:=.int .i64 Xx90) rfl rfl hE rfl (KD hE rfl) (fun a hE=>?_)
     refine KB (v:=.int .i64 (IntKind.wrap .i64 (Xx89+Xx90))) rfl rfl hE rfl (KL hE rfl rfl KN JE) (fun a hE=>?_)
     refine KB (v:=.int .u64 (IntKind.wrap .u64 (IntKind.wrap .i64 (Xx89+Xx90)))) rfl rfl hE rfl (Ue hE rfl un3 zh) (fun a hE=>?_)
     refine KB (v:=.int .u64 (iShr .u64 (IntKind.wrap .u64 (IntKind.wrap .i64 (Xx89+Xx90))) 1)) rfl rfl hE rfl (KL hE rfl rfl KN (zX ⟨by decide,rfl⟩)) (fun a hE=>?_)
     refine KB (v:=.int .i64 (IntKind.wrap .i64 (iShr .u64 (IntKind.wrap .u64 (IntKind.wrap .i64 (Xx89+Xx90))) 1))) rfl rfl hE rfl (Ue hE rfl zh un3) (fun a hE=>?_)
     refine KB (v:=.int .i64 (IntKind.wrap .i64 (iShr .u64 (IntKind.wrap .u64 (IntKind.wrap .i64 (Xx89+Xx90))) 1))) rfl rfl hE rfl (KE hE rfl) (fun a hE=>?_)
     refine KG ?_
     refine hK_102 _ _ ?_
     refine KH (fun K hK_103=>?_)
     obtain ⟨Xx104,qXx104,H⟩:=H
     obtain ⟨Xx105,qXx105,H⟩:=H
     obtain ⟨Xx106,qXx106,H⟩:=H
     obtain ⟨Xx107,qXx107,H⟩:=H
     have hT:=Jf KGI rfl rfl
     refine Zq (fun w:World=>(fun h:Heap=>(KV h Xx104=some ((Xx106:Sl).v))∧(KV h Xx105=some ((Xx107:Sl).v))) w.heap) [11,12,13] #[false,false,false,false,false,false,false,false,false,false,false,false,false,false] mo hR rfl rfl (fun w' e=>by rw [e]; exact ⟨qXx106,qXx107⟩) (fun w hh hR hs=>?_)
     replace H:=M.at hh H; clear hh
     refine KF (i:=0) (v:=x4) #[true,false,false,false,false,false,false,false,false,false,false,false,false,false] rfl rfl hT (by kernel_rfl) hE rfl (KA rfl) (fun w=>KD hE rfl) (fun a hE=>?_)
     refine KF (i:=1) (v:=(x0:Sl).v) #[true,true,false,false,false,false,false,false,false,false,false,false,false,false] rfl rfl hT (by kernel_rfl) hE rfl (KA rfl) (fun w=>KD hE rfl) (fun a hE=>?_)
     refine KF (i:=2) (v:=.int .i64 (IntKind.wrap .i64 ((IntKind.wrap .i64 ((IntKind.wrap .i64 (iShr .u64 (IntKind.wrap .u64 (IntKind.wrap .i64 (x1+x3))) 1))+x2)) - 1))) #[true,true,true,false,false,false,false,false,false,false,false,false,false,false] rfl rfl hT (by kernel_rfl) hE rfl (KA rfl) (fun w=>KD hE rfl) (fun a hE=>?_)
     refine KF (i:=3) (v:=.int .i64 (IntKind.wrap .i64 (iShr .u64 (IntKind.wrap .u64 (IntKind.wrap .i64 (Xx89+Xx90))) 1))) #[true,true,true,true,false,false,false,false,false,false,false,false,false,false] rfl rfl hT (by kernel_rfl) hE rfl (KA rfl) (fun w=>KD hE rfl) (fun a hE=>?_)
     refine KF (i:=4) (v:=.int .i64 (IntKind.wrap .i64 ((IntKind.wrap .i64 ((IntKind.wrap .i64 ((IntKind.wrap .i64 (iShr .u64 (IntKind.wrap .u64 (IntKind.wrap .i64 (x1+x3))) 1))+x2)) - 1)) - (IntKind.wrap .i64 (iShr .u64 (IntKind.wrap .u64 (IntKind.wrap .i64 (Xx89+Xx90))) 1))))) #[true,true,true,true,true,false,false,false,false,false,false,false,false,false] rfl rfl hT (by kernel_rfl) hE rfl (KA rfl) (fun w=>KL hE rfl rfl KN VA) (fun a hE=>?_)
     refine KF (i:=5) (v:=.pointer (some Xx104)) #[true,true,true,true,true,true,false,false,false,false,false,false,false,false] rfl rfl hT (by kernel_rfl) hE rfl (KA rfl) (fun w=>KR hE rfl rfl un89 sz22 qXx104) (fun a hE=>?_)
     refine KF (i:=7) (v:=(x0:Sl).v) #[true,true,true,true,true,true,false,true,false,false,false,false,false,false] rfl rfl hT (by kernel_rfl) hE rfl (KA rfl) (fun w=>KD hE rfl) (fun a hE=>?_)
     refine KF (i:=8) (v:=.int .i64 (IntKind.wrap .i64 (iShr .u64 (IntKind.wrap .u64 (IntKind.wrap .i64 (Xx89+Xx90))) 1))) #[true,true,true,true,true,true,false,true,true,false,false,false,false,false] rfl rfl hT (by kernel_rfl) hE rfl (KA rfl) (fun w=>KD hE rfl) (fun a hE=>?_)
     refine KF (i:=9) (v:=.pointer (some Xx105)) #[true,true,true,true,true,true,false,true,true,true,false,false,false,false] rfl rfl hT (by kernel_rfl) hE rfl (KA rfl) (fun w=>KR hE rfl rfl un89 sz22 qXx105) (fun a hE=>?_)
     refine Kt (i:=6) (v:=(Xx106:Sl).v) #[true,true,true,true,true,true,true,true,true,true,false,false,false,false] rfl rfl hT (by kernel_rfl) hE rfl (KA rfl) hs (fun w s=>KU hE rfl sc22 s.1) (fun a hE=>?_)
     refine Kt (i:=10) (v:=(Xx107:Sl).v) #[true,true,true,true,true,true,true,true,true,true,true,false,false,false] rfl rfl hT (by kernel_rfl) hE rfl (KA rfl) hs (fun w s=>KU hE rfl sc22 s.2) (fun a hE=>?_)
     refine zL (i:=11) #[true,true,true,true,true,true,true,true,true,true,true,true,false,false] rfl rfl rfl hT (by kernel_rfl) rfl hE hR (KA rfl) rfl rfl (M.unbind H) (fun Xx108 a w ea hR H=>?_)
     have hE:=Env.put_some hE rfl ea; clear ea
     refine KF (i:=12) (v:=.bool (decide (Xx108 < 0))) #[true,true,true,true,true,true,true,true,true,true,true,true,true,false] rfl rfl hT (by kernel_rfl) hE rfl (KA rfl) (fun w=>KL hE rfl rfl KN JL) (fun a hE=>?_)
     refine KF (i:=13) (v:=.bool (!(decide (Xx108 < 0)))) #[true,true,true,true,true,true,true,true,true,true,true,true,true,true] rfl rfl hT (by kernel_rfl) hE rfl (KA rfl) (fun w=>r_un hE rfl GB) (fun a hE=>?_)
     refine JM hT (by kernel_rfl) ?_
     refine hK_103 _ _ ?_
     refine KS (!(decide (Xx108 < 0))) hE rfl (fun hb=>?_) (fun hb=>?_)
     ·replace H:=M.ite_t hb H
      refine KC ?_
      refine KB (v:=.int .i64 (IntKind.wrap .i64 (iShr .u64 (IntKind.wrap .u64 (IntKind.wrap .i64 (Xx89+Xx90))) 1))) rfl rfl hE rfl (KD hE rfl) (fun a hE=>?_)
      refine KB (v:=.int .i64 (IntKind.wrap .i64 ((IntKind.wrap .i64 (iShr .u64 (IntKind.wrap .u64 (IntKind.wrap .i64 (Xx89+Xx90))) 1))+1))) rfl rfl hE rfl (KL hE rfl rfl KN JE) (fun a hE=>?_)
      refine KB (v:=.int .i64 (IntKind.wrap .i64 ((IntKind.wrap .i64 (iShr .u64 (IntKind.wrap .u64 (IntKind.wrap .i64 (Xx89+Xx90))) 1))+1))) rfl rfl hE rfl (KE hE rfl) (fun a hE=>?_)
      refine KG ?_
      exact hY_99 (IntKind.wrap .i64 ((IntKind.wrap .i64 (iShr .u64 (IntKind.wrap .u64 (IntKind.wrap .i64 (Xx89+Xx90))) 1))+1),Xx90) _ _ (hE.cut (.cons rfl (.cons rfl (.cons rfl (.cons rfl (.cons rfl (.cons rfl (.cons rfl (.cons rfl (.cons rfl (.cons rfl Subs.nil))))))))))) hR H
     ·replace H:=M.ite_f hb H
      refine KC ?_
      refine KB (v:=.int .i64 (IntKind.wrap .i64 (iShr .u64 (IntKind.wrap .u64 (IntKind.wrap .i64 (Xx89+Xx90))) 1))) rfl rfl hE rfl (KD hE rfl) (fun a hE=>?_)
      refine KB (v:=.int .i64 (IntKind.wrap .i64 (iShr .u64 (IntKind.wrap .u64 (IntKind.wrap .i64 (Xx89+Xx90))) 1))) rfl rfl hE rfl (KE hE rfl) (fun a hE=>?_)
      refine KG ?_
      exact hY_99 (Xx89,IntKind.wrap .i64 (iShr .u64 (IntKind.wrap .u64 (IntKind.wrap .i64 (Xx89+Xx90))) 1)) _ _ (hE.cut (.cons rfl (.cons rfl (.cons rfl (.cons rfl (.cons rfl (.cons rfl (.cons rfl (.cons rfl (.cons rfl (.cons rfl Subs.nil))))))))))) hR H
    ·replace H:=M.ite_f hb H
     refine J6 ?_
     refine Xu.same ?_
     refine hK_88 _ _ ?_
     refine KH (fun K hK_109=>?_)
     refine KC ?_
     refine KB (v:=.int .i64 (IntKind.wrap .i64 ((IntKind.wrap .i64 (iShr .u64 (IntKind.wrap .u64 (IntKind.wrap .i64 (x1+x3))) 1))+x2))) rfl rfl hE rfl (KD hE rfl) (fun a hE=>?_)
     refine KB (v:=.int .i64 Xx89) rfl rfl hE rfl (KD hE rfl) (fun a hE=>?_)
     refine KB (v:=.int .i64 (IntKind.wrap .i64 ((IntKind.wrap .i64 ((IntKind.wrap .i64 (iShr .u64 (IntKind.wrap .u64 (IntKind.wrap .i64 (x1+x3))) 1))+x2)) - Xx89))) rfl rfl hE rfl (KL hE rfl rfl KN VA) (fun a hE=>?_)
     refine KB (v:=.int .i64 (IntKind.wrap .i64 ((IntKind.wrap .i64 ((IntKind.wrap .i64 (iShr .u64 (IntKind.wrap .u64 (IntKind.wrap .i64 (x1+x3))) 1))+x2)) - Xx89))) rfl rfl hE rfl (KE hE rfl) (fun a hE=>?_)
     refine KG ?_
     refine hK_109 _ _ ?_
     refine Ku (fun a w=>Env (⟨220,[]⟩:Frm) a [(0,(x0:Sl).v),(1,.int .i64 x1),(3,.int .i64 x3),(4,x4),(18,.int .i64 (IntKind.wrap .i64 (iShr .u64 (IntKind.wrap .u64 (IntKind.wrap .i64 (x1+x3))) 1))),(20,.int .i64 Xx89),(24,.int .i64 (IntKind.wrap .i64 ((IntKind.wrap .i64 ((IntKind.wrap .i64 (iShr .u64 (IntKind.wrap .u64 (IntKind.wrap .i64 (x1+x3))) 1))+x2)) - Xx89)))]∧Rest w0 w∧(ZA x0 x1 x3 x4 (IntKind.wrap .i64 (iShr .u64 (IntKind.wrap .u64 (IntKind.wrap .i64 (x1+x3))) 1)) Xx89 (IntKind.wrap .i64 ((IntKind.wrap .i64 ((IntKind.wrap .i64 (iShr .u64 (IntKind.wrap .u64 (IntKind.wrap .i64 (x1+x3))) 1))+x2)) - Xx89))).wp w.heap Q) ?_ ?_
     ·rintro a w ⟨hE,hR,H⟩
      unfold ZA at H
      refine Ku (fun a w=>Env (⟨220,[]⟩:Frm) a [(0,(x0:Sl).v),(3,.int .i64 x3),(4,x4),(18,.int .i64 (IntKind.wrap .i64 (iShr .u64 (IntKind.wrap .u64 (IntKind.wrap .i64 (x1+x3))) 1))),(24,.int .i64 (IntKind.wrap .i64 ((IntKind.wrap .i64 ((IntKind.wrap .i64 (iShr .u64 (IntKind.wrap .u64 (IntKind.wrap .i64 (x1+x3))) 1))+x2)) - Xx89)))]∧Rest w0 w∧(ZU x0 x3 x4 (IntKind.wrap .i64 (iShr .u64 (IntKind.wrap .u64 (IntKind.wrap .i64 (x1+x3))) 1)) (IntKind.wrap .i64 ((IntKind.wrap .i64 ((IntKind.wrap .i64 (iShr .u64 (IntKind.wrap .u64 (IntKind.wrap .i64 (x1+x3))) 1))+x2)) - Xx89))).wp w.heap Q) ?_ ?_
      ·rintro a w ⟨hE,hR,H⟩
       unfold ZU at H
       refine KH (fun K hK_122=>?_)
       refine KC ?_
       refine KB (v:=.int .i64 (IntKind.wrap .i64 (iShr .u64 (IntKind.wrap .u64 (IntKind.wrap .i64 (x1+x3))) 1))) rfl rfl hE rfl (KD hE rfl) (fun a hE=>?_)
       refine KB (v:=.int .i64 (IntKind.wrap .i64 ((IntKind.wrap .i64 ((IntKind.wrap .i64 (iShr .u64 (IntKind.wrap .u64 (IntKind.wrap .i64 (x1+x3))) 1))+x2)) - Xx89))) rfl rfl hE rfl (KD hE rfl) (fun a hE=>?_)
       refine KB (v:=.bool (decide ((IntKind.wrap .i64 (iShr .u64 (IntKind.wrap .u64 (IntKind.wrap .i64 (x1+x3))) 1)) < (IntKind.wrap .i64 ((IntKind.wrap .i64 ((IntKind.wrap .i64 (iShr .u64 (IntKind.wrap .u64 (IntKind.wrap .i64 (x1+x3))) 1))+x2)) - Xx89))))) rfl rfl hE rfl (KL hE rfl rfl KN JL) (fun a hE=>?_)
       refine KB (v:=.bool (decide ((IntKind.wrap .i64 (iShr .u64 (IntKind.wrap .u64 (IntKind.wrap .i64 (x1+x3))) 1)) < (IntKind.wrap .i64 ((IntKind.wrap .i64 ((IntKind.wrap .i64 (iShr .u64 (IntKind.wrap .u64 (IntKind.wrap .i64 (x1+x3))) 1))+x2)) - Xx89))))) rfl rfl hE rfl (KD hE rfl) (fun a hE=>?_)
       refine J5 (n:=(⟨220,[]⟩:Frm)) (w0:=w0) 4 (fun Xx123:Bool=>[(0,(x0:Sl).v),(3,.int .i64 x3),(4,x4),(18,.int .i64 (IntKind.wrap .i64 (iShr .u64 (IntKind.wrap .u64 (IntKind.wrap .i64 (x1+x3))) 1))),(24,.int .i64 (IntKind.wrap .i64 ((IntKind.wrap .i64 ((IntKind.wrap .i64 (iShr .u64 (IntKind.wrap .u64 (IntKind.wrap .i64 (x1+x3))) 1))+x2)) - Xx89))),(213,.bool Xx123)]) (M.unbind H) (fun Kr hKr H=>?_) ?_
       ·rcases Kq (decide ((IntKind.wrap .i64 (iShr .u64 (IntKind.wrap .u64 (IntKind.wrap .i64 (x1+x3))) 1)) < (IntKind.wrap .i64 ((IntKind.wrap .i64 ((IntKind.wrap .i64 (iShr .u64 (IntKind.wrap .u64 (IntKind.wrap .i64 (x1+x3))) 1))+x2)) - Xx89)))) with hb | hb
        ·replace H:=M.ite_t hb H
         have hE:=hE.reb 209 (decide ((IntKind.wrap .i64 (iShr .u64 (IntKind.wrap .u64 (IntKind.wrap .i64 (x1+x3))) 1)) < (IntKind.wrap .i64 ((IntKind.wrap .i64 ((IntKind.wrap .i64 (iShr .u64 (IntKind.wrap .u64 (IntKind.wrap .i64 (x1+x3))) 1))+x2)) - Xx89)))) true hb rfl
         refine t_on rfl hE rfl rfl rfl ?_
         refine KB (v:=.int .i64 (IntKind.wrap .i64 ((IntKind.wrap .i64 ((IntKind.wrap .i64 (iShr .u64 (IntKind.wrap .u64 (IntKind.wrap .i64 (x1+x3))) 1))+x2)) - Xx89))) rfl rfl hE rfl (KD hE rfl) (fun a hE=>?_)
         refine t_on rfl hE rfl rfl rfl ?_
         refine KB (v:=.int .i64 x3) rfl rfl hE rfl (KD hE rfl) (fun a hE=>?_)
         refine t_on rfl hE rfl rfl rfl ?_
         refine KB (v:=.bool (decide ((IntKind.wrap .i64 ((IntKind.wrap .i64 ((IntKind.wrap .i64 (iShr .u64 (IntKind.wrap .u64 (IntKind.wrap .i64 (x1+x3))) 1))+x2)) - Xx89)) < x3))) rfl rfl hE rfl (KL hE rfl rfl KN JL) (fun a hE=>?_)
         refine KB rfl rfl hE rfl (Kc hE rfl rfl) (fun a hE=>?_)
         refine KG ?_
         exact hKr _ _ _ (hE.cut (.cons rfl (.cons rfl (.cons rfl (.cons rfl (.cons rfl (.cons rfl Subs.nil))))))) hR H
        ·replace H:=M.ite_f hb H
         have hE:=hE.reb 209 (decide ((IntKind.wrap .i64 (iShr .u64 (IntKind.wrap .u64 (IntKind.wrap .i64 (x1+x3))) 1)) < (IntKind.wrap .i64 ((IntKind.wrap .i64 ((IntKind.wrap .i64 (iShr .u64 (IntKind.wrap .u64 (IntKind.wrap .i64 (x1+x3))) 1))+x2)) - Xx89)))) false hb rfl
         refine Kf rfl hE rfl rfl rfl (fun a ea=>?_)
         have hE:=Env.put_some hE rfl ea; clear ea
         refine Kf rfl hE rfl rfl rfl (fun a ea=>?_)
         have hE:=Env.put_some hE rfl ea; clear ea
         refine Kf rfl hE rfl rfl rfl (fun a ea=>?_)
         have hE:=Env.put_some hE rfl ea; clear ea
         refine KB rfl rfl hE rfl (Kd hE rfl rfl) (fun a hE=>?_)
         refine KG ?_
         exact hKr _ _ _ (hE.cut (.cons rfl (.cons rfl (.cons rfl (.cons rfl (.cons rfl (.cons rfl Subs.nil))))))) hR H
       ·intro Xx123 a w hE hR H
        refine KG ?_
        refine hK_122 _ _ ?_
        refine KS Xx123 hE rfl (fun hb=>?_) (fun hb=>?_)
        ·replace H:=M.ite_t hb H
         refine KC ?_
         refine KB (v:=(x0:Sl).v) rfl rfl hE rfl (KD hE rfl) (fun a hE=>?_)
         refine KB (v:=.int .i64 (IntKind.wrap .i64 (iShr .u64 (IntKind.wrap .u64 (IntKind.wrap .i64 (x1+x3))) 1))) rfl rfl hE rfl (KD hE rfl) (fun a hE=>?_)
         refine KB (v:=.int .i64 (IntKind.wrap .i64 ((IntKind.wrap .i64 ((IntKind.wrap .i64 (iShr .u64 (IntKind.wrap .u64 (IntKind.wrap .i64 (x1+x3))) 1))+x2)) - Xx89))) rfl rfl hE rfl (KD hE rfl) (fun a hE=>?_)
         refine KB (v:=.int .i64 x3) rfl rfl hE rfl (KD hE rfl) (fun a hE=>?_)
         refine KB (v:=x4) rfl rfl hE rfl (KD hE rfl) (fun a hE=>?_)
         refine KZ hE hR Zy rfl (Ud) (M.unbind H) (fun Xx124 a w ea hR H=>?_)
         have hE:=Env.put_some hE rfl ea; clear ea
         refine KG ?_
         exact hret _ _ _ () _ hE hR (KM hE rfl RV.nil) rfl H
        ·replace H:=M.ite_f hb H
         refine Ka ?_
         exact hret _ _ _ () _ hE hR (KM hE rfl RV.nil) rfl H
      ·skip
       refine KH (fun K hK_125=>?_)
       refine KC ?_
       refine KB (v:=.int .i64 x1) rfl rfl hE rfl (KD hE rfl) (fun a hE=>?_)
       refine KB (v:=.int .i64 Xx89) rfl rfl hE rfl (KD hE rfl) (fun a hE=>?_)
       refine KB (v:=.bool (decide (x1 < Xx89))) rfl rfl hE rfl (KL hE rfl rfl KN JL) (fun a hE=>?_)
       refine KB (v:=.bool (decide (x1 < Xx89))) rfl rfl hE rfl (KD hE rfl) (fun a hE=>?_)
       refine J5 (n:=(⟨220,[]⟩:Frm)) (w0:=w0) 4 (fun Xx126:Bool=>[(0,(x0:Sl).v),(1,.int .i64 x1),(3,.int .i64 x3),(4,x4),(18,.int .i64 (IntKind.wrap .i64 (iShr .u64 (IntKind.wrap .u64 (IntKind.wrap .i64 (x1+x3))) 1))),(20,.int .i64 Xx89),(24,.int .i64 (IntKind.wrap .i64 ((IntKind.wrap .i64 ((IntKind.wrap .i64 (iShr .u64 (IntKind.wrap .u64 (IntKind.wrap .i64 (x1+x3))) 1))+x2)) - Xx89))),(199,.bool Xx126)]) (M.unbind H) (fun Kr hKr H=>?_) ?_
       ·rcases Kq (decide (x1 < Xx89)) with hb | hb
        ·replace H:=M.ite_t hb H
         have hE:=hE.reb 195 (decide (x1 < Xx89)) true hb rfl
         refine t_on rfl hE rfl rfl rfl ?_
         refine KB (v:=.int .i64 Xx89) rfl rfl hE rfl (KD hE rfl) (fun a hE=>?_)
         refine t_on rfl hE rfl rfl rfl ?_
         refine KB (v:=.int .i64 (IntKind.wrap .i64 (iShr .u64 (IntKind.wrap .u64 (IntKind.wrap .i64 (x1+x3))) 1))) rfl rfl hE rfl (KD hE rfl) (fun a hE=>?_)
         refine t_on rfl hE rfl rfl rfl ?_
         refine KB (v:=.bool (decide (Xx89 < (IntKind.wrap .i64 (iShr .u64 (IntKind.wrap .u64 (IntKind.wrap .i64 (x1+x3))) 1))))) rfl rfl hE rfl (KL hE rfl rfl KN JL) (fun a hE=>?_)
         refine KB rfl rfl hE rfl (Kc hE rfl rfl) (fun a hE=>?_)
         refine KG ?_
         exact hKr _ _ _ (hE.cut (.cons rfl (.cons rfl (.cons rfl (.cons rfl (.cons rfl (.cons rfl (.cons rfl (.cons rfl Subs.nil))))))))) hR H
        ·replace H:=M.ite_f hb H
         have hE:=hE.reb 195 (decide (x1 < Xx89)) false hb rfl
         refine Kf rfl hE rfl rfl rfl (fun a ea=>?_)
         have hE:=Env.put_some hE rfl ea; clear ea
         refine Kf rfl hE rfl rfl rfl (fun a ea=>?_)
         have hE:=Env.put_some hE rfl ea; clear ea
         refine Kf rfl hE rfl rfl rfl (fun a ea=>?_)
         have hE:=Env.put_some hE rfl ea; clear ea
         refine KB rfl rfl hE rfl (Kd hE rfl rfl) (fun a hE=>?_)
         refine KG ?_
         exact hKr _ _ _ (hE.cut (.cons rfl (.cons rfl (.cons rfl (.cons rfl (.cons rfl (.cons rfl (.cons rfl (.cons rfl Subs.nil))))))))) hR H
       ·intro Xx126 a w hE hR H
        refine KG ?_
        refine hK_125 _ _ ?_
        refine KS Xx126 hE rfl (fun hb=>?_) (fun hb=>?_)
        ·replace H:=M.ite_t hb H
         refine KC ?_
         refine KB (v:=(x0:Sl).v) rfl rfl hE rfl (KD hE rfl) (fun a hE=>?_)
         refine KB (v:=.int .i64 x1) rfl rfl hE rfl (KD hE rfl) (fun a hE=>?_)
         refine KB (v:=.int .i64 Xx89) rfl rfl hE rfl (KD hE rfl) (fun a hE=>?_)
         refine KB (v:=.int .i64 (IntKind.wrap .i64 (iShr .u64 (IntKind.wrap .u64 (IntKind.wrap .i64 (x1+x3))) 1))) rfl rfl hE rfl (KD hE rfl) (fun a hE=>?_)
         refine KB (v:=x4) rfl rfl hE rfl (KD hE rfl) (fun a hE=>?_)
         refine KZ hE hR Zy rfl (Ud) (M.unbind H) (fun Xx127 a w ea hR H=>?_)
         have hE:=Env.put_some hE rfl ea; clear ea
         refine KG ?_
         exact ⟨hE.cut (.cons rfl (.cons rfl (.cons rfl (.cons rfl (.cons rfl Subs.nil))))),hR,H⟩
        ·replace H:=M.ite_f hb H
         refine Ka ?_
         exact ⟨hE.cut (.cons rfl (.cons rfl (.cons rfl (.cons rfl (.cons rfl Subs.nil))))),hR,H⟩
     ·skip
      refine KH (fun K hK_128=>?_)
      refine KC ?_
      refine KB (v:=.int .i64 Xx89) rfl rfl hE rfl (KD hE rfl) (fun a hE=>?_)
      refine KB (v:=.int .i64 x2) rfl rfl hE rfl (KD hE rfl) (fun a hE=>?_)
      refine KB (v:=.bool (decide (Xx89 < x2))) rfl rfl hE rfl (KL hE rfl rfl KN JL) (fun a hE=>?_)
      refine KB (v:=.bool (decide (Xx89 < x2))) rfl rfl hE rfl (KD hE rfl) (fun a hE=>?_)
      refine J5 (n:=(⟨220,[]⟩:Frm)) (w0:=w0) 4 (fun Xx129:Bool=>[(0,(x0:Sl).v),(1,.int .i64 x1),(2,.int .i64 x2),(3,.int .i64 x3),(4,x4),(18,.int .i64 (IntKind.wrap .i64 (iShr .u64 (IntKind.wrap .u64 (IntKind.wrap .i64 (x1+x3))) 1))),(20,.int .i64 Xx89),(24,.int .i64 (IntKind.wrap .i64 ((IntKind.wrap .i64 ((IntKind.wrap .i64 (iShr .u64 (IntKind.wrap .u64 (IntKind.wrap .i64 (x1+x3))) 1))+x2)) - Xx89))),(185,.bool Xx129)]) (M.unbind H) (fun Kr hKr H=>?_) ?_
      ·rcases Kq (decide (Xx89 < x2)) with hb | hb
       ·replace H:=M.ite_t hb H
        have hE:=hE.reb 181 (decide (Xx89 < x2)) true hb rfl
        refine t_on rfl hE rfl rfl rfl ?_
        refine KB (v:=.int .i64 x2) rfl rfl hE rfl (KD hE rfl) (fun a hE=>?_)
        refine t_on rfl hE rfl rfl rfl ?_
        refine KB (v:=.int .i64 (IntKind.wrap .i64 ((IntKind.wrap .i64 ((IntKind.wrap .i64 (iShr .u64 (IntKind.wrap .u64 (IntKind.wrap .i64 (x1+x3))) 1))+x2)) - Xx89))) rfl rfl hE rfl (KD hE rfl) (fun a hE=>?_)
        refine t_on rfl hE rfl rfl rfl ?_
        refine KB (v:=.bool (decide (x2 < (IntKind.wrap .i64 ((IntKind.wrap .i64 ((IntKind.wrap .i64 (iShr .u64 (IntKind.wrap .u64 (IntKind.wrap .i64 (x1+x3))) 1))+x2)) - Xx89))))) rfl rfl hE rfl (KL hE rfl rfl KN JL) (fun a hE=>?_)
        refine KB rfl rfl hE rfl (Kc hE rfl rfl) (fun a hE=>?_)
        refine KG ?_
        exact hKr _ _ _ (hE.cut (.cons rfl (.cons rfl (.cons rfl (.cons rfl (.cons rfl (.cons rfl (.cons rfl (.cons rfl (.cons rfl Subs.nil)))))))))) hR H
       ·replace H:=M.ite_f hb H
        have hE:=hE.reb 181 (decide (Xx89 < x2)) false hb rfl
        refine Kf rfl hE rfl rfl rfl (fun a ea=>?_)
        have hE:=Env.put_some hE rfl ea; clear ea
        refine Kf rfl hE rfl rfl rfl (fun a ea=>?_)
        have hE:=Env.put_some hE rfl ea; clear ea
        refine Kf rfl hE rfl rfl rfl (fun a ea=>?_)
        have hE:=Env.put_some hE rfl ea; clear ea
        refine KB rfl rfl hE rfl (Kd hE rfl rfl) (fun a hE=>?_)
        refine KG ?_
        exact hKr _ _ _ (hE.cut (.cons rfl (.cons rfl (.cons rfl (.cons rfl (.cons rfl (.cons rfl (.cons rfl (.cons rfl (.cons rfl Subs.nil)))))))))) hR H
      ·intro Xx129 a w hE hR H
       refine KG ?_
       refine hK_128 _ _ ?_
       refine KS Xx129 hE rfl (fun hb=>?_) (fun hb=>?_)
       ·replace H:=M.ite_t hb H
        refine KC ?_
        refine KB (v:=(x0:Sl).v) rfl rfl hE rfl (KD hE rfl) (fun a hE=>?_)
        refine KB (v:=.int .i64 Xx89) rfl rfl hE rfl (KD hE rfl) (fun a hE=>?_)
        refine KB (v:=.int .i64 x2) rfl rfl hE rfl (KD hE rfl) (fun a hE=>?_)
        refine KB (v:=.int .i64 (IntKind.wrap .i64 ((IntKind.wrap .i64 ((IntKind.wrap .i64 (iShr .u64 (IntKind.wrap .u64 (IntKind.wrap .i64 (x1+x3))) 1))+x2)) - Xx89))) rfl rfl hE rfl (KD hE rfl) (fun a hE=>?_)
        refine KB (v:=x4) rfl rfl hE rfl (KD hE rfl) (fun a hE=>?_)
        refine KZ hE hR WN rfl (Wc x0 Xx89 x2 (IntKind.wrap .i64 ((IntKind.wrap .i64 ((IntKind.wrap .i64 (iShr .u64 (IntKind.wrap .u64 (IntKind.wrap .i64 (x1+x3))) 1))+x2)) - Xx89)) x4) (M.unbind H) (fun Xx130 a w ea hR H=>?_)
        have hE:=Env.put_some hE rfl ea; clear ea
        refine KG ?_
        exact ⟨hE.cut (.cons rfl (.cons rfl (.cons rfl (.cons rfl (.cons rfl (.cons rfl (.cons rfl Subs.nil))))))),hR,H⟩
       ·replace H:=M.ite_f hb H
        refine Ka ?_
        exact ⟨hE.cut (.cons rfl (.cons rfl (.cons rfl (.cons rfl (.cons rfl (.cons rfl (.cons rfl Subs.nil))))))),hR,H⟩
   ·skip
    refine KH (fun K hK_131=>?_)
    refine KC ?_
    refine KB (v:=.int .i64 x2) rfl rfl hE rfl (KD hE rfl) (fun a hE=>?_)
    refine KB (v:=.int .i64 (IntKind.wrap .i64 (iShr .u64 (IntKind.wrap .u64 (IntKind.wrap .i64 (x1+x3))) 1))) rfl rfl hE rfl (KD hE rfl) (fun a hE=>?_)
    refine KB (v:=.bool (decide (x2 > (IntKind.wrap .i64 (iShr .u64 (IntKind.wrap .u64 (IntKind.wrap .i64 (x1+x3))) 1))))) rfl rfl hE rfl (KL hE rfl rfl KN YI) (fun a hE=>?_)
    refine KG ?_
    refine hK_131 _ _ ?_
    refine KS (decide (x2 > (IntKind.wrap .i64 (iShr .u64 (IntKind.wrap .u64 (IntKind.wrap .i64 (x1+x3))) 1)))) hE rfl (fun hb=>?_) (fun hb=>?_)
    ·replace H:=M.ite_t hb H
     refine KH (fun K hK_132=>?_)
     refine KC ?_
     refine KB (v:=.int .i64 (IntKind.wrap .i64 ((IntKind.wrap .i64 (iShr .u64 (IntKind.wrap .u64 (IntKind.wrap .i64 (x1+x3))) 1))+x2))) rfl rfl hE rfl (KD hE rfl) (fun a hE=>?_)
     refine KB (v:=.int .i64 x3) rfl rfl hE rfl (KD hE rfl) (fun a hE=>?_)
     refine KB (v:=.int .i64 (IntKind.wrap .i64 ((IntKind.wrap .i64 ((IntKind.wrap .i64 (iShr .u64 (IntKind.wrap .u64 (IntKind.wrap .i64 (x1+x3))) 1))+x2)) - x3))) rfl rfl hE rfl (KL hE rfl rfl KN VA) (fun a hE=>?_)
     refine KB (v:=.int .i64 (IntKind.wrap .i64 ((IntKind.wrap .i64 ((IntKind.wrap .i64 (iShr .u64 (IntKind.wrap .u64 (IntKind.wrap .i64 (x1+x3))) 1))+x2)) - x3))) rfl rfl hE rfl (KE hE rfl) (fun a hE=>?_)
     refine KG ?_
     refine hK_132 _ _ ?_
     refine KC ?_
     refine KB (v:=.int .i64 (IntKind.wrap .i64 (iShr .u64 (IntKind.wrap .u64 (IntKind.wrap .i64 (x1+x3))) 1))) rfl rfl hE rfl (KD hE rfl) (fun a hE=>?_)
     refine KB (v:=.int .i64 (IntKind.wrap .i64 (iShr .u64 (IntKind.wrap .u64 (IntKind.wrap .i64 (x1+x3))) 1))) rfl rfl hE rfl (KE hE rfl) (fun a hE=>?_)
     refine KG ?_
     exact ⟨IntKind.wrap .i64 ((IntKind.wrap .i64 ((IntKind.wrap .i64 (iShr .u64 (IntKind.wrap .u64 (IntKind.wrap .i64 (x1+x3))) 1))+x2)) - x3),IntKind.wrap .i64 (iShr .u64 (IntKind.wrap .u64 (IntKind.wrap .i64 (x1+x3))) 1),hE.cut (.cons rfl (.cons rfl (.cons rfl (.cons rfl (.cons rfl (.cons rfl (.cons rfl (.cons rfl (.cons rfl Subs.nil))))))))),hR,H⟩
    ·replace H:=M.ite_f hb H
     refine KH (fun K hK_133=>?_)
     refine KC ?_
     refine KB (v:=.int .i64 x1) rfl rfl hE rfl (KD hE rfl) (fun a hE=>?_)
     refine KB (v:=.int .i64 x1) rfl rfl hE rfl (KE hE rfl) (fun a hE=>?_)
     refine KG ?_
     refine hK_133 _ _ ?_
     refine KC ?_
     refine KB (v:=.int .i64 x2) rfl rfl hE rfl (KD hE rfl) (fun a hE=>?_)
     refine KB (v:=.int .i64 x2) rfl rfl hE rfl (KE hE rfl) (fun a hE=>?_)
     refine KG ?_
     exact ⟨x1,x2,hE.cut (.cons rfl (.cons rfl (.cons rfl (.cons rfl (.cons rfl (.cons rfl (.cons rfl (.cons rfl (.cons rfl Subs.nil))))))))),hR,H⟩
end Gx
namespace Gx
open Go
set_option linter.unusedVariables false
set_option maxRecDepth 100000
def ZE (self2:(Int)→M (Unit)) (C42:Int):M (Unit):=do
 self2 (IntKind.wrap .i64 (C42 * 2))
def JD (self2:(Int)→M (Unit)) (C29:Sl) (C30:Int) (C31:Value) (C32:Int) (self3:(Int × Int)→M (Unit)):(Int × Int)→M (Unit):=fun s=>match s with
 | (Xx27,Xx28)=>do
  M.ite (decide (Xx28≤C30)) (do
   let Xx37←ZL C29 Xx27 (IntKind.wrap .i64 (Xx27+C32)) Xx28 C31
   self3 (Xx28,IntKind.wrap .i64 (Xx28+(IntKind.wrap .i64 (2 * C32))))
   ) (do
   M.ite (decide ((IntKind.wrap .i64 (Xx27+C32)) < C30)) (do
    let Xx45←ZL C29 Xx27 (IntKind.wrap .i64 (Xx27+C32)) C30 C31
    ZE self2 C32
    ) (do
    ZE self2 C32
    )
   )
def Ki (C19:Sl) (C20:Int) (C21:Value) (self2:(Int)→M (Unit)):(Int)→M (Unit):=fun s=>match s with
 | Xx18=>do
  M.ite (decide (Xx18 < C20)) (do
   M.loop (JD self2 C19 C20 C21 Xx18) (0,IntKind.wrap .i64 (2 * Xx18))
   ) (do
   M.pure ()
   )
def Zc (C6:Sl) (C7:Int) (C8:Value) (C9:Int) (self1:(Int × Int)→M (Unit)):(Int × Int)→M (Unit):=fun s=>match s with
 | (Xx4,Xx5)=>do
  M.ite (decide (Xx5≤C7)) (do
   let Xx14←K0 C6 Xx4 Xx5 C8
   self1 (Xx5,IntKind.wrap .i64 (Xx5+C9))
   ) (do
   let Xx17←K0 C6 Xx4 C7 C8
   M.loop (Ki C6 C7 C8) C9
   )
def Zx (x0:Sl) (x1:Int) (x2:Value):M (Unit):=do
 M.loop (Zc x0 x1 x2 20) (0,20)
theorem Wd (x0:Sl) (x1:Int) (x2:Value):ZK Go.Proofs.Tryz.prog 137 #[(x0:Sl).v,.int .i64 x1,x2] (fun (r:Unit)=>.tuple #[]) (Zx x0 x1 x2):=by
 refine KY [(0,(x0:Sl).v),(1,.int .i64 x1),(2,x2)] Go.Proofs.Tryz.func137 rfl rfl (Nat.le_of_ble_eq_true rfl) (Ke ⟨rfl,rfl,rfl,trivial⟩) (fun w0 w Q R a hret hE hR H=>?_)
 unfold Zx at H
 refine KH (fun K hK_1=>?_)
 refine KC ?_
 refine KB (v:=.int .i64 20) rfl rfl hE rfl (KE hE rfl) (fun a hE=>?_)
 refine KG ?_
 refine hK_1 _ _ ?_
 refine KH (fun K hK_2=>?_)
 refine KC ?_
 refine KB (v:=.int .i64 20) rfl rfl hE rfl (KD hE rfl) (fun a hE=>?_)
 refine KB (v:=.int .i64 0) rfl rfl hE rfl (KE hE rfl) (fun a hE=>?_)
 refine KB (v:=.int .i64 20) rfl rfl hE rfl (KE hE rfl) (fun a hE=>?_)
 refine KG ?_
 refine hK_2 _ _ ?_
 refine KH (fun K hK_3=>?_)
 refine Kj ?_
 refine J7 (fun (s:Int × Int)=>(⟨63,[]⟩:Frm)) (fun (s:Int × Int)=>[(0,(x0:Sl).v),(1,.int .i64 x1),(2,x2),(6,.int .i64 20),(7,.int .i64 s.1),(8,.int .i64 s.2)]) H (hE.cut (.cons rfl (.cons rfl (.cons rfl (.cons rfl (.cons rfl (.cons rfl Subs.nil))))))) hR (fun Y self1 hY_10 s a w hE hR H=>?_)
 rcases s with ⟨Xx4,Xx5⟩
 replace hE:Env (⟨63,[]⟩:Frm) a [(0,(x0:Sl).v),(1,.int .i64 x1),(2,x2),(6,.int .i64 20),(7,.int .i64 Xx4),(8,.int .i64 Xx5)]:=hE
 replace H:(Zc x0 x1 x2 20 self1 (Xx4,Xx5)).wp w.heap Q:=H
 unfold Zc at H
 refine KH (fun K hK_11=>?_)
 refine KH (fun K hK_12=>?_)
 refine KC ?_
 refine KB (v:=.int .i64 Xx5) rfl rfl hE rfl (KD hE rfl) (fun a hE=>?_)
 refine KB (v:=.int .i64 x1) rfl rfl hE rfl (KD hE rfl) (fun a hE=>?_)
 refine KB (v:=.bool (decide (Xx5≤x1))) rfl rfl hE rfl (KL hE rfl rfl KN KAC) (fun a hE=>?_)
 refine KG ?_
 refine hK_12 _ _ ?_
 refine KS (decide (Xx5≤x1)) hE rfl (fun hb=>?_) (fun hb=>?_)
 ·replace H:=M.ite_t hb H
  refine Ka ?_
  refine hK_11 _ _ ?_
  refine Kj ?_
  refine KH (fun K hK_13=>?_)
  refine KC ?_
  refine KB (v:=(x0:Sl).v) rfl rfl hE rfl (KD hE rfl) (fun a hE=>?_)
  refine KB (v:=.int .i64 Xx4) rfl rfl hE rfl (KD hE rfl) (fun a hE=>?_)
  refine KB (v:=.int .i64 Xx5) rfl rfl hE rfl (KD hE rfl) (fun a hE=>?_)
  refine KB (v:=x2) rfl rfl hE rfl (KD hE rfl) (fun a hE=>?_)
  refine KZ hE hR J8 rfl (UD x0 Xx4 Xx5 x2) (M.unbind H) (fun Xx14 a w ea hR H=>?_)
  have hE:=Env.put_some hE rfl ea; clear ea
  refine KG ?_
  refine hK_13 _ _ ?_
  refine KH (fun K hK_15=>?_)
  refine KC ?_
  refine KB (v:=.int .i64 Xx5) rfl rfl hE rfl (KD hE rfl) (fun a hE=>?_)
  refine KB (v:=.int .i64 Xx5) rfl rfl hE rfl (KE hE rfl) (fun a hE=>?_)
  refine KG ?_
  refine hK_15 _ _ ?_
  refine KC ?_
  refine KB (v:=.int .i64 Xx5) rfl rfl hE rfl (KD hE rfl) (fun a hE=>?_)
  refine KB (v:=.int .i64 20) rfl rfl hE rfl (KD hE rfl) (fun a hE=>?_)
  refine KB (v:=.int .i64 (IntKind.wrap .i64 (Xx5+20))) rfl rfl hE rfl (KL hE rfl rfl KN JE) (fun a hE=>?_)
  refine KB (v:=.int .i64 (IntKind.wrap .i64 (Xx5+20))) rfl rfl hE rfl (KE hE rfl) (fun a hE=>?_)
  refine KG ?_
  exact hY_10 (Xx5,IntKind.wrap .i64 (Xx5+20)) _ _ (hE.cut (.cons rfl (.cons rfl (.cons rfl (.cons rfl (.cons rfl (.cons rfl Subs.nil))))))) hR H
 ·replace H:=M.ite_f hb H
  refine J6 ?_
  refine Xu.same ?_
  refine hK_3 _ _ ?_
  refine KH (fun K hK_16=>?_)
  refine KC ?_
  refine KB (v:=(x0:Sl).v) rfl rfl hE rfl (KD hE rfl) (fun a hE=>?_)
  refine KB (v:=.int .i64 Xx4) rfl rfl hE rfl (KD hE rfl) (fun a hE=>?_)
  refine KB (v:=.int .i64 x1) rfl rfl hE rfl (KD hE rfl) (fun a hE=>?_)
  refine KB (v:=x2) rfl rfl hE rfl (KD hE rfl) (fun a hE=>?_)
  refine KZ hE hR J8 rfl (UD x0 Xx4 x1 x2) (M.unbind H) (fun Xx17 a w ea hR H=>?_)
  have hE:=Env.put_some hE rfl ea; clear ea
  refine KG ?_
  refine hK_16 _ _ ?_
  refine Kj ?_
  refine J7 (fun (s:Int)=>(⟨63,[]⟩:Frm)) (fun (s:Int)=>[(0,(x0:Sl).v),(1,.int .i64 x1),(2,x2),(6,.int .i64 s)]) H (hE.cut (.cons rfl (.cons rfl (.cons rfl (.cons rfl Subs.nil))))) hR (fun Y self2 hY_22 Xx18 a w hE hR H=>?_)
  replace hE:Env (⟨63,[]⟩:Frm) a [(0,(x0:Sl).v),(1,.int .i64 x1),(2,x2),(6,.int .i64 Xx18)]:=hE
  replace H:(Ki x0 x1 x2 self2 Xx18).wp w.heap Q:=H
  unfold Ki at H
  refine KH (fun K hK_23=>?_)
  refine KH (fun K hK_24=>?_)
  refine KC ?_
  refine KB (v:=.int .i64 Xx18) rfl rfl hE rfl (KD hE rfl) (fun a hE=>?_)
  refine KB (v:=.int .i64 x1) rfl rfl hE rfl (KD hE rfl) (fun a hE=>?_)
  refine KB (v:=.bool (decide (Xx18 < x1))) rfl rfl hE rfl (KL hE rfl rfl KN JL) (fun a hE=>?_)
  refine KG ?_
  refine hK_24 _ _ ?_
  refine KS (decide (Xx18 < x1)) hE rfl (fun hb=>?_) (fun hb=>?_)
  ·replace H:=M.ite_t hb H
   refine Ka ?_
   refine hK_23 _ _ ?_
   refine Kj ?_
   refine KH (fun K hK_25=>?_)
   refine KC ?_
   refine KB (v:=.int .i64 Xx18) rfl rfl hE rfl (KD hE rfl) (fun a hE=>?_)
   refine KB (v:=.int .i64 (IntKind.wrap .i64 (2 * Xx18))) rfl rfl hE rfl (KL hE rfl rfl KN KAB) (fun a hE=>?_)
   refine KB (v:=.int .i64 0) rfl rfl hE rfl (KE hE rfl) (fun a hE=>?_)
   refine KB (v:=.int .i64 (IntKind.wrap .i64 (2 * Xx18))) rfl rfl hE rfl (KE hE rfl) (fun a hE=>?_)
   refine KG ?_
   refine hK_25 _ _ ?_
   refine KH (fun K hK_26=>?_)
   refine Kj ?_
   refine J7 (fun (s:Int × Int)=>(⟨63,[]⟩:Frm)) (fun (s:Int × Int)=>[(0,(x0:Sl).v),(1,.int .i64 x1),(2,x2),(6,.int .i64 Xx18),(7,.int .i64 s.1),(8,.int .i64 s.2)]) H (hE.cut (.cons rfl (.cons rfl (.cons rfl (.cons rfl (.cons rfl (.cons rfl Subs.nil))))))) hR (fun Y self3 hY_33 s a w hE hR H=>?_)
   rcases s with ⟨Xx27,Xx28⟩
   replace hE:Env (⟨63,[]⟩:Frm) a [(0,(x0:Sl).v),(1,.int .i64 x1),(2,x2),(6,.int .i64 Xx18),(7,.int .i64 Xx27),(8,.int .i64 Xx28)]:=hE
   replace H:(JD self2 x0 x1 x2 Xx18 self3 (Xx27,Xx28)).wp w.heap Q:=H
   unfold JD at H
   refine KH (fun K hK_34=>?_)
   refine KH (fun K hK_35=>?_)
   refine KC ?_
   refine KB (v:=.int .i64 Xx28) rfl rfl hE rfl (KD hE rfl) (fun a hE=>?_)
   refine KB (v:=.int .i64 x1) rfl rfl hE rfl (KD hE rfl) (fun a hE=>?_)
   refine KB (v:=.bool (decide (Xx28≤x1))) rfl rfl hE rfl (KL hE rfl rfl KN KAC) (fun a hE=>?_)
   refine KG ?_
   refine hK_35 _ _ ?_
   refine KS (decide (Xx28≤x1)) hE rfl (fun hb=>?_) (fun hb=>?_)
   ·replace H:=M.ite_t hb H
    refine Ka ?_
    refine hK_34 _ _ ?_
    refine Kj ?_
    refine KH (fun K hK_36=>?_)
    refine KC ?_
    refine KB (v:=(x0:Sl).v) rfl rfl hE rfl (KD hE rfl) (fun a hE=>?_)
    refine KB (v:=.int .i64 Xx27) rfl rfl hE rfl (KD hE rfl) (fun a hE=>?_)
    refine KB (v:=.int .i64 Xx27) rfl rfl hE rfl (KD hE rfl) (fun a hE=>?_)
    refine KB (v:=.int .i64 Xx18) rfl rfl hE rfl (KD hE rfl) (fun a hE=>?_)
    refine KB (v:=.int .i64 (IntKind.wrap .i64 (Xx27+Xx18))) rfl rfl hE rfl (KL hE rfl rfl KN JE) (fun a hE=>?_)
    refine KB (v:=.int .i64 Xx28) rfl rfl hE rfl (KD hE rfl) (fun a hE=>?_)
    refine KB (v:=x2) rfl rfl hE rfl (KD hE rfl) (fun a hE=>?_)
    refine KZ hE hR Zy rfl (Ji x0 Xx27 (IntKind.wrap .i64 (Xx27+Xx18)) Xx28 x2) (M.unbind H) (fun Xx37 a w ea hR H=>?_)
    have hE:=Env.put_some hE rfl ea; clear ea
    refine KG ?_
    refine hK_36 _ _ ?_
    refine KH (fun K hK_38=>?_)
    refine KC ?_
    refine KB (v:=.int .i64 Xx28) rfl rfl hE rfl (KD hE rfl) (fun a hE=>?_)
    refine KB (v:=.int .i64 Xx28) rfl rfl hE rfl (KE hE rfl) (fun a hE=>?_)
    refine KG ?_
    refine hK_38 _ _ ?_
    refine KC ?_
    refine KB (v:=.int .i64 Xx28) rfl rfl hE rfl (KD hE rfl) (fun a hE=>?_)
    refine KB (v:=.int .i64 Xx18) rfl rfl hE rfl (KD hE rfl) (fun a hE=>?_)
    refine KB (v:=.int .i64 (IntKind.wrap .i64 (2 * Xx18))) rfl rfl hE rfl (KL hE rfl rfl KN KAB) (fun a hE=>?_)
    refine KB (v:=.int .i64 (IntKind.wrap .i64 (Xx28+(IntKind.wrap .i64 (2 * Xx18))))) rfl rfl hE rfl (KL hE rfl rfl KN JE) (fun a hE=>?_)
    refine KB (v:=.int .i64 (IntKind.wrap .i64 (Xx28+(IntKind.wrap .i64 (2 * Xx18))))) rfl rfl hE rfl (KE hE rfl) (fun a hE=>?_)
    refine KG ?_
    exact hY_33 (Xx28,IntKind.wrap .i64 (Xx28+(IntKind.wrap .i64 (2 * Xx18)))) _ _ (hE.cut (.cons rfl (.cons rfl (.cons rfl (.cons rfl (.cons rfl (.cons rfl Subs.nil))))))) hR H
   ·replace H:=M.ite_f hb H
    refine J6 ?_
    refine Xu.same ?_
    refine hK_26 _ _ ?_
    refine Ku (fun a w=>Env (⟨63,[]⟩:Frm) a [(0,(x0:Sl).v),(1,.int .i64 x1),(2,x2),(6,.int .i64 Xx18)]∧Rest w0 w∧(ZE self2 Xx18).wp w.heap Q) ?_ ?_
    ·rintro a w ⟨hE,hR,H⟩
     unfold ZE at H
     refine KC ?_
     refine KB (v:=.int .i64 Xx18) rfl rfl hE rfl (KD hE rfl) (fun a hE=>?_)
     refine KB (v:=.int .i64 (IntKind.wrap .i64 (Xx18 * 2))) rfl rfl hE rfl (KL hE rfl rfl KN KAB) (fun a hE=>?_)
     refine KB (v:=.int .i64 (IntKind.wrap .i64 (Xx18 * 2))) rfl rfl hE rfl (KE hE rfl) (fun a hE=>?_)
     refine KG ?_
     exact hY_22 (IntKind.wrap .i64 (Xx18 * 2)) _ _ (hE.cut (.cons rfl (.cons rfl (.cons rfl (.cons rfl Subs.nil))))) hR H
    ·skip
     refine KH (fun K hK_43=>?_)
     refine KC ?_
     refine KB (v:=.int .i64 Xx27) rfl rfl hE rfl (KD hE rfl) (fun a hE=>?_)
     refine KB (v:=.int .i64 Xx18) rfl rfl hE rfl (KD hE rfl) (fun a hE=>?_)
     refine KB (v:=.int .i64 (IntKind.wrap .i64 (Xx27+Xx18))) rfl rfl hE rfl (KL hE rfl rfl KN JE) (fun a hE=>?_)
     refine KB (v:=.int .i64 (IntKind.wrap .i64 (Xx27+Xx18))) rfl rfl hE rfl (KE hE rfl) (fun a hE=>?_)
     refine KG ?_
     refine hK_43 _ _ ?_
     refine KH (fun K hK_44=>?_)
     refine KC ?_
     refine KB (v:=.int .i64 (IntKind.wrap .i64 (Xx27+Xx18))) rfl rfl hE rfl (KD hE rfl) (fun a hE=>?_)
     refine KB (v:=.int .i64 x1) rfl rfl hE rfl (KD hE rfl) (fun a hE=>?_)
     refine KB (v:=.bool (decide ((IntKind.wrap .i64 (Xx27+Xx18)) < x1))) rfl rfl hE rfl (KL hE rfl rfl KN JL) (fun a hE=>?_)
     refine KG ?_
     refine hK_44 _ _ ?_
     refine KS (decide ((IntKind.wrap .i64 (Xx27+Xx18)) < x1)) hE rfl (fun hb=>?_) (fun hb=>?_)
     ·replace H:=M.ite_t hb H
      refine KC ?_
      refine KB (v:=(x0:Sl).v) rfl rfl hE rfl (KD hE rfl) (fun a hE=>?_)
      refine KB (v:=.int .i64 Xx27) rfl rfl hE rfl (KD hE rfl) (fun a hE=>?_)
      refine KB (v:=.int .i64 (IntKind.wrap .i64 (Xx27+Xx18))) rfl rfl hE rfl (KD hE rfl) (fun a hE=>?_)
      refine KB (v:=.int .i64 x1) rfl rfl hE rfl (KD hE rfl) (fun a hE=>?_)
      refine KB (v:=x2) rfl rfl hE rfl (KD hE rfl) (fun a hE=>?_)
      refine KZ hE hR Zy rfl (Ji x0 Xx27 (IntKind.wrap .i64 (Xx27+Xx18)) x1 x2) (M.unbind H) (fun Xx45 a w ea hR H=>?_)
      have hE:=Env.put_some hE rfl ea; clear ea
      refine KG ?_
      exact ⟨hE.cut (.cons rfl (.cons rfl (.cons rfl (.cons rfl Subs.nil)))),hR,H⟩
     ·replace H:=M.ite_f hb H
      refine Ka ?_
      exact ⟨hE.cut (.cons rfl (.cons rfl (.cons rfl (.cons rfl Subs.nil)))),hR,H⟩
  ·replace H:=M.ite_f hb H
   refine J6 ?_
   refine Xu.same ?_
   exact hret _ _ _ () _ hE hR (KM hE rfl RV.nil) rfl H
def Ko (x0:Sl) (x1:Value):M (Unit):=do
 let Xx1←Zx x0 (x0.len:Int) x1
 M.pure ()
theorem Un (x0:Sl) (x1:Value):ZK Go.Proofs.Tryz.prog 79 #[(x0:Sl).v,x1] (fun (r:Unit)=>.tuple #[]) (Ko x0 x1):=by
 refine KY [(0,(x0:Sl).v),(1,x1)] Go.Proofs.Tryz.func79 rfl rfl (Nat.le_of_ble_eq_true rfl) (Ke ⟨rfl,rfl,trivial⟩) (fun w0 w Q R a hret hE hR H=>?_)
 unfold Ko at H
 refine KC ?_
 refine KB (v:=(x0:Sl).v) rfl rfl hE rfl (KD hE rfl) (fun a hE=>?_)
 refine KB (v:=(x0:Sl).v) rfl rfl hE rfl (KD hE rfl) (fun a hE=>?_)
 refine KB (v:=.int .i64 (x0.len:Int)) rfl rfl hE rfl (UA hE rfl 22 un89) (fun a hE=>?_)
 refine KB (v:=x1) rfl rfl hE rfl (KD hE rfl) (fun a hE=>?_)
 refine KZ hE hR WO rfl (Wd x0 (x0.len:Int) x1) (M.unbind H) (fun Xx1 a w ea hR H=>?_)
 have hE:=Env.put_some hE rfl ea; clear ea
 refine KG ?_
 exact hret _ _ _ () _ hE hR (KM hE rfl RV.nil) rfl H
def Zh (x0:Sl):M (Sl):=do
 M.ite ((x0).base.isNone) (do
  M.pure Sl.nil
  ) (do
  let y_7←KA3 4 0 (#[.int .i64 0,.int .i64 0,.string ByteArray.empty,.slice none 0 0]:Array Value) []
  let Xx6←bdL KJ 0 y_7
  let Xx8←apL KJ 4 56 (#[.int .i64 0,.int .i64 0,.string ByteArray.empty,.slice none 0 0]:Array Value) Xx6 x0
  M.pure Xx8
  )
theorem WI (x0:Sl):ZK Go.Proofs.Tryz.prog 21 #[(x0:Sl).v] (fun (r:Sl)=>(r:Sl).v) (Zh x0):=by
 refine KY [(0,(x0:Sl).v)] Go.Proofs.Tryz.func21 rfl rfl (Nat.le_of_ble_eq_true rfl) (Ke ⟨rfl,trivial⟩) (fun w0 w Q R a hret hE hR H=>?_)
 unfold Zh at H
 refine KH (fun K hK_1=>?_)
 refine KC ?_
 refine KB (v:=(Sl.nil:Sl).v) rfl rfl hE rfl (KE hE rfl) (fun a hE=>?_)
 refine KG ?_
 refine hK_1 _ _ ?_
 refine KH (fun K hK_2=>?_)
 refine KH (fun K hK_3=>?_)
 refine KC ?_
 refine KB (v:=(x0:Sl).v) rfl rfl hE rfl (KD hE rfl) (fun a hE=>?_)
 refine KB (v:=.bool ((x0).base.isNone)) rfl rfl hE rfl (KL hE rfl rfl (g_sl (v:=Sl.nil)) (KIV un22)) (fun a hE=>?_)
 refine KG ?_
 refine hK_3 _ _ ?_
 refine KS ((x0).base.isNone) hE rfl (fun hb=>?_) (fun hb=>?_)
 ·replace H:=M.ite_t hb H
  refine KH (fun K hK_4=>?_)
  refine KC ?_
  refine KB (v:=(Sl.nil:Sl).v) rfl rfl hE rfl (KE hE rfl) (fun a hE=>?_)
  refine KG ?_
  refine hK_4 _ _ ?_
  refine Kg ?_
  exact hret _ _ _ Sl.nil _ hE hR (KM hE rfl (RV.tmp rfl RV.nil)) rfl H
 ·replace H:=M.ite_f hb H
  refine Ka ?_
  refine hK_2 _ _ ?_
  refine KH (fun K hK_5=>?_)
  refine KC ?_
  obtain ⟨y_7,qy_7,H⟩:=H
  obtain ⟨Xx6,qXx6,H⟩:=H
  refine ZR (v:=(Xx6:Sl).v) rfl rfl hE rfl hR (YE hE rfl un22 sz24 zr24 rfl qy_7 qXx6) (fun a w hE hR hh=>?_)
  replace H:=M.at hh H; clear hh
  refine KB (v:=(x0:Sl).v) rfl rfl hE rfl (KD hE rfl) (fun a hE=>?_)
  refine t_ex (fun Xx8=>(Xx8:Sl).v) rfl rfl hR (M.unbind H) (fun Q H=>Xm hE rfl rfl ap22 H) (fun Xx8 a w ea hR H=>?_)
  have hE:=Env.put_some hE rfl ea; clear ea
  refine KB (v:=(Xx8:Sl).v) rfl rfl hE rfl (KE hE rfl) (fun a hE=>?_)
  refine KG ?_
  refine hK_5 _ _ ?_
  refine Kg ?_
  exact hret _ _ _ Xx8 _ hE hR (KM hE rfl (RV.tmp rfl RV.nil)) rfl H
theorem KIl:Vg Go.Proofs.Tryz.f39 5 [[],[0],[],[],[3],[],[4,5],[6],[7],[1,2,0,1,2,3,4,5,6,7,8],[9,8,8,0,1,2,3,4,5,6,7,8]] [[],[0],[],[],[3],[],[4,5],[6],[7],[1,2],[8,9]] [[],[0],[],[],[3],[],[3,4,5],[3,4,5,6],[3,4,5,6,7],[0,1,2,3,4,5,6,7,8],[0,1,2,3,4,5,6,7,8,9]]=true:=by kernel_rfl
def YG (C12:Addr) (C13:Addr) (C14:Int) (self1:(Int)→M (Array Value)):(Int)→M (Array Value):=fun s=>match s with
 | Xx11=>do
  M.ite (decide (Xx11 < C14)) (do
   let Xx20←ldL ((C12).add 3)
   let Xx21←ldL ((C12).add 3)
   let Xx22←ixL Xx21 Xx11 4
   let Xx23←ldG 4 Xx22
   let Xx24←NY Go.Proofs.Tryz.prog KAF #[.agg Xx23] (fun r:Array Value=>.agg r)
   chk (fun h:Heap=>(KV h ((C12).add 3)=some ((Xx20:Sl).v))∧(KV h ((C12).add 3)=some ((Xx21:Sl).v))∧(Xx23.size=4∧∀ i,i < 4→KV h (Addr.add Xx22 i)=Xx23[i]?))
   let Xx25←ixL Xx20 Xx11 4
   M.need (Xx24.size=4)
   stG Xx25 Xx24
   self1 (IntKind.wrap .i64 (Xx11+1))
   ) (do
   let Xx28←ldG 4 C12
   M.need (Xx28.size=4)
   stG C13 Xx28
   let Rr30←ldG 4 C13
   M.pure Rr30
   )
def XB (x0:Array Value):M (Array Value):=do
 let Xx2←mkB KJ x0
 let Xx3←mkB KJ (#[.int .i64 0,.int .i64 0,.string ByteArray.empty,.slice none 0 0]:Array Value)
 let Xx5←ldL ((Xx2).add 3)
 let Xx6←Zh Xx5
 stV ((Xx2).add 3) ((Xx6:Sl).v)
 let Xx10←ldL ((Xx2).add 3)
 M.loop (YG Xx2 Xx3 (Xx10.len:Int)) 0
theorem qN (x0:Array Value):ZK Go.Proofs.Tryz.prog 39 #[.agg x0] (fun (r:Array Value)=>.agg r) (XB x0):=by
 refine KY [(0,.agg x0)] Go.Proofs.Tryz.func39 rfl rfl (Nat.le_of_ble_eq_true rfl) (Ke ⟨rfl,trivial⟩) (fun w0 w Q R a hret hE hR H=>?_)
 unfold XB at H
 refine KH (fun K hK_1=>?_)
 refine KC ?_
 obtain ⟨Xx2,qXx2,H⟩:=H
 refine ZR (v:=.pointer (some Xx2)) rfl rfl hE rfl hR (YP hE rfl qXx2) (fun a w hE hR hh=>?_)
 replace H:=M.at hh H; clear hh
 obtain ⟨Xx3,qXx3,H⟩:=H
 refine ZR (v:=.pointer (some Xx3)) rfl rfl hE rfl hR (Z4 zr24 qXx3) (fun a w hE hR hh=>?_)
 replace H:=M.at hh H; clear hh
 refine KG ?_
 refine hK_1 _ _ ?_
 refine KH (fun K hK_4=>?_)
 refine KC ?_
 refine KB (v:=.pointer (some ((Xx2).add 3))) rfl rfl hE rfl (KI hE rfl UU) (fun a hE=>?_)
 obtain ⟨Xx5,qXx5,H⟩:=H
 refine KB (v:=(Xx5:Sl).v) rfl rfl hE rfl (KU hE rfl sc22 qXx5) (fun a hE=>?_)
 refine KZ hE hR WB rfl (WI Xx5) (M.unbind H) (fun Xx6 a w ea hR H=>?_)
 have hE:=Env.put_some hE rfl ea; clear ea
 refine KB (v:=.pointer (some ((Xx2).add 3))) rfl rfl hE rfl (KI hE rfl UU) (fun a hE=>?_)
 obtain ⟨u_7,qu_7,H⟩:=H
 refine JI rfl rfl hE hR (JK hE rfl rfl sz22 qu_7) (fun a w hE hR hh=>?_)
 replace H:=M.at hh H; clear hh
 refine KG ?_
 refine hK_4 _ _ ?_
 refine KH (fun K hK_8=>?_)
 refine KH (fun K hK_9=>?_)
 refine KC ?_
 refine KB (v:=.pointer (some ((Xx2).add 3))) rfl rfl hE rfl (KI hE rfl UU) (fun a hE=>?_)
 obtain ⟨Xx10,qXx10,H⟩:=H
 refine KB (v:=(Xx10:Sl).v) rfl rfl hE rfl (KU hE rfl sc22 qXx10) (fun a hE=>?_)
 refine KB (v:=.int .i64 (Xx10.len:Int)) rfl rfl hE rfl (UA hE rfl 24 un22) (fun a hE=>?_)
 refine KB (v:=.int .i64 0) rfl rfl hE rfl (KD hE rfl) (fun a hE=>?_)
 refine KG ?_
 refine hK_9 _ _ ?_
 refine Kj ?_
 refine J7 (fun (s:Int)=>(⟨26,[]⟩:Frm)) (fun (s:Int)=>[(1,.pointer (some Xx2)),(2,.pointer (some Xx3)),(10,.int .i64 (Xx10.len:Int)),(11,.int .i64 s)]) H (hE.cut (.cons rfl (.cons rfl (.cons rfl (.cons rfl Subs.nil))))) hR (fun Y self1 hY_15 Xx11 a w hE hR H=>?_)
 replace hE:Env (⟨26,[]⟩:Frm) a [(1,.pointer (some Xx2)),(2,.pointer (some Xx3)),(10,.int .i64 (Xx10.len:Int)),(11,.int .i64 Xx11)]:=hE
 replace H:(YG Xx2 Xx3 (Xx10.len:Int) self1 Xx11).wp w.heap Q:=H
 unfold YG at H
 refine KH (fun K hK_16=>?_)
 refine KC ?_
 refine KB (v:=.bool (decide (Xx11 < (Xx10.len:Int)))) rfl rfl hE rfl (KL hE rfl rfl KN JL) (fun a hE=>?_)
 refine KG ?_
 refine hK_16 _ _ ?_
 refine KH (fun K hK_17=>?_)
 refine KS (decide (Xx11 < (Xx10.len:Int))) hE rfl (fun hb=>?_) (fun hb=>?_)
 ·replace H:=M.ite_t hb H
  refine Ka ?_
  refine hK_17 _ _ ?_
  refine KH (fun K hK_18=>?_)
  refine Kj ?_
  refine KH (fun K hK_19=>?_)
  refine KC ?_
  refine KB (v:=.int .i64 Xx11) rfl rfl hE rfl (KD hE rfl) (fun a hE=>?_)
  refine KB (v:=.int .i64 Xx11) rfl rfl hE rfl (KE hE rfl) (fun a hE=>?_)
  refine KG ?_
  refine hK_19 _ _ ?_
  obtain ⟨Xx20,qXx20,H⟩:=H
  obtain ⟨Xx21,qXx21,H⟩:=H
  obtain ⟨Xx22,qXx22,H⟩:=H
  obtain ⟨Xx23,qXx23,H⟩:=H
  have hT:=Jf KIl rfl rfl
  refine Zq (fun w:World=>(fun h:Heap=>(KV h ((Xx2).add 3)=some ((Xx20:Sl).v))∧(KV h ((Xx2).add 3)=some ((Xx21:Sl).v))∧(Xx23.size=4∧∀ i,i < 4→KV h (Addr.add Xx22 i)=Xx23[i]?)) w.heap) [9,10] #[false,false,false,false,false,false,false,false,false,false,false] mo hR rfl rfl (fun w' e=>by rw [e]; exact ⟨qXx20,qXx21,qXx23⟩) (fun w hh hR hs=>?_)
  replace H:=M.at hh H; clear hh
  refine KF (i:=0) (v:=.pointer (some ((Xx2).add 3))) #[true,false,false,false,false,false,false,false,false,false,false] rfl rfl hT (by kernel_rfl) hE rfl (KA rfl) (fun w=>KI hE rfl UU) (fun a hE=>?_)
  refine KF (i:=2) (v:=.int .i64 Xx11) #[true,false,true,false,false,false,false,false,false,false,false] rfl rfl hT (by kernel_rfl) hE rfl (KA rfl) (fun w=>KD hE rfl) (fun a hE=>?_)
  refine KF (i:=3) (v:=.pointer (some ((Xx2).add 3))) #[true,false,true,true,false,false,false,false,false,false,false] rfl rfl hT (by kernel_rfl) hE rfl (KA rfl) (fun w=>KI hE rfl UU) (fun a hE=>?_)
  refine KF (i:=5) (v:=.int .i64 Xx11) #[true,false,true,true,false,true,false,false,false,false,false] rfl rfl hT (by kernel_rfl) hE rfl (KA rfl) (fun w=>KD hE rfl) (fun a hE=>?_)
  refine Kt (i:=1) (v:=(Xx20:Sl).v) #[true,true,true,true,false,true,false,false,false,false,false] rfl rfl hT (by kernel_rfl) hE rfl (KA rfl) hs (fun w s=>KU hE rfl sc22 s.1) (fun a hE=>?_)
  refine Kt (i:=4) (v:=(Xx21:Sl).v) #[true,true,true,true,true,true,false,false,false,false,false] rfl rfl hT (by kernel_rfl) hE rfl (KA rfl) hs (fun w s=>KU hE rfl sc22 s.2.1) (fun a hE=>?_)
  refine KF (i:=6) (v:=.pointer (some Xx22)) #[true,true,true,true,true,true,true,false,false,false,false] rfl rfl hT (by kernel_rfl) hE rfl (KA rfl) (fun w=>KR hE rfl rfl un22 sz24 qXx22) (fun a hE=>?_)
  refine Kt (i:=7) (v:=.agg Xx23) #[true,true,true,true,true,true,true,true,false,false,false] rfl rfl hT (by kernel_rfl) hE rfl (KA rfl) hs (fun w s=>ZN hE rfl ag24 s.2.2) (fun a hE=>?_)
  refine KAW (i:=8) #[true,true,true,true,true,true,true,true,true,false,false] rfl rfl rfl hT (by kernel_rfl) rfl hE hR (KA rfl) NU rfl (Ud) (M.unbind H) (fun r h H w' e=>by obtain ⟨_,sA,H⟩:=H; rw [e]; exact sA) (fun Xx24 a w ea hR H hs=>?_)
  obtain ⟨_,sA,H⟩:=H; clear sA
  have hE:=Env.put_some hE rfl ea; clear ea
  obtain ⟨Xx25,qXx25,H⟩:=H
  refine KF (i:=9) (v:=.pointer (some Xx25)) #[true,true,true,true,true,true,true,true,true,true,false] rfl rfl hT (by kernel_rfl) hE rfl (KA rfl) (fun w=>KR hE rfl rfl un22 sz24 qXx25) (fun a hE=>?_)
  obtain ⟨qz,H⟩:=H
  obtain ⟨u_26,qu_26,H⟩:=H
  refine Gh (i:=10) #[true,true,true,true,true,true,true,true,true,true,true] rfl rfl hT (by kernel_rfl) rfl hE hR (KA rfl) (Kv hE rfl rfl sz24 qz qu_26)  (fun a w hE hR hh=>?_)
  replace H:=M.at hh H; clear hh
  refine JM hT (by kernel_rfl) ?_
  refine hK_18 _ _ ?_
  refine KC ?_
  refine KB (v:=.int .i64 (IntKind.wrap .i64 (Xx11+1))) rfl rfl hE rfl (KL hE rfl rfl KN JE) (fun a hE=>?_)
  refine KB (v:=.int .i64 (IntKind.wrap .i64 (Xx11+1))) rfl rfl hE rfl (KD hE rfl) (fun a hE=>?_)
  refine KG ?_
  exact hY_15 (IntKind.wrap .i64 (Xx11+1)) _ _ (hE.cut (.cons rfl (.cons rfl (.cons rfl (.cons rfl Subs.nil))))) hR H
 ·replace H:=M.ite_f hb H
  refine J6 ?_
  refine Xu.same ?_
  refine hK_8 _ _ ?_
  refine KH (fun K hK_27=>?_)
  refine KC ?_
  obtain ⟨Xx28,qXx28,H⟩:=H
  refine KB (v:=.agg Xx28) rfl rfl hE rfl (ZN hE rfl ag24 qXx28) (fun a hE=>?_)
  obtain ⟨qz,H⟩:=H
  obtain ⟨u_29,qu_29,H⟩:=H
  refine JI rfl rfl hE hR (Kv hE rfl rfl sz24 qz qu_29) (fun a w hE hR hh=>?_)
  replace H:=M.at hh H; clear hh
  refine KG ?_
  refine hK_27 _ _ ?_
  refine Kg ?_
  obtain ⟨Rr30,qRr30,H⟩:=H
  exact hret _ _ _ Rr30 _ hE hR (KM hE rfl (RV.cellG rfl ag24 qRr30 RV.nil)) rfl H
def Yz (x0:Array Value):M (Array Value × Int):=do
 let Xx2←mkB KJ x0
 let Xx3←mkB KJ (#[.int .i64 0,.int .i64 0,.string ByteArray.empty,.slice none 0 0]:Array Value)
 let Xx6←ldG 4 Xx2
 let Xx7←WP Xx6
 M.ite (Xx7 != 0) (do
  M.need ((#[.int .i64 0,.int .i64 0,.string ByteArray.empty,.slice none 0 0]:Array Value).size=4)
  stG Xx3 (#[.int .i64 0,.int .i64 0,.string ByteArray.empty,.slice none 0 0]:Array Value)
  let Rr11←ldG 4 Xx3
  M.pure (Rr11,Xx7)
  ) (do
  let Xx13←ldG 4 Xx2
  let Xx14←XB Xx13
  M.need (Xx14.size=4)
  stG Xx3 Xx14
  let Rr16←ldG 4 Xx3
  M.pure (Rr16,0)
  )
theorem zE (x0:Array Value):ZK Go.Proofs.Tryz.prog 81 #[.agg x0] (fun (r:Array Value × Int)=>.tuple #[.agg r.1,.int .i64 r.2]) (Yz x0):=by
 refine KY [(0,.agg x0)] Go.Proofs.Tryz.func81 rfl rfl (Nat.le_of_ble_eq_true rfl) (Ke ⟨rfl,trivial⟩) (fun w0 w Q R a hret hE hR H=>?_)
 unfold Yz at H
 refine KH (fun K hK_1=>?_)
 refine KC ?_
 obtain ⟨Xx2,qXx2,H⟩:=H
 refine ZR (v:=.pointer (some Xx2)) rfl rfl hE rfl hR (YP hE rfl qXx2) (fun a w hE hR hh=>?_)
 replace H:=M.at hh H; clear hh
 obtain ⟨Xx3,qXx3,H⟩:=H
 refine ZR (v:=.pointer (some Xx3)) rfl rfl hE rfl hR (Z4 zr24 qXx3) (fun a w hE hR hh=>?_)
 replace H:=M.at hh H; clear hh
 refine KB (v:=.int .i64 0) rfl rfl hE rfl (KE hE rfl) (fun a hE=>?_)
 refine KG ?_
 refine hK_1 _ _ ?_
 refine KH (fun K hK_4=>?_)
 refine KH (fun K hK_5=>?_)
 refine KC ?_
 obtain ⟨Xx6,qXx6,H⟩:=H
 refine KB (v:=.agg Xx6) rfl rfl hE rfl (ZN hE rfl ag24 qXx6) (fun a hE=>?_)
 refine KZ hE hR Xg rfl (GJ Xx6) (M.unbind H) (fun Xx7 a w ea hR H=>?_)
 have hE:=Env.put_some hE rfl ea; clear ea
 refine KB (v:=.int .i64 Xx7) rfl rfl hE rfl (KE hE rfl) (fun a hE=>?_)
 refine KG ?_
 refine hK_5 _ _ ?_
 refine KH (fun K hK_8=>?_)
 refine KC ?_
 refine KB (v:=.int .i64 Xx7) rfl rfl hE rfl (KD hE rfl) (fun a hE=>?_)
 refine KB (v:=.bool (Xx7 != 0)) rfl rfl hE rfl (KL hE rfl rfl KN Yi) (fun a hE=>?_)
 refine KG ?_
 refine hK_8 _ _ ?_
 refine KS (Xx7 != 0) hE rfl (fun hb=>?_) (fun hb=>?_)
 ·replace H:=M.ite_t hb H
  refine KH (fun K hK_9=>?_)
  refine KC ?_
  refine KB (v:=.agg (#[.int .i64 0,.int .i64 0,.string ByteArray.empty,.slice none 0 0]:Array Value)) rfl rfl hE rfl (YD bd24) (fun a hE=>?_)
  refine KB (v:=.int .i64 Xx7) rfl rfl hE rfl (KD hE rfl) (fun a hE=>?_)
  obtain ⟨qz,H⟩:=H
  obtain ⟨u_10,qu_10,H⟩:=H
  refine JI rfl rfl hE hR (Kv hE rfl rfl sz24 qz qu_10) (fun a w hE hR hh=>?_)
  replace H:=M.at hh H; clear hh
  refine KB (v:=.int .i64 Xx7) rfl rfl hE rfl (KE hE rfl) (fun a hE=>?_)
  refine KG ?_
  refine hK_9 _ _ ?_
  refine Kg ?_
  obtain ⟨Rr11,qRr11,H⟩:=H
  exact hret _ _ _ (Rr11,Xx7) _ hE hR (KM hE rfl (RV.cellG rfl ag24 qRr11 (RV.tmp rfl RV.nil))) rfl H
 ·replace H:=M.ite_f hb H
  refine Ka ?_
  refine hK_4 _ _ ?_
  refine KH (fun K hK_12=>?_)
  refine KC ?_
  obtain ⟨Xx13,qXx13,H⟩:=H
  refine KB (v:=.agg Xx13) rfl rfl hE rfl (ZN hE rfl ag24 qXx13) (fun a hE=>?_)
  refine KZ hE hR NU rfl (qN Xx13) (M.unbind H) (fun Xx14 a w ea hR H=>?_)
  have hE:=Env.put_some hE rfl ea; clear ea
  obtain ⟨qz,H⟩:=H
  obtain ⟨u_15,qu_15,H⟩:=H
  refine JI rfl rfl hE hR (Kv hE rfl rfl sz24 qz qu_15) (fun a w hE hR hh=>?_)
  replace H:=M.at hh H; clear hh
  refine KB (v:=.int .i64 0) rfl rfl hE rfl (KE hE rfl) (fun a hE=>?_)
  refine KG ?_
  refine hK_12 _ _ ?_
  refine Kg ?_
  obtain ⟨Rr16,qRr16,H⟩:=H
  exact hret _ _ _ (Rr16,0) _ hE hR (KM hE rfl (RV.cellG rfl ag24 qRr16 (RV.tmp rfl RV.nil))) rfl H
def ZX (Xx4:Sl):M (Sl):=do
 M.pure Xx4
def Zo (x0:Sl) (x1:Int):M (Sl):=do
 M.ite (decide (x1 < 0)) (do
  M.fail
  ) (do
  M.ite (decide ((IntKind.wrap .i64 (x1 - (IntKind.wrap .i64 ((x0.cap:Int) - (x0.len:Int))))) > 0)) (do
   let Xx8←slL x0 0 (x0.cap:Int) 4
   let Xx9←apM KJ 4 56 (#[.int .i64 0,.int .i64 0,.string ByteArray.empty,.slice none 0 0]:Array Value) Xx8 (IntKind.wrap .i64 (x1 - (IntKind.wrap .i64 ((x0.cap:Int) - (x0.len:Int)))))
   let Xx10←slL Xx9 0 (x0.len:Int) 4
   ZX Xx10
   ) (do
   ZX x0
   )
  )
theorem WR (x0:Sl) (x1:Int):ZK Go.Proofs.Tryz.prog 138 #[(x0:Sl).v,.int .i64 x1] (fun (r:Sl)=>(r:Sl).v) (Zo x0 x1):=by
 refine KY [(0,(x0:Sl).v),(1,.int .i64 x1)] Go.Proofs.Tryz.func138 rfl rfl (Nat.le_of_ble_eq_true rfl) (Ke ⟨rfl,rfl,trivial⟩) (fun w0 w Q R a hret hE hR H=>?_)
 unfold Zo at H
 refine KH (fun K hK_1=>?_)
 refine KC ?_
 refine KB (v:=(Sl.nil:Sl).v) rfl rfl hE rfl (KE hE rfl) (fun a hE=>?_)
 refine KG ?_
 refine hK_1 _ _ ?_
 refine KH (fun K hK_2=>?_)
 refine KH (fun K hK_3=>?_)
 refine KC ?_
 refine KB (v:=.int .i64 x1) rfl rfl hE rfl (KD hE rfl) (fun a hE=>?_)
 refine KB (v:=.bool (decide (x1 < 0))) rfl rfl hE rfl (KL hE rfl rfl KN JL) (fun a hE=>?_)
 refine KG ?_
 refine hK_3 _ _ ?_
 refine KS (decide (x1 < 0)) hE rfl (fun hb=>?_) (fun hb=>?_)
 ·replace H:=M.ite_t hb H
  exact False.elim H
 ·replace H:=M.ite_f hb H
  refine Ka ?_
  refine hK_2 _ _ ?_
  refine Ku (fun a w=>∃ (Xx4:Sl),Env (⟨27,[]⟩:Frm) a [(0,(Xx4:Sl).v)]∧Rest w0 w∧(ZX Xx4).wp w.heap Q) ?_ ?_
  ·rintro a w ⟨Xx4,hE,hR,H⟩
   unfold ZX at H
   refine KH (fun K hK_5=>?_)
   refine KC ?_
   refine KB (v:=(Xx4:Sl).v) rfl rfl hE rfl (KD hE rfl) (fun a hE=>?_)
   refine KB (v:=(Xx4:Sl).v) rfl rfl hE rfl (KE hE rfl) (fun a hE=>?_)
   refine KG ?_
   refine hK_5 _ _ ?_
   refine Kg ?_
   exact hret _ _ _ Xx4 _ hE hR (KM hE rfl (RV.tmp rfl RV.nil)) rfl H
  ·skip
   refine KH (fun K hK_6=>?_)
   refine KC ?_
   refine KB (v:=.int .i64 x1) rfl rfl hE rfl (KD hE rfl) (fun a hE=>?_)
   refine KB (v:=(x0:Sl).v) rfl rfl hE rfl (KD hE rfl) (fun a hE=>?_)
   refine KB (v:=.int .i64 (x0.cap:Int)) rfl rfl hE rfl (KFz hE rfl 24 un22) (fun a hE=>?_)
   refine KB (v:=(x0:Sl).v) rfl rfl hE rfl (KD hE rfl) (fun a hE=>?_)
   refine KB (v:=.int .i64 (x0.len:Int)) rfl rfl hE rfl (UA hE rfl 24 un22) (fun a hE=>?_)
   refine KB (v:=.int .i64 (IntKind.wrap .i64 ((x0.cap:Int) - (x0.len:Int)))) rfl rfl hE rfl (KL hE rfl rfl KN VA) (fun a hE=>?_)
   refine KB (v:=.int .i64 (IntKind.wrap .i64 (x1 - (IntKind.wrap .i64 ((x0.cap:Int) - (x0.len:Int)))))) rfl rfl hE rfl (KL hE rfl rfl KN VA) (fun a hE=>?_)
   refine KB (v:=.int .i64 (IntKind.wrap .i64 (x1 - (IntKind.wrap .i64 ((x0.cap:Int) - (x0.len:Int)))))) rfl rfl hE rfl (KE hE rfl) (fun a hE=>?_)
   refine KG ?_
   refine hK_6 _ _ ?_
   refine KH (fun K hK_7=>?_)
   refine KC ?_
   refine KB (v:=.int .i64 (IntKind.wrap .i64 (x1 - (IntKind.wrap .i64 ((x0.cap:Int) - (x0.len:Int)))))) rfl rfl hE rfl (KD hE rfl) (fun a hE=>?_)
   refine KB (v:=.bool (decide ((IntKind.wrap .i64 (x1 - (IntKind.wrap .i64 ((x0.cap:Int) - (x0.len:Int))))) > 0))) rfl rfl hE rfl (KL hE rfl rfl KN YI) (fun a hE=>?_)
   refine KG ?_
   refine hK_7 _ _ ?_
   refine KS (decide ((IntKind.wrap .i64 (x1 - (IntKind.wrap .i64 ((x0.cap:Int) - (x0.len:Int))))) > 0)) hE rfl (fun hb=>?_) (fun hb=>?_)
   ·replace H:=M.ite_t hb H
    refine KC ?_
    refine KB (v:=(x0:Sl).v) rfl rfl hE rfl (KD hE rfl) (fun a hE=>?_)
    refine KB (v:=(x0:Sl).v) rfl rfl hE rfl (KD hE rfl) (fun a hE=>?_)
    refine KB (v:=.int .i64 (x0.cap:Int)) rfl rfl hE rfl (KFz hE rfl 24 un22) (fun a hE=>?_)
    obtain ⟨Xx8,qXx8,H⟩:=H
    refine KB (v:=(Xx8:Sl).v) rfl rfl hE rfl (qe hE rfl rfl un22 sz24 qXx8) (fun a hE=>?_)
    refine KB (v:=.int .i64 (IntKind.wrap .i64 (x1 - (IntKind.wrap .i64 ((x0.cap:Int) - (x0.len:Int)))))) rfl rfl hE rfl (KD hE rfl) (fun a hE=>?_)
    refine t_ex (fun Xx9=>(Xx9:Sl).v) rfl rfl hR (M.unbind H) (fun Q H=>KHY hE rfl rfl ap22 un3 rfl H) (fun Xx9 a w ea hR H=>?_)
    have hE:=Env.put_some hE rfl ea; clear ea
    refine KB (v:=(x0:Sl).v) rfl rfl hE rfl (KD hE rfl) (fun a hE=>?_)
    refine KB (v:=.int .i64 (x0.len:Int)) rfl rfl hE rfl (UA hE rfl 24 un22) (fun a hE=>?_)
    obtain ⟨Xx10,qXx10,H⟩:=H
    refine KB (v:=(Xx10:Sl).v) rfl rfl hE rfl (qe hE rfl rfl un22 sz24 qXx10) (fun a hE=>?_)
    refine KB (v:=(Xx10:Sl).v) rfl rfl hE rfl (KE hE rfl) (fun a hE=>?_)
    refine KG ?_
    exact ⟨Xx10,hE.cut (.cons rfl Subs.nil),hR,H⟩
   ·replace H:=M.ite_f hb H
    refine Ka ?_
    exact ⟨x0,hE.cut (.cons rfl Subs.nil),hR,H⟩
def Zu (C25:Sl) (C26:Int) (self2:(Sl × Int)→M (Sl)):(Sl × Int)→M (Sl):=fun s=>match s with
 | (Xx23,Xx24)=>do
  M.ite (decide (Xx24 < C26)) (do
   let Xx32←ixL C25 Xx24 1
   let Xx33←ldL Xx32
   let Xx34←apL KJ 4 56 (#[.int .i64 0,.int .i64 0,.string ByteArray.empty,.slice none 0 0]:Array Value) Xx23 Xx33
   self2 (Xx34,IntKind.wrap .i64 (Xx24+1))
   ) (do
   M.pure Xx23
   )
def Zv (C7:Sl) (C8:Sl) (C9:Int) (self1:(Int × Int)→M (Sl)):(Int × Int)→M (Sl):=fun s=>match s with
 | (Xx5,Xx6)=>do
  M.ite (decide (Xx6 < C9)) (do
   let Xx15←ixL C8 Xx6 1
   let Xx16←ldL Xx15
   M.ite (decide ((IntKind.wrap .i64 (Xx5+(Xx16.len:Int))) < 0)) (do
    M.fail
    ) (do
    self1 (IntKind.wrap .i64 (Xx5+(Xx16.len:Int)),IntKind.wrap .i64 (Xx6+1))
    )
   ) (do
   let Xx20←Zo Sl.nil Xx5
   M.loop (Zu C7 (C7.len:Int)) (Xx20,0)
   )
def Zd (x0:Sl):M (Sl):=do
 M.loop (Zv x0 x0 (x0.len:Int)) (0,0)
theorem WD (x0:Sl):ZK Go.Proofs.Tryz.prog 82 #[(x0:Sl).v] (fun (r:Sl)=>(r:Sl).v) (Zd x0):=by
 refine KY [(0,(x0:Sl).v)] Go.Proofs.Tryz.func82 rfl rfl (Nat.le_of_ble_eq_true rfl) (Ke ⟨rfl,trivial⟩) (fun w0 w Q R a hret hE hR H=>?_)
 unfold Zd at H
 refine KH (fun K hK_1=>?_)
 refine KC ?_
 refine KB (v:=(Sl.nil:Sl).v) rfl rfl hE rfl (KE hE rfl) (fun a hE=>?_)
 refine KG ?_
 refine hK_1 _ _ ?_
 refine KH (fun K hK_2=>?_)
 refine KC ?_
 refine KB (v:=.int .i64 0) rfl rfl hE rfl (KE hE rfl) (fun a hE=>?_)
 refine KG ?_
 refine hK_2 _ _ ?_
 refine KH (fun K hK_3=>?_)
 refine KH (fun K hK_4=>?_)
 refine KC ?_
 refine KB (v:=(x0:Sl).v) rfl rfl hE rfl (KD hE rfl) (fun a hE=>?_)
 refine KB (v:=.int .i64 (x0.len:Int)) rfl rfl hE rfl (UA hE rfl 22 un89) (fun a hE=>?_)
 refine KB (v:=.int .i64 0) rfl rfl hE rfl (KD hE rfl) (fun a hE=>?_)
 refine KG ?_
 refine hK_4 _ _ ?_
 refine Kj ?_
 refine J7 (fun (s:Int × Int)=>(⟨36,[]⟩:Frm)) (fun (s:Int × Int)=>[(0,(x0:Sl).v),(3,.int .i64 s.1),(9,(x0:Sl).v),(10,.int .i64 (x0.len:Int)),(11,.int .i64 s.2)]) H (hE.cut (.cons rfl (.cons rfl (.cons rfl (.cons rfl (.cons rfl Subs.nil)))))) hR (fun Y self1 hY_10 s a w hE hR H=>?_)
 rcases s with ⟨Xx5,Xx6⟩
 replace hE:Env (⟨36,[]⟩:Frm) a [(0,(x0:Sl).v),(3,.int .i64 Xx5),(9,(x0:Sl).v),(10,.int .i64 (x0.len:Int)),(11,.int .i64 Xx6)]:=hE
 replace H:(Zv x0 x0 (x0.len:Int) self1 (Xx5,Xx6)).wp w.heap Q:=H
 unfold Zv at H
 refine KH (fun K hK_11=>?_)
 refine KC ?_
 refine KB (v:=.bool (decide (Xx6 < (x0.len:Int)))) rfl rfl hE rfl (KL hE rfl rfl KN JL) (fun a hE=>?_)
 refine KG ?_
 refine hK_11 _ _ ?_
 refine KH (fun K hK_12=>?_)
 refine KS (decide (Xx6 < (x0.len:Int))) hE rfl (fun hb=>?_) (fun hb=>?_)
 ·replace H:=M.ite_t hb H
  refine Ka ?_
  refine hK_12 _ _ ?_
  refine KH (fun K hK_13=>?_)
  refine Kj ?_
  refine KH (fun K hK_14=>?_)
  refine KC ?_
  obtain ⟨Xx15,qXx15,H⟩:=H
  refine KB (v:=.pointer (some Xx15)) rfl rfl hE rfl (KR hE rfl rfl un89 sz22 qXx15) (fun a hE=>?_)
  obtain ⟨Xx16,qXx16,H⟩:=H
  refine KB (v:=(Xx16:Sl).v) rfl rfl hE rfl (KU hE rfl sc22 qXx16) (fun a hE=>?_)
  refine KB (v:=(Xx16:Sl).v) rfl rfl hE rfl (KE hE rfl) (fun a hE=>?_)
  refine KG ?_
  refine hK_14 _ _ ?_
  refine KH (fun K hK_17=>?_)
  refine KC ?_
  refine KB (v:=.int .i64 Xx5) rfl rfl hE rfl (KD hE rfl) (fun a hE=>?_)
  refine KB (v:=(Xx16:Sl).v) rfl rfl hE rfl (KD hE rfl) (fun a hE=>?_)
  refine KB (v:=.int .i64 (Xx16.len:Int)) rfl rfl hE rfl (UA hE rfl 24 un22) (fun a hE=>?_)
  refine KB (v:=.int .i64 (IntKind.wrap .i64 (Xx5+(Xx16.len:Int)))) rfl rfl hE rfl (KL hE rfl rfl KN JE) (fun a hE=>?_)
  refine KB (v:=.int .i64 (IntKind.wrap .i64 (Xx5+(Xx16.len:Int)))) rfl rfl hE rfl (KE hE rfl) (fun a hE=>?_)
  refine KG ?_
  refine hK_17 _ _ ?_
  refine KH (fun K hK_18=>?_)
  refine KC ?_
  refine KB (v:=.int .i64 (IntKind.wrap .i64 (Xx5+(Xx16.len:Int)))) rfl rfl hE rfl (KD hE rfl) (fun a hE=>?_)
  refine KB (v:=.bool (decide ((IntKind.wrap .i64 (Xx5+(Xx16.len:Int))) < 0))) rfl rfl hE rfl (KL hE rfl rfl KN JL) (fun a hE=>?_)
  refine KG ?_
  refine hK_18 _ _ ?_
  refine KS (decide ((IntKind.wrap .i64 (Xx5+(Xx16.len:Int))) < 0)) hE rfl (fun hb=>?_) (fun hb=>?_)
  ·replace H:=M.ite_t hb H
   exact False.elim H
  ·replace H:=M.ite_f hb H
   refine Ka ?_
   refine hK_13 _ _ ?_
   refine KC ?_
   refine KB (v:=.int .i64 (IntKind.wrap .i64 (Xx6+1))) rfl rfl hE rfl (KL hE rfl rfl KN JE) (fun a hE=>?_)
   refine KB (v:=.int .i64 (IntKind.wrap .i64 (Xx6+1))) rfl rfl hE rfl (KD hE rfl) (fun a hE=>?_)
   refine KG ?_
   exact hY_10 (IntKind.wrap .i64 (Xx5+(Xx16.len:Int)),IntKind.wrap .i64 (Xx6+1)) _ _ (hE.cut (.cons rfl (.cons rfl (.cons rfl (.cons rfl (.cons rfl Subs.nil)))))) hR H
 ·replace H:=M.ite_f hb H
  refine J6 ?_
  refine Xu.same ?_
  refine hK_3 _ _ ?_
  refine KH (fun K hK_19=>?_)
  refine KC ?_
  refine KB (v:=.int .i64 Xx5) rfl rfl hE rfl (KD hE rfl) (fun a hE=>?_)
  refine KZ hE hR WE rfl (WR Sl.nil Xx5) (M.unbind H) (fun Xx20 a w ea hR H=>?_)
  have hE:=Env.put_some hE rfl ea; clear ea
  refine KB (v:=(Xx20:Sl).v) rfl rfl hE rfl (KE hE rfl) (fun a hE=>?_)
  refine KG ?_
  refine hK_19 _ _ ?_
  refine KH (fun K hK_21=>?_)
  refine KH (fun K hK_22=>?_)
  refine KC ?_
  refine KB (v:=(x0:Sl).v) rfl rfl hE rfl (KD hE rfl) (fun a hE=>?_)
  refine KB (v:=.int .i64 (x0.len:Int)) rfl rfl hE rfl (UA hE rfl 22 un89) (fun a hE=>?_)
  refine KB (v:=.int .i64 0) rfl rfl hE rfl (KD hE rfl) (fun a hE=>?_)
  refine KG ?_
  refine hK_22 _ _ ?_
  refine Kj ?_
  refine J7 (fun (s:Sl × Int)=>(⟨36,[]⟩:Frm)) (fun (s:Sl × Int)=>[(6,(s.1:Sl).v),(25,(x0:Sl).v),(26,.int .i64 (x0.len:Int)),(27,.int .i64 s.2)]) H (hE.cut (.cons rfl (.cons rfl (.cons rfl (.cons rfl Subs.nil))))) hR (fun Y self2 hY_27 s a w hE hR H=>?_)
  rcases s with ⟨Xx23,Xx24⟩
  replace hE:Env (⟨36,[]⟩:Frm) a [(6,(Xx23:Sl).v),(25,(x0:Sl).v),(26,.int .i64 (x0.len:Int)),(27,.int .i64 Xx24)]:=hE
  replace H:(Zu x0 (x0.len:Int) self2 (Xx23,Xx24)).wp w.heap Q:=H
  unfold Zu at H
  refine KH (fun K hK_28=>?_)
  refine KC ?_
  refine KB (v:=.bool (decide (Xx24 < (x0.len:Int)))) rfl rfl hE rfl (KL hE rfl rfl KN JL) (fun a hE=>?_)
  refine KG ?_
  refine hK_28 _ _ ?_
  refine KH (fun K hK_29=>?_)
  refine KS (decide (Xx24 < (x0.len:Int))) hE rfl (fun hb=>?_) (fun hb=>?_)
  ·replace H:=M.ite_t hb H
   refine Ka ?_
   refine hK_29 _ _ ?_
   refine KH (fun K hK_30=>?_)
   refine Kj ?_
   refine KH (fun K hK_31=>?_)
   refine KC ?_
   obtain ⟨Xx32,qXx32,H⟩:=H
   refine KB (v:=.pointer (some Xx32)) rfl rfl hE rfl (KR hE rfl rfl un89 sz22 qXx32) (fun a hE=>?_)
   obtain ⟨Xx33,qXx33,H⟩:=H
   refine KB (v:=(Xx33:Sl).v) rfl rfl hE rfl (KU hE rfl sc22 qXx33) (fun a hE=>?_)
   refine KB (v:=(Xx33:Sl).v) rfl rfl hE rfl (KE hE rfl) (fun a hE=>?_)
   refine KG ?_
   refine hK_31 _ _ ?_
   refine KC ?_
   refine KB (v:=(Xx23:Sl).v) rfl rfl hE rfl (KD hE rfl) (fun a hE=>?_)
   refine KB (v:=(Xx33:Sl).v) rfl rfl hE rfl (KD hE rfl) (fun a hE=>?_)
   refine t_ex (fun Xx34=>(Xx34:Sl).v) rfl rfl hR (M.unbind H) (fun Q H=>Xm hE rfl rfl ap22 H) (fun Xx34 a w ea hR H=>?_)
   have hE:=Env.put_some hE rfl ea; clear ea
   refine KB (v:=(Xx34:Sl).v) rfl rfl hE rfl (KE hE rfl) (fun a hE=>?_)
   refine KG ?_
   refine hK_30 _ _ ?_
   refine KC ?_
   refine KB (v:=.int .i64 (IntKind.wrap .i64 (Xx24+1))) rfl rfl hE rfl (KL hE rfl rfl KN JE) (fun a hE=>?_)
   refine KB (v:=.int .i64 (IntKind.wrap .i64 (Xx24+1))) rfl rfl hE rfl (KD hE rfl) (fun a hE=>?_)
   refine KG ?_
   exact hY_27 (Xx34,IntKind.wrap .i64 (Xx24+1)) _ _ (hE.cut (.cons rfl (.cons rfl (.cons rfl (.cons rfl Subs.nil))))) hR H
  ·replace H:=M.ite_f hb H
   refine J6 ?_
   refine Xu.same ?_
   refine hK_21 _ _ ?_
   refine KH (fun K hK_35=>?_)
   refine KC ?_
   refine KB (v:=(Xx23:Sl).v) rfl rfl hE rfl (KD hE rfl) (fun a hE=>?_)
   refine KB (v:=(Xx23:Sl).v) rfl rfl hE rfl (KE hE rfl) (fun a hE=>?_)
   refine KG ?_
   refine hK_35 _ _ ?_
   refine Kg ?_
   exact hret _ _ _ Xx23 _ hE hR (KM hE rfl (RV.tmp rfl RV.nil)) rfl H
end Gx
