/- Printed by program: Go functions as Lean programs, each tied to its code. No condition. -/
import Derived.Test.YtpibdohdkfkcnaaGreatDoorP0
import Derived.Test.YtpibdohdkfkcnaaGreatDoorP1
import Derived.Test.YtpibdohdkfkcnaaGreatDoorP2
import Derived.Test.YtpibdohdkfkcnaaGreatDoorP3
set_option linter.unusedVariables false
set_option linter.unusedSimpArgs false
namespace Gx
open Go
set_option linter.unusedVariables false
set_option maxRecDepth 100000
noncomputable def KI1:Array Oper:=KF5 Go.Proofs.Tryz.f93 3
def KI2:List (List Nat):=[[],[0],[1],[2],[],[4],[5],[6],[3,7],[8],[9],[10],[10],[],[13,11,9,0,1,2,3,4,5,6,7,8,9,10,11,13],[12,14,0,1,2,3,4,5,6,7,8,9,10,11,12,13,14]]
def KI3:List (List Nat):=[[],[0],[1],[2],[],[4],[5],[6],[3,7],[8],[9],[10],[10],[],[11,13],[12]]
def KI4:List (List Nat):=[[],[0],[0,1],[0,1,2],[],[4],[4,5],[4,5,6],[0,1,2,3,4,5,6,7],[0,1,2,3,4,5,6,7,8],[0,1,2,3,4,5,6,7,8,9],[0,1,2,3,4,5,6,7,8,9,10],[0,1,2,3,4,5,6,7,8,9,10],[],[0,1,2,3,4,5,6,7,8,9,10,11,13],[0,1,2,3,4,5,6,7,8,9,10,11,12,13,14]]
theorem KLP:KA6 Go.Proofs.Tryz.f93 3 KI2 KI3 KI4=true:=by kernel_rfl
theorem KJ4:KCs 16 KI2 KI3 KI4 [0,1,2,4,0,16,32,64,136,256,512,1024,1024,0,12287,32767] [0,1,2,4,0,16,32,64,136,256,512,1024,1024,0,10240,4096] [0,1,3,7,0,16,48,112,255,511,1023,2047,2047,0,12287,32767]=true:=by kernel_rfl
def Ju (x0:Option Addr):M (Array Value × Bool):=do
 let Xx2←mkB KP (#[.int .i64 0,.string ByteArray.empty,.int .i64 0,.int .i64 0]:Array Value)
 let Xx5←Jz x0
 M.ite (!Xx5) (do
  M.need ((#[.int .i64 0,.string ByteArray.empty,.int .i64 0,.int .i64 0]:Array Value).size=4)
  stG Xx2 (#[.int .i64 0,.string ByteArray.empty,.int .i64 0,.int .i64 0]:Array Value)
  let Rr8←ldG 4 Xx2
  M.pure (Rr8,false)
  ) (do
  let Xx10←nilP x0
  let Xx11←nilP x0
  let Xx12←ldS ((Xx10).add 0)
  let Xx13←ldI .i64 ((Xx11).add 1)
  let Xx14←slS Xx12 Xx13 Xx12.size
  let y_19←do
   M.both (do
    let Xx15←KAd Xx14
    chk (fun h:Heap=>(KV h ((Xx10).add 0)=some (.string Xx12))∧(KV h ((Xx11).add 1)=some (.int .i64 Xx13)))
    let Xx16←mkB KP (#[.int .i64 0,.string ByteArray.empty,.int .i64 0,.int .i64 0]:Array Value)
    chk (fun h:Heap=>(KV h ((Xx10).add 0)=some (.string Xx12))∧(KV h ((Xx11).add 1)=some (.int .i64 Xx13)))
    M.pure (Xx16,Xx15,Xx15,Xx15.1,Xx15.2)
    ) (do
    let Xx17←mkB KP (#[.int .i64 0,.string ByteArray.empty,.int .i64 0,.int .i64 0]:Array Value)
    chk (fun h:Heap=>(KV h ((Xx10).add 0)=some (.string Xx12))∧(KV h ((Xx11).add 1)=some (.int .i64 Xx13)))
    let Xx18←KAd Xx14
    M.pure (Xx17,Xx18,Xx18,Xx18.1,Xx18.2)
    )
  M.need (y_19.2.2.2.1.size=4)
  stG y_19.1 y_19.2.2.2.1
  let Xx22←nilP x0
  let Xx23←ldI .i64 ((Xx22).add 1)
  stV ((y_19.1).add 3) (.int .i64 Xx23)
  let Xx27←M.ite (y_19.2.2.2.2 == 0) (do
   M.pure true
   ) (do
   let Xx28←ldG 4 y_19.1
   let Xx29←Xt Xx28
   M.pure (Xx29 != 0)
   )
  M.ite Xx27 (do
   M.need ((#[.int .i64 0,.string ByteArray.empty,.int .i64 0,.int .i64 0]:Array Value).size=4)
   stG Xx2 (#[.int .i64 0,.string ByteArray.empty,.int .i64 0,.int .i64 0]:Array Value)
   let Rr32←ldG 4 Xx2
   M.pure (Rr32,false)
   ) (do
   let Xx34←nilP x0
   let Xx35←ldI .i64 ((Xx34).add 1)
   let Xx36←nilP x0
   stV ((Xx36).add 1) (.int .i64 (IntKind.wrap .i64 (Xx35+y_19.2.2.2.2)))
   let Xx39←ldG 4 y_19.1
   M.need (Xx39.size=4)
   stG Xx2 Xx39
   let Rr41←ldG 4 Xx2
   M.pure (Rr41,true)
   )
  )
theorem qj (x0:Option Addr):Kz Go.Proofs.Tryz.prog 93 #[.pointer x0] (fun (r:Array Value × Bool)=>.tuple #[.agg r.1,.bool r.2]) (Ju x0):=by
 refine KEb [(0,.pointer x0)] Go.Proofs.Tryz.func93 rfl rfl (Nat.le_of_ble_eq_true rfl) (V9 ⟨rfl,trivial⟩) (fun w0 w Q R a hret hE hR H=>?_)
 unfold Ju at H
 refine KZ (fun K hK_1=>?_)
 refine KF ?_
 obtain ⟨Xx2,qXx2,H⟩:=H
 refine W5 (v:=.pointer (some Xx2)) rfl rfl hE rfl hR (U7 zr29 qXx2) (fun a w hE hR hh=>?_)
 replace H:=M.at hh H; clear hh
 refine KD (v:=.bool false) rfl rfl hE rfl (Kc hE rfl) (fun a hE=>?_)
 refine KY ?_
 refine hK_1 _ _ ?_
 refine KZ (fun K hK_3=>?_)
 refine KZ (fun K hK_4=>?_)
 refine KF ?_
 refine KD (v:=.pointer x0) rfl rfl hE rfl (KG hE rfl) (fun a hE=>?_)
 refine UZ hE hR WL rfl (Wj x0) (M.unbind H) (fun Xx5 a w ea hR H=>?_)
 have hE:=Env.put_some hE rfl ea; clear ea
 refine KD (v:=.bool (!Xx5)) rfl rfl hE rfl (r_un hE rfl KHb) (fun a hE=>?_)
 refine KY ?_
 refine hK_4 _ _ ?_
 refine JP (!Xx5) hE rfl (fun hb=>?_) (fun hb=>?_)
 ·replace H:=M.ite_t hb H
  refine KZ (fun K hK_6=>?_)
  refine KF ?_
  refine KD (v:=.agg (#[.int .i64 0,.string ByteArray.empty,.int .i64 0,.int .i64 0]:Array Value)) rfl rfl hE rfl (zu bd29) (fun a hE=>?_)
  obtain ⟨qz,H⟩:=H
  obtain ⟨u_7,qu_7,H⟩:=H
  refine Uk rfl rfl hE hR (JM hE rfl rfl sz29 qz qu_7) (fun a w hE hR hh=>?_)
  replace H:=M.at hh H; clear hh
  refine KD (v:=.bool false) rfl rfl hE rfl (Kc hE rfl) (fun a hE=>?_)
  refine KY ?_
  refine hK_6 _ _ ?_
  refine WJ ?_
  obtain ⟨Rr8,qRr8,H⟩:=H
  exact hret _ _ _ (Rr8,false) _ hE hR (Z5 hE rfl (RV.cellG rfl ag29 qRr8 (RV.tmp rfl RV.nil))) rfl H
 ·replace H:=M.ite_f hb H
  refine UE ?_
  refine hK_3 _ _ ?_
  refine KZ (fun K hK_9=>?_)
  obtain ⟨Xx10,qXx10,H⟩:=H
  obtain ⟨Xx11,qXx11,H⟩:=H
  obtain ⟨Xx12,qXx12,H⟩:=H
  obtain ⟨Xx13,qXx13,H⟩:=H
  obtain ⟨Xx14,qXx14,H⟩:=H
  refine XP (rops:=KI1) (by kernel_rfl) ?_
  have hT:Tab KI1 _ _ _:=W6 KLP rfl (by kernel_rfl)
  have hM:=TabM.of KJ4
  refine U9 (m:=16) (fun w:World=>(fun h:Heap=>(KV h ((Xx10).add 0)=some (.string Xx12))∧(KV h ((Xx11).add 1)=some (.int .i64 Xx13))) w.heap) [8,9,10,11,12,14,15] (unb 16 0) mo hR (by kernel_rfl) (by kernel_rfl) (fun w' e=>by rw [e]; exact ⟨qXx12,qXx13⟩) (fun w hh hR hs=>?_)
  replace H:=M.at hh H; clear hh
  refine KC (i:=0) (v:=.pointer x0) (unb 16 1) rfl rfl hT (anyM hM (by kernel_rfl)) hE rfl (KA rfl) (fun w=>KG hE rfl) (fun a hE=>?_)
  refine KC (i:=1) (v:=.pointer (some Xx10)) (unb 16 3) rfl rfl hT (anyM hM (by kernel_rfl)) hE rfl (KA rfl) (fun w=>KM hE (Z6 rfl (congrArg Value.pointer qXx10))) (fun a hE=>?_)
  refine KC (i:=2) (v:=.pointer (some ((Xx10).add 0))) (unb 16 7) rfl rfl hT (anyM hM (by kernel_rfl)) hE rfl (KA rfl) (fun w=>KL hE rfl KLN) (fun a hE=>?_)
  refine KC (i:=4) (v:=.pointer x0) (unb 16 23) rfl rfl hT (anyM hM (by kernel_rfl)) hE rfl (KA rfl) (fun w=>KG hE rfl) (fun a hE=>?_)
  refine KC (i:=5) (v:=.pointer (some Xx11)) (unb 16 55) rfl rfl hT (anyM hM (by kernel_rfl)) hE rfl (KA rfl) (fun w=>KM hE (Z6 rfl (congrArg Value.pointer qXx11))) (fun a hE=>?_)
  refine KC (i:=6) (v:=.pointer (some ((Xx11).add 1))) (unb 16 119) rfl rfl hT (anyM hM (by kernel_rfl)) hE rfl (KA rfl) (fun w=>KL hE rfl KDC) (fun a hE=>?_)
  refine Jw (i:=3) (v:=.string Xx12) (unb 16 127) rfl rfl hT (WA hM (by kernel_rfl)) hE rfl (KA rfl) hs (fun w s=>ZO hE rfl sc9 s.1) (fun a hE=>?_)
  refine Jw (i:=7) (v:=.int .i64 Xx13) (unb 16 255) rfl rfl hT (WA hM (by kernel_rfl)) hE rfl (KA rfl) hs (fun w s=>ZO hE rfl sc3 s.2) (fun a hE=>?_)
  refine KC (i:=8) (v:=.string Xx14) (unb 16 511) rfl rfl hT (anyM hM (by kernel_rfl)) hE rfl (KA rfl) (fun w=>KBR hE rfl rfl un9 qXx14) (fun a hE=>?_)
  refine KKX (n:=(⟨45,[]⟩:Frm)) (w0:=w0) (fun y_19:Addr × (Array Value × Int) × (Array Value × Int) × Array Value × Int=>[(0,.pointer x0),(2,.pointer (some Xx2)),(3,.bool false),(6,.pointer x0),(7,.bool Xx5),(8,.bool (!Xx5)),(11,.pointer x0),(12,.pointer (some Xx10)),(13,.pointer (some ((Xx10).add 0))),(15,.pointer x0),(16,.pointer (some Xx11)),(17,.pointer (some ((Xx11).add 1))),(14,.string Xx12),(18,.int .i64 Xx13),(19,.string Xx14),(4,.pointer (some y_19.1)),(10,.tuple #[.agg y_19.2.1.1,.int .i64 y_19.2.1.2]),(20,.tuple #[.agg y_19.2.2.1.1,.int .i64 y_19.2.2.1.2]),(21,.agg y_19.2.2.2.1),(22,.int .i64 y_19.2.2.2.2)]) 2 (unb 16 16383) (M.unbind H) ?_ ?_
  ·intro y_19 a w hE hR H
   obtain ⟨qz,H⟩:=H
   obtain ⟨u_20,qu_20,H⟩:=H
   refine KAJ (i:=14) (unb 16 32767) rfl rfl hT (oneM hM (by kernel_rfl)) rfl hE hR (KA rfl) (JM hE rfl rfl sz29 qz qu_20)  (fun a w hE hR hh=>?_)
   replace H:=M.at hh H; clear hh
   refine KC (i:=15) (v:=.int .i64 y_19.2.2.2.2) (unb 16 65535) rfl rfl hT (anyM hM (by kernel_rfl)) hE rfl (KA rfl) (fun w=>Kc hE rfl) (fun a hE=>?_)
   refine Wg hT (qw hM (by kernel_rfl)) ?_
   refine hK_9 _ _ ?_
   refine KZ (fun K hK_21=>?_)
   refine KF ?_
   refine KD (v:=.pointer x0) rfl rfl hE rfl (KG hE rfl) (fun a hE=>?_)
   obtain ⟨Xx22,qXx22,H⟩:=H
   refine KD (v:=.pointer (some Xx22)) rfl rfl hE rfl (KM hE (Z6 rfl (congrArg Value.pointer qXx22))) (fun a hE=>?_)
   refine KD (v:=.pointer (some ((Xx22).add 1))) rfl rfl hE rfl (KL hE rfl KDC) (fun a hE=>?_)
   obtain ⟨Xx23,qXx23,H⟩:=H
   refine KD (v:=.int .i64 Xx23) rfl rfl hE rfl (ZO hE rfl sc3 qXx23) (fun a hE=>?_)
   refine KD (v:=.pointer (some ((y_19.1).add 3))) rfl rfl hE rfl (KL hE rfl KI0) (fun a hE=>?_)
   obtain ⟨u_24,qu_24,H⟩:=H
   refine Uk rfl rfl hE hR (Zn hE rfl rfl sz3 qu_24) (fun a w hE hR hh=>?_)
   replace H:=M.at hh H; clear hh
   refine KY ?_
   refine hK_21 _ _ ?_
   refine KZ (fun K hK_25=>?_)
   refine KZ (fun K hK_26=>?_)
   refine KF ?_
   refine KD (v:=.int .i64 y_19.2.2.2.2) rfl rfl hE rfl (KG hE rfl) (fun a hE=>?_)
   refine KD (v:=.bool (y_19.2.2.2.2 == 0)) rfl rfl hE rfl (ZS hE rfl rfl ZI Yp) (fun a hE=>?_)
   refine KD (v:=.bool (y_19.2.2.2.2 == 0)) rfl rfl hE rfl (KG hE rfl) (fun a hE=>?_)
   refine KCp (n:=(⟨45,[]⟩:Frm)) (w0:=w0) 4 (fun Xx27:Bool=>[(0,.pointer x0),(2,.pointer (some Xx2)),(4,.pointer (some y_19.1)),(5,.int .i64 y_19.2.2.2.2),(34,.bool Xx27)]) (M.unbind H) (fun Kr hKr H=>?_) ?_
   ·rcases U8 (y_19.2.2.2.2 == 0) with hb | hb
    ·replace H:=M.ite_t hb H
     have hE:=hE.reb 30 (y_19.2.2.2.2 == 0) true hb rfl
     refine XU rfl hE rfl rfl rfl (fun a ea=>?_)
     have hE:=Env.put_some hE rfl ea; clear ea
     refine XU rfl hE rfl rfl rfl (fun a ea=>?_)
     have hE:=Env.put_some hE rfl ea; clear ea
     refine XU rfl hE rfl rfl rfl (fun a ea=>?_)
     have hE:=Env.put_some hE rfl ea; clear ea
     refine KD rfl rfl hE rfl (Jv hE rfl rfl) (fun a hE=>?_)
     refine KY ?_
     exact hKr _ _ _ (hE.cut (.cons rfl (.cons rfl (.cons rfl (.cons rfl (.cons rfl Subs.nil)))))) hR H
    ·replace H:=M.ite_f hb H
     have hE:=hE.reb 30 (y_19.2.2.2.2 == 0) false hb rfl
     refine t_on rfl hE rfl rfl rfl ?_
     obtain ⟨Xx28,qXx28,H⟩:=H
     refine KD (v:=.agg Xx28) rfl rfl hE rfl (qv hE rfl ag29 qXx28) (fun a hE=>?_)
     refine t_on rfl hE rfl rfl rfl ?_
     refine UZ hE hR KC6 rfl (KEA Xx28) (M.unbind H) (fun Xx29 a w ea hR H=>?_)
     have hE:=Env.put_some hE rfl ea; clear ea
     refine t_on rfl hE rfl rfl rfl ?_
     refine KD (v:=.bool (Xx29 != 0)) rfl rfl hE rfl (ZS hE rfl rfl ZI KCn) (fun a hE=>?_)
     refine KD rfl rfl hE rfl (JL hE rfl rfl) (fun a hE=>?_)
     refine KY ?_
     exact hKr _ _ _ (hE.cut (.cons rfl (.cons rfl (.cons rfl (.cons rfl (.cons rfl Subs.nil)))))) hR H
   ·intro Xx27 a w hE hR H
    refine KY ?_
    refine hK_26 _ _ ?_
    refine JP Xx27 hE rfl (fun hb=>?_) (fun hb=>?_)
    ·replace H:=M.ite_t hb H
     refine KZ (fun K hK_30=>?_)
     refine KF ?_
     refine KD (v:=.agg (#[.int .i64 0,.string ByteArray.empty,.int .i64 0,.int .i64 0]:Array Value)) rfl rfl hE rfl (zu bd29) (fun a hE=>?_)
     obtain ⟨qz,H⟩:=H
     obtain ⟨u_31,qu_31,H⟩:=H
     refine Uk rfl rfl hE hR (JM hE rfl rfl sz29 qz qu_31) (fun a w hE hR hh=>?_)
     replace H:=M.at hh H; clear hh
     refine KD (v:=.bool false) rfl rfl hE rfl (Kc hE rfl) (fun a hE=>?_)
     refine KY ?_
     refine hK_30 _ _ ?_
     refine WJ ?_
     obtain ⟨Rr32,qRr32,H⟩:=H
     exact hret _ _ _ (Rr32,false) _ hE hR (Z5 hE rfl (RV.cellG rfl ag29 qRr32 (RV.tmp rfl RV.nil))) rfl H
    ·replace H:=M.ite_f hb H
     refine UE ?_
     refine hK_25 _ _ ?_
     refine KZ (fun K hK_33=>?_)
     refine KF ?_
     refine KD (v:=.pointer x0) rfl rfl hE rfl (KG hE rfl) (fun a hE=>?_)
     obtain ⟨Xx34,qXx34,H⟩:=H
     refine KD (v:=.pointer (some Xx34)) rfl rfl hE rfl (KM hE (Z6 rfl (congrArg Value.pointer qXx34))) (fun a hE=>?_)
     refine KD (v:=.pointer (some ((Xx34).add 1))) rfl rfl hE rfl (KL hE rfl KDC) (fun a hE=>?_)
     obtain ⟨Xx35,qXx35,H⟩:=H
     refine KD (v:=.int .i64 Xx35) rfl rfl hE rfl (ZO hE rfl sc3 qXx35) (fun a hE=>?_)
     refine KD (v:=.int .i64 y_19.2.2.2.2) rfl rfl hE rfl (KG hE rfl) (fun a hE=>?_)
     refine KD (v:=.int .i64 (IntKind.wrap .i64 (Xx35+y_19.2.2.2.2))) rfl rfl hE rfl (ZS hE rfl rfl ZI Xb) (fun a hE=>?_)
     obtain ⟨Xx36,qXx36,H⟩:=H
     refine KD (v:=.pointer (some Xx36)) rfl rfl hE rfl (KM hE (Z6 rfl (congrArg Value.pointer qXx36))) (fun a hE=>?_)
     refine KD (v:=.pointer (some ((Xx36).add 1))) rfl rfl hE rfl (KL hE rfl KDC) (fun a hE=>?_)
     obtain ⟨u_37,qu_37,H⟩:=H
     refine Uk rfl rfl hE hR (Zn hE rfl rfl sz3 qu_37) (fun a w hE hR hh=>?_)
     replace H:=M.at hh H; clear hh
     refine KY ?_
     refine hK_33 _ _ ?_
     refine KZ (fun K hK_38=>?_)
     refine KF ?_
     obtain ⟨Xx39,qXx39,H⟩:=H
     refine KD (v:=.agg Xx39) rfl rfl hE rfl (qv hE rfl ag29 qXx39) (fun a hE=>?_)
     obtain ⟨qz,H⟩:=H
     obtain ⟨u_40,qu_40,H⟩:=H
     refine Uk rfl rfl hE hR (JM hE rfl rfl sz29 qz qu_40) (fun a w hE hR hh=>?_)
     replace H:=M.at hh H; clear hh
     refine KD (v:=.bool true) rfl rfl hE rfl (Kc hE rfl) (fun a hE=>?_)
     refine KY ?_
     refine hK_38 _ _ ?_
     refine WJ ?_
     obtain ⟨Rr41,qRr41,H⟩:=H
     exact hret _ _ _ (Rr41,true) _ hE hR (Z5 hE rfl (RV.cellG rfl ag29 qRr41 (RV.tmp rfl RV.nil))) rfl H
  ·intro hj H
   refine KKY [9,13] hT (by kernel_rfl) rfl (fun i hi=>?_)
   simp only [List.mem_cons,List.not_mem_nil,or_false] at hi
   rcases hi with rfl | rfl
   ·replace H:=H.1
    refine KKZ (S:=fun w:World=>(fun h:Heap=>(KV h ((Xx10).add 0)=some (.string Xx12))∧(KV h ((Xx11).add 1)=some (.int .i64 Xx13))) w.heap) (i:=9) (unb 16 1023) rfl rfl rfl (by kernel_rfl) hE hR (KA rfl) KBX rfl (KDO Xx14) (M.unbind H) (fun r h H w' e=>by obtain ⟨_,sA,H⟩:=H; rw [e]; exact sA) (fun Xx15 a w ea hR H hs=>?_)
    obtain ⟨_,sA,H⟩:=H; clear sA
    have hE:=Env.put_some hE rfl ea; clear ea
    refine KC (i:=10) (v:=.tuple #[.agg Xx15.1,.int .i64 Xx15.2]) (unb 16 2047) rfl rfl hT (anyM hM (by kernel_rfl)) hE rfl (KA rfl) (fun w=>KG hE rfl) (fun a hE=>?_)
    refine KC (i:=11) (v:=.agg Xx15.1) (unb 16 4095) rfl rfl hT (anyM hM (by kernel_rfl)) hE rfl (KA rfl) (fun w=>UY hE rfl rfl) (fun a hE=>?_)
    refine KC (i:=12) (v:=.int .i64 Xx15.2) (unb 16 8191) rfl rfl hT (anyM hM (by kernel_rfl)) hE rfl (KA rfl) (fun w=>UY hE rfl rfl) (fun a hE=>?_)
    obtain ⟨Xx16,qXx16,H⟩:=H
    obtain ⟨_,sA,H⟩:=H
    refine KKa (i:=13) (v:=.pointer (some Xx16)) (unb 16 16383) rfl rfl hT (oneM hM (by kernel_rfl)) rfl hE hR rfl (KA rfl) (U7 zr29 qXx16)  (fun w' e=>by rw [e]; exact sA) (fun a w hE hR hh hs=>?_)
    replace H:=M.at hh H; clear hh
    exact hj _ _ _ (hE.cut (.cons rfl (.cons rfl (.cons rfl (.cons rfl (.cons rfl (.cons rfl (.cons rfl (.cons rfl (.cons rfl (.cons rfl (.cons rfl (.cons rfl (.cons rfl (.cons rfl (.cons rfl (.cons rfl (.cons rfl (.cons rfl (.cons rfl (.cons rfl Subs.nil))))))))))))))))))))) hR H
   ·replace H:=H.2
    obtain ⟨Xx17,qXx17,H⟩:=H
    obtain ⟨_,sA,H⟩:=H
    refine KKb (S:=fun w:World=>(fun h:Heap=>(KV h ((Xx10).add 0)=some (.string Xx12))∧(KV h ((Xx11).add 1)=some (.int .i64 Xx13))) w.heap) (i:=13) (v:=.pointer (some Xx17)) (unb 16 8703) rfl rfl (by kernel_rfl) hE hR rfl (KA rfl) (U7 zr29 qXx17)  (fun w' e=>by rw [e]; exact sA) (fun a w hE hR hh hs=>?_)
    replace H:=M.at hh H; clear hh
    refine KF6 (i:=9) (unb 16 9215) rfl rfl rfl hT (oneM hM (by kernel_rfl)) rfl hE hR (KA rfl) KBX rfl (KDO Xx14) (M.unbind H) (fun Xx18 a w ea hR H=>?_)
    have hE:=Env.put_some hE rfl ea; clear ea
    refine KC (i:=10) (v:=.tuple #[.agg Xx18.1,.int .i64 Xx18.2]) (unb 16 10239) rfl rfl hT (anyM hM (by kernel_rfl)) hE rfl (KA rfl) (fun w=>KG hE rfl) (fun a hE=>?_)
    refine KC (i:=11) (v:=.agg Xx18.1) (unb 16 12287) rfl rfl hT (anyM hM (by kernel_rfl)) hE rfl (KA rfl) (fun w=>UY hE rfl rfl) (fun a hE=>?_)
    refine KC (i:=12) (v:=.int .i64 Xx18.2) (unb 16 16383) rfl rfl hT (anyM hM (by kernel_rfl)) hE rfl (KA rfl) (fun w=>UY hE rfl rfl) (fun a hE=>?_)
    exact hj _ _ _ (hE.cut (.cons rfl (.cons rfl (.cons rfl (.cons rfl (.cons rfl (.cons rfl (.cons rfl (.cons rfl (.cons rfl (.cons rfl (.cons rfl (.cons rfl (.cons rfl (.cons rfl (.cons rfl (.cons rfl (.cons rfl (.cons rfl (.cons rfl (.cons rfl Subs.nil))))))))))))))))))))) hR H
noncomputable def qk:CalleeS Go.Proofs.Tryz.prog:=mkC ND NL [.P] [.G,.B] (fun (t:Option Addr)=>Ju t) (fun (t:Option Addr)=>qj t)
def VL (C1:Value) (C2:Addr) (self1:(Unit)→M (Unit)):(Unit)→M (Unit):=fun s=>match s with
 | ()=>do
  let Xx5←ldP C2
  let Xx6←Ju Xx5
  let Xx7←mkB KP (#[.int .i64 0,.string ByteArray.empty,.int .i64 0,.int .i64 0]:Array Value)
  M.need (Xx6.1.size=4)
  stG Xx7 Xx6.1
  let Xx10←M.ite (!Xx6.2) (do
   M.pure true
   ) (do
   let Xx11←ldG 4 Xx7
   let Xx12←YP Go.Proofs.Tryz.prog (fun r:Bool=>.bool r) C1 [.agg Xx11]
   M.pure (!Xx12)
   )
  M.ite Xx10 (do
   M.pure ()
   ) (do
   self1 ()
   )
def Y3 (x0:Value) (x1:Addr):M (Unit):=do
 M.loop (VL x0 x1) ()
theorem Nq (x0:Value) (x1:Addr):Kz Go.Proofs.Tryz.prog 92 #[x0,.pointer (some x1)] (fun (r:Unit)=>.tuple #[]) (Y3 x0 x1) :=
 KO [qk] [6] [] [(0,.V x0),(1,.A x1)] (.b (.l [(0,.V),(1,.A)] [] (fun (t:Value × Addr)=>VL t.1 t.2) (fun _=>.o))) Go.Proofs.Tryz.func92 rfl rfl ⟨rfl,rfl,trivial⟩ rfl (by kernel_rfl) (by kernel_rfl)
def Vr (C5:Sl) (C6:Int) (self1:(Int)→M (Bool)):(Int)→M (Bool):=fun s=>match s with
 | Xx4=>do
  M.ite (decide (Xx4 < (C5.len:Int))) (do
   let Xx12←ixL C5 Xx4 4
   let Xx13←ldG 4 Xx12
   let Xx14←Y8 Go.Proofs.Tryz.prog Uj #[.agg Xx13,.int .i64 (IntKind.wrap .i64 (C6+1))] (fun r:Bool=>.bool r)
   M.ite (!Xx14) (do
    M.pure false
    ) (do
    self1 (IntKind.wrap .i64 (Xx4+1))
    )
   ) (do
   M.pure true
   )
def YI (x0:Sl) (x1:Int):M (Bool):=do
 M.loop (Vr x0 x1) 0
theorem zS (x0:Sl) (x1:Int):Kz Go.Proofs.Tryz.prog 109 #[(x0:Sl).v,.int .i64 x1] (fun (r:Bool)=>.bool r) (YI x0 x1) :=
 KO [mkC Uj Yd [.G,.I .i64] [.B] (fun (t:Array Value × Int)=>Y8 Go.Proofs.Tryz.prog Uj #[.agg t.1,.int .i64 t.2] (fun r:Bool=>.bool r)) (fun (t:Array Value × Int)=>VR)] [] [.B] [(0,.L x0),(1,.I .i64 x1)] (.q .o (.q (.q .o (.b (.l [(0,.L),(1,.I .i64)] [(5,.I .i64)] (fun (t:Sl × Int)=>Vr t.1 t.2) (fun _=>.o)))) .o)) Go.Proofs.Tryz.func109 rfl rfl ⟨rfl,rfl,trivial⟩ rfl (by kernel_rfl) (by kernel_rfl)
def Vs (C6:Addr) (C7:Addr):M (Array Value):=do
 let Xx9←ldG 4 C7
 M.need (Xx9.size=4)
 stG C6 Xx9
 let Rr11←ldG 4 C6
 M.pure Rr11
def Y4 (x0:Bool):M (Array Value):=do
 let Xx2←mkB KE (#[.int .i64 0,.int .i64 0,.string ByteArray.empty,.slice none 0 0]:Array Value)
 let Xx4←mkB KE (#[.int .i64 0,.int .i64 0,.string ByteArray.empty,.slice none 0 0]:Array Value)
 M.need ((#[.int .i64 3,.int .i64 0,.string ByteArray.empty,.slice none 0 0]:Array Value).size=4)
 stG Xx4 (#[.int .i64 3,.int .i64 0,.string ByteArray.empty,.slice none 0 0]:Array Value)
 M.ite x0 (do
  stV ((Xx4).add 1) (.int .i64 1)
  Vs Xx2 Xx4
  ) (do
  Vs Xx2 Xx4
  )
theorem zk (x0:Bool):Kz Go.Proofs.Tryz.prog 152 #[.bool x0] (fun (r:Array Value)=>.agg r) (Y4 x0) :=
 KO [] [] [.G] [(0,.B x0)] (.q .o (.q .o (.q .o (.j [(2,.A),(3,.A)] (fun (t:Addr × Addr)=>Vs t.1 t.2) .o)))) Go.Proofs.Tryz.func152 rfl rfl ⟨rfl,trivial⟩ rfl (by kernel_rfl) (by kernel_rfl)
def Jp (C14:Option Addr) (C15:Int) (C16:ByteArray) (C17:Int) (self1:(Sl)→M (Sl)):(Sl)→M (Sl):=fun s=>match s with
 | Xx13=>do
  let Xx21←nilP C14
  let Xx22←ldI .i64 ((Xx21).add 2)
  M.ite (decide (Xx22 < 0)) (do
   let Xx24←Y8 Go.Proofs.Tryz.prog ZY #[.pointer C14,.int .i64 (IntKind.wrap .i64 (C15+1))] (fun r:Array Value=>.agg r)
   let y_26←N4 4 1 (#[.int .i64 0,.int .i64 0,.string ByteArray.empty,.slice none 0 0]:Array Value) [(0,.agg Xx24)]
   let Xx25←bdL KE 1 y_26
   let Xx27←apL KE 4 56 (#[.int .i64 0,.int .i64 0,.string ByteArray.empty,.slice none 0 0]:Array Value) Xx13 Xx25
   let Xx29←M.ite (sEq C16 (⟨#[44,32]⟩:ByteArray)) (do
    M.pure true
    ) (do
    M.pure ((Int.tmod (Xx27.len:Int) 2) == 0)
    )
   let Xx32←M.ite Xx29 (do
    let Xx33←KR C14
    M.pure (Xx33 == C17)
    ) (do
    M.pure false
    )
   M.ite Xx32 (do
    let Xx35←nilP C14
    let Xx36←ldI .i64 ((Xx35).add 1)
    let Xx37←nilP C14
    stV ((Xx37).add 1) (.int .i64 (IntKind.wrap .i64 (Xx36+1)))
    M.pure Xx27
    ) (do
    M.ite ((Int.tmod (Xx27.len:Int) 2) == 1) (do
     let Xx41←KN C14 C16
     self1 Xx27
     ) (do
     let Xx42←KN C14 (⟨#[44,32]⟩:ByteArray)
     self1 Xx27
     )
    )
   ) (do
   M.pure Sl.nil
   )
def UW (x0:Option Addr) (x1:Int) (x2:ByteArray) (x3:Int):M (Sl):=do
 let Xx5←KR x0
 M.ite (Xx5 == x3) (do
  let Xx7←nilP x0
  let Xx8←ldI .i64 ((Xx7).add 1)
  let Xx9←nilP x0
  stV ((Xx9).add 1) (.int .i64 (IntKind.wrap .i64 (Xx8+1)))
  M.pure Sl.nil
  ) (do
  M.loop (Jp x0 x1 x2 x3) Sl.nil
  )
theorem VO (x0:Option Addr) (x1:Int) (x2:ByteArray) (x3:Int):Kz Go.Proofs.Tryz.prog 187 #[.pointer x0,.int .i64 x1,.string x2,.int .u8 x3] (fun (r:Sl)=>(r:Sl).v) (UW x0 x1 x2 x3) :=
 KO [mkC ZY Us [.P,.I .i64] [.G] (fun (t:Option Addr × Int)=>Y8 Go.Proofs.Tryz.prog ZY #[.pointer t.1,.int .i64 t.2] (fun r:Array Value=>.agg r)) (fun (t:Option Addr × Int)=>VR),ZN,JN] [0,11,15,22,28,44,49,61,64] [.L] [(0,.P x0),(1,.I .i64 x1),(2,.S x2),(3,.I .u8 x3)] (.q .o (.q .o (.q .o (.q (.b (.l [(0,.P),(1,.I .i64),(2,.S),(3,.I .u8)] [(9,.L)] (fun (t:Option Addr × Int × ByteArray × Int)=>Jp t.1 t.2.1 t.2.2.1 t.2.2.2) (fun _=>.o))) .o)))) Go.Proofs.Tryz.func187 rfl rfl ⟨rfl,rfl,rfl,rfl,trivial⟩ rfl (by kernel_rfl) (by kernel_rfl)
end Gx
namespace Gx
open Go
set_option linter.unusedVariables false
set_option maxRecDepth 100000
def KAe (x0:Array Value) (x1:Addr):M (Bool):=do
 let Xx2←mkB KE x0
 let Xx4←ldG 4 Xx2
 let Xx5←ldI .i64 x1
 let Xx6←YG Xx4 (IntKind.wrap .i64 (Xx5+1))
 M.pure (!Xx6)
theorem KCH (x0:Array Value) (x1:Addr):Kz Go.Proofs.Tryz.prog 221 #[.agg x0,.pointer (some x1)] (fun (r:Bool)=>.bool r) (KAe x0 x1) :=
 KO [KAc] [] [.B] [(0,.G x0),(1,.A x1)] .o Go.Proofs.Tryz.func221 rfl rfl ⟨rfl,rfl,trivial⟩ rfl (by kernel_rfl) (by kernel_rfl)
def Kt (x0:Option Addr):M (Value ⊕ (Unit)):=do
 let Xx1←nilP x0
 let Xx2←ldI .i64 ((Xx1).add 1)
 M.pure (.inl (Value.iface Zw (.agg (#[.int .i64 Xx2]:Array Value))))
theorem ZD (x0:Option Addr):Yo Go.Proofs.Tryz.prog 228 #[.pointer x0] (fun (r:Unit)=>.tuple #[]) (Kt x0):=by
 refine WK [(0,.pointer x0)] Go.Proofs.Tryz.func228 rfl rfl (Nat.le_of_ble_eq_true rfl) (V9 ⟨rfl,trivial⟩) (fun w0 w Q R X a hret hthr hE hR H=>?_)
 unfold Kt at H
 refine KF ?_
 refine KD (v:=.pointer x0) rfl rfl hE rfl (KG hE rfl) (fun a hE=>?_)
 obtain ⟨Xx1,qXx1,H⟩:=H
 refine KD (v:=.pointer (some Xx1)) rfl rfl hE rfl (KM hE (Z6 rfl (congrArg Value.pointer qXx1))) (fun a hE=>?_)
 refine KD (v:=.pointer (some ((Xx1).add 1))) rfl rfl hE rfl (KL hE rfl ZT) (fun a hE=>?_)
 obtain ⟨Xx2,qXx2,H⟩:=H
 refine KD (v:=.int .i64 Xx2) rfl rfl hE rfl (ZO hE rfl sc3 qXx2) (fun a hE=>?_)
 refine KD (v:=.agg (#[.int .i64 Xx2]:Array Value)) rfl rfl hE rfl (XB hE rfl KLM KML (by rfl)) (fun a hE=>?_)
 refine KD (v:=(Value.iface Zw (.agg (#[.int .i64 Xx2]:Array Value)))) rfl rfl hE rfl (KCx hE rfl KMK) (fun a hE=>?_)
 exact KJk hE rfl (hthr _ _ hR H)
def Ki (x0:Option Addr):M (Int):=do
 let Xx4←nilP x0
 let Xx5←nilP x0
 let Xx6←ldI .i64 ((Xx4).add 1)
 let Xx7←ldS ((Xx5).add 0)
 M.ite (decide (Xx6 < (Xx7.size:Int))) (do
  let Xx9←nilP x0
  let Xx10←nilP x0
  let Xx11←ldS ((Xx9).add 0)
  let Xx12←ldI .i64 ((Xx10).add 1)
  let Xx13←ixS Xx11 Xx12
  M.pure Xx13
  ) (do
  M.pure 0
  )
theorem Kv (x0:Option Addr):Kz Go.Proofs.Tryz.prog 240 #[.pointer x0] (fun (r:Int)=>.int .u8 r) (Ki x0) :=
 KO [] [0,3,7,13,17] [.I .u8] [(0,.P x0)] (.q .o (.q (.q (.r [0,1,2,4,0,16,32,64,128,264] [0,1,2,4,0,16,32,64,128,264] [0,1,3,7,0,16,48,112,240,511] (.pu 0 (.pu 1 (.pu 2 (.pu 4 (.pu 5 (.pu 6 (.pu 3 (.pu 7 (.pu 8 (.pu 9 (.st [9] .dn)))))))))))) (.q (.q (.r [0,1,2,4,0,16,32,64,136,511] [0,1,2,4,0,16,32,64,136,256] [0,1,3,7,0,16,48,112,255,511] (.pu 0 (.pu 1 (.pu 2 (.pu 4 (.pu 5 (.pu 6 (.pu 3 (.pu 7 (.pu 8 (.pu 9 (.st [8,9] .dn)))))))))))) .o) .o)) .o)) Go.Proofs.Tryz.func240 rfl rfl ⟨rfl,trivial⟩ rfl (by kernel_rfl) (by kernel_rfl)
def WG (x0:Int):M (Bool):=do
 let Xx3←M.ite (decide (x0 ≥ 48)) (do
  M.pure (decide (x0≤57))
  ) (do
  M.pure false
  )
 M.pure Xx3
theorem XK (x0:Int):Kz Go.Proofs.Tryz.prog 241 #[.int .u8 x0] (fun (r:Bool)=>.bool r) (WG x0) :=
 KO [] [] [.B] [(0,.I .u8 x0)] .o Go.Proofs.Tryz.func241 rfl rfl ⟨rfl,trivial⟩ rfl (by kernel_rfl) (by kernel_rfl)
end Gx
namespace Gx
open Go
set_option linter.unusedVariables false
set_option maxRecDepth 100000
noncomputable def KGZ:Array Oper:=KF5 Go.Proofs.Tryz.f242 9
def KGa:List (List Nat):=[[],[0],[1],[2],[],[],[5],[6],[7],[8],[3,4,9],[10],[11],[12],[12],[13,11,0,1,2,3,4,5,6,7,8,9,10,11,12,13],[14,15,0,1,2,3,4,5,6,7,8,9,10,11,12,13,14,15]]
def KGb:List (List Nat):=[[],[0],[1],[2],[],[],[5],[6],[7],[8],[3,4,9],[10],[11],[12],[12],[13],[14]]
def KGc:List (List Nat):=[[],[0],[0,1],[0,1,2],[],[],[5],[5,6],[5,6,7],[5,6,7,8],[0,1,2,3,4,5,6,7,8,9],[0,1,2,3,4,5,6,7,8,9,10],[0,1,2,3,4,5,6,7,8,9,10,11],[0,1,2,3,4,5,6,7,8,9,10,11,12],[0,1,2,3,4,5,6,7,8,9,10,11,12],[0,1,2,3,4,5,6,7,8,9,10,11,12,13],[0,1,2,3,4,5,6,7,8,9,10,11,12,13,14,15]]
theorem KJ5:KA6 Go.Proofs.Tryz.f242 9 KGa KGb KGc=true:=by kernel_rfl
theorem KH8:KCs 17 KGa KGb KGc [0,1,2,4,0,0,32,64,128,256,536,1024,2048,4096,4096,16383,65535] [0,1,2,4,0,0,32,64,128,256,536,1024,2048,4096,4096,8192,16384] [0,1,3,7,0,0,32,96,224,480,1023,2047,4095,8191,8191,16383,65535]=true:=by kernel_rfl
def JC (self1:(Int)→M (Value ⊕ (Int))) (C29:Option Addr) (C31:Int) (C32:Int) (C33:Int):M (Value ⊕ (Int)):=do
 M.ite (C33 != 0) (do
  M.pure (.inr C31)
  ) (do
  let Xx38←nilP C29
  let Xx39←ldI .i64 ((Xx38).add 1)
  let Xx40←nilP C29
  stV ((Xx40).add 1) (.int .i64 (IntKind.wrap .i64 (Xx39+1)))
  self1 C32
  )
def Jn (C15:Option Addr) (C16:Int) (self1:(Int)→M (Value ⊕ (Int))):(Int)→M (Value ⊕ (Int)):=fun s=>match s with
 | Xx14=>do
  let Xx20←Ki C15
  let Xx21←WG Xx20
  M.ite Xx21 (do
   let Xx23←nilP C15
   let Xx24←nilP C15
   let Xx25←ldS ((Xx23).add 0)
   let Xx26←ldI .i64 ((Xx24).add 1)
   let Xx27←slS Xx25 C16 (IntKind.wrap .i64 (Xx26+1))
   let Xx28←Y8 Go.Proofs.Tryz.prog KC4 #[.string Xx27] (fun r:Int × Int=>.tuple #[.int .i64 r.1,.int .i64 r.2])
   M.ite (Xx28.2 == 7) (do
    thr (Kt C15) fun Xx43=>do
     JC self1 C15 Xx14 Xx28.1 Xx28.2
    ) (do
    JC self1 C15 Xx14 Xx28.1 Xx28.2
    )
   ) (do
   M.pure (.inr Xx14)
   )
def Zi (C10:Option Addr) (C11:Int):M (Value ⊕ (Int)):=do
 M.loop (Jn C10 C11) 0
def Zj (C5:Option Addr) (C6:Int):M (Value ⊕ (Int)):=do
 let Xx8←nilP C5
 let Xx9←ldI .i64 ((Xx8).add 1)
 let Xx46←Ki C5
 let Xx47←WG Xx46
 let Xx48←M.ite (!Xx47) (do
  M.pure true
  ) (do
  let Xx49←M.ite (decide (Xx9 > C6)) (do
   let Xx50←Ki C5
   M.pure (Xx50 == 48)
   ) (do
   M.pure false
   )
  M.pure Xx49
  )
 M.ite Xx48 (do
  thr (Kt C5) fun Xx51=>do
   Zi C5 C6
  ) (do
  Zi C5 C6
  )
def JF (x0:Option Addr):M (Value ⊕ (Int)):=do
 let Xx3←nilP x0
 let Xx4←ldI .i64 ((Xx3).add 1)
 let Xx53←Ki x0
 M.ite (Xx53 == 45) (do
  let Xx54←nilP x0
  let Xx55←ldI .i64 ((Xx54).add 1)
  let Xx56←nilP x0
  stV ((Xx56).add 1) (.int .i64 (IntKind.wrap .i64 (Xx55+1)))
  Zj x0 Xx4
  ) (do
  Zj x0 Xx4
  )
theorem WP (x0:Option Addr):Yo Go.Proofs.Tryz.prog 242 #[.pointer x0] (fun (r:Int)=>.int .i64 r) (JF x0):=by
 refine WK [(0,.pointer x0)] Go.Proofs.Tryz.func242 rfl rfl (Nat.le_of_ble_eq_true rfl) (V9 ⟨rfl,trivial⟩) (fun w0 w Q R X a hret hthr hE hR H=>?_)
 unfold JF at H
 refine KZ (fun K hK_1=>?_)
 refine KF ?_
 refine KD (v:=.int .i64 0) rfl rfl hE rfl (Kc hE rfl) (fun a hE=>?_)
 refine KY ?_
 refine hK_1 _ _ ?_
 refine KZ (fun K hK_2=>?_)
 refine KF ?_
 refine KD (v:=.pointer x0) rfl rfl hE rfl (KG hE rfl) (fun a hE=>?_)
 obtain ⟨Xx3,qXx3,H⟩:=H
 refine KD (v:=.pointer (some Xx3)) rfl rfl hE rfl (KM hE (Z6 rfl (congrArg Value.pointer qXx3))) (fun a hE=>?_)
 refine KD (v:=.pointer (some ((Xx3).add 1))) rfl rfl hE rfl (KL hE rfl ZT) (fun a hE=>?_)
 obtain ⟨Xx4,qXx4,H⟩:=H
 refine KD (v:=.int .i64 Xx4) rfl rfl hE rfl (ZO hE rfl sc3 qXx4) (fun a hE=>?_)
 refine KD (v:=.int .i64 Xx4) rfl rfl hE rfl (Kc hE rfl) (fun a hE=>?_)
 refine KY ?_
 refine hK_2 _ _ ?_
 refine JU (fun a w=>Env (⟨76,[]⟩:Frm) a [(0,.pointer x0),(3,.int .i64 Xx4)]∧Rest w0 w∧(Zj x0 Xx4).wp w.heap Q) ?_ ?_
 ·rintro a w ⟨hE,hR,H⟩
  unfold Zj at H
  refine KZ (fun K hK_7=>?_)
  refine KF ?_
  refine KD (v:=.pointer x0) rfl rfl hE rfl (KG hE rfl) (fun a hE=>?_)
  obtain ⟨Xx8,qXx8,H⟩:=H
  refine KD (v:=.pointer (some Xx8)) rfl rfl hE rfl (KM hE (Z6 rfl (congrArg Value.pointer qXx8))) (fun a hE=>?_)
  refine KD (v:=.pointer (some ((Xx8).add 1))) rfl rfl hE rfl (KL hE rfl ZT) (fun a hE=>?_)
  obtain ⟨Xx9,qXx9,H⟩:=H
  refine KD (v:=.int .i64 Xx9) rfl rfl hE rfl (ZO hE rfl sc3 qXx9) (fun a hE=>?_)
  refine KD (v:=.int .i64 Xx4) rfl rfl hE rfl (KG hE rfl) (fun a hE=>?_)
  refine KD (v:=.bool (decide (Xx9 > Xx4))) rfl rfl hE rfl (ZS hE rfl rfl ZI KCo) (fun a hE=>?_)
  refine KD (v:=.bool (decide (Xx9 > Xx4))) rfl rfl hE rfl (Kc hE rfl) (fun a hE=>?_)
  refine KY ?_
  refine hK_7 _ _ ?_
  refine JU (fun a w=>Env (⟨76,[]⟩:Frm) a [(0,.pointer x0),(3,.int .i64 Xx4)]∧Rest w0 w∧(Zi x0 Xx4).wp w.heap Q) ?_ ?_
  ·rintro a w ⟨hE,hR,H⟩
   unfold Zi at H
   refine KZ (fun K hK_12=>?_)
   refine KF ?_
   refine KD (v:=.int .i64 0) rfl rfl hE rfl (Kc hE rfl) (fun a hE=>?_)
   refine KY ?_
   refine hK_12 _ _ ?_
   refine KZ (fun K hK_13=>?_)
   refine WY ?_
   refine KCq (fun (s:Int)=>(⟨76,[]⟩:Frm)) (fun (s:Int)=>[(0,.pointer x0),(3,.int .i64 Xx4),(5,.int .i64 s)]) H (hE.cut (.cons rfl (.cons rfl (.cons rfl Subs.nil)))) hR (fun Y self1 hY_17 Xx14 a w hE hR H=>?_)
   replace hE:Env (⟨76,[]⟩:Frm) a [(0,.pointer x0),(3,.int .i64 Xx4),(5,.int .i64 Xx14)]:=hE
   replace H:(Jn x0 Xx4 self1 Xx14).wp w.heap Q:=H
   unfold Jn at H
   refine KZ (fun K hK_18=>?_)
   refine KZ (fun K hK_19=>?_)
   refine KF ?_
   refine KD (v:=.pointer x0) rfl rfl hE rfl (KG hE rfl) (fun a hE=>?_)
   refine UZ hE hR Kj rfl (Kv x0) (M.unbind H) (fun Xx20 a w ea hR H=>?_)
   have hE:=Env.put_some hE rfl ea; clear ea
   refine UZ hE hR Yj rfl (XK Xx20) (M.unbind H) (fun Xx21 a w ea hR H=>?_)
   have hE:=Env.put_some hE rfl ea; clear ea
   refine KY ?_
   refine hK_19 _ _ ?_
   refine JP Xx21 hE rfl (fun hb=>?_) (fun hb=>?_)
   ·replace H:=M.ite_t hb H
    refine UE ?_
    refine hK_18 _ _ ?_
    refine WY ?_
    refine KZ (fun K hK_22=>?_)
    obtain ⟨Xx23,qXx23,H⟩:=H
    obtain ⟨Xx24,qXx24,H⟩:=H
    obtain ⟨Xx25,qXx25,H⟩:=H
    obtain ⟨Xx26,qXx26,H⟩:=H
    obtain ⟨Xx27,qXx27,H⟩:=H
    refine XP (rops:=KGZ) (by kernel_rfl) ?_
    have hT:Tab KGZ _ _ _:=W6 KJ5 rfl (by kernel_rfl)
    have hM:=TabM.of KH8
    refine U9 (m:=17) (fun w:World=>(fun h:Heap=>(KV h ((Xx23).add 0)=some (.string Xx25))∧(KV h ((Xx24).add 1)=some (.int .i64 Xx26))) w.heap) [10,11,12,13,14,15,16] (unb 17 0) mo hR (by kernel_rfl) (by kernel_rfl) (fun w' e=>by rw [e]; exact ⟨qXx25,qXx26⟩) (fun w hh hR hs=>?_)
    replace H:=M.at hh H; clear hh
    refine KC (i:=0) (v:=.pointer x0) (unb 17 1) rfl rfl hT (anyM hM (by kernel_rfl)) hE rfl (KA rfl) (fun w=>KG hE rfl) (fun a hE=>?_)
    refine KC (i:=1) (v:=.pointer (some Xx23)) (unb 17 3) rfl rfl hT (anyM hM (by kernel_rfl)) hE rfl (KA rfl) (fun w=>KM hE (Z6 rfl (congrArg Value.pointer qXx23))) (fun a hE=>?_)
    refine KC (i:=2) (v:=.pointer (some ((Xx23).add 0))) (unb 17 7) rfl rfl hT (anyM hM (by kernel_rfl)) hE rfl (KA rfl) (fun w=>KL hE rfl Wf) (fun a hE=>?_)
    refine KC (i:=4) (v:=.int .i64 Xx4) (unb 17 23) rfl rfl hT (anyM hM (by kernel_rfl)) hE rfl (KA rfl) (fun w=>KG hE rfl) (fun a hE=>?_)
    refine KC (i:=5) (v:=.pointer x0) (unb 17 55) rfl rfl hT (anyM hM (by kernel_rfl)) hE rfl (KA rfl) (fun w=>KG hE rfl) (fun a hE=>?_)
    refine KC (i:=6) (v:=.pointer (some Xx24)) (unb 17 119) rfl rfl hT (anyM hM (by kernel_rfl)) hE rfl (KA rfl) (fun w=>KM hE (Z6 rfl (congrArg Value.pointer qXx24))) (fun a hE=>?_)
    refine KC (i:=7) (v:=.pointer (some ((Xx24).add 1))) (unb 17 247) rfl rfl hT (anyM hM (by kernel_rfl)) hE rfl (KA rfl) (fun w=>KL hE rfl ZT) (fun a hE=>?_)
    refine Jw (i:=3) (v:=.string Xx25) (unb 17 255) rfl rfl hT (WA hM (by kernel_rfl)) hE rfl (KA rfl) hs (fun w s=>ZO hE rfl sc9 s.1) (fun a hE=>?_)
    refine Jw (i:=8) (v:=.int .i64 Xx26) (unb 17 511) rfl rfl hT (WA hM (by kernel_rfl)) hE rfl (KA rfl) hs (fun w s=>ZO hE rfl sc3 s.2) (fun a hE=>?_)
    refine KC (i:=9) (v:=.int .i64 (IntKind.wrap .i64 (Xx26+1))) (unb 17 1023) rfl rfl hT (anyM hM (by kernel_rfl)) hE rfl (KA rfl) (fun w=>ZS hE rfl rfl ZI Xb) (fun a hE=>?_)
    refine KC (i:=10) (v:=.string Xx27) (unb 17 2047) rfl rfl hT (anyM hM (by kernel_rfl)) hE rfl (KA rfl) (fun w=>KAL hE rfl rfl rfl un9 qXx27) (fun a hE=>?_)
    refine KF6 (i:=11) (unb 17 4095) rfl rfl rfl hT (oneM hM (by kernel_rfl)) rfl hE hR (KA rfl) KC8 rfl (VR) (M.unbind H) (fun Xx28 a w ea hR H=>?_)
    have hE:=Env.put_some hE rfl ea; clear ea
    refine KC (i:=12) (v:=.tuple #[.int .i64 Xx28.1,.int .i64 Xx28.2]) (unb 17 8191) rfl rfl hT (anyM hM (by kernel_rfl)) hE rfl (KA rfl) (fun w=>KG hE rfl) (fun a hE=>?_)
    refine KC (i:=13) (v:=.int .i64 Xx28.1) (unb 17 16383) rfl rfl hT (anyM hM (by kernel_rfl)) hE rfl (KA rfl) (fun w=>UY hE rfl rfl) (fun a hE=>?_)
    refine KC (i:=14) (v:=.int .i64 Xx28.2) (unb 17 32767) rfl rfl hT (anyM hM (by kernel_rfl)) hE rfl (KA rfl) (fun w=>UY hE rfl rfl) (fun a hE=>?_)
    refine KC (i:=15) (v:=.int .i64 Xx28.1) (unb 17 65535) rfl rfl hT (anyM hM (by kernel_rfl)) hE rfl (KA rfl) (fun w=>Kc hE rfl) (fun a hE=>?_)
    refine KC (i:=16) (v:=.int .i64 Xx28.2) (unb 17 131071) rfl rfl hT (anyM hM (by kernel_rfl)) hE rfl (KA rfl) (fun w=>Kc hE rfl) (fun a hE=>?_)
    refine Wg hT (qw hM (by kernel_rfl)) ?_
    refine hK_22 _ _ ?_
    refine JU (fun a w=>Env (⟨76,[]⟩:Frm) a [(0,.pointer x0),(3,.int .i64 Xx4),(5,.int .i64 Xx14),(6,.int .i64 Xx28.1),(7,.int .i64 Xx28.2)]∧Rest w0 w∧(JC self1 x0 Xx14 Xx28.1 Xx28.2).wp w.heap Q) ?_ ?_
    ·rintro a w ⟨hE,hR,H⟩
     unfold JC at H
     refine KZ (fun K hK_34=>?_)
     refine KZ (fun K hK_35=>?_)
     refine KF ?_
     refine KD (v:=.int .i64 Xx28.2) rfl rfl hE rfl (KG hE rfl) (fun a hE=>?_)
     refine KD (v:=.bool (Xx28.2 != 0)) rfl rfl hE rfl (ZS hE rfl rfl ZI KCn) (fun a hE=>?_)
     refine KY ?_
     refine hK_35 _ _ ?_
     refine JP (Xx28.2 != 0) hE rfl (fun hb=>?_) (fun hb=>?_)
     ·replace H:=M.ite_t hb H
      refine KZ (fun K hK_36=>?_)
      refine KF ?_
      refine KD (v:=.int .i64 Xx14) rfl rfl hE rfl (KG hE rfl) (fun a hE=>?_)
      refine KD (v:=.int .i64 Xx14) rfl rfl hE rfl (Kc hE rfl) (fun a hE=>?_)
      refine KY ?_
      refine hK_36 _ _ ?_
      refine WJ ?_
      exact hret _ _ _ Xx14 _ hE hR (Z5 hE rfl (RV.tmp rfl RV.nil)) rfl H
     ·replace H:=M.ite_f hb H
      refine UE ?_
      refine hK_34 _ _ ?_
      refine KZ (fun K hK_37=>?_)
      refine KF ?_
      refine KD (v:=.int .i64 Xx28.1) rfl rfl hE rfl (KG hE rfl) (fun a hE=>?_)
      refine KD (v:=.int .i64 Xx28.1) rfl rfl hE rfl (Kc hE rfl) (fun a hE=>?_)
      refine KY ?_
      refine hK_37 _ _ ?_
      refine KF ?_
      refine KD (v:=.pointer x0) rfl rfl hE rfl (KG hE rfl) (fun a hE=>?_)
      obtain ⟨Xx38,qXx38,H⟩:=H
      refine KD (v:=.pointer (some Xx38)) rfl rfl hE rfl (KM hE (Z6 rfl (congrArg Value.pointer qXx38))) (fun a hE=>?_)
      refine KD (v:=.pointer (some ((Xx38).add 1))) rfl rfl hE rfl (KL hE rfl ZT) (fun a hE=>?_)
      obtain ⟨Xx39,qXx39,H⟩:=H
      refine KD (v:=.int .i64 Xx39) rfl rfl hE rfl (ZO hE rfl sc3 qXx39) (fun a hE=>?_)
      refine KD (v:=.int .i64 (IntKind.wrap .i64 (Xx39+1))) rfl rfl hE rfl (ZS hE rfl rfl ZI Xb) (fun a hE=>?_)
      obtain ⟨Xx40,qXx40,H⟩:=H
      refine KD (v:=.pointer (some Xx40)) rfl rfl hE rfl (KM hE (Z6 rfl (congrArg Value.pointer qXx40))) (fun a hE=>?_)
      refine KD (v:=.pointer (some ((Xx40).add 1))) rfl rfl hE rfl (KL hE rfl ZT) (fun a hE=>?_)
      obtain ⟨u_41,qu_41,H⟩:=H
      refine Uk rfl rfl hE hR (Zn hE rfl rfl sz3 qu_41) (fun a w hE hR hh=>?_)
      replace H:=M.at hh H; clear hh
      refine KY ?_
      exact hY_17 Xx28.1 _ _ (hE.cut (.cons rfl (.cons rfl (.cons rfl Subs.nil)))) hR H
    ·skip
     refine KZ (fun K hK_42=>?_)
     refine KF ?_
     refine KD (v:=.int .i64 Xx28.2) rfl rfl hE rfl (KG hE rfl) (fun a hE=>?_)
     refine KD (v:=.bool (Xx28.2 == 7)) rfl rfl hE rfl (ZS hE rfl rfl ZI Yp) (fun a hE=>?_)
     refine KY ?_
     refine hK_42 _ _ ?_
     refine JP (Xx28.2 == 7) hE rfl (fun hb=>?_) (fun hb=>?_)
     ·replace H:=M.ite_t hb H
      refine KF ?_
      refine KD (v:=.pointer x0) rfl rfl hE rfl (KG hE rfl) (fun a hE=>?_)
      refine JD hE hR K0 rfl (ZD x0) H (fun _ _ hR HQ=>Xu.ne rfl (Xu.ne rfl (hthr _ _ hR HQ))) (fun Xx43 a w ea hR H=>?_)
      have hE:=Env.put_some hE rfl ea; clear ea
      refine KY ?_
      exact ⟨hE.cut (.cons rfl (.cons rfl (.cons rfl (.cons rfl (.cons rfl Subs.nil))))),hR,H⟩
     ·replace H:=M.ite_f hb H
      refine UE ?_
      exact ⟨hE.cut (.cons rfl (.cons rfl (.cons rfl (.cons rfl (.cons rfl Subs.nil))))),hR,H⟩
   ·replace H:=M.ite_f hb H
    refine KCi ?_
    refine Xu.same ?_
    refine hK_13 _ _ ?_
    refine KZ (fun K hK_44=>?_)
    refine KF ?_
    refine KD (v:=.int .i64 Xx14) rfl rfl hE rfl (KG hE rfl) (fun a hE=>?_)
    refine KD (v:=.int .i64 Xx14) rfl rfl hE rfl (Kc hE rfl) (fun a hE=>?_)
    refine KY ?_
    refine hK_44 _ _ ?_
    refine WJ ?_
    exact hret _ _ _ Xx14 _ hE hR (Z5 hE rfl (RV.tmp rfl RV.nil)) rfl H
  ·skip
   refine KZ (fun K hK_45=>?_)
   refine KF ?_
   refine KD (v:=.pointer x0) rfl rfl hE rfl (KG hE rfl) (fun a hE=>?_)
   refine UZ hE hR Kj rfl (Kv x0) (M.unbind H) (fun Xx46 a w ea hR H=>?_)
   have hE:=Env.put_some hE rfl ea; clear ea
   refine UZ hE hR Yj rfl (XK Xx46) (M.unbind H) (fun Xx47 a w ea hR H=>?_)
   have hE:=Env.put_some hE rfl ea; clear ea
   refine KD (v:=.bool (!Xx47)) rfl rfl hE rfl (r_un hE rfl KHb) (fun a hE=>?_)
   refine KD (v:=.bool (!Xx47)) rfl rfl hE rfl (KG hE rfl) (fun a hE=>?_)
   refine KCp (n:=(⟨76,[]⟩:Frm)) (w0:=w0) 7 (fun Xx48:Bool=>[(0,.pointer x0),(3,.int .i64 Xx4),(39,.bool Xx48)]) (M.unbind H) (fun Kr hKr H=>?_) ?_
   ·rcases U8 (!Xx47) with hb | hb
    ·replace H:=M.ite_t hb H
     have hE:=hE.reb 32 (!Xx47) true hb rfl
     refine XU rfl hE rfl rfl rfl (fun a ea=>?_)
     have hE:=Env.put_some hE rfl ea; clear ea
     refine XU rfl hE rfl rfl rfl (fun a ea=>?_)
     have hE:=Env.put_some hE rfl ea; clear ea
     refine KEe rfl hE rfl rfl (fun b hb=>by cases hb) (fun a ea=>?_)
     have hE:=Env.put_some hE rfl ea; clear ea
     refine KEe rfl hE rfl rfl (fun b hb=>by cases hb) (fun a ea=>?_)
     have hE:=Env.put_some hE rfl ea; clear ea
     refine KEe rfl hE rfl rfl (fun b hb=>by cases hb) (fun a ea=>?_)
     have hE:=Env.put_some hE rfl ea; clear ea
     refine XU rfl hE rfl rfl rfl (fun a ea=>?_)
     have hE:=Env.put_some hE rfl ea; clear ea
     refine KD rfl rfl hE rfl (Jv hE rfl rfl) (fun a hE=>?_)
     refine KY ?_
     exact hKr _ _ _ (hE.cut (.cons rfl (.cons rfl (.cons rfl Subs.nil)))) hR H
    ·replace H:=M.ite_f hb H
     have hE:=hE.reb 32 (!Xx47) false hb rfl
     refine t_on rfl hE rfl rfl rfl ?_
     refine KD (v:=.bool (decide (Xx9 > Xx4))) rfl rfl hE rfl (KG hE rfl) (fun a hE=>?_)
     refine t_on rfl hE rfl rfl rfl ?_
     refine KD (v:=.bool (decide (Xx9 > Xx4))) rfl rfl hE rfl (KG hE rfl) (fun a hE=>?_)
     refine KCp (n:=(⟨76,[]⟩:Frm)) (w0:=w0) 4 (fun Xx49:Bool=>[(0,.pointer x0),(3,.int .i64 Xx4),(32,.bool false),(38,.bool Xx49)]) (M.unbind H) (fun Kr hKr H=>?_) ?_
     ·rcases U8 (decide (Xx9 > Xx4)) with hb | hb
      ·replace H:=M.ite_t hb H
       have hE:=hE.reb 34 (decide (Xx9 > Xx4)) true hb rfl
       refine t_on rfl hE rfl rfl rfl ?_
       refine KD (v:=.pointer x0) rfl rfl hE rfl (KG hE rfl) (fun a hE=>?_)
       refine t_on rfl hE rfl rfl rfl ?_
       refine UZ hE hR Kj rfl (Kv x0) (M.unbind H) (fun Xx50 a w ea hR H=>?_)
       have hE:=Env.put_some hE rfl ea; clear ea
       refine t_on rfl hE rfl rfl rfl ?_
       refine KD (v:=.bool (Xx50 == 48)) rfl rfl hE rfl (ZS hE rfl rfl ZI Yp) (fun a hE=>?_)
       refine t_on rfl hE rfl rfl rfl ?_
       refine KD rfl rfl hE rfl (Jv hE rfl rfl) (fun a hE=>?_)
       refine KY ?_
       exact hKr _ _ _ (hE.cut (.cons rfl (.cons rfl (.cons rfl (.cons rfl Subs.nil))))) hR H
      ·replace H:=M.ite_f hb H
       have hE:=hE.reb 34 (decide (Xx9 > Xx4)) false hb rfl
       refine XU rfl hE rfl rfl rfl (fun a ea=>?_)
       have hE:=Env.put_some hE rfl ea; clear ea
       refine XU rfl hE rfl rfl rfl (fun a ea=>?_)
       have hE:=Env.put_some hE rfl ea; clear ea
       refine XU rfl hE rfl rfl rfl (fun a ea=>?_)
       have hE:=Env.put_some hE rfl ea; clear ea
       refine t_on rfl hE rfl rfl rfl ?_
       refine KD rfl rfl hE rfl (JL hE rfl rfl) (fun a hE=>?_)
       refine KY ?_
       exact hKr _ _ _ (hE.cut (.cons rfl (.cons rfl (.cons rfl (.cons rfl Subs.nil))))) hR H
     ·intro Xx49 a w hE hR H
      refine KD rfl rfl hE rfl (JL hE rfl rfl) (fun a hE=>?_)
      refine KY ?_
      exact hKr _ _ _ (hE.cut (.cons rfl (.cons rfl (.cons rfl Subs.nil)))) hR H
   ·intro Xx48 a w hE hR H
    refine KY ?_
    refine hK_45 _ _ ?_
    refine JP Xx48 hE rfl (fun hb=>?_) (fun hb=>?_)
    ·replace H:=M.ite_t hb H
     refine KF ?_
     refine KD (v:=.pointer x0) rfl rfl hE rfl (KG hE rfl) (fun a hE=>?_)
     refine JD hE hR K0 rfl (ZD x0) H (fun _ _ hR HQ=>hthr _ _ hR HQ) (fun Xx51 a w ea hR H=>?_)
     have hE:=Env.put_some hE rfl ea; clear ea
     refine KY ?_
     exact ⟨hE.cut (.cons rfl (.cons rfl Subs.nil)),hR,H⟩
    ·replace H:=M.ite_f hb H
     refine UE ?_
     exact ⟨hE.cut (.cons rfl (.cons rfl Subs.nil)),hR,H⟩
 ·skip
  refine KZ (fun K hK_52=>?_)
  refine KF ?_
  refine KD (v:=.pointer x0) rfl rfl hE rfl (KG hE rfl) (fun a hE=>?_)
  refine UZ hE hR Kj rfl (Kv x0) (M.unbind H) (fun Xx53 a w ea hR H=>?_)
  have hE:=Env.put_some hE rfl ea; clear ea
  refine KD (v:=.bool (Xx53 == 45)) rfl rfl hE rfl (ZS hE rfl rfl ZI Yp) (fun a hE=>?_)
  refine KY ?_
  refine hK_52 _ _ ?_
  refine JP (Xx53 == 45) hE rfl (fun hb=>?_) (fun hb=>?_)
  ·replace H:=M.ite_t hb H
   refine KF ?_
   refine KD (v:=.pointer x0) rfl rfl hE rfl (KG hE rfl) (fun a hE=>?_)
   obtain ⟨Xx54,qXx54,H⟩:=H
   refine KD (v:=.pointer (some Xx54)) rfl rfl hE rfl (KM hE (Z6 rfl (congrArg Value.pointer qXx54))) (fun a hE=>?_)
   refine KD (v:=.pointer (some ((Xx54).add 1))) rfl rfl hE rfl (KL hE rfl ZT) (fun a hE=>?_)
   obtain ⟨Xx55,qXx55,H⟩:=H
   refine KD (v:=.int .i64 Xx55) rfl rfl hE rfl (ZO hE rfl sc3 qXx55) (fun a hE=>?_)
   refine KD (v:=.int .i64 (IntKind.wrap .i64 (Xx55+1))) rfl rfl hE rfl (ZS hE rfl rfl ZI Xb) (fun a hE=>?_)
   obtain ⟨Xx56,qXx56,H⟩:=H
   refine KD (v:=.pointer (some Xx56)) rfl rfl hE rfl (KM hE (Z6 rfl (congrArg Value.pointer qXx56))) (fun a hE=>?_)
   refine KD (v:=.pointer (some ((Xx56).add 1))) rfl rfl hE rfl (KL hE rfl ZT) (fun a hE=>?_)
   obtain ⟨u_57,qu_57,H⟩:=H
   refine Uk rfl rfl hE hR (Zn hE rfl rfl sz3 qu_57) (fun a w hE hR hh=>?_)
   replace H:=M.at hh H; clear hh
   refine KY ?_
   exact ⟨hE.cut (.cons rfl (.cons rfl Subs.nil)),hR,H⟩
  ·replace H:=M.ite_f hb H
   refine UE ?_
   exact ⟨hE.cut (.cons rfl (.cons rfl Subs.nil)),hR,H⟩
def Ja (self1:(Int)→M (Value ⊕ (Unit))) (C11:Option Addr) (C14:Int):M (Value ⊕ (Unit)):=do
 let Xx15←nilP C11
 let Xx16←ldI .i64 ((Xx15).add 1)
 let Xx17←nilP C11
 stV ((Xx17).add 1) (.int .i64 (IntKind.wrap .i64 (Xx16+1)))
 self1 (IntKind.wrap .i64 (C14+1))
def Zg (self1:(Int)→M (Value ⊕ (Unit))) (C20:Option Addr) (C23:Int) (Xx19:Bool):M (Value ⊕ (Unit)):=do
 M.ite Xx19 (do
  thr (Kt C20) fun Xx24=>do
   Ja self1 C20 C23
  ) (do
  Ja self1 C20 C23
  )
noncomputable def KCI:Array Oper:=KF5 Go.Proofs.Tryz.f244 3
def KGd:List (List Nat):=[[],[0],[1],[2],[],[4],[5],[6],[7],[3,8],[9],[10],[11,10],[12,10],[13,10],[10],[15,10],[16,10],[17,10],[14,18,10],[10],[10],[20,21,10],[19,22,10],[10,23]]
def KGe:List (List Nat):=[[],[0],[1],[2],[],[4],[5],[6],[7],[3,8],[9],[10],[10,11],[10,12],[10,13],[10],[10,15],[10,16],[10,17],[10,14,18],[10],[10],[10,20,21],[10,19,22],[10,23]]
def KGf:List (List Nat):=[[],[0],[0,1],[0,1,2],[],[4],[4,5],[4,5,6],[4,5,6,7],[0,1,2,3,4,5,6,7,8],[0,1,2,3,4,5,6,7,8,9],[0,1,2,3,4,5,6,7,8,9,10],[0,1,2,3,4,5,6,7,8,9,10,11],[0,1,2,3,4,5,6,7,8,9,10,11,12],[0,1,2,3,4,5,6,7,8,9,10,11,12,13],[0,1,2,3,4,5,6,7,8,9,10],[0,1,2,3,4,5,6,7,8,9,10,15],[0,1,2,3,4,5,6,7,8,9,10,15,16],[0,1,2,3,4,5,6,7,8,9,10,15,16,17],[0,1,2,3,4,5,6,7,8,9,10,11,12,13,14,15,16,17,18],[0,1,2,3,4,5,6,7,8,9,10],[0,1,2,3,4,5,6,7,8,9,10],[0,1,2,3,4,5,6,7,8,9,10,20,21],[0,1,2,3,4,5,6,7,8,9,10,11,12,13,14,15,16,17,18,19,20,21,22],[0,1,2,3,4,5,6,7,8,9,10,11,12,13,14,15,16,17,18,19,20,21,22,23]]
theorem KGg:KA6 Go.Proofs.Tryz.f244 3 KGd KGe KGf=true:=by kernel_rfl
theorem KEv:KCs 25 KGd KGe KGf [0,1,2,4,0,16,32,64,128,264,512,1024,3072,5120,9216,1024,33792,66560,132096,279552,1024,1024,3146752,4719616,8389632] [0,1,2,4,0,16,32,64,128,264,512,1024,3072,5120,9216,1024,33792,66560,132096,279552,1024,1024,3146752,4719616,8389632] [0,1,3,7,0,16,48,112,240,511,1023,2047,4095,8191,16383,2047,34815,100351,231423,524287,2047,2047,3147775,8388607,16777215]=true:=by kernel_rfl
def UB (C3:Option Addr) (C4:ByteArray) (C5:Int) (self1:(Int)→M (Value ⊕ (Unit))):(Int)→M (Value ⊕ (Unit)):=fun s=>match s with
 | Xx2=>do
  M.ite (decide (Xx2 < C5)) (do
   let Xx25←nilP C3
   let Xx26←nilP C3
   let Xx27←ldI .i64 ((Xx25).add 1)
   let Xx28←ldS ((Xx26).add 0)
   M.ite (decide (Xx27 ≥ (Xx28.size:Int))) (do
    Zg self1 C3 Xx2 true
    ) (do
    let Xx30←nilP C3
    let Xx31←nilP C3
    let Xx32←ixS C4 Xx2
    let Xx33←ldS ((Xx30).add 0)
    let Xx34←ldI .i64 ((Xx31).add 1)
    let Xx35←ixS Xx33 Xx34
    Zg self1 C3 Xx2 (Xx35 != Xx32)
    )
   ) (do
   M.pure (.inr ())
   )
def ZA (x0:Option Addr) (x1:ByteArray):M (Value ⊕ (Unit)):=do
 M.loop (UB x0 x1 (x1.size:Int)) 0
theorem Za (x0:Option Addr) (x1:ByteArray):Yo Go.Proofs.Tryz.prog 244 #[.pointer x0,.string x1] (fun (r:Unit)=>.tuple #[]) (ZA x0 x1):=by
 refine WK [(0,.pointer x0),(1,.string x1)] Go.Proofs.Tryz.func244 rfl rfl (Nat.le_of_ble_eq_true rfl) (V9 ⟨rfl,rfl,trivial⟩) (fun w0 w Q R X a hret hthr hE hR H=>?_)
 unfold ZA at H
 refine KZ (fun K hK_1=>?_)
 refine KF ?_
 refine KD (v:=.string x1) rfl rfl hE rfl (KG hE rfl) (fun a hE=>?_)
 refine KD (v:=.int .i64 (x1.size:Int)) rfl rfl hE rfl (W3 hE rfl un9) (fun a hE=>?_)
 refine KD (v:=.int .i64 0) rfl rfl hE rfl (KG hE rfl) (fun a hE=>?_)
 refine KY ?_
 refine hK_1 _ _ ?_
 refine WY ?_
 refine KCq (fun (s:Int)=>(⟨45,[]⟩:Frm)) (fun (s:Int)=>[(0,.pointer x0),(1,.string x1),(6,.int .i64 (x1.size:Int)),(7,.int .i64 s)]) H (hE.cut (.cons rfl (.cons rfl (.cons rfl (.cons rfl Subs.nil))))) hR (fun Y self1 hY_6 Xx2 a w hE hR H=>?_)
 replace hE:Env (⟨45,[]⟩:Frm) a [(0,.pointer x0),(1,.string x1),(6,.int .i64 (x1.size:Int)),(7,.int .i64 Xx2)]:=hE
 replace H:(UB x0 x1 (x1.size:Int) self1 Xx2).wp w.heap Q:=H
 unfold UB at H
 refine KZ (fun K hK_7=>?_)
 refine KF ?_
 refine KD (v:=.bool (decide (Xx2 < (x1.size:Int)))) rfl rfl hE rfl (ZS hE rfl rfl ZI zn) (fun a hE=>?_)
 refine KY ?_
 refine hK_7 _ _ ?_
 refine KZ (fun K hK_8=>?_)
 refine JP (decide (Xx2 < (x1.size:Int))) hE rfl (fun hb=>?_) (fun hb=>?_)
 ·replace H:=M.ite_t hb H
  refine UE ?_
  refine hK_8 _ _ ?_
  refine KZ (fun K hK_9=>?_)
  refine WY ?_
  refine KZ (fun K hK_10=>?_)
  refine KF ?_
  refine KD (v:=.int .i64 Xx2) rfl rfl hE rfl (KG hE rfl) (fun a hE=>?_)
  refine KD (v:=.int .i64 Xx2) rfl rfl hE rfl (Kc hE rfl) (fun a hE=>?_)
  refine KY ?_
  refine hK_10 _ _ ?_
  refine JU (fun a w=>Env (⟨45,[]⟩:Frm) a [(0,.pointer x0),(1,.string x1),(6,.int .i64 (x1.size:Int)),(7,.int .i64 Xx2)]∧Rest w0 w∧(Ja self1 x0 Xx2).wp w.heap Q) ?_ ?_
  ·rintro a w ⟨hE,hR,H⟩
   unfold Ja at H
   refine KF ?_
   refine KD (v:=.pointer x0) rfl rfl hE rfl (KG hE rfl) (fun a hE=>?_)
   obtain ⟨Xx15,qXx15,H⟩:=H
   refine KD (v:=.pointer (some Xx15)) rfl rfl hE rfl (KM hE (Z6 rfl (congrArg Value.pointer qXx15))) (fun a hE=>?_)
   refine KD (v:=.pointer (some ((Xx15).add 1))) rfl rfl hE rfl (KL hE rfl ZT) (fun a hE=>?_)
   obtain ⟨Xx16,qXx16,H⟩:=H
   refine KD (v:=.int .i64 Xx16) rfl rfl hE rfl (ZO hE rfl sc3 qXx16) (fun a hE=>?_)
   refine KD (v:=.int .i64 (IntKind.wrap .i64 (Xx16+1))) rfl rfl hE rfl (ZS hE rfl rfl ZI Xb) (fun a hE=>?_)
   obtain ⟨Xx17,qXx17,H⟩:=H
   refine KD (v:=.pointer (some Xx17)) rfl rfl hE rfl (KM hE (Z6 rfl (congrArg Value.pointer qXx17))) (fun a hE=>?_)
   refine KD (v:=.pointer (some ((Xx17).add 1))) rfl rfl hE rfl (KL hE rfl ZT) (fun a hE=>?_)
   obtain ⟨u_18,qu_18,H⟩:=H
   refine Uk rfl rfl hE hR (Zn hE rfl rfl sz3 qu_18) (fun a w hE hR hh=>?_)
   replace H:=M.at hh H; clear hh
   refine KY ?_
   refine hK_9 _ _ ?_
   refine KF ?_
   refine KD (v:=.int .i64 (IntKind.wrap .i64 (Xx2+1))) rfl rfl hE rfl (ZS hE rfl rfl ZI Xb) (fun a hE=>?_)
   refine KD (v:=.int .i64 (IntKind.wrap .i64 (Xx2+1))) rfl rfl hE rfl (KG hE rfl) (fun a hE=>?_)
   refine KY ?_
   exact hY_6 (IntKind.wrap .i64 (Xx2+1)) _ _ (hE.cut (.cons rfl (.cons rfl (.cons rfl (.cons rfl Subs.nil))))) hR H
  ·skip
   refine JU (fun a w=>∃ (Xx19:Bool),Env (⟨45,[]⟩:Frm) a [(0,.pointer x0),(1,.string x1),(6,.int .i64 (x1.size:Int)),(7,.int .i64 Xx2),(34,.bool Xx19)]∧Rest w0 w∧(Zg self1 x0 Xx2 Xx19).wp w.heap Q) ?_ ?_
   ·rintro a w ⟨Xx19,hE,hR,H⟩
    unfold Zg at H
    refine JP Xx19 hE rfl (fun hb=>?_) (fun hb=>?_)
    ·replace H:=M.ite_t hb H
     refine KF ?_
     refine KD (v:=.pointer x0) rfl rfl hE rfl (KG hE rfl) (fun a hE=>?_)
     refine JD hE hR K0 rfl (ZD x0) H (fun _ _ hR HQ=>Xu.ne rfl (Xu.ne rfl (hthr _ _ hR HQ))) (fun Xx24 a w ea hR H=>?_)
     have hE:=Env.put_some hE rfl ea; clear ea
     refine KY ?_
     exact ⟨hE.cut (.cons rfl (.cons rfl (.cons rfl (.cons rfl Subs.nil)))),hR,H⟩
    ·replace H:=M.ite_f hb H
     refine UE ?_
     exact ⟨hE.cut (.cons rfl (.cons rfl (.cons rfl (.cons rfl Subs.nil)))),hR,H⟩
   ·skip
    obtain ⟨Xx25,qXx25,H⟩:=H
    obtain ⟨Xx26,qXx26,H⟩:=H
    obtain ⟨Xx27,qXx27,H⟩:=H
    obtain ⟨Xx28,qXx28,H⟩:=H
    rcases U8 (decide (Xx27 ≥ (Xx28.size:Int))) with hb_29 | hb_29
    ·replace H:=M.ite_t hb_29 H
     refine XP (rops:=KCI) (by kernel_rfl) ?_
     have hT:Tab KCI _ _ _:=W6 KGg rfl (by kernel_rfl)
     have hM:=TabM.of KEv
     refine U9 (m:=25) (fun w:World=>(fun h:Heap=>(KV h ((Xx25).add 1)=some (.int .i64 Xx27))∧(KV h ((Xx26).add 0)=some (.string Xx28))) w.heap) [9,10,11,12,13,14,15,16,17,18,19,20,21,22,23,24] (unb 25 0) mo hR (by kernel_rfl) (by kernel_rfl) (fun w' e=>by rw [e]; exact ⟨qXx27,qXx28⟩) (fun w hh hR hs=>?_)
     replace H:=M.at hh H; clear hh
     refine KC (i:=0) (v:=.pointer x0) (unb 25 1) rfl rfl hT (anyM hM (by kernel_rfl)) hE rfl (KA rfl) (fun w=>KG hE rfl) (fun a hE=>?_)
     refine KC (i:=1) (v:=.pointer (some Xx25)) (unb 25 3) rfl rfl hT (anyM hM (by kernel_rfl)) hE rfl (KA rfl) (fun w=>KM hE (Z6 rfl (congrArg Value.pointer qXx25))) (fun a hE=>?_)
     refine KC (i:=2) (v:=.pointer (some ((Xx25).add 1))) (unb 25 7) rfl rfl hT (anyM hM (by kernel_rfl)) hE rfl (KA rfl) (fun w=>KL hE rfl ZT) (fun a hE=>?_)
     refine KC (i:=4) (v:=.pointer x0) (unb 25 23) rfl rfl hT (anyM hM (by kernel_rfl)) hE rfl (KA rfl) (fun w=>KG hE rfl) (fun a hE=>?_)
     refine KC (i:=5) (v:=.pointer (some Xx26)) (unb 25 55) rfl rfl hT (anyM hM (by kernel_rfl)) hE rfl (KA rfl) (fun w=>KM hE (Z6 rfl (congrArg Value.pointer qXx26))) (fun a hE=>?_)
     refine KC (i:=6) (v:=.pointer (some ((Xx26).add 0))) (unb 25 119) rfl rfl hT (anyM hM (by kernel_rfl)) hE rfl (KA rfl) (fun w=>KL hE rfl Wf) (fun a hE=>?_)
     refine Jw (i:=3) (v:=.int .i64 Xx27) (unb 25 127) rfl rfl hT (WA hM (by kernel_rfl)) hE rfl (KA rfl) hs (fun w s=>ZO hE rfl sc3 s.1) (fun a hE=>?_)
     refine Jw (i:=7) (v:=.string Xx28) (unb 25 255) rfl rfl hT (WA hM (by kernel_rfl)) hE rfl (KA rfl) hs (fun w s=>ZO hE rfl sc9 s.2) (fun a hE=>?_)
     refine KC (i:=8) (v:=.int .i64 (Xx28.size:Int)) (unb 25 511) rfl rfl hT (anyM hM (by kernel_rfl)) hE rfl (KA rfl) (fun w=>W3 hE rfl un9) (fun a hE=>?_)
     refine KC (i:=9) (v:=.bool (decide (Xx27 ≥ (Xx28.size:Int)))) (unb 25 1023) rfl rfl hT (anyM hM (by kernel_rfl)) hE rfl (KA rfl) (fun w=>ZS hE rfl rfl ZI KAF) (fun a hE=>?_)
     refine KC (i:=10) (v:=.bool (decide (Xx27 ≥ (Xx28.size:Int)))) (unb 25 2047) rfl rfl hT (anyM hM (by kernel_rfl)) hE rfl (KA rfl) (fun w=>KG hE rfl) (fun a hE=>?_)
     have hE:=hE.reb 20 (decide (Xx27 ≥ (Xx28.size:Int))) true hb_29 rfl
     replace hE:=hE.cut (l':=[(0,.pointer x0),(1,.string x1),(6,.int .i64 (x1.size:Int)),(7,.int .i64 Xx2),(4,.int .i64 Xx2),(20,.bool true)]) (.cons rfl (.cons rfl (.cons rfl (.cons rfl (.cons rfl (.cons rfl Subs.nil))))))
     refine N2 [(11,some 21),(12,some 22),(13,some 23),(14,some 24),(15,some 25),(16,some 26),(17,some 27),(18,some 28),(19,some 29),(20,some 30),(21,some 31),(22,some 32),(23,some 33)] 1 hT hM hE (by kernel_rfl) (m':=16777215) (by kernel_rfl) (fun a hE=>?_)
     refine KC (i:=24) (v:=.bool true) (unb 25 33554431) rfl rfl hT (anyM hM (by kernel_rfl)) hE rfl (KA rfl) (fun w=>Jv hE rfl rfl) (fun a hE=>?_)
     refine Wg hT (qw hM (by kernel_rfl)) ?_
     exact ⟨true,hE.cut (.cons rfl (.cons rfl (.cons rfl (.cons rfl (.cons rfl Subs.nil))))),hR,H⟩
    ·replace H:=M.ite_f hb_29 H
     obtain ⟨Xx30,qXx30,H⟩:=H
     obtain ⟨Xx31,qXx31,H⟩:=H
     obtain ⟨Xx32,qXx32,H⟩:=H
     obtain ⟨Xx33,qXx33,H⟩:=H
     obtain ⟨Xx34,qXx34,H⟩:=H
     obtain ⟨Xx35,qXx35,H⟩:=H
     refine XP (rops:=KCI) (by kernel_rfl) ?_
     have hT:Tab KCI _ _ _:=W6 KGg rfl (by kernel_rfl)
     have hM:=TabM.of KEv
     refine U9 (m:=25) (fun w:World=>(fun h:Heap=>(KV h ((Xx25).add 1)=some (.int .i64 Xx27))∧(KV h ((Xx26).add 0)=some (.string Xx28))∧(KV h ((Xx30).add 0)=some (.string Xx33))∧(KV h ((Xx31).add 1)=some (.int .i64 Xx34))) w.heap) [19,23,24] (unb 25 0) mo hR (by kernel_rfl) (by kernel_rfl) (fun w' e=>by rw [e]; exact ⟨qXx27,qXx28,qXx33,qXx34⟩) (fun w hh hR hs=>?_)
     replace H:=M.at hh H; clear hh
     refine KC (i:=0) (v:=.pointer x0) (unb 25 1) rfl rfl hT (anyM hM (by kernel_rfl)) hE rfl (KA rfl) (fun w=>KG hE rfl) (fun a hE=>?_)
     refine KC (i:=1) (v:=.pointer (some Xx25)) (unb 25 3) rfl rfl hT (anyM hM (by kernel_rfl)) hE rfl (KA rfl) (fun w=>KM hE (Z6 rfl (congrArg Value.pointer qXx25))) (fun a hE=>?_)
     refine KC (i:=2) (v:=.pointer (some ((Xx25).add 1))) (unb 25 7) rfl rfl hT (anyM hM (by kernel_rfl)) hE rfl (KA rfl) (fun w=>KL hE rfl ZT) (fun a hE=>?_)
     refine KC (i:=4) (v:=.pointer x0) (unb 25 23) rfl rfl hT (anyM hM (by kernel_rfl)) hE rfl (KA rfl) (fun w=>KG hE rfl) (fun a hE=>?_)
     refine KC (i:=5) (v:=.pointer (some Xx26)) (unb 25 55) rfl rfl hT (anyM hM (by kernel_rfl)) hE rfl (KA rfl) (fun w=>KM hE (Z6 rfl (congrArg Value.pointer qXx26))) (fun a hE=>?_)
     refine KC (i:=6) (v:=.pointer (some ((Xx26).add 0))) (unb 25 119) rfl rfl hT (anyM hM (by kernel_rfl)) hE rfl (KA rfl) (fun w=>KL hE rfl Wf) (fun a hE=>?_)
     refine Jw (i:=3) (v:=.int .i64 Xx27) (unb 25 127) rfl rfl hT (WA hM (by kernel_rfl)) hE rfl (KA rfl) hs (fun w s=>ZO hE rfl sc3 s.1) (fun a hE=>?_)
     refine Jw (i:=7) (v:=.string Xx28) (unb 25 255) rfl rfl hT (WA hM (by kernel_rfl)) hE rfl (KA rfl) hs (fun w s=>ZO hE rfl sc9 s.2.1) (fun a hE=>?_)
     refine KC (i:=8) (v:=.int .i64 (Xx28.size:Int)) (unb 25 511) rfl rfl hT (anyM hM (by kernel_rfl)) hE rfl (KA rfl) (fun w=>W3 hE rfl un9) (fun a hE=>?_)
     refine KC (i:=9) (v:=.bool (decide (Xx27 ≥ (Xx28.size:Int)))) (unb 25 1023) rfl rfl hT (anyM hM (by kernel_rfl)) hE rfl (KA rfl) (fun w=>ZS hE rfl rfl ZI KAF) (fun a hE=>?_)
     refine KC (i:=10) (v:=.bool (decide (Xx27 ≥ (Xx28.size:Int)))) (unb 25 2047) rfl rfl hT (anyM hM (by kernel_rfl)) hE rfl (KA rfl) (fun w=>KG hE rfl) (fun a hE=>?_)
     have hE:=hE.reb 20 (decide (Xx27 ≥ (Xx28.size:Int))) false hb_29 rfl
     replace hE:=hE.cut (l':=[(0,.pointer x0),(1,.string x1),(6,.int .i64 (x1.size:Int)),(7,.int .i64 Xx2),(4,.int .i64 Xx2),(20,.bool false)]) (.cons rfl (.cons rfl (.cons rfl (.cons rfl (.cons rfl (.cons rfl Subs.nil))))))
     refine KC (i:=11) (v:=.pointer x0) (unb 25 4095) rfl rfl hT (anyM hM (by kernel_rfl)) hE rfl (KX rfl hE rfl rfl rfl) (fun w=>KG hE rfl) (fun a hE=>?_)
     refine KC (i:=12) (v:=.pointer (some Xx30)) (unb 25 8191) rfl rfl hT (anyM hM (by kernel_rfl)) hE rfl (KX rfl hE rfl rfl rfl) (fun w=>KM hE (Z6 rfl (congrArg Value.pointer qXx30))) (fun a hE=>?_)
     refine KC (i:=13) (v:=.pointer (some ((Xx30).add 0))) (unb 25 16383) rfl rfl hT (anyM hM (by kernel_rfl)) hE rfl (KX rfl hE rfl rfl rfl) (fun w=>KL hE rfl Wf) (fun a hE=>?_)
     refine KC (i:=15) (v:=.pointer x0) (unb 25 49151) rfl rfl hT (anyM hM (by kernel_rfl)) hE rfl (KX rfl hE rfl rfl rfl) (fun w=>KG hE rfl) (fun a hE=>?_)
     refine KC (i:=16) (v:=.pointer (some Xx31)) (unb 25 114687) rfl rfl hT (anyM hM (by kernel_rfl)) hE rfl (KX rfl hE rfl rfl rfl) (fun w=>KM hE (Z6 rfl (congrArg Value.pointer qXx31))) (fun a hE=>?_)
     refine KC (i:=17) (v:=.pointer (some ((Xx31).add 1))) (unb 25 245759) rfl rfl hT (anyM hM (by kernel_rfl)) hE rfl (KX rfl hE rfl rfl rfl) (fun w=>KL hE rfl ZT) (fun a hE=>?_)
     refine KC (i:=20) (v:=.string x1) (unb 25 1294335) rfl rfl hT (anyM hM (by kernel_rfl)) hE rfl (KX rfl hE rfl rfl rfl) (fun w=>KG hE rfl) (fun a hE=>?_)
     refine KC (i:=21) (v:=.int .i64 Xx2) (unb 25 3391487) rfl rfl hT (anyM hM (by kernel_rfl)) hE rfl (KX rfl hE rfl rfl rfl) (fun w=>KG hE rfl) (fun a hE=>?_)
     refine KC (i:=22) (v:=.int .u8 Xx32) (unb 25 7585791) rfl rfl hT (anyM hM (by kernel_rfl)) hE rfl (KX rfl hE rfl rfl rfl) (fun w=>KBk hE rfl rfl un9 qXx32) (fun a hE=>?_)
     refine Jw (i:=14) (v:=.string Xx33) (unb 25 7602175) rfl rfl hT (WA hM (by kernel_rfl)) hE rfl (KX rfl hE rfl rfl rfl) hs (fun w s=>ZO hE rfl sc9 s.2.2.1) (fun a hE=>?_)
     refine Jw (i:=18) (v:=.int .i64 Xx34) (unb 25 7864319) rfl rfl hT (WA hM (by kernel_rfl)) hE rfl (KX rfl hE rfl rfl rfl) hs (fun w s=>ZO hE rfl sc3 s.2.2.2) (fun a hE=>?_)
     refine KC (i:=19) (v:=.int .u8 Xx35) (unb 25 8388607) rfl rfl hT (anyM hM (by kernel_rfl)) hE rfl (KX rfl hE rfl rfl rfl) (fun w=>KBk hE rfl rfl un9 qXx35) (fun a hE=>?_)
     refine KC (i:=23) (v:=.bool (Xx35 != Xx32)) (unb 25 16777215) rfl rfl hT (anyM hM (by kernel_rfl)) hE rfl (KX rfl hE rfl rfl rfl) (fun w=>ZS hE rfl rfl ZI KCn) (fun a hE=>?_)
     refine KC (i:=24) (v:=.bool (Xx35 != Xx32)) (unb 25 33554431) rfl rfl hT (anyM hM (by kernel_rfl)) hE rfl (KA rfl) (fun w=>JL hE rfl rfl) (fun a hE=>?_)
     refine Wg hT (qw hM (by kernel_rfl)) ?_
     exact ⟨Xx35 != Xx32,hE.cut (.cons rfl (.cons rfl (.cons rfl (.cons rfl (.cons rfl Subs.nil))))),hR,H⟩
 ·replace H:=M.ite_f hb H
  refine KCi ?_
  refine Xu.same ?_
  exact hret _ _ _ () _ hE hR (Z5 hE rfl RV.nil) rfl H
end Gx
namespace Gx
open Go
set_option linter.unusedVariables false
set_option maxRecDepth 100000
def Zx (C28:Option Addr) (C29:Int) (C30:Int):M (Value ⊕ (Int)):=do
 let Xx32←nilP C28
 let Xx33←ldI .i64 ((Xx32).add 1)
 let Xx34←nilP C28
 stV ((Xx34).add 1) (.int .i64 (IntKind.wrap .i64 (Xx33+1)))
 M.pure (.inr (IntKind.wrap .u8 (iOr .i64 (iShl .i64 C29 4) C30)))
def Kl (C38:Option Addr) (C39:Int) (C40:Int) (Xx37:Bool):M (Value ⊕ (Int)):=do
 M.ite Xx37 (do
  thr (Kt C38) fun Xx41=>do
   Zx C38 C39 C40
  ) (do
  Zx C38 C39 C40
  )
noncomputable def Yf:Array Oper:=KF5 Go.Proofs.Tryz.f254 11
def KEw:List (List Nat):=[[],[0],[1],[2],[],[4],[5],[6],[7],[3,8],[9],[10],[11,10],[10,12],[13,10],[14],[15,14],[16,14,14],[17],[18,17],[17,19,14],[14,20]]
def KEx:List (List Nat):=[[],[0],[1],[2],[],[4],[5],[6],[7],[3,8],[9],[10],[10,11],[10,12],[13],[14],[14,15],[14,16],[17],[17,18],[14,17,19],[14,20]]
def KEy:List (List Nat):=[[],[0],[0,1],[0,1,2],[],[4],[4,5],[4,5,6],[4,5,6,7],[0,1,2,3,4,5,6,7,8],[0,1,2,3,4,5,6,7,8,9],[0,1,2,3,4,5,6,7,8,9,10],[0,1,2,3,4,5,6,7,8,9,10,11],[0,1,2,3,4,5,6,7,8,9,10,11,12],[0,1,2,3,4,5,6,7,8,9,10,11,12,13],[0,1,2,3,4,5,6,7,8,9,10,11,12,13,14],[0,1,2,3,4,5,6,7,8,9,10,11,12,13,14,15],[0,1,2,3,4,5,6,7,8,9,10,11,12,13,14,15,16],[0,1,2,3,4,5,6,7,8,9,10,11,12,13,14,15,16,17],[0,1,2,3,4,5,6,7,8,9,10,11,12,13,14,15,16,17,18],[0,1,2,3,4,5,6,7,8,9,10,11,12,13,14,15,16,17,18,19],[0,1,2,3,4,5,6,7,8,9,10,11,12,13,14,15,16,17,18,19,20]]
theorem zz:KA6 Go.Proofs.Tryz.f254 11 KEw KEx KEy=true:=by kernel_rfl
theorem ql:KCs 22 KEw KEx KEy [0,1,2,4,0,16,32,64,128,264,512,1024,3072,5120,9216,16384,49152,81920,131072,393216,671744,1064960] [0,1,2,4,0,16,32,64,128,264,512,1024,3072,5120,8192,16384,49152,81920,131072,393216,671744,1064960] [0,1,3,7,0,16,48,112,240,511,1023,2047,4095,8191,16383,32767,65535,131071,262143,524287,1048575,2097151]=true:=by kernel_rfl
def Zy (C18:Option Addr) (C19:Int):M (Value ⊕ (Int)):=do
 let Xx21←nilP C18
 let Xx22←ldI .i64 ((Xx21).add 1)
 let Xx23←nilP C18
 stV ((Xx23).add 1) (.int .i64 (IntKind.wrap .i64 (Xx22+1)))
 let Xx26←Ki C18
 let Xx27←Zp (⟨#[48,49,50,51,52,53,54,55,56,57,97,98,99,100,101,102]⟩:ByteArray) Xx26
 let Xx42←nilP C18
 let Xx43←nilP C18
 let Xx44←ldI .i64 ((Xx42).add 1)
 let Xx45←ldS ((Xx43).add 0)
 M.ite (decide (Xx44 ≥ (Xx45.size:Int))) (do
  Kl C18 C19 Xx27 true
  ) (do
  M.ite (decide (Xx27 < 0)) (do
   Kl C18 C19 Xx27 true
   ) (do
   M.ite (C19 == 7) (do
    Kl C18 C19 Xx27 (decide (Xx27 < 15))
    ) (do
    Kl C18 C19 Xx27 false
    )
   )
  )
def Kn (C50:Option Addr) (C51:Int) (Xx49:Bool):M (Value ⊕ (Int)):=do
 M.ite Xx49 (do
  thr (Kt C50) fun Xx52=>do
   Zy C50 C51
  ) (do
  Zy C50 C51
  )
noncomputable def Xy:Array Oper:=KF5 Go.Proofs.Tryz.f254 7
def KGh:List (List Nat):=[[],[0],[1],[2],[],[4],[5],[6],[7],[3,8],[9],[10],[11,10],[10,12],[13,10],[14],[15,14],[16,14,14],[17],[18,17],[17,19,14],[14,20]]
def KGi:List (List Nat):=[[],[0],[1],[2],[],[4],[5],[6],[7],[3,8],[9],[10],[10,11],[10,12],[13],[14],[14,15],[14,16],[17],[17,18],[14,17,19],[14,20]]
def KGj:List (List Nat):=[[],[0],[0,1],[0,1,2],[],[4],[4,5],[4,5,6],[4,5,6,7],[0,1,2,3,4,5,6,7,8],[0,1,2,3,4,5,6,7,8,9],[0,1,2,3,4,5,6,7,8,9,10],[0,1,2,3,4,5,6,7,8,9,10,11],[0,1,2,3,4,5,6,7,8,9,10,11,12],[0,1,2,3,4,5,6,7,8,9,10,11,12,13],[0,1,2,3,4,5,6,7,8,9,10,11,12,13,14],[0,1,2,3,4,5,6,7,8,9,10,11,12,13,14,15],[0,1,2,3,4,5,6,7,8,9,10,11,12,13,14,15,16],[0,1,2,3,4,5,6,7,8,9,10,11,12,13,14,15,16,17],[0,1,2,3,4,5,6,7,8,9,10,11,12,13,14,15,16,17,18],[0,1,2,3,4,5,6,7,8,9,10,11,12,13,14,15,16,17,18,19],[0,1,2,3,4,5,6,7,8,9,10,11,12,13,14,15,16,17,18,19,20]]
theorem KCJ:KA6 Go.Proofs.Tryz.f254 7 KGh KGi KGj=true:=by kernel_rfl
theorem z6:KCs 22 KGh KGi KGj [0,1,2,4,0,16,32,64,128,264,512,1024,3072,5120,9216,16384,49152,81920,131072,393216,671744,1064960] [0,1,2,4,0,16,32,64,128,264,512,1024,3072,5120,8192,16384,49152,81920,131072,393216,671744,1064960] [0,1,3,7,0,16,48,112,240,511,1023,2047,4095,8191,16383,32767,65535,131071,262143,524287,1048575,2097151]=true:=by kernel_rfl
def Jb (x0:Option Addr):M (Value ⊕ (Int)):=do
 let Xx4←Ki x0
 let Xx6←M.ite (Xx4 == 39) (do
  M.pure true
  ) (do
  M.pure (Xx4 == 92)
  )
 M.ite Xx6 (do
  let Xx8←nilP x0
  let Xx9←ldI .i64 ((Xx8).add 1)
  let Xx10←nilP x0
  stV ((Xx10).add 1) (.int .i64 (IntKind.wrap .i64 (Xx9+1)))
  M.pure (.inr Xx4)
  ) (do
  thr (ZA x0 (⟨#[120]⟩:ByteArray)) fun Xx14=>do
   let Xx16←Ki x0
   let Xx17←Zp (⟨#[48,49,50,51,52,53,54,55,56,57,97,98,99,100,101,102]⟩:ByteArray) Xx16
   let Xx53←nilP x0
   let Xx54←nilP x0
   let Xx55←ldI .i64 ((Xx53).add 1)
   let Xx56←ldS ((Xx54).add 0)
   M.ite (decide (Xx55 ≥ (Xx56.size:Int))) (do
    Kn x0 Xx17 true
    ) (do
    M.ite (decide (Xx17 < 0)) (do
     Kn x0 Xx17 true
     ) (do
     M.ite (decide (Xx17 > 1)) (do
      Kn x0 Xx17 (decide (Xx17 < 7))
      ) (do
      Kn x0 Xx17 false
      )
     )
    )
  )
theorem XY (x0:Option Addr):Yo Go.Proofs.Tryz.prog 254 #[.pointer x0] (fun (r:Int)=>.int .u8 r) (Jb x0):=by
 refine WK [(0,.pointer x0)] Go.Proofs.Tryz.func254 rfl rfl (Nat.le_of_ble_eq_true rfl) (V9 ⟨rfl,trivial⟩) (fun w0 w Q R X a hret hthr hE hR H=>?_)
 unfold Jb at H
 refine KZ (fun K hK_1=>?_)
 refine KF ?_
 refine KD (v:=.int .u8 0) rfl rfl hE rfl (Kc hE rfl) (fun a hE=>?_)
 refine KY ?_
 refine hK_1 _ _ ?_
 refine KZ (fun K hK_2=>?_)
 refine KZ (fun K hK_3=>?_)
 refine KF ?_
 refine KD (v:=.pointer x0) rfl rfl hE rfl (KG hE rfl) (fun a hE=>?_)
 refine UZ hE hR Kj rfl (Kv x0) (M.unbind H) (fun Xx4 a w ea hR H=>?_)
 have hE:=Env.put_some hE rfl ea; clear ea
 refine KD (v:=.int .u8 Xx4) rfl rfl hE rfl (Kc hE rfl) (fun a hE=>?_)
 refine KY ?_
 refine hK_3 _ _ ?_
 refine KZ (fun K hK_5=>?_)
 refine KF ?_
 refine KD (v:=.int .u8 Xx4) rfl rfl hE rfl (KG hE rfl) (fun a hE=>?_)
 refine KD (v:=.bool (Xx4 == 39)) rfl rfl hE rfl (ZS hE rfl rfl ZI Yp) (fun a hE=>?_)
 refine KD (v:=.bool (Xx4 == 39)) rfl rfl hE rfl (KG hE rfl) (fun a hE=>?_)
 refine KCp (n:=(⟨97,[]⟩:Frm)) (w0:=w0) 3 (fun Xx6:Bool=>[(0,.pointer x0),(3,.int .u8 Xx4),(13,.bool Xx6)]) (M.unbind H) (fun Kr hKr H=>?_) ?_
 ·rcases U8 (Xx4 == 39) with hb | hb
  ·replace H:=M.ite_t hb H
   have hE:=hE.reb 10 (Xx4 == 39) true hb rfl
   refine XU rfl hE rfl rfl rfl (fun a ea=>?_)
   have hE:=Env.put_some hE rfl ea; clear ea
   refine XU rfl hE rfl rfl rfl (fun a ea=>?_)
   have hE:=Env.put_some hE rfl ea; clear ea
   refine KD rfl rfl hE rfl (Jv hE rfl rfl) (fun a hE=>?_)
   refine KY ?_
   exact hKr _ _ _ (hE.cut (.cons rfl (.cons rfl (.cons rfl Subs.nil)))) hR H
  ·replace H:=M.ite_f hb H
   have hE:=hE.reb 10 (Xx4 == 39) false hb rfl
   refine t_on rfl hE rfl rfl rfl ?_
   refine KD (v:=.int .u8 Xx4) rfl rfl hE rfl (KG hE rfl) (fun a hE=>?_)
   refine t_on rfl hE rfl rfl rfl ?_
   refine KD (v:=.bool (Xx4 == 92)) rfl rfl hE rfl (ZS hE rfl rfl ZI Yp) (fun a hE=>?_)
   refine KD rfl rfl hE rfl (JL hE rfl rfl) (fun a hE=>?_)
   refine KY ?_
   exact hKr _ _ _ (hE.cut (.cons rfl (.cons rfl (.cons rfl Subs.nil)))) hR H
 ·intro Xx6 a w hE hR H
  refine KY ?_
  refine hK_5 _ _ ?_
  refine JP Xx6 hE rfl (fun hb=>?_) (fun hb=>?_)
  ·replace H:=M.ite_t hb H
   refine KZ (fun K hK_7=>?_)
   refine KF ?_
   refine KD (v:=.pointer x0) rfl rfl hE rfl (KG hE rfl) (fun a hE=>?_)
   obtain ⟨Xx8,qXx8,H⟩:=H
   refine KD (v:=.pointer (some Xx8)) rfl rfl hE rfl (KM hE (Z6 rfl (congrArg Value.pointer qXx8))) (fun a hE=>?_)
   refine KD (v:=.pointer (some ((Xx8).add 1))) rfl rfl hE rfl (KL hE rfl ZT) (fun a hE=>?_)
   obtain ⟨Xx9,qXx9,H⟩:=H
   refine KD (v:=.int .i64 Xx9) rfl rfl hE rfl (ZO hE rfl sc3 qXx9) (fun a hE=>?_)
   refine KD (v:=.int .i64 (IntKind.wrap .i64 (Xx9+1))) rfl rfl hE rfl (ZS hE rfl rfl ZI Xb) (fun a hE=>?_)
   obtain ⟨Xx10,qXx10,H⟩:=H
   refine KD (v:=.pointer (some Xx10)) rfl rfl hE rfl (KM hE (Z6 rfl (congrArg Value.pointer qXx10))) (fun a hE=>?_)
   refine KD (v:=.pointer (some ((Xx10).add 1))) rfl rfl hE rfl (KL hE rfl ZT) (fun a hE=>?_)
   obtain ⟨u_11,qu_11,H⟩:=H
   refine Uk rfl rfl hE hR (Zn hE rfl rfl sz3 qu_11) (fun a w hE hR hh=>?_)
   replace H:=M.at hh H; clear hh
   refine KY ?_
   refine hK_7 _ _ ?_
   refine KZ (fun K hK_12=>?_)
   refine KF ?_
   refine KD (v:=.int .u8 Xx4) rfl rfl hE rfl (KG hE rfl) (fun a hE=>?_)
   refine KD (v:=.int .u8 Xx4) rfl rfl hE rfl (Kc hE rfl) (fun a hE=>?_)
   refine KY ?_
   refine hK_12 _ _ ?_
   refine WJ ?_
   exact hret _ _ _ Xx4 _ hE hR (Z5 hE rfl (RV.tmp rfl RV.nil)) rfl H
  ·replace H:=M.ite_f hb H
   refine UE ?_
   refine hK_2 _ _ ?_
   refine KZ (fun K hK_13=>?_)
   refine KF ?_
   refine KD (v:=.pointer x0) rfl rfl hE rfl (KG hE rfl) (fun a hE=>?_)
   refine JD hE hR ZP rfl (Za x0 (⟨#[120]⟩:ByteArray)) H (fun _ _ hR HQ=>hthr _ _ hR HQ) (fun Xx14 a w ea hR H=>?_)
   have hE:=Env.put_some hE rfl ea; clear ea
   refine KY ?_
   refine hK_13 _ _ ?_
   refine KZ (fun K hK_15=>?_)
   refine KF ?_
   refine KD (v:=.pointer x0) rfl rfl hE rfl (KG hE rfl) (fun a hE=>?_)
   refine UZ hE hR Kj rfl (Kv x0) (M.unbind H) (fun Xx16 a w ea hR H=>?_)
   have hE:=Env.put_some hE rfl ea; clear ea
   refine UZ hE hR VE rfl (VY (⟨#[48,49,50,51,52,53,54,55,56,57,97,98,99,100,101,102]⟩:ByteArray) Xx16) (M.unbind H) (fun Xx17 a w ea hR H=>?_)
   have hE:=Env.put_some hE rfl ea; clear ea
   refine KD (v:=.int .i64 Xx17) rfl rfl hE rfl (Kc hE rfl) (fun a hE=>?_)
   refine KY ?_
   refine hK_15 _ _ ?_
   refine JU (fun a w=>Env (⟨97,[]⟩:Frm) a [(0,.pointer x0),(4,.int .i64 Xx17)]∧Rest w0 w∧(Zy x0 Xx17).wp w.heap Q) ?_ ?_
   ·rintro a w ⟨hE,hR,H⟩
    unfold Zy at H
    refine KZ (fun K hK_20=>?_)
    refine KF ?_
    refine KD (v:=.pointer x0) rfl rfl hE rfl (KG hE rfl) (fun a hE=>?_)
    obtain ⟨Xx21,qXx21,H⟩:=H
    refine KD (v:=.pointer (some Xx21)) rfl rfl hE rfl (KM hE (Z6 rfl (congrArg Value.pointer qXx21))) (fun a hE=>?_)
    refine KD (v:=.pointer (some ((Xx21).add 1))) rfl rfl hE rfl (KL hE rfl ZT) (fun a hE=>?_)
    obtain ⟨Xx22,qXx22,H⟩:=H
    refine KD (v:=.int .i64 Xx22) rfl rfl hE rfl (ZO hE rfl sc3 qXx22) (fun a hE=>?_)
    refine KD (v:=.int .i64 (IntKind.wrap .i64 (Xx22+1))) rfl rfl hE rfl (ZS hE rfl rfl ZI Xb) (fun a hE=>?_)
    obtain ⟨Xx23,qXx23,H⟩:=H
    refine KD (v:=.pointer (some Xx23)) rfl rfl hE rfl (KM hE (Z6 rfl (congrArg Value.pointer qXx23))) (fun a hE=>?_)
    refine KD (v:=.pointer (some ((Xx23).add 1))) rfl rfl hE rfl (KL hE rfl ZT) (fun a hE=>?_)
    obtain ⟨u_24,qu_24,H⟩:=H
    refine Uk rfl rfl hE hR (Zn hE rfl rfl sz3 qu_24) (fun a w hE hR hh=>?_)
    replace H:=M.at hh H; clear hh
    refine KY ?_
    refine hK_20 _ _ ?_
    refine KZ (fun K hK_25=>?_)
    refine KF ?_
    refine KD (v:=.pointer x0) rfl rfl hE rfl (KG hE rfl) (fun a hE=>?_)
    refine UZ hE hR Kj rfl (Kv x0) (M.unbind H) (fun Xx26 a w ea hR H=>?_)
    have hE:=Env.put_some hE rfl ea; clear ea
    refine UZ hE hR VE rfl (VY (⟨#[48,49,50,51,52,53,54,55,56,57,97,98,99,100,101,102]⟩:ByteArray) Xx26) (M.unbind H) (fun Xx27 a w ea hR H=>?_)
    have hE:=Env.put_some hE rfl ea; clear ea
    refine KD (v:=.int .i64 Xx27) rfl rfl hE rfl (Kc hE rfl) (fun a hE=>?_)
    refine KY ?_
    refine hK_25 _ _ ?_
    refine JU (fun a w=>Env (⟨97,[]⟩:Frm) a [(0,.pointer x0),(4,.int .i64 Xx17),(5,.int .i64 Xx27)]∧Rest w0 w∧(Zx x0 Xx17 Xx27).wp w.heap Q) ?_ ?_
    ·rintro a w ⟨hE,hR,H⟩
     unfold Zx at H
     refine KZ (fun K hK_31=>?_)
     refine KF ?_
     refine KD (v:=.pointer x0) rfl rfl hE rfl (KG hE rfl) (fun a hE=>?_)
     obtain ⟨Xx32,qXx32,H⟩:=H
     refine KD (v:=.pointer (some Xx32)) rfl rfl hE rfl (KM hE (Z6 rfl (congrArg Value.pointer qXx32))) (fun a hE=>?_)
     refine KD (v:=.pointer (some ((Xx32).add 1))) rfl rfl hE rfl (KL hE rfl ZT) (fun a hE=>?_)
     obtain ⟨Xx33,qXx33,H⟩:=H
     refine KD (v:=.int .i64 Xx33) rfl rfl hE rfl (ZO hE rfl sc3 qXx33) (fun a hE=>?_)
     refine KD (v:=.int .i64 (IntKind.wrap .i64 (Xx33+1))) rfl rfl hE rfl (ZS hE rfl rfl ZI Xb) (fun a hE=>?_)
     obtain ⟨Xx34,qXx34,H⟩:=H
     refine KD (v:=.pointer (some Xx34)) rfl rfl hE rfl (KM hE (Z6 rfl (congrArg Value.pointer qXx34))) (fun a hE=>?_)
     refine KD (v:=.pointer (some ((Xx34).add 1))) rfl rfl hE rfl (KL hE rfl ZT) (fun a hE=>?_)
     obtain ⟨u_35,qu_35,H⟩:=H
     refine Uk rfl rfl hE hR (Zn hE rfl rfl sz3 qu_35) (fun a w hE hR hh=>?_)
     replace H:=M.at hh H; clear hh
     refine KY ?_
     refine hK_31 _ _ ?_
     refine KZ (fun K hK_36=>?_)
     refine KF ?_
     refine KD (v:=.int .i64 Xx17) rfl rfl hE rfl (KG hE rfl) (fun a hE=>?_)
     refine KD (v:=.int .i64 (iShl .i64 Xx17 4)) rfl rfl hE rfl (ZS hE rfl rfl ZI (KJJ ⟨by decide,rfl⟩)) (fun a hE=>?_)
     refine KD (v:=.int .i64 Xx27) rfl rfl hE rfl (KG hE rfl) (fun a hE=>?_)
     refine KD (v:=.int .i64 (iOr .i64 (iShl .i64 Xx17 4) Xx27)) rfl rfl hE rfl (ZS hE rfl rfl ZI b_or) (fun a hE=>?_)
     refine KD (v:=.int .u8 (IntKind.wrap .u8 (iOr .i64 (iShl .i64 Xx17 4) Xx27))) rfl rfl hE rfl (KFx hE rfl un3 un5) (fun a hE=>?_)
     refine KD (v:=.int .u8 (IntKind.wrap .u8 (iOr .i64 (iShl .i64 Xx17 4) Xx27))) rfl rfl hE rfl (Kc hE rfl) (fun a hE=>?_)
     refine KY ?_
     refine hK_36 _ _ ?_
     refine WJ ?_
     exact hret _ _ _ (IntKind.wrap .u8 (iOr .i64 (iShl .i64 Xx17 4) Xx27)) _ hE hR (Z5 hE rfl (RV.tmp rfl RV.nil)) rfl H
    ·skip
     refine JU (fun a w=>∃ (Xx37:Bool),Env (⟨97,[]⟩:Frm) a [(0,.pointer x0),(4,.int .i64 Xx17),(5,.int .i64 Xx27),(82,.bool Xx37)]∧Rest w0 w∧(Kl x0 Xx17 Xx27 Xx37).wp w.heap Q) ?_ ?_
     ·rintro a w ⟨Xx37,hE,hR,H⟩
      unfold Kl at H
      refine JP Xx37 hE rfl (fun hb=>?_) (fun hb=>?_)
      ·replace H:=M.ite_t hb H
       refine KF ?_
       refine KD (v:=.pointer x0) rfl rfl hE rfl (KG hE rfl) (fun a hE=>?_)
       refine JD hE hR K0 rfl (ZD x0) H (fun _ _ hR HQ=>hthr _ _ hR HQ) (fun Xx41 a w ea hR H=>?_)
       have hE:=Env.put_some hE rfl ea; clear ea
       refine KY ?_
       exact ⟨hE.cut (.cons rfl (.cons rfl (.cons rfl Subs.nil))),hR,H⟩
      ·replace H:=M.ite_f hb H
       refine UE ?_
       exact ⟨hE.cut (.cons rfl (.cons rfl (.cons rfl Subs.nil))),hR,H⟩
     ·skip
      obtain ⟨Xx42,qXx42,H⟩:=H
      obtain ⟨Xx43,qXx43,H⟩:=H
      obtain ⟨Xx44,qXx44,H⟩:=H
      obtain ⟨Xx45,qXx45,H⟩:=H
      rcases U8 (decide (Xx44 ≥ (Xx45.size:Int))) with hb_46 | hb_46
      ·replace H:=M.ite_t hb_46 H
       refine XP (rops:=Yf) (by kernel_rfl) ?_
       have hT:Tab Yf _ _ _:=W6 zz rfl (by kernel_rfl)
       have hM:=TabM.of ql
       refine U9 (m:=22) (fun w:World=>(fun h:Heap=>(KV h ((Xx42).add 1)=some (.int .i64 Xx44))∧(KV h ((Xx43).add 0)=some (.string Xx45))) w.heap) [9,10,11,12,13,14,15,16,17,18,19,20,21] (unb 22 0) mo hR (by kernel_rfl) (by kernel_rfl) (fun w' e=>by rw [e]; exact ⟨qXx44,qXx45⟩) (fun w hh hR hs=>?_)
       replace H:=M.at hh H; clear hh
       refine KC (i:=0) (v:=.pointer x0) (unb 22 1) rfl rfl hT (anyM hM (by kernel_rfl)) hE rfl (KA rfl) (fun w=>KG hE rfl) (fun a hE=>?_)
       refine KC (i:=1) (v:=.pointer (some Xx42)) (unb 22 3) rfl rfl hT (anyM hM (by kernel_rfl)) hE rfl (KA rfl) (fun w=>KM hE (Z6 rfl (congrArg Value.pointer qXx42))) (fun a hE=>?_)
       refine KC (i:=2) (v:=.pointer (some ((Xx42).add 1))) (unb 22 7) rfl rfl hT (anyM hM (by kernel_rfl)) hE rfl (KA rfl) (fun w=>KL hE rfl ZT) (fun a hE=>?_)
       refine KC (i:=4) (v:=.pointer x0) (unb 22 23) rfl rfl hT (anyM hM (by kernel_rfl)) hE rfl (KA rfl) (fun w=>KG hE rfl) (fun a hE=>?_)
       refine KC (i:=5) (v:=.pointer (some Xx43)) (unb 22 55) rfl rfl hT (anyM hM (by kernel_rfl)) hE rfl (KA rfl) (fun w=>KM hE (Z6 rfl (congrArg Value.pointer qXx43))) (fun a hE=>?_)
       refine KC (i:=6) (v:=.pointer (some ((Xx43).add 0))) (unb 22 119) rfl rfl hT (anyM hM (by kernel_rfl)) hE rfl (KA rfl) (fun w=>KL hE rfl Wf) (fun a hE=>?_)
       refine Jw (i:=3) (v:=.int .i64 Xx44) (unb 22 127) rfl rfl hT (WA hM (by kernel_rfl)) hE rfl (KA rfl) hs (fun w s=>ZO hE rfl sc3 s.1) (fun a hE=>?_)
       refine Jw (i:=7) (v:=.string Xx45) (unb 22 255) rfl rfl hT (WA hM (by kernel_rfl)) hE rfl (KA rfl) hs (fun w s=>ZO hE rfl sc9 s.2) (fun a hE=>?_)
       refine KC (i:=8) (v:=.int .i64 (Xx45.size:Int)) (unb 22 511) rfl rfl hT (anyM hM (by kernel_rfl)) hE rfl (KA rfl) (fun w=>W3 hE rfl un9) (fun a hE=>?_)
       refine KC (i:=9) (v:=.bool (decide (Xx44 ≥ (Xx45.size:Int)))) (unb 22 1023) rfl rfl hT (anyM hM (by kernel_rfl)) hE rfl (KA rfl) (fun w=>ZS hE rfl rfl ZI KAF) (fun a hE=>?_)
       refine KC (i:=10) (v:=.bool (decide (Xx44 ≥ (Xx45.size:Int)))) (unb 22 2047) rfl rfl hT (anyM hM (by kernel_rfl)) hE rfl (KA rfl) (fun w=>KG hE rfl) (fun a hE=>?_)
       have hE:=hE.reb 71 (decide (Xx44 ≥ (Xx45.size:Int))) true hb_46 rfl
       replace hE:=hE.cut (l':=[(0,.pointer x0),(4,.int .i64 Xx17),(5,.int .i64 Xx27),(71,.bool true)]) (.cons rfl (.cons rfl (.cons rfl (.cons rfl Subs.nil))))
       refine KBm (i:=11) (unb 22 4095) rfl rfl hT (anyM hM (by kernel_rfl)) (J8 rfl hE rfl rfl rfl) (fun a ea=>?_)
       have hE:=Env.put_some hE rfl ea; clear ea
       refine KBm (i:=12) (unb 22 8191) rfl rfl hT (anyM hM (by kernel_rfl)) (J8 rfl hE rfl rfl rfl) (fun a ea=>?_)
       have hE:=Env.put_some hE rfl ea; clear ea
       refine KC (i:=13) (v:=.bool true) (unb 22 16383) rfl rfl hT (anyM hM (by kernel_rfl)) hE rfl (KA rfl) (fun w=>Jv hE rfl rfl) (fun a hE=>?_)
       refine KC (i:=14) (v:=.bool true) (unb 22 32767) rfl rfl hT (anyM hM (by kernel_rfl)) hE rfl (KA rfl) (fun w=>KG hE rfl) (fun a hE=>?_)
       refine N2 [(15,some 76),(16,some 77),(17,some 78),(18,some 79),(19,some 80),(20,some 81)] 1 hT hM hE (by kernel_rfl) (m':=2097151) (by kernel_rfl) (fun a hE=>?_)
       refine KC (i:=21) (v:=.bool true) (unb 22 4194303) rfl rfl hT (anyM hM (by kernel_rfl)) hE rfl (KA rfl) (fun w=>Jv hE rfl rfl) (fun a hE=>?_)
       refine Wg hT (qw hM (by kernel_rfl)) ?_
       exact ⟨true,hE.cut (.cons rfl (.cons rfl (.cons rfl (.cons rfl Subs.nil)))),hR,H⟩
      ·replace H:=M.ite_f hb_46 H
       rcases U8 (decide (Xx27 < 0)) with hb_47 | hb_47
       ·replace H:=M.ite_t hb_47 H
        refine XP (rops:=Yf) (by kernel_rfl) ?_
        have hT:Tab Yf _ _ _:=W6 zz rfl (by kernel_rfl)
        have hM:=TabM.of ql
        refine U9 (m:=22) (fun w:World=>(fun h:Heap=>(KV h ((Xx42).add 1)=some (.int .i64 Xx44))∧(KV h ((Xx43).add 0)=some (.string Xx45))) w.heap) [9,10,11,12,13,14,15,16,17,18,19,20,21] (unb 22 0) mo hR (by kernel_rfl) (by kernel_rfl) (fun w' e=>by rw [e]; exact ⟨qXx44,qXx45⟩) (fun w hh hR hs=>?_)
        replace H:=M.at hh H; clear hh
        refine KC (i:=0) (v:=.pointer x0) (unb 22 1) rfl rfl hT (anyM hM (by kernel_rfl)) hE rfl (KA rfl) (fun w=>KG hE rfl) (fun a hE=>?_)
        refine KC (i:=1) (v:=.pointer (some Xx42)) (unb 22 3) rfl rfl hT (anyM hM (by kernel_rfl)) hE rfl (KA rfl) (fun w=>KM hE (Z6 rfl (congrArg Value.pointer qXx42))) (fun a hE=>?_)
        refine KC (i:=2) (v:=.pointer (some ((Xx42).add 1))) (unb 22 7) rfl rfl hT (anyM hM (by kernel_rfl)) hE rfl (KA rfl) (fun w=>KL hE rfl ZT) (fun a hE=>?_)
        refine KC (i:=4) (v:=.pointer x0) (unb 22 23) rfl rfl hT (anyM hM (by kernel_rfl)) hE rfl (KA rfl) (fun w=>KG hE rfl) (fun a hE=>?_)
        refine KC (i:=5) (v:=.pointer (some Xx43)) (unb 22 55) rfl rfl hT (anyM hM (by kernel_rfl)) hE rfl (KA rfl) (fun w=>KM hE (Z6 rfl (congrArg Value.pointer qXx43))) (fun a hE=>?_)
        refine KC (i:=6) (v:=.pointer (some ((Xx43).add 0))) (unb 22 119) rfl rfl hT (anyM hM (by kernel_rfl)) hE rfl (KA rfl) (fun w=>KL hE rfl Wf) (fun a hE=>?_)
        refine Jw (i:=3) (v:=.int .i64 Xx44) (unb 22 127) rfl rfl hT (WA hM (by kernel_rfl)) hE rfl (KA rfl) hs (fun w s=>ZO hE rfl sc3 s.1) (fun a hE=>?_)
        refine Jw (i:=7) (v:=.string Xx45) (unb 22 255) rfl rfl hT (WA hM (by kernel_rfl)) hE rfl (KA rfl) hs (fun w s=>ZO hE rfl sc9 s.2) (fun a hE=>?_)
        refine KC (i:=8) (v:=.int .i64 (Xx45.size:Int)) (unb 22 511) rfl rfl hT (anyM hM (by kernel_rfl)) hE rfl (KA rfl) (fun w=>W3 hE rfl un9) (fun a hE=>?_)
        refine KC (i:=9) (v:=.bool (decide (Xx44 ≥ (Xx45.size:Int)))) (unb 22 1023) rfl rfl hT (anyM hM (by kernel_rfl)) hE rfl (KA rfl) (fun w=>ZS hE rfl rfl ZI KAF) (fun a hE=>?_)
        refine KC (i:=10) (v:=.bool (decide (Xx44 ≥ (Xx45.size:Int)))) (unb 22 2047) rfl rfl hT (anyM hM (by kernel_rfl)) hE rfl (KA rfl) (fun w=>KG hE rfl) (fun a hE=>?_)
        have hE:=hE.reb 71 (decide (Xx44 ≥ (Xx45.size:Int))) false hb_46 rfl
        replace hE:=hE.cut (l':=[(0,.pointer x0),(4,.int .i64 Xx17),(5,.int .i64 Xx27),(71,.bool false)]) (.cons rfl (.cons rfl (.cons rfl (.cons rfl Subs.nil))))
        refine KC (i:=11) (v:=.int .i64 Xx27) (unb 22 4095) rfl rfl hT (anyM hM (by kernel_rfl)) hE rfl (KX rfl hE rfl rfl rfl) (fun w=>KG hE rfl) (fun a hE=>?_)
        refine KC (i:=12) (v:=.bool (decide (Xx27 < 0))) (unb 22 8191) rfl rfl hT (anyM hM (by kernel_rfl)) hE rfl (KX rfl hE rfl rfl rfl) (fun w=>ZS hE rfl rfl ZI zn) (fun a hE=>?_)
        refine KC (i:=13) (v:=.bool (decide (Xx27 < 0))) (unb 22 16383) rfl rfl hT (anyM hM (by kernel_rfl)) hE rfl (KA rfl) (fun w=>JL hE rfl rfl) (fun a hE=>?_)
        refine KC (i:=14) (v:=.bool (decide (Xx27 < 0))) (unb 22 32767) rfl rfl hT (anyM hM (by kernel_rfl)) hE rfl (KA rfl) (fun w=>KG hE rfl) (fun a hE=>?_)
        have hE:=hE.reb 75 (decide (Xx27 < 0)) true hb_47 rfl
        replace hE:=hE.cut (l':=[(0,.pointer x0),(4,.int .i64 Xx17),(5,.int .i64 Xx27),(75,.bool true)]) (.cons rfl (.cons rfl (.cons rfl (.cons rfl Subs.nil))))
        refine N2 [(15,some 76),(16,some 77),(17,some 78),(18,some 79),(19,some 80),(20,some 81)] 1 hT hM hE (by kernel_rfl) (m':=2097151) (by kernel_rfl) (fun a hE=>?_)
        refine KC (i:=21) (v:=.bool true) (unb 22 4194303) rfl rfl hT (anyM hM (by kernel_rfl)) hE rfl (KA rfl) (fun w=>Jv hE rfl rfl) (fun a hE=>?_)
        refine Wg hT (qw hM (by kernel_rfl)) ?_
        exact ⟨true,hE.cut (.cons rfl (.cons rfl (.cons rfl (.cons rfl Subs.nil)))),hR,H⟩
       ·replace H:=M.ite_f hb_47 H
        rcases U8 (Xx17 == 7) with hb_48 | hb_48
        ·replace H:=M.ite_t hb_48 H
         refine XP (rops:=Yf) (by kernel_rfl) ?_
         have hT:Tab Yf _ _ _:=W6 zz rfl (by kernel_rfl)
         have hM:=TabM.of ql
         refine U9 (m:=22) (fun w:World=>(fun h:Heap=>(KV h ((Xx42).add 1)=some (.int .i64 Xx44))∧(KV h ((Xx43).add 0)=some (.string Xx45))) w.heap) [9,10,11,12,13,14,15,16,17,18,19,20,21] (unb 22 0) mo hR (by kernel_rfl) (by kernel_rfl) (fun w' e=>by rw [e]; exact ⟨qXx44,qXx45⟩) (fun w hh hR hs=>?_)
         replace H:=M.at hh H; clear hh
         refine KC (i:=0) (v:=.pointer x0) (unb 22 1) rfl rfl hT (anyM hM (by kernel_rfl)) hE rfl (KA rfl) (fun w=>KG hE rfl) (fun a hE=>?_)
         refine KC (i:=1) (v:=.pointer (some Xx42)) (unb 22 3) rfl rfl hT (anyM hM (by kernel_rfl)) hE rfl (KA rfl) (fun w=>KM hE (Z6 rfl (congrArg Value.pointer qXx42))) (fun a hE=>?_)
         refine KC (i:=2) (v:=.pointer (some ((Xx42).add 1))) (unb 22 7) rfl rfl hT (anyM hM (by kernel_rfl)) hE rfl (KA rfl) (fun w=>KL hE rfl ZT) (fun a hE=>?_)
         refine KC (i:=4) (v:=.pointer x0) (unb 22 23) rfl rfl hT (anyM hM (by kernel_rfl)) hE rfl (KA rfl) (fun w=>KG hE rfl) (fun a hE=>?_)
         refine KC (i:=5) (v:=.pointer (some Xx43)) (unb 22 55) rfl rfl hT (anyM hM (by kernel_rfl)) hE rfl (KA rfl) (fun w=>KM hE (Z6 rfl (congrArg Value.pointer qXx43))) (fun a hE=>?_)
         refine KC (i:=6) (v:=.pointer (some ((Xx43).add 0))) (unb 22 119) rfl rfl hT (anyM hM (by kernel_rfl)) hE rfl (KA rfl) (fun w=>KL hE rfl Wf) (fun a hE=>?_)
         refine Jw (i:=3) (v:=.int .i64 Xx44) (unb 22 127) rfl rfl hT (WA hM (by kernel_rfl)) hE rfl (KA rfl) hs (fun w s=>ZO hE rfl sc3 s.1) (fun a hE=>?_)
         refine Jw (i:=7) (v:=.string Xx45) (unb 22 255) rfl rfl hT (WA hM (by kernel_rfl)) hE rfl (KA rfl) hs (fun w s=>ZO hE rfl sc9 s.2) (fun a hE=>?_)
         refine KC (i:=8) (v:=.int .i64 (Xx45.size:Int)) (unb 22 511) rfl rfl hT (anyM hM (by kernel_rfl)) hE rfl (KA rfl) (fun w=>W3 hE rfl un9) (fun a hE=>?_)
         refine KC (i:=9) (v:=.bool (decide (Xx44 ≥ (Xx45.size:Int)))) (unb 22 1023) rfl rfl hT (anyM hM (by kernel_rfl)) hE rfl (KA rfl) (fun w=>ZS hE rfl rfl ZI KAF) (fun a hE=>?_)
         refine KC (i:=10) (v:=.bool (decide (Xx44 ≥ (Xx45.size:Int)))) (unb 22 2047) rfl rfl hT (anyM hM (by kernel_rfl)) hE rfl (KA rfl) (fun w=>KG hE rfl) (fun a hE=>?_)
         have hE:=hE.reb 71 (decide (Xx44 ≥ (Xx45.size:Int))) false hb_46 rfl
         replace hE:=hE.cut (l':=[(0,.pointer x0),(4,.int .i64 Xx17),(5,.int .i64 Xx27),(71,.bool false)]) (.cons rfl (.cons rfl (.cons rfl (.cons rfl Subs.nil))))
         refine KC (i:=11) (v:=.int .i64 Xx27) (unb 22 4095) rfl rfl hT (anyM hM (by kernel_rfl)) hE rfl (KX rfl hE rfl rfl rfl) (fun w=>KG hE rfl) (fun a hE=>?_)
         refine KC (i:=12) (v:=.bool (decide (Xx27 < 0))) (unb 22 8191) rfl rfl hT (anyM hM (by kernel_rfl)) hE rfl (KX rfl hE rfl rfl rfl) (fun w=>ZS hE rfl rfl ZI zn) (fun a hE=>?_)
         refine KC (i:=13) (v:=.bool (decide (Xx27 < 0))) (unb 22 16383) rfl rfl hT (anyM hM (by kernel_rfl)) hE rfl (KA rfl) (fun w=>JL hE rfl rfl) (fun a hE=>?_)
         refine KC (i:=14) (v:=.bool (decide (Xx27 < 0))) (unb 22 32767) rfl rfl hT (anyM hM (by kernel_rfl)) hE rfl (KA rfl) (fun w=>KG hE rfl) (fun a hE=>?_)
         have hE:=hE.reb 75 (decide (Xx27 < 0)) false hb_47 rfl
         replace hE:=hE.cut (l':=[(0,.pointer x0),(4,.int .i64 Xx17),(5,.int .i64 Xx27),(75,.bool false)]) (.cons rfl (.cons rfl (.cons rfl (.cons rfl Subs.nil))))
         refine KC (i:=15) (v:=.int .i64 Xx17) (unb 22 65535) rfl rfl hT (anyM hM (by kernel_rfl)) hE rfl (KX rfl hE rfl rfl rfl) (fun w=>KG hE rfl) (fun a hE=>?_)
         refine KC (i:=16) (v:=.bool (Xx17 == 7)) (unb 22 131071) rfl rfl hT (anyM hM (by kernel_rfl)) hE rfl (KX rfl hE rfl rfl rfl) (fun w=>ZS hE rfl rfl ZI Yp) (fun a hE=>?_)
         refine KC (i:=17) (v:=.bool (Xx17 == 7)) (unb 22 262143) rfl rfl hT (anyM hM (by kernel_rfl)) hE rfl (KX rfl hE rfl rfl rfl) (fun w=>KG hE rfl) (fun a hE=>?_)
         have hE:=hE.reb 78 (Xx17 == 7) true hb_48 rfl
         replace hE:=hE.cut (l':=[(0,.pointer x0),(4,.int .i64 Xx17),(5,.int .i64 Xx27),(75,.bool false),(78,.bool true)]) (.cons rfl (.cons rfl (.cons rfl (.cons rfl (.cons rfl Subs.nil)))))
         refine KC (i:=18) (v:=.int .i64 Xx27) (unb 22 524287) rfl rfl hT (anyM hM (by kernel_rfl)) hE rfl (KX rfl hE rfl rfl rfl) (fun w=>KG hE rfl) (fun a hE=>?_)
         refine KC (i:=19) (v:=.bool (decide (Xx27 < 15))) (unb 22 1048575) rfl rfl hT (anyM hM (by kernel_rfl)) hE rfl (KX rfl hE rfl rfl rfl) (fun w=>ZS hE rfl rfl ZI zn) (fun a hE=>?_)
         refine KC (i:=20) (v:=.bool (decide (Xx27 < 15))) (unb 22 2097151) rfl rfl hT (anyM hM (by kernel_rfl)) hE rfl (KX rfl hE rfl rfl rfl) (fun w=>Jv hE rfl rfl) (fun a hE=>?_)
         refine KC (i:=21) (v:=.bool (decide (Xx27 < 15))) (unb 22 4194303) rfl rfl hT (anyM hM (by kernel_rfl)) hE rfl (KA rfl) (fun w=>JL hE rfl rfl) (fun a hE=>?_)
         refine Wg hT (qw hM (by kernel_rfl)) ?_
         exact ⟨decide (Xx27 < 15),hE.cut (.cons rfl (.cons rfl (.cons rfl (.cons rfl Subs.nil)))),hR,H⟩
        ·replace H:=M.ite_f hb_48 H
         refine XP (rops:=Yf) (by kernel_rfl) ?_
         have hT:Tab Yf _ _ _:=W6 zz rfl (by kernel_rfl)
         have hM:=TabM.of ql
         refine U9 (m:=22) (fun w:World=>(fun h:Heap=>(KV h ((Xx42).add 1)=some (.int .i64 Xx44))∧(KV h ((Xx43).add 0)=some (.string Xx45))) w.heap) [9,10,11,12,13,14,15,16,17,18,19,20,21] (unb 22 0) mo hR (by kernel_rfl) (by kernel_rfl) (fun w' e=>by rw [e]; exact ⟨qXx44,qXx45⟩) (fun w hh hR hs=>?_)
         replace H:=M.at hh H; clear hh
         refine KC (i:=0) (v:=.pointer x0) (unb 22 1) rfl rfl hT (anyM hM (by kernel_rfl)) hE rfl (KA rfl) (fun w=>KG hE rfl) (fun a hE=>?_)
         refine KC (i:=1) (v:=.pointer (some Xx42)) (unb 22 3) rfl rfl hT (anyM hM (by kernel_rfl)) hE rfl (KA rfl) (fun w=>KM hE (Z6 rfl (congrArg Value.pointer qXx42))) (fun a hE=>?_)
         refine KC (i:=2) (v:=.pointer (some ((Xx42).add 1))) (unb 22 7) rfl rfl hT (anyM hM (by kernel_rfl)) hE rfl (KA rfl) (fun w=>KL hE rfl ZT) (fun a hE=>?_)
         refine KC (i:=4) (v:=.pointer x0) (unb 22 23) rfl rfl hT (anyM hM (by kernel_rfl)) hE rfl (KA rfl) (fun w=>KG hE rfl) (fun a hE=>?_)
         refine KC (i:=5) (v:=.pointer (some Xx43)) (unb 22 55) rfl rfl hT (anyM hM (by kernel_rfl)) hE rfl (KA rfl) (fun w=>KM hE (Z6 rfl (congrArg Value.pointer qXx43))) (fun a hE=>?_)
         refine KC (i:=6) (v:=.pointer (some ((Xx43).add 0))) (unb 22 119) rfl rfl hT (anyM hM (by kernel_rfl)) hE rfl (KA rfl) (fun w=>KL hE rfl Wf) (fun a hE=>?_)
         refine Jw (i:=3) (v:=.int .i64 Xx44) (unb 22 127) rfl rfl hT (WA hM (by kernel_rfl)) hE rfl (KA rfl) hs (fun w s=>ZO hE rfl sc3 s.1) (fun a hE=>?_)
         refine Jw (i:=7) (v:=.string Xx45) (unb 22 255) rfl rfl hT (WA hM (by kernel_rfl)) hE rfl (KA rfl) hs (fun w s=>ZO hE rfl sc9 s.2) (fun a hE=>?_)
         refine KC (i:=8) (v:=.int .i64 (Xx45.size:Int)) (unb 22 511) rfl rfl hT (anyM hM (by kernel_rfl)) hE rfl (KA rfl) (fun w=>W3 hE rfl un9) (fun a hE=>?_)
         refine KC (i:=9) (v:=.bool (decide (Xx44 ≥ (Xx45.size:Int)))) (unb 22 1023) rfl rfl hT (anyM hM (by kernel_rfl)) hE rfl (KA rfl) (fun w=>ZS hE rfl rfl ZI KAF) (fun a hE=>?_)
         refine KC (i:=10) (v:=.bool (decide (Xx44 ≥ (Xx45.size:Int)))) (unb 22 2047) rfl rfl hT (anyM hM (by kernel_rfl)) hE rfl (KA rfl) (fun w=>KG hE rfl) (fun a hE=>?_)
         have hE:=hE.reb 71 (decide (Xx44 ≥ (Xx45.size:Int))) false hb_46 rfl
         replace hE:=hE.cut (l':=[(0,.pointer x0),(4,.int .i64 Xx17),(5,.int .i64 Xx27),(71,.bool false)]) (.cons rfl (.cons rfl (.cons rfl (.cons rfl Subs.nil))))
         refine KC (i:=11) (v:=.int .i64 Xx27) (unb 22 4095) rfl rfl hT (anyM hM (by kernel_rfl)) hE rfl (KX rfl hE rfl rfl rfl) (fun w=>KG hE rfl) (fun a hE=>?_)
         refine KC (i:=12) (v:=.bool (decide (Xx27 < 0))) (unb 22 8191) rfl rfl hT (anyM hM (by kernel_rfl)) hE rfl (KX rfl hE rfl rfl rfl) (fun w=>ZS hE rfl rfl ZI zn) (fun a hE=>?_)
         refine KC (i:=13) (v:=.bool (decide (Xx27 < 0))) (unb 22 16383) rfl rfl hT (anyM hM (by kernel_rfl)) hE rfl (KA rfl) (fun w=>JL hE rfl rfl) (fun a hE=>?_)
         refine KC (i:=14) (v:=.bool (decide (Xx27 < 0))) (unb 22 32767) rfl rfl hT (anyM hM (by kernel_rfl)) hE rfl (KA rfl) (fun w=>KG hE rfl) (fun a hE=>?_)
         have hE:=hE.reb 75 (decide (Xx27 < 0)) false hb_47 rfl
         replace hE:=hE.cut (l':=[(0,.pointer x0),(4,.int .i64 Xx17),(5,.int .i64 Xx27),(75,.bool false)]) (.cons rfl (.cons rfl (.cons rfl (.cons rfl Subs.nil))))
         refine KC (i:=15) (v:=.int .i64 Xx17) (unb 22 65535) rfl rfl hT (anyM hM (by kernel_rfl)) hE rfl (KX rfl hE rfl rfl rfl) (fun w=>KG hE rfl) (fun a hE=>?_)
         refine KC (i:=16) (v:=.bool (Xx17 == 7)) (unb 22 131071) rfl rfl hT (anyM hM (by kernel_rfl)) hE rfl (KX rfl hE rfl rfl rfl) (fun w=>ZS hE rfl rfl ZI Yp) (fun a hE=>?_)
         refine KC (i:=17) (v:=.bool (Xx17 == 7)) (unb 22 262143) rfl rfl hT (anyM hM (by kernel_rfl)) hE rfl (KX rfl hE rfl rfl rfl) (fun w=>KG hE rfl) (fun a hE=>?_)
         have hE:=hE.reb 78 (Xx17 == 7) false hb_48 rfl
         replace hE:=hE.cut (l':=[(0,.pointer x0),(4,.int .i64 Xx17),(5,.int .i64 Xx27),(75,.bool false),(78,.bool false)]) (.cons rfl (.cons rfl (.cons rfl (.cons rfl (.cons rfl Subs.nil)))))
         refine KBm (i:=18) (unb 22 524287) rfl rfl hT (anyM hM (by kernel_rfl)) (J8 rfl hE rfl rfl rfl) (fun a ea=>?_)
         have hE:=Env.put_some hE rfl ea; clear ea
         refine KBm (i:=19) (unb 22 1048575) rfl rfl hT (anyM hM (by kernel_rfl)) (J8 rfl hE rfl rfl rfl) (fun a ea=>?_)
         have hE:=Env.put_some hE rfl ea; clear ea
         refine KC (i:=20) (v:=.bool false) (unb 22 2097151) rfl rfl hT (anyM hM (by kernel_rfl)) hE rfl (KX rfl hE rfl rfl rfl) (fun w=>JL hE rfl rfl) (fun a hE=>?_)
         refine KC (i:=21) (v:=.bool false) (unb 22 4194303) rfl rfl hT (anyM hM (by kernel_rfl)) hE rfl (KA rfl) (fun w=>JL hE rfl rfl) (fun a hE=>?_)
         refine Wg hT (qw hM (by kernel_rfl)) ?_
         exact ⟨false,hE.cut (.cons rfl (.cons rfl (.cons rfl (.cons rfl Subs.nil)))),hR,H⟩
   ·skip
    refine JU (fun a w=>∃ (Xx49:Bool),Env (⟨97,[]⟩:Frm) a [(0,.pointer x0),(4,.int .i64 Xx17),(48,.bool Xx49)]∧Rest w0 w∧(Kn x0 Xx17 Xx49).wp w.heap Q) ?_ ?_
    ·rintro a w ⟨Xx49,hE,hR,H⟩
     unfold Kn at H
     refine JP Xx49 hE rfl (fun hb=>?_) (fun hb=>?_)
     ·replace H:=M.ite_t hb H
      refine KF ?_
      refine KD (v:=.pointer x0) rfl rfl hE rfl (KG hE rfl) (fun a hE=>?_)
      refine JD hE hR K0 rfl (ZD x0) H (fun _ _ hR HQ=>hthr _ _ hR HQ) (fun Xx52 a w ea hR H=>?_)
      have hE:=Env.put_some hE rfl ea; clear ea
      refine KY ?_
      exact ⟨hE.cut (.cons rfl (.cons rfl Subs.nil)),hR,H⟩
     ·replace H:=M.ite_f hb H
      refine UE ?_
      exact ⟨hE.cut (.cons rfl (.cons rfl Subs.nil)),hR,H⟩
    ·skip
     obtain ⟨Xx53,qXx53,H⟩:=H
     obtain ⟨Xx54,qXx54,H⟩:=H
     obtain ⟨Xx55,qXx55,H⟩:=H
     obtain ⟨Xx56,qXx56,H⟩:=H
     rcases U8 (decide (Xx55 ≥ (Xx56.size:Int))) with hb_57 | hb_57
     ·replace H:=M.ite_t hb_57 H
      refine XP (rops:=Xy) (by kernel_rfl) ?_
      have hT:Tab Xy _ _ _:=W6 KCJ rfl (by kernel_rfl)
      have hM:=TabM.of z6
      refine U9 (m:=22) (fun w:World=>(fun h:Heap=>(KV h ((Xx53).add 1)=some (.int .i64 Xx55))∧(KV h ((Xx54).add 0)=some (.string Xx56))) w.heap) [9,10,11,12,13,14,15,16,17,18,19,20,21] (unb 22 0) mo hR (by kernel_rfl) (by kernel_rfl) (fun w' e=>by rw [e]; exact ⟨qXx55,qXx56⟩) (fun w hh hR hs=>?_)
      replace H:=M.at hh H; clear hh
      refine KC (i:=0) (v:=.pointer x0) (unb 22 1) rfl rfl hT (anyM hM (by kernel_rfl)) hE rfl (KA rfl) (fun w=>KG hE rfl) (fun a hE=>?_)
      refine KC (i:=1) (v:=.pointer (some Xx53)) (unb 22 3) rfl rfl hT (anyM hM (by kernel_rfl)) hE rfl (KA rfl) (fun w=>KM hE (Z6 rfl (congrArg Value.pointer qXx53))) (fun a hE=>?_)
      refine KC (i:=2) (v:=.pointer (some ((Xx53).add 1))) (unb 22 7) rfl rfl hT (anyM hM (by kernel_rfl)) hE rfl (KA rfl) (fun w=>KL hE rfl ZT) (fun a hE=>?_)
      refine KC (i:=4) (v:=.pointer x0) (unb 22 23) rfl rfl hT (anyM hM (by kernel_rfl)) hE rfl (KA rfl) (fun w=>KG hE rfl) (fun a hE=>?_)
      refine KC (i:=5) (v:=.pointer (some Xx54)) (unb 22 55) rfl rfl hT (anyM hM (by kernel_rfl)) hE rfl (KA rfl) (fun w=>KM hE (Z6 rfl (congrArg Value.pointer qXx54))) (fun a hE=>?_)
      refine KC (i:=6) (v:=.pointer (some ((Xx54).add 0))) (unb 22 119) rfl rfl hT (anyM hM (by kernel_rfl)) hE rfl (KA rfl) (fun w=>KL hE rfl Wf) (fun a hE=>?_)
      refine Jw (i:=3) (v:=.int .i64 Xx55) (unb 22 127) rfl rfl hT (WA hM (by kernel_rfl)) hE rfl (KA rfl) hs (fun w s=>ZO hE rfl sc3 s.1) (fun a hE=>?_)
      refine Jw (i:=7) (v:=.string Xx56) (unb 22 255) rfl rfl hT (WA hM (by kernel_rfl)) hE rfl (KA rfl) hs (fun w s=>ZO hE rfl sc9 s.2) (fun a hE=>?_)
      refine KC (i:=8) (v:=.int .i64 (Xx56.size:Int)) (unb 22 511) rfl rfl hT (anyM hM (by kernel_rfl)) hE rfl (KA rfl) (fun w=>W3 hE rfl un9) (fun a hE=>?_)
      refine KC (i:=9) (v:=.bool (decide (Xx55 ≥ (Xx56.size:Int)))) (unb 22 1023) rfl rfl hT (anyM hM (by kernel_rfl)) hE rfl (KA rfl) (fun w=>ZS hE rfl rfl ZI KAF) (fun a hE=>?_)
      refine KC (i:=10) (v:=.bool (decide (Xx55 ≥ (Xx56.size:Int)))) (unb 22 2047) rfl rfl hT (anyM hM (by kernel_rfl)) hE rfl (KA rfl) (fun w=>KG hE rfl) (fun a hE=>?_)
      have hE:=hE.reb 37 (decide (Xx55 ≥ (Xx56.size:Int))) true hb_57 rfl
      replace hE:=hE.cut (l':=[(0,.pointer x0),(4,.int .i64 Xx17),(37,.bool true)]) (.cons rfl (.cons rfl (.cons rfl Subs.nil)))
      refine KBm (i:=11) (unb 22 4095) rfl rfl hT (anyM hM (by kernel_rfl)) (J8 rfl hE rfl rfl rfl) (fun a ea=>?_)
      have hE:=Env.put_some hE rfl ea; clear ea
      refine KBm (i:=12) (unb 22 8191) rfl rfl hT (anyM hM (by kernel_rfl)) (J8 rfl hE rfl rfl rfl) (fun a ea=>?_)
      have hE:=Env.put_some hE rfl ea; clear ea
      refine KC (i:=13) (v:=.bool true) (unb 22 16383) rfl rfl hT (anyM hM (by kernel_rfl)) hE rfl (KA rfl) (fun w=>Jv hE rfl rfl) (fun a hE=>?_)
      refine KC (i:=14) (v:=.bool true) (unb 22 32767) rfl rfl hT (anyM hM (by kernel_rfl)) hE rfl (KA rfl) (fun w=>KG hE rfl) (fun a hE=>?_)
      refine N2 [(15,some 42),(16,some 43),(17,some 44),(18,some 45),(19,some 46),(20,some 47)] 1 hT hM hE (by kernel_rfl) (m':=2097151) (by kernel_rfl) (fun a hE=>?_)
      refine KC (i:=21) (v:=.bool true) (unb 22 4194303) rfl rfl hT (anyM hM (by kernel_rfl)) hE rfl (KA rfl) (fun w=>Jv hE rfl rfl) (fun a hE=>?_)
      refine Wg hT (qw hM (by kernel_rfl)) ?_
      exact ⟨true,hE.cut (.cons rfl (.cons rfl (.cons rfl Subs.nil))),hR,H⟩
     ·replace H:=M.ite_f hb_57 H
      rcases U8 (decide (Xx17 < 0)) with hb_58 | hb_58
      ·replace H:=M.ite_t hb_58 H
       refine XP (rops:=Xy) (by kernel_rfl) ?_
       have hT:Tab Xy _ _ _:=W6 KCJ rfl (by kernel_rfl)
       have hM:=TabM.of z6
       refine U9 (m:=22) (fun w:World=>(fun h:Heap=>(KV h ((Xx53).add 1)=some (.int .i64 Xx55))∧(KV h ((Xx54).add 0)=some (.string Xx56))) w.heap) [9,10,11,12,13,14,15,16,17,18,19,20,21] (unb 22 0) mo hR (by kernel_rfl) (by kernel_rfl) (fun w' e=>by rw [e]; exact ⟨qXx55,qXx56⟩) (fun w hh hR hs=>?_)
       replace H:=M.at hh H; clear hh
       refine KC (i:=0) (v:=.pointer x0) (unb 22 1) rfl rfl hT (anyM hM (by kernel_rfl)) hE rfl (KA rfl) (fun w=>KG hE rfl) (fun a hE=>?_)
       refine KC (i:=1) (v:=.pointer (some Xx53)) (unb 22 3) rfl rfl hT (anyM hM (by kernel_rfl)) hE rfl (KA rfl) (fun w=>KM hE (Z6 rfl (congrArg Value.pointer qXx53))) (fun a hE=>?_)
       refine KC (i:=2) (v:=.pointer (some ((Xx53).add 1))) (unb 22 7) rfl rfl hT (anyM hM (by kernel_rfl)) hE rfl (KA rfl) (fun w=>KL hE rfl ZT) (fun a hE=>?_)
       refine KC (i:=4) (v:=.pointer x0) (unb 22 23) rfl rfl hT (anyM hM (by kernel_rfl)) hE rfl (KA rfl) (fun w=>KG hE rfl) (fun a hE=>?_)
       refine KC (i:=5) (v:=.pointer (some Xx54)) (unb 22 55) rfl rfl hT (anyM hM (by kernel_rfl)) hE rfl (KA rfl) (fun w=>KM hE (Z6 rfl (congrArg Value.pointer qXx54))) (fun a hE=>?_)
       refine KC (i:=6) (v:=.pointer (some ((Xx54).add 0))) (unb 22 119) rfl rfl hT (anyM hM (by kernel_rfl)) hE rfl (KA rfl) (fun w=>KL hE rfl Wf) (fun a hE=>?_)
       refine Jw (i:=3) (v:=.int .i64 Xx55) (unb 22 127) rfl rfl hT (WA hM (by kernel_rfl)) hE rfl (KA rfl) hs (fun w s=>ZO hE rfl sc3 s.1) (fun a hE=>?_)
       refine Jw (i:=7) (v:=.string Xx56) (unb 22 255) rfl rfl hT (WA hM (by kernel_rfl)) hE rfl (KA rfl) hs (fun w s=>ZO hE rfl sc9 s.2) (fun a hE=>?_)
       refine KC (i:=8) (v:=.int .i64 (Xx56.size:Int)) (unb 22 511) rfl rfl hT (anyM hM (by kernel_rfl)) hE rfl (KA rfl) (fun w=>W3 hE rfl un9) (fun a hE=>?_)
       refine KC (i:=9) (v:=.bool (decide (Xx55 ≥ (Xx56.size:Int)))) (unb 22 1023) rfl rfl hT (anyM hM (by kernel_rfl)) hE rfl (KA rfl) (fun w=>ZS hE rfl rfl ZI KAF) (fun a hE=>?_)
       refine KC (i:=10) (v:=.bool (decide (Xx55 ≥ (Xx56.size:Int)))) (unb 22 2047) rfl rfl hT (anyM hM (by kernel_rfl)) hE rfl (KA rfl) (fun w=>KG hE rfl) (fun a hE=>?_)
       have hE:=hE.reb 37 (decide (Xx55 ≥ (Xx56.size:Int))) false hb_57 rfl
       replace hE:=hE.cut (l':=[(0,.pointer x0),(4,.int .i64 Xx17),(37,.bool false)]) (.cons rfl (.cons rfl (.cons rfl Subs.nil)))
       refine KC (i:=11) (v:=.int .i64 Xx17) (unb 22 4095) rfl rfl hT (anyM hM (by kernel_rfl)) hE rfl (KX rfl hE rfl rfl rfl) (fun w=>KG hE rfl) (fun a hE=>?_)
       refine KC (i:=12) (v:=.bool (decide (Xx17 < 0))) (unb 22 8191) rfl rfl hT (anyM hM (by kernel_rfl)) hE rfl (KX rfl hE rfl rfl rfl) (fun w=>ZS hE rfl rfl ZI zn) (fun a hE=>?_)
       refine KC (i:=13) (v:=.bool (decide (Xx17 < 0))) (unb 22 16383) rfl rfl hT (anyM hM (by kernel_rfl)) hE rfl (KA rfl) (fun w=>JL hE rfl rfl) (fun a hE=>?_)
       refine KC (i:=14) (v:=.bool (decide (Xx17 < 0))) (unb 22 32767) rfl rfl hT (anyM hM (by kernel_rfl)) hE rfl (KA rfl) (fun w=>KG hE rfl) (fun a hE=>?_)
       have hE:=hE.reb 41 (decide (Xx17 < 0)) true hb_58 rfl
       replace hE:=hE.cut (l':=[(0,.pointer x0),(4,.int .i64 Xx17),(41,.bool true)]) (.cons rfl (.cons rfl (.cons rfl Subs.nil)))
       refine N2 [(15,some 42),(16,some 43),(17,some 44),(18,some 45),(19,some 46),(20,some 47)] 1 hT hM hE (by kernel_rfl) (m':=2097151) (by kernel_rfl) (fun a hE=>?_)
       refine KC (i:=21) (v:=.bool true) (unb 22 4194303) rfl rfl hT (anyM hM (by kernel_rfl)) hE rfl (KA rfl) (fun w=>Jv hE rfl rfl) (fun a hE=>?_)
       refine Wg hT (qw hM (by kernel_rfl)) ?_
       exact ⟨true,hE.cut (.cons rfl (.cons rfl (.cons rfl Subs.nil))),hR,H⟩
      ·replace H:=M.ite_f hb_58 H
       rcases U8 (decide (Xx17 > 1)) with hb_59 | hb_59
       ·replace H:=M.ite_t hb_59 H
        refine XP (rops:=Xy) (by kernel_rfl) ?_
        have hT:Tab Xy _ _ _:=W6 KCJ rfl (by kernel_rfl)
        have hM:=TabM.of z6
        refine U9 (m:=22) (fun w:World=>(fun h:Heap=>(KV h ((Xx53).add 1)=some (.int .i64 Xx55))∧(KV h ((Xx54).add 0)=some (.string Xx56))) w.heap) [9,10,11,12,13,14,15,16,17,18,19,20,21] (unb 22 0) mo hR (by kernel_rfl) (by kernel_rfl) (fun w' e=>by rw [e]; exact ⟨qXx55,qXx56⟩) (fun w hh hR hs=>?_)
        replace H:=M.at hh H; clear hh
        refine KC (i:=0) (v:=.pointer x0) (unb 22 1) rfl rfl hT (anyM hM (by kernel_rfl)) hE rfl (KA rfl) (fun w=>KG hE rfl) (fun a hE=>?_)
        refine KC (i:=1) (v:=.pointer (some Xx53)) (unb 22 3) rfl rfl hT (anyM hM (by kernel_rfl)) hE rfl (KA rfl) (fun w=>KM hE (Z6 rfl (congrArg Value.pointer qXx53))) (fun a hE=>?_)
        refine KC (i:=2) (v:=.pointer (some ((Xx53).add 1))) (unb 22 7) rfl rfl hT (anyM hM (by kernel_rfl)) hE rfl (KA rfl) (fun w=>KL hE rfl ZT) (fun a hE=>?_)
        refine KC (i:=4) (v:=.pointer x0) (unb 22 23) rfl rfl hT (anyM hM (by kernel_rfl)) hE rfl (KA rfl) (fun w=>KG hE rfl) (fun a hE=>?_)
        refine KC (i:=5) (v:=.pointer (some Xx54)) (unb 22 55) rfl rfl hT (anyM hM (by kernel_rfl)) hE rfl (KA rfl) (fun w=>KM hE (Z6 rfl (congrArg Value.pointer qXx54))) (fun a hE=>?_)
        refine KC (i:=6) (v:=.pointer (some ((Xx54).add 0))) (unb 22 119) rfl rfl hT (anyM hM (by kernel_rfl)) hE rfl (KA rfl) (fun w=>KL hE rfl Wf) (fun a hE=>?_)
        refine Jw (i:=3) (v:=.int .i64 Xx55) (unb 22 127) rfl rfl hT (WA hM (by kernel_rfl)) hE rfl (KA rfl) hs (fun w s=>ZO hE rfl sc3 s.1) (fun a hE=>?_)
        refine Jw (i:=7) (v:=.string Xx56) (unb 22 255) rfl rfl hT (WA hM (by kernel_rfl)) hE rfl (KA rfl) hs (fun w s=>ZO hE rfl sc9 s.2) (fun a hE=>?_)
        refine KC (i:=8) (v:=.int .i64 (Xx56.size:Int)) (unb 22 511) rfl rfl hT (anyM hM (by kernel_rfl)) hE rfl (KA rfl) (fun w=>W3 hE rfl un9) (fun a hE=>?_)
        refine KC (i:=9) (v:=.bool (decide (Xx55 ≥ (Xx56.size:Int)))) (unb 22 1023) rfl rfl hT (anyM hM (by kernel_rfl)) hE rfl (KA rfl) (fun w=>ZS hE rfl rfl ZI KAF) (fun a hE=>?_)
        refine KC (i:=10) (v:=.bool (decide (Xx55 ≥ (Xx56.size:Int)))) (unb 22 2047) rfl rfl hT (anyM hM (by kernel_rfl)) hE rfl (KA rfl) (fun w=>KG hE rfl) (fun a hE=>?_)
        have hE:=hE.reb 37 (decide (Xx55 ≥ (Xx56.size:Int))) false hb_57 rfl
        replace hE:=hE.cut (l':=[(0,.pointer x0),(4,.int .i64 Xx17),(37,.bool false)]) (.cons rfl (.cons rfl (.cons rfl Subs.nil)))
        refine KC (i:=11) (v:=.int .i64 Xx17) (unb 22 4095) rfl rfl hT (anyM hM (by kernel_rfl)) hE rfl (KX rfl hE rfl rfl rfl) (fun w=>KG hE rfl) (fun a hE=>?_)
        refine KC (i:=12) (v:=.bool (decide (Xx17 < 0))) (unb 22 8191) rfl rfl hT (anyM hM (by kernel_rfl)) hE rfl (KX rfl hE rfl rfl rfl) (fun w=>ZS hE rfl rfl ZI zn) (fun a hE=>?_)
        refine KC (i:=13) (v:=.bool (decide (Xx17 < 0))) (unb 22 16383) rfl rfl hT (anyM hM (by kernel_rfl)) hE rfl (KA rfl) (fun w=>JL hE rfl rfl) (fun a hE=>?_)
        refine KC (i:=14) (v:=.bool (decide (Xx17 < 0))) (unb 22 32767) rfl rfl hT (anyM hM (by kernel_rfl)) hE rfl (KA rfl) (fun w=>KG hE rfl) (fun a hE=>?_)
        have hE:=hE.reb 41 (decide (Xx17 < 0)) false hb_58 rfl
        replace hE:=hE.cut (l':=[(0,.pointer x0),(4,.int .i64 Xx17),(41,.bool false)]) (.cons rfl (.cons rfl (.cons rfl Subs.nil)))
        refine KC (i:=15) (v:=.int .i64 Xx17) (unb 22 65535) rfl rfl hT (anyM hM (by kernel_rfl)) hE rfl (KX rfl hE rfl rfl rfl) (fun w=>KG hE rfl) (fun a hE=>?_)
        refine KC (i:=16) (v:=.bool (decide (Xx17 > 1))) (unb 22 131071) rfl rfl hT (anyM hM (by kernel_rfl)) hE rfl (KX rfl hE rfl rfl rfl) (fun w=>ZS hE rfl rfl ZI KCo) (fun a hE=>?_)
        refine KC (i:=17) (v:=.bool (decide (Xx17 > 1))) (unb 22 262143) rfl rfl hT (anyM hM (by kernel_rfl)) hE rfl (KX rfl hE rfl rfl rfl) (fun w=>KG hE rfl) (fun a hE=>?_)
        have hE:=hE.reb 44 (decide (Xx17 > 1)) true hb_59 rfl
        replace hE:=hE.cut (l':=[(0,.pointer x0),(4,.int .i64 Xx17),(41,.bool false),(44,.bool true)]) (.cons rfl (.cons rfl (.cons rfl (.cons rfl Subs.nil))))
        refine KC (i:=18) (v:=.int .i64 Xx17) (unb 22 524287) rfl rfl hT (anyM hM (by kernel_rfl)) hE rfl (KX rfl hE rfl rfl rfl) (fun w=>KG hE rfl) (fun a hE=>?_)
        refine KC (i:=19) (v:=.bool (decide (Xx17 < 7))) (unb 22 1048575) rfl rfl hT (anyM hM (by kernel_rfl)) hE rfl (KX rfl hE rfl rfl rfl) (fun w=>ZS hE rfl rfl ZI zn) (fun a hE=>?_)
        refine KC (i:=20) (v:=.bool (decide (Xx17 < 7))) (unb 22 2097151) rfl rfl hT (anyM hM (by kernel_rfl)) hE rfl (KX rfl hE rfl rfl rfl) (fun w=>Jv hE rfl rfl) (fun a hE=>?_)
        refine KC (i:=21) (v:=.bool (decide (Xx17 < 7))) (unb 22 4194303) rfl rfl hT (anyM hM (by kernel_rfl)) hE rfl (KA rfl) (fun w=>JL hE rfl rfl) (fun a hE=>?_)
        refine Wg hT (qw hM (by kernel_rfl)) ?_
        exact ⟨decide (Xx17 < 7),hE.cut (.cons rfl (.cons rfl (.cons rfl Subs.nil))),hR,H⟩
       ·replace H:=M.ite_f hb_59 H
        refine XP (rops:=Xy) (by kernel_rfl) ?_
        have hT:Tab Xy _ _ _:=W6 KCJ rfl (by kernel_rfl)
        have hM:=TabM.of z6
        refine U9 (m:=22) (fun w:World=>(fun h:Heap=>(KV h ((Xx53).add 1)=some (.int .i64 Xx55))∧(KV h ((Xx54).add 0)=some (.string Xx56))) w.heap) [9,10,11,12,13,14,15,16,17,18,19,20,21] (unb 22 0) mo hR (by kernel_rfl) (by kernel_rfl) (fun w' e=>by rw [e]; exact ⟨qXx55,qXx56⟩) (fun w hh hR hs=>?_)
        replace H:=M.at hh H; clear hh
        refine KC (i:=0) (v:=.pointer x0) (unb 22 1) rfl rfl hT (anyM hM (by kernel_rfl)) hE rfl (KA rfl) (fun w=>KG hE rfl) (fun a hE=>?_)
        refine KC (i:=1) (v:=.pointer (some Xx53)) (unb 22 3) rfl rfl hT (anyM hM (by kernel_rfl)) hE rfl (KA rfl) (fun w=>KM hE (Z6 rfl (congrArg Value.pointer qXx53))) (fun a hE=>?_)
        refine KC (i:=2) (v:=.pointer (some ((Xx53).add 1))) (unb 22 7) rfl rfl hT (anyM hM (by kernel_rfl)) hE rfl (KA rfl) (fun w=>KL hE rfl ZT) (fun a hE=>?_)
        refine KC (i:=4) (v:=.pointer x0) (unb 22 23) rfl rfl hT (anyM hM (by kernel_rfl)) hE rfl (KA rfl) (fun w=>KG hE rfl) (fun a hE=>?_)
        refine KC (i:=5) (v:=.pointer (some Xx54)) (unb 22 55) rfl rfl hT (anyM hM (by kernel_rfl)) hE rfl (KA rfl) (fun w=>KM hE (Z6 rfl (congrArg Value.pointer qXx54))) (fun a hE=>?_)
        refine KC (i:=6) (v:=.pointer (some ((Xx54).add 0))) (unb 22 119) rfl rfl hT (anyM hM (by kernel_rfl)) hE rfl (KA rfl) (fun w=>KL hE rfl Wf) (fun a hE=>?_)
        refine Jw (i:=3) (v:=.int .i64 Xx55) (unb 22 127) rfl rfl hT (WA hM (by kernel_rfl)) hE rfl (KA rfl) hs (fun w s=>ZO hE rfl sc3 s.1) (fun a hE=>?_)
        refine Jw (i:=7) (v:=.string Xx56) (unb 22 255) rfl rfl hT (WA hM (by kernel_rfl)) hE rfl (KA rfl) hs (fun w s=>ZO hE rfl sc9 s.2) (fun a hE=>?_)
        refine KC (i:=8) (v:=.int .i64 (Xx56.size:Int)) (unb 22 511) rfl rfl hT (anyM hM (by kernel_rfl)) hE rfl (KA rfl) (fun w=>W3 hE rfl un9) (fun a hE=>?_)
        refine KC (i:=9) (v:=.bool (decide (Xx55 ≥ (Xx56.size:Int)))) (unb 22 1023) rfl rfl hT (anyM hM (by kernel_rfl)) hE rfl (KA rfl) (fun w=>ZS hE rfl rfl ZI KAF) (fun a hE=>?_)
        refine KC (i:=10) (v:=.bool (decide (Xx55 ≥ (Xx56.size:Int)))) (unb 22 2047) rfl rfl hT (anyM hM (by kernel_rfl)) hE rfl (KA rfl) (fun w=>KG hE rfl) (fun a hE=>?_)
        have hE:=hE.reb 37 (decide (Xx55 ≥ (Xx56.size:Int))) false hb_57 rfl
        replace hE:=hE.cut (l':=[(0,.pointer x0),(4,.int .i64 Xx17),(37,.bool false)]) (.cons rfl (.cons rfl (.cons rfl Subs.nil)))
        refine KC (i:=11) (v:=.int .i64 Xx17) (unb 22 4095) rfl rfl hT (anyM hM (by kernel_rfl)) hE rfl (KX rfl hE rfl rfl rfl) (fun w=>KG hE rfl) (fun a hE=>?_)
        refine KC (i:=12) (v:=.bool (decide (Xx17 < 0))) (unb 22 8191) rfl rfl hT (anyM hM (by kernel_rfl)) hE rfl (KX rfl hE rfl rfl rfl) (fun w=>ZS hE rfl rfl ZI zn) (fun a hE=>?_)
        refine KC (i:=13) (v:=.bool (decide (Xx17 < 0))) (unb 22 16383) rfl rfl hT (anyM hM (by kernel_rfl)) hE rfl (KA rfl) (fun w=>JL hE rfl rfl) (fun a hE=>?_)
        refine KC (i:=14) (v:=.bool (decide (Xx17 < 0))) (unb 22 32767) rfl rfl hT (anyM hM (by kernel_rfl)) hE rfl (KA rfl) (fun w=>KG hE rfl) (fun a hE=>?_)
        have hE:=hE.reb 41 (decide (Xx17 < 0)) false hb_58 rfl
        replace hE:=hE.cut (l':=[(0,.pointer x0),(4,.int .i64 Xx17),(41,.bool false)]) (.cons rfl (.cons rfl (.cons rfl Subs.nil)))
        refine KC (i:=15) (v:=.int .i64 Xx17) (unb 22 65535) rfl rfl hT (anyM hM (by kernel_rfl)) hE rfl (KX rfl hE rfl rfl rfl) (fun w=>KG hE rfl) (fun a hE=>?_)
        refine KC (i:=16) (v:=.bool (decide (Xx17 > 1))) (unb 22 131071) rfl rfl hT (anyM hM (by kernel_rfl)) hE rfl (KX rfl hE rfl rfl rfl) (fun w=>ZS hE rfl rfl ZI KCo) (fun a hE=>?_)
        refine KC (i:=17) (v:=.bool (decide (Xx17 > 1))) (unb 22 262143) rfl rfl hT (anyM hM (by kernel_rfl)) hE rfl (KX rfl hE rfl rfl rfl) (fun w=>KG hE rfl) (fun a hE=>?_)
        have hE:=hE.reb 44 (decide (Xx17 > 1)) false hb_59 rfl
        replace hE:=hE.cut (l':=[(0,.pointer x0),(4,.int .i64 Xx17),(41,.bool false),(44,.bool false)]) (.cons rfl (.cons rfl (.cons rfl (.cons rfl Subs.nil))))
        refine KBm (i:=18) (unb 22 524287) rfl rfl hT (anyM hM (by kernel_rfl)) (J8 rfl hE rfl rfl rfl) (fun a ea=>?_)
        have hE:=Env.put_some hE rfl ea; clear ea
        refine KBm (i:=19) (unb 22 1048575) rfl rfl hT (anyM hM (by kernel_rfl)) (J8 rfl hE rfl rfl rfl) (fun a ea=>?_)
        have hE:=Env.put_some hE rfl ea; clear ea
        refine KC (i:=20) (v:=.bool false) (unb 22 2097151) rfl rfl hT (anyM hM (by kernel_rfl)) hE rfl (KX rfl hE rfl rfl rfl) (fun w=>JL hE rfl rfl) (fun a hE=>?_)
        refine KC (i:=21) (v:=.bool false) (unb 22 4194303) rfl rfl hT (anyM hM (by kernel_rfl)) hE rfl (KA rfl) (fun w=>JL hE rfl rfl) (fun a hE=>?_)
        refine Wg hT (qw hM (by kernel_rfl)) ?_
        exact ⟨false,hE.cut (.cons rfl (.cons rfl (.cons rfl Subs.nil))),hR,H⟩
end Gx
