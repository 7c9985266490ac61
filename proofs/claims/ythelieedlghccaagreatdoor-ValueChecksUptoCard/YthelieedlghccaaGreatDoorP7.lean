/- Printed by program: Go functions as Lean programs, each tied to its code. No condition. -/
import Derived.Test.YthelieedlghccaaGreatDoorP0
import Derived.Test.YthelieedlghccaaGreatDoorP1
import Derived.Test.YthelieedlghccaaGreatDoorP2
import Derived.Test.YthelieedlghccaaGreatDoorP3
import Derived.Test.YthelieedlghccaaGreatDoorP4
import Derived.Test.YthelieedlghccaaGreatDoorP5
import Derived.Test.YthelieedlghccaaGreatDoorP6
set_option linter.unusedVariables false
set_option linter.unusedSimpArgs false
namespace Gx
open Go
set_option linter.unusedVariables false
set_option maxRecDepth 100000
def UI (self1:(Sl)→M (Value ⊕ (ByteArray))) (C24:Sl) (Xx22:Int):M (Value ⊕ (ByteArray)):=do
 let Xx25←bdL Zi 1 #[.int .u8 Xx22]
 let Xx26←apL Zi 1 1 (#[.int .u8 0]:Array Value) C24 Xx25
 self1 Xx26
def Ui (self1:(Sl)→M (Value ⊕ (ByteArray))) (C14:Option Addr) (C15:Sl) (C16:Int):M (Value ⊕ (ByteArray)):=do
 let Xx18←nilP C14
 let Xx19←ldI .i64 ((Xx18).add 1)
 let Xx20←nilP C14
 stV ((Xx20).add 1) (.int .i64 (IntKind.wrap .i64 (Xx19+1)))
 M.ite (C16 == 92) (do
  thr (UX C14) fun Xx28=>do
   UI self1 C15 Xx28
  ) (do
  UI self1 C15 C16
  )
def VI (C7:Option Addr) (self1:(Sl)→M (Value ⊕ (ByteArray))):(Sl)→M (Value ⊕ (ByteArray)):=fun s=>match s with
 | Xx6=>do
  let Xx11←ZC C7
  M.ite (Xx11 != 39) (do
   let Xx13←ZC C7
   let Xx30←M.ite (decide (Xx13 < 32)) (do
    M.pure true
    ) (do
    M.pure (decide (Xx13 > 126))
    )
   M.ite Xx30 (do
    thr (ZP C7) fun Xx31=>do
     Ui self1 C7 Xx6 Xx13
    ) (do
    Ui self1 C7 Xx6 Xx13
    )
   ) (do
   let Xx33←nilP C7
   let Xx34←ldI .i64 ((Xx33).add 1)
   let Xx35←nilP C7
   stV ((Xx35).add 1) (.int .i64 (IntKind.wrap .i64 (Xx34+1)))
   let Xx38←b2s Xx6
   M.pure (.inr Xx38)
   )
def VQ (x0:Option Addr):M (Value ⊕ (ByteArray)):=do
 thr (Zl x0 (⟨#[39]⟩:ByteArray)) fun Xx5=>do
  M.loop (VI x0) Sl.nil
theorem qS (x0:Option Addr):Xl Go.Proofs.Tryz.prog 173 #[.pointer x0] (fun (r:ByteArray)=>.string r) (VQ x0):=by
 refine YH [(0,.pointer x0)] Go.Proofs.Tryz.func173 rfl rfl (Nat.le_of_ble_eq_true rfl) (Ke ⟨rfl,trivial⟩) (fun w0 w Q R X a hret hthr hE hR H=>?_)
 unfold VQ at H
 refine KH (fun K hK_1=>?_)
 refine KC ?_
 refine KB (v:=.string ByteArray.empty) rfl rfl hE rfl (KE hE rfl) (fun a hE=>?_)
 refine KG ?_
 refine hK_1 _ _ ?_
 refine KH (fun K hK_2=>?_)
 refine KC ?_
 refine KB (v:=(Sl.nil:Sl).v) rfl rfl hE rfl (KE hE rfl) (fun a hE=>?_)
 refine KG ?_
 refine hK_2 _ _ ?_
 refine KH (fun K hK_3=>?_)
 refine KH (fun K hK_4=>?_)
 refine KC ?_
 refine KB (v:=.pointer x0) rfl rfl hE rfl (KD hE rfl) (fun a hE=>?_)
 refine UF hE hR JG rfl (JR x0 (⟨#[39]⟩:ByteArray)) H (fun _ _ hR HQ=>hthr _ _ hR HQ) (fun Xx5 a w ea hR H=>?_)
 have hE:=Env.put_some hE rfl ea; clear ea
 refine KG ?_
 refine hK_4 _ _ ?_
 refine Kj ?_
 refine J7 (fun (s:Sl)=>(⟨44,[]⟩:Frm)) (fun (s:Sl)=>[(0,.pointer x0),(3,(s:Sl).v)]) H (hE.cut (.cons rfl (.cons rfl Subs.nil))) hR (fun Y self1 hY_8 Xx6 a w hE hR H=>?_)
 replace hE:Env (⟨44,[]⟩:Frm) a [(0,.pointer x0),(3,(Xx6:Sl).v)]:=hE
 replace H:(VI x0 self1 Xx6).wp w.heap Q:=H
 unfold VI at H
 refine KH (fun K hK_9=>?_)
 refine KH (fun K hK_10=>?_)
 refine KC ?_
 refine KB (v:=.pointer x0) rfl rfl hE rfl (KD hE rfl) (fun a hE=>?_)
 refine KZ hE hR ZG rfl (ZQ x0) (M.unbind H) (fun Xx11 a w ea hR H=>?_)
 have hE:=Env.put_some hE rfl ea; clear ea
 refine KB (v:=.bool (Xx11 != 39)) rfl rfl hE rfl (KL hE rfl rfl KN Yi) (fun a hE=>?_)
 refine KG ?_
 refine hK_10 _ _ ?_
 refine KS (Xx11 != 39) hE rfl (fun hb=>?_) (fun hb=>?_)
 ·replace H:=M.ite_t hb H
  refine Ka ?_
  refine hK_9 _ _ ?_
  refine Kj ?_
  refine KH (fun K hK_12=>?_)
  refine KC ?_
  refine KB (v:=.pointer x0) rfl rfl hE rfl (KD hE rfl) (fun a hE=>?_)
  refine KZ hE hR ZG rfl (ZQ x0) (M.unbind H) (fun Xx13 a w ea hR H=>?_)
  have hE:=Env.put_some hE rfl ea; clear ea
  refine KB (v:=.int .u8 Xx13) rfl rfl hE rfl (KE hE rfl) (fun a hE=>?_)
  refine KG ?_
  refine hK_12 _ _ ?_
  refine Ku (fun a w=>Env (⟨44,[]⟩:Frm) a [(0,.pointer x0),(3,(Xx6:Sl).v),(4,.int .u8 Xx13)]∧Rest w0 w∧(Ui self1 x0 Xx6 Xx13).wp w.heap Q) ?_ ?_
  ·rintro a w ⟨hE,hR,H⟩
   unfold Ui at H
   refine KH (fun K hK_17=>?_)
   refine KC ?_
   refine KB (v:=.pointer x0) rfl rfl hE rfl (KD hE rfl) (fun a hE=>?_)
   obtain ⟨Xx18,qXx18,H⟩:=H
   refine KB (v:=.pointer (some Xx18)) rfl rfl hE rfl (KW hE (Jg rfl (congrArg Value.pointer qXx18))) (fun a hE=>?_)
   refine KB (v:=.pointer (some ((Xx18).add 1))) rfl rfl hE rfl (KI hE rfl JA) (fun a hE=>?_)
   obtain ⟨Xx19,qXx19,H⟩:=H
   refine KB (v:=.int .i64 Xx19) rfl rfl hE rfl (KU hE rfl sc3 qXx19) (fun a hE=>?_)
   refine KB (v:=.int .i64 (IntKind.wrap .i64 (Xx19+1))) rfl rfl hE rfl (KL hE rfl rfl KN JE) (fun a hE=>?_)
   obtain ⟨Xx20,qXx20,H⟩:=H
   refine KB (v:=.pointer (some Xx20)) rfl rfl hE rfl (KW hE (Jg rfl (congrArg Value.pointer qXx20))) (fun a hE=>?_)
   refine KB (v:=.pointer (some ((Xx20).add 1))) rfl rfl hE rfl (KI hE rfl JA) (fun a hE=>?_)
   obtain ⟨u_21,qu_21,H⟩:=H
   refine JI rfl rfl hE hR (JK hE rfl rfl sz3 qu_21) (fun a w hE hR hh=>?_)
   replace H:=M.at hh H; clear hh
   refine KG ?_
   refine hK_17 _ _ ?_
   refine Ku (fun a w=>∃ (Xx22:Int),Env (⟨44,[]⟩:Frm) a [(0,.pointer x0),(3,(Xx6:Sl).v),(4,.int .u8 Xx22)]∧Rest w0 w∧(UI self1 Xx6 Xx22).wp w.heap Q) ?_ ?_
   ·rintro a w ⟨Xx22,hE,hR,H⟩
    unfold UI at H
    refine KC ?_
    refine KB (v:=(Xx6:Sl).v) rfl rfl hE rfl (KD hE rfl) (fun a hE=>?_)
    refine KB (v:=.int .u8 Xx22) rfl rfl hE rfl (KD hE rfl) (fun a hE=>?_)
    obtain ⟨Xx25,qXx25,H⟩:=H
    refine ZR (v:=(Xx25:Sl).v) rfl rfl hE rfl hR (YE (cells:=#[.int .u8 Xx22]) hE rfl un35 sz5 zr5 rfl rfl qXx25) (fun a w hE hR hh=>?_)
    replace H:=M.at hh H; clear hh
    refine t_ex (fun Xx26=>(Xx26:Sl).v) rfl rfl hR (M.unbind H) (fun Q H=>Xm hE rfl rfl ap35 H) (fun Xx26 a w ea hR H=>?_)
    have hE:=Env.put_some hE rfl ea; clear ea
    refine KB (v:=(Xx26:Sl).v) rfl rfl hE rfl (KE hE rfl) (fun a hE=>?_)
    refine KG ?_
    exact hY_8 Xx26 _ _ (hE.cut (.cons rfl (.cons rfl Subs.nil))) hR H
   ·skip
    refine KH (fun K hK_27=>?_)
    refine KC ?_
    refine KB (v:=.int .u8 Xx13) rfl rfl hE rfl (KD hE rfl) (fun a hE=>?_)
    refine KB (v:=.bool (Xx13 == 92)) rfl rfl hE rfl (KL hE rfl rfl KN Z5) (fun a hE=>?_)
    refine KG ?_
    refine hK_27 _ _ ?_
    refine KS (Xx13 == 92) hE rfl (fun hb=>?_) (fun hb=>?_)
    ·replace H:=M.ite_t hb H
     refine KC ?_
     refine KB (v:=.pointer x0) rfl rfl hE rfl (KD hE rfl) (fun a hE=>?_)
     refine UF hE hR GI rfl (Gc x0) H (fun _ _ hR HQ=>Xu.ne rfl (Xu.ne rfl (hthr _ _ hR HQ))) (fun Xx28 a w ea hR H=>?_)
     have hE:=Env.put_some hE rfl ea; clear ea
     refine KB (v:=.int .u8 Xx28) rfl rfl hE rfl (KE hE rfl) (fun a hE=>?_)
     refine KG ?_
     exact ⟨Xx28,hE.cut (.cons rfl (.cons rfl (.cons rfl Subs.nil))),hR,H⟩
    ·replace H:=M.ite_f hb H
     refine Ka ?_
     exact ⟨Xx13,hE.cut (.cons rfl (.cons rfl (.cons rfl Subs.nil))),hR,H⟩
  ·skip
   refine KH (fun K hK_29=>?_)
   refine KC ?_
   refine KB (v:=.int .u8 Xx13) rfl rfl hE rfl (KD hE rfl) (fun a hE=>?_)
   refine KB (v:=.bool (decide (Xx13 < 32))) rfl rfl hE rfl (KL hE rfl rfl KN JL) (fun a hE=>?_)
   refine KB (v:=.bool (decide (Xx13 < 32))) rfl rfl hE rfl (KD hE rfl) (fun a hE=>?_)
   refine J5 (n:=(⟨44,[]⟩:Frm)) (w0:=w0) 3 (fun Xx30:Bool=>[(0,.pointer x0),(3,(Xx6:Sl).v),(4,.int .u8 Xx13),(17,.bool Xx30)]) (M.unbind H) (fun Kr hKr H=>?_) ?_
   ·rcases Kq (decide (Xx13 < 32)) with hb | hb
    ·replace H:=M.ite_t hb H
     have hE:=hE.reb 14 (decide (Xx13 < 32)) true hb rfl
     refine Kf rfl hE rfl rfl rfl (fun a ea=>?_)
     have hE:=Env.put_some hE rfl ea; clear ea
     refine Kf rfl hE rfl rfl rfl (fun a ea=>?_)
     have hE:=Env.put_some hE rfl ea; clear ea
     refine KB rfl rfl hE rfl (Kc hE rfl rfl) (fun a hE=>?_)
     refine KG ?_
     exact hKr _ _ _ (hE.cut (.cons rfl (.cons rfl (.cons rfl (.cons rfl Subs.nil))))) hR H
    ·replace H:=M.ite_f hb H
     have hE:=hE.reb 14 (decide (Xx13 < 32)) false hb rfl
     refine t_on rfl hE rfl rfl rfl ?_
     refine KB (v:=.int .u8 Xx13) rfl rfl hE rfl (KD hE rfl) (fun a hE=>?_)
     refine t_on rfl hE rfl rfl rfl ?_
     refine KB (v:=.bool (decide (Xx13 > 126))) rfl rfl hE rfl (KL hE rfl rfl KN YI) (fun a hE=>?_)
     refine KB rfl rfl hE rfl (Kd hE rfl rfl) (fun a hE=>?_)
     refine KG ?_
     exact hKr _ _ _ (hE.cut (.cons rfl (.cons rfl (.cons rfl (.cons rfl Subs.nil))))) hR H
   ·intro Xx30 a w hE hR H
    refine KG ?_
    refine hK_29 _ _ ?_
    refine KS Xx30 hE rfl (fun hb=>?_) (fun hb=>?_)
    ·replace H:=M.ite_t hb H
     refine KC ?_
     refine KB (v:=.pointer x0) rfl rfl hE rfl (KD hE rfl) (fun a hE=>?_)
     refine UF hE hR Zg rfl (Zr x0) H (fun _ _ hR HQ=>Xu.ne rfl (Xu.ne rfl (hthr _ _ hR HQ))) (fun Xx31 a w ea hR H=>?_)
     have hE:=Env.put_some hE rfl ea; clear ea
     refine KG ?_
     exact ⟨hE.cut (.cons rfl (.cons rfl (.cons rfl Subs.nil))),hR,H⟩
    ·replace H:=M.ite_f hb H
     refine Ka ?_
     exact ⟨hE.cut (.cons rfl (.cons rfl (.cons rfl Subs.nil))),hR,H⟩
 ·replace H:=M.ite_f hb H
  refine J6 ?_
  refine Xu.same ?_
  refine hK_3 _ _ ?_
  refine KH (fun K hK_32=>?_)
  refine KC ?_
  refine KB (v:=.pointer x0) rfl rfl hE rfl (KD hE rfl) (fun a hE=>?_)
  obtain ⟨Xx33,qXx33,H⟩:=H
  refine KB (v:=.pointer (some Xx33)) rfl rfl hE rfl (KW hE (Jg rfl (congrArg Value.pointer qXx33))) (fun a hE=>?_)
  refine KB (v:=.pointer (some ((Xx33).add 1))) rfl rfl hE rfl (KI hE rfl JA) (fun a hE=>?_)
  obtain ⟨Xx34,qXx34,H⟩:=H
  refine KB (v:=.int .i64 Xx34) rfl rfl hE rfl (KU hE rfl sc3 qXx34) (fun a hE=>?_)
  refine KB (v:=.int .i64 (IntKind.wrap .i64 (Xx34+1))) rfl rfl hE rfl (KL hE rfl rfl KN JE) (fun a hE=>?_)
  obtain ⟨Xx35,qXx35,H⟩:=H
  refine KB (v:=.pointer (some Xx35)) rfl rfl hE rfl (KW hE (Jg rfl (congrArg Value.pointer qXx35))) (fun a hE=>?_)
  refine KB (v:=.pointer (some ((Xx35).add 1))) rfl rfl hE rfl (KI hE rfl JA) (fun a hE=>?_)
  obtain ⟨u_36,qu_36,H⟩:=H
  refine JI rfl rfl hE hR (JK hE rfl rfl sz3 qu_36) (fun a w hE hR hh=>?_)
  replace H:=M.at hh H; clear hh
  refine KG ?_
  refine hK_32 _ _ ?_
  refine KH (fun K hK_37=>?_)
  refine KC ?_
  refine KB (v:=(Xx6:Sl).v) rfl rfl hE rfl (KD hE rfl) (fun a hE=>?_)
  obtain ⟨Xx38,qXx38,H⟩:=H
  refine KB (v:=.string Xx38) rfl rfl hE rfl (KA4 hE rfl un35 un9 un5 qXx38) (fun a hE=>?_)
  refine KB (v:=.string Xx38) rfl rfl hE rfl (KE hE rfl) (fun a hE=>?_)
  refine KG ?_
  refine hK_37 _ _ ?_
  refine Kg ?_
  exact hret _ _ _ Xx38 _ hE hR (KM hE rfl (RV.tmp rfl RV.nil)) rfl H
def J2 (x0:Option Addr) (x1:Int):M (Value ⊕ (Array Value)):=do
 let Xx2←mkB KJ (#[.int .i64 0,.int .i64 0,.string ByteArray.empty,.slice none 0 0]:Array Value)
 let Xx4←nilP x0
 let Xx5←ldI .i64 ((Xx4).add 1)
 let Xx6←nilP x0
 stV ((Xx6).add 1) (.int .i64 (IntKind.wrap .i64 (Xx5+1)))
 thr (Zl x0 (⟨#[91]⟩:ByteArray)) fun Xx9=>do
  thr (UH x0) fun Xx11=>do
   let Xx12←mkB KJ (#[.int .i64 0,.int .i64 0,.string ByteArray.empty,.slice none 0 0]:Array Value)
   M.need ((#[.int .i64 x1,.int .i64 Xx11,.string ByteArray.empty,.slice none 0 0]:Array Value).size=4)
   stG Xx12 (#[.int .i64 x1,.int .i64 Xx11,.string ByteArray.empty,.slice none 0 0]:Array Value)
   thr (Zl x0 (⟨#[93]⟩:ByteArray)) fun Xx15=>do
    let Xx17←ldG 4 Xx12
    M.need (Xx17.size=4)
    stG Xx2 Xx17
    let Rr19←ldG 4 Xx2
    M.pure (.inr Rr19)
theorem W1 (x0:Option Addr) (x1:Int):Xl Go.Proofs.Tryz.prog 175 #[.pointer x0,.int .i64 x1] (fun (r:Array Value)=>.agg r) (J2 x0 x1):=by
 refine YH [(0,.pointer x0),(1,.int .i64 x1)] Go.Proofs.Tryz.func175 rfl rfl (Nat.le_of_ble_eq_true rfl) (Ke ⟨rfl,rfl,trivial⟩) (fun w0 w Q R X a hret hthr hE hR H=>?_)
 unfold J2 at H
 refine KH (fun K hK_1=>?_)
 refine KC ?_
 obtain ⟨Xx2,qXx2,H⟩:=H
 refine ZR (v:=.pointer (some Xx2)) rfl rfl hE rfl hR (Z4 zr24 qXx2) (fun a w hE hR hh=>?_)
 replace H:=M.at hh H; clear hh
 refine KG ?_
 refine hK_1 _ _ ?_
 refine KH (fun K hK_3=>?_)
 refine KC ?_
 refine KB (v:=.pointer x0) rfl rfl hE rfl (KD hE rfl) (fun a hE=>?_)
 obtain ⟨Xx4,qXx4,H⟩:=H
 refine KB (v:=.pointer (some Xx4)) rfl rfl hE rfl (KW hE (Jg rfl (congrArg Value.pointer qXx4))) (fun a hE=>?_)
 refine KB (v:=.pointer (some ((Xx4).add 1))) rfl rfl hE rfl (KI hE rfl JA) (fun a hE=>?_)
 obtain ⟨Xx5,qXx5,H⟩:=H
 refine KB (v:=.int .i64 Xx5) rfl rfl hE rfl (KU hE rfl sc3 qXx5) (fun a hE=>?_)
 refine KB (v:=.int .i64 (IntKind.wrap .i64 (Xx5+1))) rfl rfl hE rfl (KL hE rfl rfl KN JE) (fun a hE=>?_)
 obtain ⟨Xx6,qXx6,H⟩:=H
 refine KB (v:=.pointer (some Xx6)) rfl rfl hE rfl (KW hE (Jg rfl (congrArg Value.pointer qXx6))) (fun a hE=>?_)
 refine KB (v:=.pointer (some ((Xx6).add 1))) rfl rfl hE rfl (KI hE rfl JA) (fun a hE=>?_)
 obtain ⟨u_7,qu_7,H⟩:=H
 refine JI rfl rfl hE hR (JK hE rfl rfl sz3 qu_7) (fun a w hE hR hh=>?_)
 replace H:=M.at hh H; clear hh
 refine KG ?_
 refine hK_3 _ _ ?_
 refine KH (fun K hK_8=>?_)
 refine KC ?_
 refine KB (v:=.pointer x0) rfl rfl hE rfl (KD hE rfl) (fun a hE=>?_)
 refine UF hE hR JG rfl (JR x0 (⟨#[91]⟩:ByteArray)) H (fun _ _ hR HQ=>hthr _ _ hR HQ) (fun Xx9 a w ea hR H=>?_)
 have hE:=Env.put_some hE rfl ea; clear ea
 refine KG ?_
 refine hK_8 _ _ ?_
 refine KH (fun K hK_10=>?_)
 refine KC ?_
 refine KB (v:=.int .i64 x1) rfl rfl hE rfl (KD hE rfl) (fun a hE=>?_)
 refine KB (v:=.pointer x0) rfl rfl hE rfl (KD hE rfl) (fun a hE=>?_)
 refine UF hE hR Wz rfl (YM x0) H (fun _ _ hR HQ=>hthr _ _ hR HQ) (fun Xx11 a w ea hR H=>?_)
 have hE:=Env.put_some hE rfl ea; clear ea
 refine KB (v:=.agg (#[.int .i64 x1,.int .i64 Xx11,.string ByteArray.empty,.slice none 0 0]:Array Value)) rfl rfl hE rfl (Uw hE rfl zr24 pl24 (by rfl)) (fun a hE=>?_)
 obtain ⟨Xx12,qXx12,H⟩:=H
 refine ZR (v:=.pointer (some Xx12)) rfl rfl hE rfl hR (Z4 zr24 qXx12) (fun a w hE hR hh=>?_)
 replace H:=M.at hh H; clear hh
 obtain ⟨qz,H⟩:=H
 obtain ⟨u_13,qu_13,H⟩:=H
 refine JI rfl rfl hE hR (Kv hE rfl rfl sz24 qz qu_13) (fun a w hE hR hh=>?_)
 replace H:=M.at hh H; clear hh
 refine KG ?_
 refine hK_10 _ _ ?_
 refine KH (fun K hK_14=>?_)
 refine KC ?_
 refine KB (v:=.pointer x0) rfl rfl hE rfl (KD hE rfl) (fun a hE=>?_)
 refine UF hE hR JG rfl (JR x0 (⟨#[93]⟩:ByteArray)) H (fun _ _ hR HQ=>hthr _ _ hR HQ) (fun Xx15 a w ea hR H=>?_)
 have hE:=Env.put_some hE rfl ea; clear ea
 refine KG ?_
 refine hK_14 _ _ ?_
 refine KH (fun K hK_16=>?_)
 refine KC ?_
 obtain ⟨Xx17,qXx17,H⟩:=H
 refine KB (v:=.agg Xx17) rfl rfl hE rfl (ZN hE rfl ag24 qXx17) (fun a hE=>?_)
 obtain ⟨qz,H⟩:=H
 obtain ⟨u_18,qu_18,H⟩:=H
 refine JI rfl rfl hE hR (Kv hE rfl rfl sz24 qz qu_18) (fun a w hE hR hh=>?_)
 replace H:=M.at hh H; clear hh
 refine KG ?_
 refine hK_16 _ _ ?_
 refine Kg ?_
 obtain ⟨Rr19,qRr19,H⟩:=H
 exact hret _ _ _ Rr19 _ hE hR (KM hE rfl (RV.cellG rfl ag24 qRr19 RV.nil)) rfl H
def UN (C3:Option Addr) (C4:Int) (C5:Addr):M (Value ⊕ (Array Value)):=do
 let Xx7←ZC C3
 let Xx10←M.ite (Xx7 == 45) (do
  M.pure true
  ) (do
  let Xx11←WS Xx7
  M.pure Xx11
  )
 M.ite Xx10 (do
  thr (UH C3) fun Xx13=>do
   let Xx14←Xx Xx13
   M.need (Xx14.size=4)
   stG C5 Xx14
   let Rr16←ldG 4 C5
   M.pure (.inr Rr16)
  ) (do
  M.ite (Xx7 == 39) (do
   thr (VQ C3) fun Xx19=>do
    let Xx20←XC Xx19
    M.need (Xx20.size=4)
    stG C5 Xx20
    let Rr22←ldG 4 C5
    M.pure (.inr Rr22)
   ) (do
   M.ite (Xx7 == 116) (do
    thr (Zl C3 (⟨#[116,114,117,101]⟩:ByteArray)) fun Xx25=>do
     let Xx27←WX true
     M.need (Xx27.size=4)
     stG C5 Xx27
     let Rr29←ldG 4 C5
     M.pure (.inr Rr29)
    ) (do
    M.ite (Xx7 == 102) (do
     thr (Zl C3 (⟨#[102,97,108,115,101]⟩:ByteArray)) fun Xx32=>do
      let Xx34←WX false
      M.need (Xx34.size=4)
      stG C5 Xx34
      let Rr36←ldG 4 C5
      M.pure (.inr Rr36)
     ) (do
     M.ite (Xx7 == 118) (do
      thr (J2 C3 6) fun Xx39=>do
       M.need (Xx39.size=4)
       stG C5 Xx39
       let Rr41←ldG 4 C5
       M.pure (.inr Rr41)
      ) (do
      M.ite (Xx7 == 101) (do
       thr (J2 C3 7) fun Xx44=>do
        M.need (Xx44.size=4)
        stG C5 Xx44
        let Rr46←ldG 4 C5
        M.pure (.inr Rr46)
       ) (do
       M.ite (Xx7 == 91) (do
        thr (zT Go.Proofs.Tryz.prog Yc #[.pointer C3,.int .i64 C4,.int .u8 93,.int .i64 1] (fun r:Sl=>(r:Sl).v)) fun Xx49=>do
         M.need ((#[.int .i64 4,.int .i64 0,.string ByteArray.empty,(Xx49:Sl).v]:Array Value).size=4)
         stG C5 (#[.int .i64 4,.int .i64 0,.string ByteArray.empty,(Xx49:Sl).v]:Array Value)
         let Rr51←ldG 4 C5
         M.pure (.inr Rr51)
        ) (do
        M.ite (Xx7 == 123) (do
         thr (zT Go.Proofs.Tryz.prog Yc #[.pointer C3,.int .i64 C4,.int .u8 125,.int .i64 2] (fun r:Sl=>(r:Sl).v)) fun Xx54=>do
          M.need ((#[.int .i64 5,.int .i64 0,.string ByteArray.empty,(Xx54:Sl).v]:Array Value).size=4)
          stG C5 (#[.int .i64 5,.int .i64 0,.string ByteArray.empty,(Xx54:Sl).v]:Array Value)
          let Rr56←ldG 4 C5
          M.pure (.inr Rr56)
         ) (do
         thr (ZP C3) fun Xx58=>do
          M.need ((#[.int .i64 0,.int .i64 0,.string ByteArray.empty,.slice none 0 0]:Array Value).size=4)
          stG C5 (#[.int .i64 0,.int .i64 0,.string ByteArray.empty,.slice none 0 0]:Array Value)
          let Rr61←ldG 4 C5
          M.pure (.inr Rr61)
         )
        )
       )
      )
     )
    )
   )
  )
def US (x0:Option Addr) (x1:Int):M (Value ⊕ (Array Value)):=do
 let Xx2←mkB KJ (#[.int .i64 0,.int .i64 0,.string ByteArray.empty,.slice none 0 0]:Array Value)
 M.ite (decide (x1 > 8)) (do
  thr (ZP x0) fun Xx63=>do
   UN x0 x1 Xx2
  ) (do
  UN x0 x1 Xx2
  )
theorem Yh (x0:Option Addr) (x1:Int):Xl Go.Proofs.Tryz.prog 131 #[.pointer x0,.int .i64 x1] (fun (r:Array Value)=>.agg r) (US x0 x1):=by
 refine YH [(0,.pointer x0),(1,.int .i64 x1)] Go.Proofs.Tryz.func131 rfl rfl (Nat.le_of_ble_eq_true rfl) (Ke ⟨rfl,rfl,trivial⟩) (fun w0 w Q R X a hret hthr hE hR H=>?_)
 unfold US at H
 refine KH (fun K hK_1=>?_)
 refine KC ?_
 obtain ⟨Xx2,qXx2,H⟩:=H
 refine ZR (v:=.pointer (some Xx2)) rfl rfl hE rfl hR (Z4 zr24 qXx2) (fun a w hE hR hh=>?_)
 replace H:=M.at hh H; clear hh
 refine KG ?_
 refine hK_1 _ _ ?_
 refine Ku (fun a w=>Env (⟨67,[]⟩:Frm) a [(0,.pointer x0),(1,.int .i64 x1),(4,.pointer (some Xx2))]∧Rest w0 w∧(UN x0 x1 Xx2).wp w.heap Q) ?_ ?_
 ·rintro a w ⟨hE,hR,H⟩
  unfold UN at H
  refine KH (fun K hK_6=>?_)
  refine KC ?_
  refine KB (v:=.pointer x0) rfl rfl hE rfl (KD hE rfl) (fun a hE=>?_)
  refine KZ hE hR ZG rfl (ZQ x0) (M.unbind H) (fun Xx7 a w ea hR H=>?_)
  have hE:=Env.put_some hE rfl ea; clear ea
  refine KB (v:=.int .u8 Xx7) rfl rfl hE rfl (KE hE rfl) (fun a hE=>?_)
  refine KG ?_
  refine hK_6 _ _ ?_
  refine KH (fun K hK_8=>?_)
  refine Kj ?_
  refine KH (fun K hK_9=>?_)
  refine KC ?_
  refine KB (v:=.int .u8 Xx7) rfl rfl hE rfl (KD hE rfl) (fun a hE=>?_)
  refine KB (v:=.bool (Xx7 == 45)) rfl rfl hE rfl (KL hE rfl rfl KN Z5) (fun a hE=>?_)
  refine KB (v:=.bool (Xx7 == 45)) rfl rfl hE rfl (KD hE rfl) (fun a hE=>?_)
  refine J5 (n:=(⟨67,[]⟩:Frm)) (w0:=w0) 3 (fun Xx10:Bool=>[(0,.pointer x0),(1,.int .i64 x1),(4,.pointer (some Xx2)),(5,.int .u8 Xx7),(18,.bool Xx10)]) (M.unbind H) (fun Kr hKr H=>?_) ?_
  ·rcases Kq (Xx7 == 45) with hb | hb
   ·replace H:=M.ite_t hb H
    have hE:=hE.reb 15 (Xx7 == 45) true hb rfl
    refine Kf rfl hE rfl rfl rfl (fun a ea=>?_)
    have hE:=Env.put_some hE rfl ea; clear ea
    refine Kf rfl hE rfl rfl rfl (fun a ea=>?_)
    have hE:=Env.put_some hE rfl ea; clear ea
    refine KB rfl rfl hE rfl (Kc hE rfl rfl) (fun a hE=>?_)
    refine KG ?_
    exact hKr _ _ _ (hE.cut (.cons rfl (.cons rfl (.cons rfl (.cons rfl (.cons rfl Subs.nil)))))) hR H
   ·replace H:=M.ite_f hb H
    have hE:=hE.reb 15 (Xx7 == 45) false hb rfl
    refine t_on rfl hE rfl rfl rfl ?_
    refine KB (v:=.int .u8 Xx7) rfl rfl hE rfl (KD hE rfl) (fun a hE=>?_)
    refine t_on rfl hE rfl rfl rfl ?_
    refine KZ hE hR Xh rfl (GM Xx7) (M.unbind H) (fun Xx11 a w ea hR H=>?_)
    have hE:=Env.put_some hE rfl ea; clear ea
    refine KB rfl rfl hE rfl (Kd hE rfl rfl) (fun a hE=>?_)
    refine KG ?_
    exact hKr _ _ _ (hE.cut (.cons rfl (.cons rfl (.cons rfl (.cons rfl (.cons rfl Subs.nil)))))) hR H
  ·intro Xx10 a w hE hR H
   refine KB (v:=.bool Xx10) rfl rfl hE rfl (KE hE rfl) (fun a hE=>?_)
   refine KG ?_
   refine hK_9 _ _ ?_
   refine KS Xx10 hE rfl (fun hb=>?_) (fun hb=>?_)
   ·replace H:=M.ite_t hb H
    refine KH (fun K hK_12=>?_)
    refine KC ?_
    refine KB (v:=.pointer x0) rfl rfl hE rfl (KD hE rfl) (fun a hE=>?_)
    refine UF hE hR Wz rfl (YM x0) H (fun _ _ hR HQ=>Xu.ne rfl (hthr _ _ hR HQ)) (fun Xx13 a w ea hR H=>?_)
    have hE:=Env.put_some hE rfl ea; clear ea
    refine KZ hE hR Gq rfl (Nq Xx13) (M.unbind H) (fun Xx14 a w ea hR H=>?_)
    have hE:=Env.put_some hE rfl ea; clear ea
    obtain ⟨qz,H⟩:=H
    obtain ⟨u_15,qu_15,H⟩:=H
    refine JI rfl rfl hE hR (Kv hE rfl rfl sz24 qz qu_15) (fun a w hE hR hh=>?_)
    replace H:=M.at hh H; clear hh
    refine KG ?_
    refine hK_12 _ _ ?_
    refine Kg ?_
    obtain ⟨Rr16,qRr16,H⟩:=H
    exact hret _ _ _ Rr16 _ hE hR (KM hE rfl (RV.cellG rfl ag24 qRr16 RV.nil)) rfl H
   ·replace H:=M.ite_f hb H
    refine KH (fun K hK_17=>?_)
    refine KC ?_
    refine KB (v:=.int .u8 Xx7) rfl rfl hE rfl (KD hE rfl) (fun a hE=>?_)
    refine KB (v:=.bool (Xx7 == 39)) rfl rfl hE rfl (KL hE rfl rfl KN Z5) (fun a hE=>?_)
    refine KB (v:=.bool (Xx7 == 39)) rfl rfl hE rfl (KE hE rfl) (fun a hE=>?_)
    refine KG ?_
    refine hK_17 _ _ ?_
    refine KS (Xx7 == 39) hE rfl (fun hb=>?_) (fun hb=>?_)
    ·replace H:=M.ite_t hb H
     refine KH (fun K hK_18=>?_)
     refine KC ?_
     refine KB (v:=.pointer x0) rfl rfl hE rfl (KD hE rfl) (fun a hE=>?_)
     refine UF hE hR Nn rfl (qS x0) H (fun _ _ hR HQ=>Xu.ne rfl (hthr _ _ hR HQ)) (fun Xx19 a w ea hR H=>?_)
     have hE:=Env.put_some hE rfl ea; clear ea
     refine KZ hE hR XU rfl (GL Xx19) (M.unbind H) (fun Xx20 a w ea hR H=>?_)
     have hE:=Env.put_some hE rfl ea; clear ea
     obtain ⟨qz,H⟩:=H
     obtain ⟨u_21,qu_21,H⟩:=H
     refine JI rfl rfl hE hR (Kv hE rfl rfl sz24 qz qu_21) (fun a w hE hR hh=>?_)
     replace H:=M.at hh H; clear hh
     refine KG ?_
     refine hK_18 _ _ ?_
     refine Kg ?_
     obtain ⟨Rr22,qRr22,H⟩:=H
     exact hret _ _ _ Rr22 _ hE hR (KM hE rfl (RV.cellG rfl ag24 qRr22 RV.nil)) rfl H
    ·replace H:=M.ite_f hb H
     refine KH (fun K hK_23=>?_)
     refine KC ?_
     refine KB (v:=.int .u8 Xx7) rfl rfl hE rfl (KD hE rfl) (fun a hE=>?_)
     refine KB (v:=.bool (Xx7 == 116)) rfl rfl hE rfl (KL hE rfl rfl KN Z5) (fun a hE=>?_)
     refine KB (v:=.bool (Xx7 == 116)) rfl rfl hE rfl (KE hE rfl) (fun a hE=>?_)
     refine KG ?_
     refine hK_23 _ _ ?_
     refine KS (Xx7 == 116) hE rfl (fun hb=>?_) (fun hb=>?_)
     ·replace H:=M.ite_t hb H
      refine KH (fun K hK_24=>?_)
      refine KC ?_
      refine KB (v:=.pointer x0) rfl rfl hE rfl (KD hE rfl) (fun a hE=>?_)
      refine UF hE hR JG rfl (JR x0 (⟨#[116,114,117,101]⟩:ByteArray)) H (fun _ _ hR HQ=>Xu.ne rfl (hthr _ _ hR HQ)) (fun Xx25 a w ea hR H=>?_)
      have hE:=Env.put_some hE rfl ea; clear ea
      refine KG ?_
      refine hK_24 _ _ ?_
      refine KH (fun K hK_26=>?_)
      refine KC ?_
      refine KZ hE hR Ym rfl (XY true) (M.unbind H) (fun Xx27 a w ea hR H=>?_)
      have hE:=Env.put_some hE rfl ea; clear ea
      obtain ⟨qz,H⟩:=H
      obtain ⟨u_28,qu_28,H⟩:=H
      refine JI rfl rfl hE hR (Kv hE rfl rfl sz24 qz qu_28) (fun a w hE hR hh=>?_)
      replace H:=M.at hh H; clear hh
      refine KG ?_
      refine hK_26 _ _ ?_
      refine Kg ?_
      obtain ⟨Rr29,qRr29,H⟩:=H
      exact hret _ _ _ Rr29 _ hE hR (KM hE rfl (RV.cellG rfl ag24 qRr29 RV.nil)) rfl H
     ·replace H:=M.ite_f hb H
      refine KH (fun K hK_30=>?_)
      refine KC ?_
      refine KB (v:=.int .u8 Xx7) rfl rfl hE rfl (KD hE rfl) (fun a hE=>?_)
      refine KB (v:=.bool (Xx7 == 102)) rfl rfl hE rfl (KL hE rfl rfl KN Z5) (fun a hE=>?_)
      refine KB (v:=.bool (Xx7 == 102)) rfl rfl hE rfl (KE hE rfl) (fun a hE=>?_)
      refine KG ?_
      refine hK_30 _ _ ?_
      refine KS (Xx7 == 102) hE rfl (fun hb=>?_) (fun hb=>?_)
      ·replace H:=M.ite_t hb H
       refine KH (fun K hK_31=>?_)
       refine KC ?_
       refine KB (v:=.pointer x0) rfl rfl hE rfl (KD hE rfl) (fun a hE=>?_)
       refine UF hE hR JG rfl (JR x0 (⟨#[102,97,108,115,101]⟩:ByteArray)) H (fun _ _ hR HQ=>Xu.ne rfl (hthr _ _ hR HQ)) (fun Xx32 a w ea hR H=>?_)
       have hE:=Env.put_some hE rfl ea; clear ea
       refine KG ?_
       refine hK_31 _ _ ?_
       refine KH (fun K hK_33=>?_)
       refine KC ?_
       refine KZ hE hR Ym rfl (XY false) (M.unbind H) (fun Xx34 a w ea hR H=>?_)
       have hE:=Env.put_some hE rfl ea; clear ea
       obtain ⟨qz,H⟩:=H
       obtain ⟨u_35,qu_35,H⟩:=H
       refine JI rfl rfl hE hR (Kv hE rfl rfl sz24 qz qu_35) (fun a w hE hR hh=>?_)
       replace H:=M.at hh H; clear hh
       refine KG ?_
       refine hK_33 _ _ ?_
       refine Kg ?_
       obtain ⟨Rr36,qRr36,H⟩:=H
       exact hret _ _ _ Rr36 _ hE hR (KM hE rfl (RV.cellG rfl ag24 qRr36 RV.nil)) rfl H
      ·replace H:=M.ite_f hb H
       refine KH (fun K hK_37=>?_)
       refine KC ?_
       refine KB (v:=.int .u8 Xx7) rfl rfl hE rfl (KD hE rfl) (fun a hE=>?_)
       refine KB (v:=.bool (Xx7 == 118)) rfl rfl hE rfl (KL hE rfl rfl KN Z5) (fun a hE=>?_)
       refine KB (v:=.bool (Xx7 == 118)) rfl rfl hE rfl (KE hE rfl) (fun a hE=>?_)
       refine KG ?_
       refine hK_37 _ _ ?_
       refine KS (Xx7 == 118) hE rfl (fun hb=>?_) (fun hb=>?_)
       ·replace H:=M.ite_t hb H
        refine KH (fun K hK_38=>?_)
        refine KC ?_
        refine KB (v:=.pointer x0) rfl rfl hE rfl (KD hE rfl) (fun a hE=>?_)
        refine UF hE hR Wj rfl (W1 x0 6) H (fun _ _ hR HQ=>Xu.ne rfl (hthr _ _ hR HQ)) (fun Xx39 a w ea hR H=>?_)
        have hE:=Env.put_some hE rfl ea; clear ea
        obtain ⟨qz,H⟩:=H
        obtain ⟨u_40,qu_40,H⟩:=H
        refine JI rfl rfl hE hR (Kv hE rfl rfl sz24 qz qu_40) (fun a w hE hR hh=>?_)
        replace H:=M.at hh H; clear hh
        refine KG ?_
        refine hK_38 _ _ ?_
        refine Kg ?_
        obtain ⟨Rr41,qRr41,H⟩:=H
        exact hret _ _ _ Rr41 _ hE hR (KM hE rfl (RV.cellG rfl ag24 qRr41 RV.nil)) rfl H
       ·replace H:=M.ite_f hb H
        refine KH (fun K hK_42=>?_)
        refine KC ?_
        refine KB (v:=.int .u8 Xx7) rfl rfl hE rfl (KD hE rfl) (fun a hE=>?_)
        refine KB (v:=.bool (Xx7 == 101)) rfl rfl hE rfl (KL hE rfl rfl KN Z5) (fun a hE=>?_)
        refine KB (v:=.bool (Xx7 == 101)) rfl rfl hE rfl (KE hE rfl) (fun a hE=>?_)
        refine KG ?_
        refine hK_42 _ _ ?_
        refine KS (Xx7 == 101) hE rfl (fun hb=>?_) (fun hb=>?_)
        ·replace H:=M.ite_t hb H
         refine KH (fun K hK_43=>?_)
         refine KC ?_
         refine KB (v:=.pointer x0) rfl rfl hE rfl (KD hE rfl) (fun a hE=>?_)
         refine UF hE hR Wj rfl (W1 x0 7) H (fun _ _ hR HQ=>Xu.ne rfl (hthr _ _ hR HQ)) (fun Xx44 a w ea hR H=>?_)
         have hE:=Env.put_some hE rfl ea; clear ea
         obtain ⟨qz,H⟩:=H
         obtain ⟨u_45,qu_45,H⟩:=H
         refine JI rfl rfl hE hR (Kv hE rfl rfl sz24 qz qu_45) (fun a w hE hR hh=>?_)
         replace H:=M.at hh H; clear hh
         refine KG ?_
         refine hK_43 _ _ ?_
         refine Kg ?_
         obtain ⟨Rr46,qRr46,H⟩:=H
         exact hret _ _ _ Rr46 _ hE hR (KM hE rfl (RV.cellG rfl ag24 qRr46 RV.nil)) rfl H
        ·replace H:=M.ite_f hb H
         refine KH (fun K hK_47=>?_)
         refine KC ?_
         refine KB (v:=.int .u8 Xx7) rfl rfl hE rfl (KD hE rfl) (fun a hE=>?_)
         refine KB (v:=.bool (Xx7 == 91)) rfl rfl hE rfl (KL hE rfl rfl KN Z5) (fun a hE=>?_)
         refine KB (v:=.bool (Xx7 == 91)) rfl rfl hE rfl (KE hE rfl) (fun a hE=>?_)
         refine KG ?_
         refine hK_47 _ _ ?_
         refine KS (Xx7 == 91) hE rfl (fun hb=>?_) (fun hb=>?_)
         ·replace H:=M.ite_t hb H
          refine KH (fun K hK_48=>?_)
          refine KC ?_
          refine KB (v:=.pointer x0) rfl rfl hE rfl (KD hE rfl) (fun a hE=>?_)
          refine KB (v:=.int .i64 x1) rfl rfl hE rfl (KD hE rfl) (fun a hE=>?_)
          refine UF hE hR Yf rfl (XN) H (fun _ _ hR HQ=>Xu.ne rfl (hthr _ _ hR HQ)) (fun Xx49 a w ea hR H=>?_)
          have hE:=Env.put_some hE rfl ea; clear ea
          refine KB (v:=.agg (#[.int .i64 4,.int .i64 0,.string ByteArray.empty,(Xx49:Sl).v]:Array Value)) rfl rfl hE rfl (Uw hE rfl zr24 pl24 (by rfl)) (fun a hE=>?_)
          obtain ⟨qz,H⟩:=H
          obtain ⟨u_50,qu_50,H⟩:=H
          refine JI rfl rfl hE hR (Kv hE rfl rfl sz24 qz qu_50) (fun a w hE hR hh=>?_)
          replace H:=M.at hh H; clear hh
          refine KG ?_
          refine hK_48 _ _ ?_
          refine Kg ?_
          obtain ⟨Rr51,qRr51,H⟩:=H
          exact hret _ _ _ Rr51 _ hE hR (KM hE rfl (RV.cellG rfl ag24 qRr51 RV.nil)) rfl H
         ·replace H:=M.ite_f hb H
          refine KH (fun K hK_52=>?_)
          refine KC ?_
          refine KB (v:=.int .u8 Xx7) rfl rfl hE rfl (KD hE rfl) (fun a hE=>?_)
          refine KB (v:=.bool (Xx7 == 123)) rfl rfl hE rfl (KL hE rfl rfl KN Z5) (fun a hE=>?_)
          refine KB (v:=.bool (Xx7 == 123)) rfl rfl hE rfl (KE hE rfl) (fun a hE=>?_)
          refine KG ?_
          refine hK_52 _ _ ?_
          refine KS (Xx7 == 123) hE rfl (fun hb=>?_) (fun hb=>?_)
          ·replace H:=M.ite_t hb H
           refine KH (fun K hK_53=>?_)
           refine KC ?_
           refine KB (v:=.pointer x0) rfl rfl hE rfl (KD hE rfl) (fun a hE=>?_)
           refine KB (v:=.int .i64 x1) rfl rfl hE rfl (KD hE rfl) (fun a hE=>?_)
           refine UF hE hR Yf rfl (XN) H (fun _ _ hR HQ=>Xu.ne rfl (hthr _ _ hR HQ)) (fun Xx54 a w ea hR H=>?_)
           have hE:=Env.put_some hE rfl ea; clear ea
           refine KB (v:=.agg (#[.int .i64 5,.int .i64 0,.string ByteArray.empty,(Xx54:Sl).v]:Array Value)) rfl rfl hE rfl (Uw hE rfl zr24 pl24 (by rfl)) (fun a hE=>?_)
           obtain ⟨qz,H⟩:=H
           obtain ⟨u_55,qu_55,H⟩:=H
           refine JI rfl rfl hE hR (Kv hE rfl rfl sz24 qz qu_55) (fun a w hE hR hh=>?_)
           replace H:=M.at hh H; clear hh
           refine KG ?_
           refine hK_53 _ _ ?_
           refine Kg ?_
           obtain ⟨Rr56,qRr56,H⟩:=H
           exact hret _ _ _ Rr56 _ hE hR (KM hE rfl (RV.cellG rfl ag24 qRr56 RV.nil)) rfl H
          ·replace H:=M.ite_f hb H
           refine Ka ?_
           refine hK_8 _ _ ?_
           refine KH (fun K hK_57=>?_)
           refine KC ?_
           refine KB (v:=.pointer x0) rfl rfl hE rfl (KD hE rfl) (fun a hE=>?_)
           refine UF hE hR Zg rfl (Zr x0) H (fun _ _ hR HQ=>hthr _ _ hR HQ) (fun Xx58 a w ea hR H=>?_)
           have hE:=Env.put_some hE rfl ea; clear ea
           refine KG ?_
           refine hK_57 _ _ ?_
           refine KH (fun K hK_59=>?_)
           refine KC ?_
           refine KB (v:=.agg (#[.int .i64 0,.int .i64 0,.string ByteArray.empty,.slice none 0 0]:Array Value)) rfl rfl hE rfl (YD bd24) (fun a hE=>?_)
           obtain ⟨qz,H⟩:=H
           obtain ⟨u_60,qu_60,H⟩:=H
           refine JI rfl rfl hE hR (Kv hE rfl rfl sz24 qz qu_60) (fun a w hE hR hh=>?_)
           replace H:=M.at hh H; clear hh
           refine KG ?_
           refine hK_59 _ _ ?_
           refine Kg ?_
           obtain ⟨Rr61,qRr61,H⟩:=H
           exact hret _ _ _ Rr61 _ hE hR (KM hE rfl (RV.cellG rfl ag24 qRr61 RV.nil)) rfl H
 ·skip
  refine KH (fun K hK_62=>?_)
  refine KC ?_
  refine KB (v:=.int .i64 x1) rfl rfl hE rfl (KD hE rfl) (fun a hE=>?_)
  refine KB (v:=.bool (decide (x1 > 8))) rfl rfl hE rfl (KL hE rfl rfl KN YI) (fun a hE=>?_)
  refine KG ?_
  refine hK_62 _ _ ?_
  refine KS (decide (x1 > 8)) hE rfl (fun hb=>?_) (fun hb=>?_)
  ·replace H:=M.ite_t hb H
   refine KC ?_
   refine KB (v:=.pointer x0) rfl rfl hE rfl (KD hE rfl) (fun a hE=>?_)
   refine UF hE hR Zg rfl (Zr x0) H (fun _ _ hR HQ=>hthr _ _ hR HQ) (fun Xx63 a w ea hR H=>?_)
   have hE:=Env.put_some hE rfl ea; clear ea
   refine KG ?_
   exact ⟨hE.cut (.cons rfl (.cons rfl (.cons rfl Subs.nil))),hR,H⟩
  ·replace H:=M.ite_f hb H
   refine Ka ?_
   exact ⟨hE.cut (.cons rfl (.cons rfl (.cons rfl Subs.nil))),hR,H⟩
def NE (x0:Int) (x1:Bool):M (Int × Int):=do
 M.ite (!x1) (do
  M.pure (0,7)
  ) (do
  M.pure (x0,0)
  )
theorem KDa (x0:Int) (x1:Bool):ZK Go.Proofs.Tryz.prog 141 #[.int .i64 x0,.bool x1] (fun (r:Int × Int)=>.tuple #[.int .i64 r.1,.int .i64 r.2]) (NE x0 x1):=by
 refine KY [(0,.int .i64 x0),(1,.bool x1)] Go.Proofs.Tryz.func141 rfl rfl (Nat.le_of_ble_eq_true rfl) (Ke ⟨rfl,rfl,trivial⟩) (fun w0 w Q R a hret hE hR H=>?_)
 unfold NE at H
 refine KH (fun K hK_1=>?_)
 refine KC ?_
 refine KB (v:=.int .i64 0) rfl rfl hE rfl (KE hE rfl) (fun a hE=>?_)
 refine KB (v:=.int .i64 0) rfl rfl hE rfl (KE hE rfl) (fun a hE=>?_)
 refine KG ?_
 refine hK_1 _ _ ?_
 refine KH (fun K hK_2=>?_)
 refine KH (fun K hK_3=>?_)
 refine KC ?_
 refine KB (v:=.bool x1) rfl rfl hE rfl (KD hE rfl) (fun a hE=>?_)
 refine KB (v:=.bool (!x1)) rfl rfl hE rfl (r_un hE rfl GB) (fun a hE=>?_)
 refine KG ?_
 refine hK_3 _ _ ?_
 refine KS (!x1) hE rfl (fun hb=>?_) (fun hb=>?_)
 ·replace H:=M.ite_t hb H
  refine KH (fun K hK_4=>?_)
  refine KC ?_
  refine KB (v:=.int .i64 0) rfl rfl hE rfl (KE hE rfl) (fun a hE=>?_)
  refine KB (v:=.int .i64 7) rfl rfl hE rfl (KE hE rfl) (fun a hE=>?_)
  refine KG ?_
  refine hK_4 _ _ ?_
  refine Kg ?_
  exact hret _ _ _ (0,7) _ hE hR (KM hE rfl (RV.tmp rfl (RV.tmp rfl RV.nil))) rfl H
 ·replace H:=M.ite_f hb H
  refine Ka ?_
  refine hK_2 _ _ ?_
  refine KH (fun K hK_5=>?_)
  refine KC ?_
  refine KB (v:=.int .i64 x0) rfl rfl hE rfl (KD hE rfl) (fun a hE=>?_)
  refine KB (v:=.int .i64 x0) rfl rfl hE rfl (KE hE rfl) (fun a hE=>?_)
  refine KB (v:=.int .i64 0) rfl rfl hE rfl (KE hE rfl) (fun a hE=>?_)
  refine KG ?_
  refine hK_5 _ _ ?_
  refine Kg ?_
  exact hret _ _ _ (x0,0) _ hE hR (KM hE rfl (RV.tmp rfl (RV.tmp rfl RV.nil))) rfl H
def JU (C5:Sl) (C6:Value) (C7:Int) (self1:(Int)→M (Int)):(Int)→M (Int):=fun s=>match s with
 | Xx4=>do
  M.ite (decide (Xx4 < C7)) (do
   let Xx14←ixL C5 Xx4 1
   let Xx15←ldI .u8 Xx14
   let Xx16←GV Go.Proofs.Tryz.prog (fun r:Bool=>.bool r) C6 [.int .u8 Xx15]
   M.ite Xx16 (do
    M.pure Xx4
    ) (do
    self1 (IntKind.wrap .i64 (Xx4+1))
    )
   ) (do
   M.pure (-1)
   )
def Jn (x0:Sl) (x1:Value):M (Int):=do
 M.loop (JU x0 x1 (x0.len:Int)) 0
theorem YN (x0:Sl) (x1:Value):ZK Go.Proofs.Tryz.prog 200 #[(x0:Sl).v,x1] (fun (r:Int)=>.int .i64 r) (Jn x0 x1):=by
 refine KY [(0,(x0:Sl).v),(1,x1)] Go.Proofs.Tryz.func200 rfl rfl (Nat.le_of_ble_eq_true rfl) (Ke ⟨rfl,rfl,trivial⟩) (fun w0 w Q R a hret hE hR H=>?_)
 unfold Jn at H
 refine KH (fun K hK_1=>?_)
 refine KC ?_
 refine KB (v:=.int .i64 0) rfl rfl hE rfl (KE hE rfl) (fun a hE=>?_)
 refine KG ?_
 refine hK_1 _ _ ?_
 refine KH (fun K hK_2=>?_)
 refine KH (fun K hK_3=>?_)
 refine KC ?_
 refine KB (v:=(x0:Sl).v) rfl rfl hE rfl (KD hE rfl) (fun a hE=>?_)
 refine KB (v:=.int .i64 (x0.len:Int)) rfl rfl hE rfl (UA hE rfl 5 un35) (fun a hE=>?_)
 refine KB (v:=.int .i64 0) rfl rfl hE rfl (KD hE rfl) (fun a hE=>?_)
 refine KG ?_
 refine hK_3 _ _ ?_
 refine Kj ?_
 refine J7 (fun (s:Int)=>(⟨19,[]⟩:Frm)) (fun (s:Int)=>[(0,(x0:Sl).v),(1,x1),(7,.int .i64 (x0.len:Int)),(8,.int .i64 s)]) H (hE.cut (.cons rfl (.cons rfl (.cons rfl (.cons rfl Subs.nil))))) hR (fun Y self1 hY_8 Xx4 a w hE hR H=>?_)
 replace hE:Env (⟨19,[]⟩:Frm) a [(0,(x0:Sl).v),(1,x1),(7,.int .i64 (x0.len:Int)),(8,.int .i64 Xx4)]:=hE
 replace H:(JU x0 x1 (x0.len:Int) self1 Xx4).wp w.heap Q:=H
 unfold JU at H
 refine KH (fun K hK_9=>?_)
 refine KC ?_
 refine KB (v:=.bool (decide (Xx4 < (x0.len:Int)))) rfl rfl hE rfl (KL hE rfl rfl KN JL) (fun a hE=>?_)
 refine KG ?_
 refine hK_9 _ _ ?_
 refine KH (fun K hK_10=>?_)
 refine KS (decide (Xx4 < (x0.len:Int))) hE rfl (fun hb=>?_) (fun hb=>?_)
 ·replace H:=M.ite_t hb H
  refine Ka ?_
  refine hK_10 _ _ ?_
  refine KH (fun K hK_11=>?_)
  refine Kj ?_
  refine KH (fun K hK_12=>?_)
  refine KC ?_
  refine KB (v:=.int .i64 Xx4) rfl rfl hE rfl (KD hE rfl) (fun a hE=>?_)
  refine KB (v:=.int .i64 Xx4) rfl rfl hE rfl (KE hE rfl) (fun a hE=>?_)
  refine KG ?_
  refine hK_12 _ _ ?_
  refine KH (fun K hK_13=>?_)
  refine KC ?_
  refine KB (v:=x1) rfl rfl hE rfl (KD hE rfl) (fun a hE=>?_)
  refine KB (v:=(x0:Sl).v) rfl rfl hE rfl (KD hE rfl) (fun a hE=>?_)
  refine KB (v:=.int .i64 Xx4) rfl rfl hE rfl (KD hE rfl) (fun a hE=>?_)
  obtain ⟨Xx14,qXx14,H⟩:=H
  refine KB (v:=.pointer (some Xx14)) rfl rfl hE rfl (KR hE rfl rfl un35 sz5 qXx14) (fun a hE=>?_)
  obtain ⟨Xx15,qXx15,H⟩:=H
  refine KB (v:=.int .u8 Xx15) rfl rfl hE rfl (KU hE rfl sc5 qXx15) (fun a hE=>?_)
  refine KA7 hE hR rfl rfl (M.unbind H) (fun Xx16 a w ea hR H=>?_)
  have hE:=Env.put_some hE rfl ea; clear ea
  refine KG ?_
  refine hK_13 _ _ ?_
  refine KS Xx16 hE rfl (fun hb=>?_) (fun hb=>?_)
  ·replace H:=M.ite_t hb H
   refine KH (fun K hK_17=>?_)
   refine KC ?_
   refine KB (v:=.int .i64 Xx4) rfl rfl hE rfl (KD hE rfl) (fun a hE=>?_)
   refine KB (v:=.int .i64 Xx4) rfl rfl hE rfl (KE hE rfl) (fun a hE=>?_)
   refine KG ?_
   refine hK_17 _ _ ?_
   refine Kg ?_
   exact hret _ _ _ Xx4 _ hE hR (KM hE rfl (RV.tmp rfl RV.nil)) rfl H
  ·replace H:=M.ite_f hb H
   refine Ka ?_
   refine hK_11 _ _ ?_
   refine KC ?_
   refine KB (v:=.int .i64 (IntKind.wrap .i64 (Xx4+1))) rfl rfl hE rfl (KL hE rfl rfl KN JE) (fun a hE=>?_)
   refine KB (v:=.int .i64 (IntKind.wrap .i64 (Xx4+1))) rfl rfl hE rfl (KD hE rfl) (fun a hE=>?_)
   refine KG ?_
   exact hY_8 (IntKind.wrap .i64 (Xx4+1)) _ _ (hE.cut (.cons rfl (.cons rfl (.cons rfl (.cons rfl Subs.nil))))) hR H
 ·replace H:=M.ite_f hb H
  refine J6 ?_
  refine Xu.same ?_
  refine hK_2 _ _ ?_
  refine KH (fun K hK_18=>?_)
  refine KC ?_
  refine KB (v:=.int .i64 (-1)) rfl rfl hE rfl (KE hE rfl) (fun a hE=>?_)
  refine KG ?_
  refine hK_18 _ _ ?_
  refine Kg ?_
  exact hret _ _ _ (-1) _ hE hR (KM hE rfl (RV.tmp rfl RV.nil)) rfl H
def Z3 (x0:Sl) (x1:Value):M (Bool):=do
 let Xx3←Jn x0 x1
 M.pure (decide (Xx3 ≥ 0))
theorem Wr (x0:Sl) (x1:Value):ZK Go.Proofs.Tryz.prog 159 #[(x0:Sl).v,x1] (fun (r:Bool)=>.bool r) (Z3 x0 x1):=by
 refine KY [(0,(x0:Sl).v),(1,x1)] Go.Proofs.Tryz.func159 rfl rfl (Nat.le_of_ble_eq_true rfl) (Ke ⟨rfl,rfl,trivial⟩) (fun w0 w Q R a hret hE hR H=>?_)
 unfold Z3 at H
 refine KH (fun K hK_1=>?_)
 refine KC ?_
 refine KB (v:=.bool false) rfl rfl hE rfl (KE hE rfl) (fun a hE=>?_)
 refine KG ?_
 refine hK_1 _ _ ?_
 refine KH (fun K hK_2=>?_)
 refine KC ?_
 refine KB (v:=(x0:Sl).v) rfl rfl hE rfl (KD hE rfl) (fun a hE=>?_)
 refine KB (v:=x1) rfl rfl hE rfl (KD hE rfl) (fun a hE=>?_)
 refine KZ hE hR W9 rfl (YN x0 x1) (M.unbind H) (fun Xx3 a w ea hR H=>?_)
 have hE:=Env.put_some hE rfl ea; clear ea
 refine KB (v:=.bool (decide (Xx3 ≥ 0))) rfl rfl hE rfl (KL hE rfl rfl KN YJ) (fun a hE=>?_)
 refine KB (v:=.bool (decide (Xx3 ≥ 0))) rfl rfl hE rfl (KE hE rfl) (fun a hE=>?_)
 refine KG ?_
 refine hK_2 _ _ ?_
 refine Kg ?_
 exact hret _ _ _ (decide (Xx3 ≥ 0)) _ hE hR (KM hE rfl (RV.tmp rfl RV.nil)) rfl H
def JW (x0:ByteArray):M (ByteArray):=do
 M.ite ((x0.size:Int) == 0) (do
  M.pure ByteArray.empty
  ) (do
  let Xx6←mkS Zi 1 1 (#[.int .u8 0]:Array Value) (x0.size:Int) (x0.size:Int)
  let Xx8←cpSt Xx6 x0
  let Xx10←ixL Xx6 0 1
  let Xx11←uStr Zi (some Xx10) (Xx6.len:Int)
  M.pure Xx11
  )
theorem Yq (x0:ByteArray):ZK Go.Proofs.Tryz.prog 253 #[.string x0] (fun (r:ByteArray)=>.string r) (JW x0):=by
 refine KY [(0,.string x0)] Go.Proofs.Tryz.func253 rfl rfl (Nat.le_of_ble_eq_true rfl) (Ke ⟨rfl,trivial⟩) (fun w0 w Q R a hret hE hR H=>?_)
 unfold JW at H
 refine KH (fun K hK_1=>?_)
 refine KC ?_
 refine KB (v:=.string ByteArray.empty) rfl rfl hE rfl (KE hE rfl) (fun a hE=>?_)
 refine KG ?_
 refine hK_1 _ _ ?_
 refine KH (fun K hK_2=>?_)
 refine KH (fun K hK_3=>?_)
 refine KC ?_
 refine KB (v:=.string x0) rfl rfl hE rfl (KD hE rfl) (fun a hE=>?_)
 refine KB (v:=.int .i64 (x0.size:Int)) rfl rfl hE rfl (U3 hE rfl un9) (fun a hE=>?_)
 refine KB (v:=.bool ((x0.size:Int) == 0)) rfl rfl hE rfl (KL hE rfl rfl KN Z5) (fun a hE=>?_)
 refine KG ?_
 refine hK_3 _ _ ?_
 refine KS ((x0.size:Int) == 0) hE rfl (fun hb=>?_) (fun hb=>?_)
 ·replace H:=M.ite_t hb H
  refine KH (fun K hK_4=>?_)
  refine KC ?_
  refine KB (v:=.string ByteArray.empty) rfl rfl hE rfl (KE hE rfl) (fun a hE=>?_)
  refine KG ?_
  refine hK_4 _ _ ?_
  refine Kg ?_
  exact hret _ _ _ ByteArray.empty _ hE hR (KM hE rfl (RV.tmp rfl RV.nil)) rfl H
 ·replace H:=M.ite_f hb H
  refine Ka ?_
  refine hK_2 _ _ ?_
  refine KH (fun K hK_5=>?_)
  refine KC ?_
  refine KB (v:=.string x0) rfl rfl hE rfl (KD hE rfl) (fun a hE=>?_)
  refine KB (v:=.int .i64 (x0.size:Int)) rfl rfl hE rfl (U3 hE rfl un9) (fun a hE=>?_)
  refine t_ex (fun Xx6=>(Xx6:Sl).v) rfl rfl hR (M.unbind H) (fun Q H=>KHW hE rfl rfl ap35 H) (fun Xx6 a w ea hR H=>?_)
  have hE:=Env.put_some hE rfl ea; clear ea
  refine KB (v:=(Xx6:Sl).v) rfl rfl hE rfl (KE hE rfl) (fun a hE=>?_)
  refine KG ?_
  refine hK_5 _ _ ?_
  refine KH (fun K hK_7=>?_)
  refine KC ?_
  refine KB (v:=(Xx6:Sl).v) rfl rfl hE rfl (KD hE rfl) (fun a hE=>?_)
  refine KB (v:=.string x0) rfl rfl hE rfl (KD hE rfl) (fun a hE=>?_)
  refine t_ex (fun Xx8=>.int .i64 Xx8) rfl rfl hR (M.unbind H) (fun Q H=>KF5 hE rfl rfl un35 sz5 H) (fun Xx8 a w ea hR H=>?_)
  have hE:=Env.put_some hE rfl ea; clear ea
  refine KG ?_
  refine hK_7 _ _ ?_
  refine KH (fun K hK_9=>?_)
  refine KC ?_
  refine KB (v:=(Xx6:Sl).v) rfl rfl hE rfl (KD hE rfl) (fun a hE=>?_)
  obtain ⟨Xx10,qXx10,H⟩:=H
  refine KB (v:=.pointer (some Xx10)) rfl rfl hE rfl (KR hE rfl rfl un35 sz5 qXx10) (fun a hE=>?_)
  refine KB (v:=(Xx6:Sl).v) rfl rfl hE rfl (KD hE rfl) (fun a hE=>?_)
  refine KB (v:=.int .i64 (Xx6.len:Int)) rfl rfl hE rfl (UA hE rfl 5 un35) (fun a hE=>?_)
  refine t_ex (fun Xx11=>.string Xx11) rfl rfl hR (M.unbind H) (fun Q H=>KCq hE rfl rfl KIe co5 H) (fun Xx11 a w ea hR H=>?_)
  have hE:=Env.put_some hE rfl ea; clear ea
  refine KB (v:=.string Xx11) rfl rfl hE rfl (KE hE rfl) (fun a hE=>?_)
  refine KG ?_
  refine hK_9 _ _ ?_
  refine Kg ?_
  exact hret _ _ _ Xx11 _ hE hR (KM hE rfl (RV.tmp rfl RV.nil)) rfl H
theorem KHx:Vg Go.Proofs.Tryz.f233 1 [[],[],[1],[],[0,2,3],[4],[5,2,0,1,2,3,4,5]] [[],[],[1],[],[0,2,3],[4],[5]] [[],[],[1],[],[0,1,2,3],[0,1,2,3,4],[0,1,2,3,4,5]]=true:=by kernel_rfl
def Uv (x0:ByteArray) (x1:ByteArray):M (Option Addr):=do
 let Xx3←ldV (⟨5,0,none⟩:Addr)
 let Xx4←JW x1
 chk (fun h:Heap=>(KV h (⟨5,0,none⟩:Addr)=some (Xx3)))
 let Xx5←KJM [(0,1),(1,1),(2,1)] (#[.string ByteArray.empty,.string ByteArray.empty,.nilIface]:Array Value) [(0,.string x0),(1,.string Xx4),(2,Xx3)]
 let Xx6←mkB Nd Xx5
 M.pure (some Xx6)
theorem NP (x0:ByteArray) (x1:ByteArray):ZK Go.Proofs.Tryz.prog 233 #[.string x0,.string x1] (fun (r:Option Addr)=>.pointer r) (Uv x0 x1):=by
 refine KY [(0,.string x0),(1,.string x1)] Go.Proofs.Tryz.func233 rfl rfl (Nat.le_of_ble_eq_true rfl) (Ke ⟨rfl,rfl,trivial⟩) (fun w0 w Q R a hret hE hR H=>?_)
 unfold Uv at H
 refine KH (fun K hK_1=>?_)
 refine KC ?_
 refine KB (v:=.pointer (none:Option Addr)) rfl rfl hE rfl (KE hE rfl) (fun a hE=>?_)
 refine KG ?_
 refine hK_1 _ _ ?_
 refine KH (fun K hK_2=>?_)
 obtain ⟨Xx3,qXx3,H⟩:=H
 have hT:=Jf KHx rfl rfl
 refine Zq (fun w:World=>(fun h:Heap=>(KV h (⟨5,0,none⟩:Addr)=some (Xx3))) w.heap) [4,5,6] #[false,false,false,false,false,false,false] mo hR rfl rfl (fun w' e=>by rw [e]; exact qXx3) (fun w hh hR hs=>?_)
 replace H:=M.at hh H; clear hh
 refine KF (i:=0) (v:=.string x0) #[true,false,false,false,false,false,false] rfl rfl hT (by kernel_rfl) hE rfl (KA rfl) (fun w=>KD hE rfl) (fun a hE=>?_)
 refine KF (i:=1) (v:=.string x1) #[true,true,false,false,false,false,false] rfl rfl hT (by kernel_rfl) hE rfl (KA rfl) (fun w=>KD hE rfl) (fun a hE=>?_)
 refine Kt (i:=3) (v:=Xx3) #[true,true,false,true,false,false,false] rfl rfl hT (by kernel_rfl) hE rfl (KA rfl) hs (fun w s=>KU hE rfl KJa s) (fun a hE=>?_)
 refine KAW (i:=2) #[true,true,true,true,false,false,false] rfl rfl rfl hT (by kernel_rfl) rfl hE hR (KA rfl) YW rfl (Yq x1) (M.unbind H) (fun r h H w' e=>by obtain ⟨_,sA,H⟩:=H; rw [e]; exact sA) (fun Xx4 a w ea hR H hs=>?_)
 obtain ⟨_,sA,H⟩:=H; clear sA
 have hE:=Env.put_some hE rfl ea; clear ea
 obtain ⟨Xx5,qXx5,H⟩:=H
 refine KF (i:=4) (v:=.agg Xx5) #[true,true,true,true,true,false,false] rfl rfl hT (by kernel_rfl) hE rfl (KA rfl) (fun w=>Uw hE rfl KJV KJZ qXx5) (fun a hE=>?_)
 obtain ⟨Xx6,qXx6,H⟩:=H
 refine KCE (i:=5) (v:=.pointer (some Xx6)) #[true,true,true,true,true,true,false] rfl rfl hT (by kernel_rfl) rfl hE hR rfl (KA rfl) (YP hE rfl qXx6)  (fun a w hE hR hh=>?_)
 replace H:=M.at hh H; clear hh
 refine KF (i:=6) (v:=.pointer (some Xx6)) #[true,true,true,true,true,true,true] rfl rfl hT (by kernel_rfl) hE rfl (KA rfl) (fun w=>KE hE rfl) (fun a hE=>?_)
 refine JM hT (by kernel_rfl) ?_
 refine hK_2 _ _ ?_
 refine Kg ?_
 exact hret _ _ _ (some Xx6) _ hE hR (KM hE rfl (RV.tmp rfl RV.nil)) rfl H
end Gx
namespace Gx
open Go
set_option linter.unusedVariables false
set_option maxRecDepth 100000
def Vp (x0:ByteArray) (x1:ByteArray) (x2:Int) (x3:Int) (x4:Value):M (Value):=do
 let Xx5←eqII Kn x4 (Value.iface Kn (.int .i64 2))
 M.ite Xx5 (do
  let Xx7←Y7 x0 x1
  M.pure (Value.iface Kp (.pointer Xx7))
  ) (do
  let Xx9←eqII Kn x4 (Value.iface Kn (.int .i64 1))
  M.ite Xx9 (do
   let Xx11←Uv x0 x1
   M.pure (Value.iface Kp (.pointer Xx11))
   ) (do
   let Xx13←eqII Kn x4 (Value.iface Kn (.int .i64 3))
   M.ite Xx13 (do
    let Xx15←Xp x0 x1 x2
    M.pure (Value.iface Kp (.pointer Xx15))
    ) (do
    let Xx17←eqII Kn x4 (Value.iface Kn (.int .i64 4))
    M.ite Xx17 (do
     let Xx19←Yg x0 x1 x3
     M.pure (Value.iface Kp (.pointer Xx19))
     ) (do
     M.pure x4
     )
    )
   )
  )
theorem qt (x0:ByteArray) (x1:ByteArray) (x2:Int) (x3:Int) (x4:Value):ZK Go.Proofs.Tryz.prog 202 #[.string x0,.string x1,.int .i64 x2,.int .i64 x3,x4] (fun (r:Value)=>r) (Vp x0 x1 x2 x3 x4):=by
 refine KY [(0,.string x0),(1,.string x1),(2,.int .i64 x2),(3,.int .i64 x3),(4,x4)] Go.Proofs.Tryz.func202 rfl rfl (Nat.le_of_ble_eq_true rfl) (Ke ⟨rfl,rfl,rfl,rfl,rfl,trivial⟩) (fun w0 w Q R a hret hE hR H=>?_)
 unfold Vp at H
 refine KH (fun K hK_1=>?_)
 refine KC ?_
 refine KB (v:=Value.nilIface) rfl rfl hE rfl (KE hE rfl) (fun a hE=>?_)
 refine KG ?_
 refine hK_1 _ _ ?_
 refine KH (fun K hK_2=>?_)
 refine KH (fun K hK_3=>?_)
 refine KC ?_
 refine KB (v:=x4) rfl rfl hE rfl (KD hE rfl) (fun a hE=>?_)
 refine KG ?_
 refine hK_3 _ _ ?_
 refine Kj ?_
 refine KH (fun K hK_4=>?_)
 refine KC ?_
 refine KB (v:=(Value.iface Kn (.int .i64 2))) rfl rfl hE rfl (We hE rfl KGA) (fun a hE=>?_)
 obtain ⟨Xx5,qXx5,H⟩:=H
 refine KB (v:=.bool Xx5) rfl rfl hE rfl (KL hE rfl rfl (g_ii qXx5) (KCp KAc KCu qXx5)) (fun a hE=>?_)
 refine KB (v:=.bool Xx5) rfl rfl hE rfl (KE hE rfl) (fun a hE=>?_)
 refine KG ?_
 refine hK_4 _ _ ?_
 refine KS Xx5 hE rfl (fun hb=>?_) (fun hb=>?_)
 ·replace H:=M.ite_t hb H
  refine KH (fun K hK_6=>?_)
  refine KC ?_
  refine KB (v:=.string x0) rfl rfl hE rfl (KD hE rfl) (fun a hE=>?_)
  refine KB (v:=.string x1) rfl rfl hE rfl (KD hE rfl) (fun a hE=>?_)
  refine KZ hE hR GY rfl (Gr x0 x1) (M.unbind H) (fun Xx7 a w ea hR H=>?_)
  have hE:=Env.put_some hE rfl ea; clear ea
  refine KB (v:=(Value.iface Kp (.pointer Xx7))) rfl rfl hE rfl (We hE rfl KGB) (fun a hE=>?_)
  refine KB (v:=(Value.iface Kp (.pointer Xx7))) rfl rfl hE rfl (KE hE rfl) (fun a hE=>?_)
  refine KG ?_
  refine hK_6 _ _ ?_
  refine Kg ?_
  exact hret _ _ _ (Value.iface Kp (.pointer Xx7)) _ hE hR (KM hE rfl (RV.tmp rfl RV.nil)) rfl H
 ·replace H:=M.ite_f hb H
  refine KH (fun K hK_8=>?_)
  refine KC ?_
  refine KB (v:=(Value.iface Kn (.int .i64 1))) rfl rfl hE rfl (We hE rfl KGA) (fun a hE=>?_)
  obtain ⟨Xx9,qXx9,H⟩:=H
  refine KB (v:=.bool Xx9) rfl rfl hE rfl (KL hE rfl rfl (g_ii qXx9) (KCp KAc KCu qXx9)) (fun a hE=>?_)
  refine KB (v:=.bool Xx9) rfl rfl hE rfl (KE hE rfl) (fun a hE=>?_)
  refine KG ?_
  refine hK_8 _ _ ?_
  refine KS Xx9 hE rfl (fun hb=>?_) (fun hb=>?_)
  ·replace H:=M.ite_t hb H
   refine KH (fun K hK_10=>?_)
   refine KC ?_
   refine KB (v:=.string x0) rfl rfl hE rfl (KD hE rfl) (fun a hE=>?_)
   refine KB (v:=.string x1) rfl rfl hE rfl (KD hE rfl) (fun a hE=>?_)
   refine KZ hE hR Gp rfl (NP x0 x1) (M.unbind H) (fun Xx11 a w ea hR H=>?_)
   have hE:=Env.put_some hE rfl ea; clear ea
   refine KB (v:=(Value.iface Kp (.pointer Xx11))) rfl rfl hE rfl (We hE rfl KGB) (fun a hE=>?_)
   refine KB (v:=(Value.iface Kp (.pointer Xx11))) rfl rfl hE rfl (KE hE rfl) (fun a hE=>?_)
   refine KG ?_
   refine hK_10 _ _ ?_
   refine Kg ?_
   exact hret _ _ _ (Value.iface Kp (.pointer Xx11)) _ hE hR (KM hE rfl (RV.tmp rfl RV.nil)) rfl H
  ·replace H:=M.ite_f hb H
   refine KH (fun K hK_12=>?_)
   refine KC ?_
   refine KB (v:=(Value.iface Kn (.int .i64 3))) rfl rfl hE rfl (We hE rfl KGA) (fun a hE=>?_)
   obtain ⟨Xx13,qXx13,H⟩:=H
   refine KB (v:=.bool Xx13) rfl rfl hE rfl (KL hE rfl rfl (g_ii qXx13) (KCp KAc KCu qXx13)) (fun a hE=>?_)
   refine KB (v:=.bool Xx13) rfl rfl hE rfl (KE hE rfl) (fun a hE=>?_)
   refine KG ?_
   refine hK_12 _ _ ?_
   refine KS Xx13 hE rfl (fun hb=>?_) (fun hb=>?_)
   ·replace H:=M.ite_t hb H
    refine KH (fun K hK_14=>?_)
    refine KC ?_
    refine KB (v:=.string x0) rfl rfl hE rfl (KD hE rfl) (fun a hE=>?_)
    refine KB (v:=.string x1) rfl rfl hE rfl (KD hE rfl) (fun a hE=>?_)
    refine KB (v:=.int .i64 x2) rfl rfl hE rfl (KD hE rfl) (fun a hE=>?_)
    refine KZ hE hR NN rfl (No x0 x1 x2) (M.unbind H) (fun Xx15 a w ea hR H=>?_)
    have hE:=Env.put_some hE rfl ea; clear ea
    refine KB (v:=(Value.iface Kp (.pointer Xx15))) rfl rfl hE rfl (We hE rfl KGB) (fun a hE=>?_)
    refine KB (v:=(Value.iface Kp (.pointer Xx15))) rfl rfl hE rfl (KE hE rfl) (fun a hE=>?_)
    refine KG ?_
    refine hK_14 _ _ ?_
    refine Kg ?_
    exact hret _ _ _ (Value.iface Kp (.pointer Xx15)) _ hE hR (KM hE rfl (RV.tmp rfl RV.nil)) rfl H
   ·replace H:=M.ite_f hb H
    refine KH (fun K hK_16=>?_)
    refine KC ?_
    refine KB (v:=(Value.iface Kn (.int .i64 4))) rfl rfl hE rfl (We hE rfl KGA) (fun a hE=>?_)
    obtain ⟨Xx17,qXx17,H⟩:=H
    refine KB (v:=.bool Xx17) rfl rfl hE rfl (KL hE rfl rfl (g_ii qXx17) (KCp KAc KCu qXx17)) (fun a hE=>?_)
    refine KB (v:=.bool Xx17) rfl rfl hE rfl (KE hE rfl) (fun a hE=>?_)
    refine KG ?_
    refine hK_16 _ _ ?_
    refine KS Xx17 hE rfl (fun hb=>?_) (fun hb=>?_)
    ·replace H:=M.ite_t hb H
     refine KH (fun K hK_18=>?_)
     refine KC ?_
     refine KB (v:=.string x0) rfl rfl hE rfl (KD hE rfl) (fun a hE=>?_)
     refine KB (v:=.string x1) rfl rfl hE rfl (KD hE rfl) (fun a hE=>?_)
     refine KB (v:=.int .i64 x3) rfl rfl hE rfl (KD hE rfl) (fun a hE=>?_)
     refine KZ hE hR GF rfl (GZ x0 x1 x3) (M.unbind H) (fun Xx19 a w ea hR H=>?_)
     have hE:=Env.put_some hE rfl ea; clear ea
     refine KB (v:=(Value.iface Kp (.pointer Xx19))) rfl rfl hE rfl (We hE rfl KGB) (fun a hE=>?_)
     refine KB (v:=(Value.iface Kp (.pointer Xx19))) rfl rfl hE rfl (KE hE rfl) (fun a hE=>?_)
     refine KG ?_
     refine hK_18 _ _ ?_
     refine Kg ?_
     exact hret _ _ _ (Value.iface Kp (.pointer Xx19)) _ hE hR (KM hE rfl (RV.tmp rfl RV.nil)) rfl H
    ·replace H:=M.ite_f hb H
     refine Ka ?_
     refine hK_2 _ _ ?_
     refine KH (fun K hK_20=>?_)
     refine KC ?_
     refine KB (v:=x4) rfl rfl hE rfl (KD hE rfl) (fun a hE=>?_)
     refine KB (v:=x4) rfl rfl hE rfl (KE hE rfl) (fun a hE=>?_)
     refine KG ?_
     refine hK_20 _ _ ?_
     refine Kg ?_
     exact hret _ _ _ x4 _ hE hR (KM hE rfl (RV.tmp rfl RV.nil)) rfl H
def VR (x0:ByteArray) (x1:Int) (x2:Int):M (Int × Value):=do
 let Xx3←WG x0 x1 x2
 let Xx6←isNI Xx3.2
 M.ite (!Xx6) (do
  let Xx8←Vp (⟨#[80,97,114,115,101,73,110,116]⟩:ByteArray) x0 x1 x2 Xx3.2
  M.pure (Xx3.1,Xx8)
  ) (do
  M.pure (Xx3.1,Value.nilIface)
  )
theorem qT (x0:ByteArray) (x1:Int) (x2:Int):ZK Go.Proofs.Tryz.prog 161 #[.string x0,.int .i64 x1,.int .i64 x2] (fun (r:Int × Value)=>.tuple #[.int .i64 r.1,r.2]) (VR x0 x1 x2):=by
 refine KY [(0,.string x0),(1,.int .i64 x1),(2,.int .i64 x2)] Go.Proofs.Tryz.func161 rfl rfl (Nat.le_of_ble_eq_true rfl) (Ke ⟨rfl,rfl,rfl,trivial⟩) (fun w0 w Q R a hret hE hR H=>?_)
 unfold VR at H
 refine KH (fun K hK_1=>?_)
 refine KC ?_
 refine KB (v:=.int .i64 0) rfl rfl hE rfl (KE hE rfl) (fun a hE=>?_)
 refine KB (v:=Value.nilIface) rfl rfl hE rfl (KE hE rfl) (fun a hE=>?_)
 refine KG ?_
 refine hK_1 _ _ ?_
 refine KH (fun K hK_2=>?_)
 refine KC ?_
 refine KB (v:=.string x0) rfl rfl hE rfl (KD hE rfl) (fun a hE=>?_)
 refine KB (v:=.int .i64 x1) rfl rfl hE rfl (KD hE rfl) (fun a hE=>?_)
 refine KB (v:=.int .i64 x2) rfl rfl hE rfl (KD hE rfl) (fun a hE=>?_)
 refine KZ hE hR Yk rfl (Y6 x0 x1 x2) (M.unbind H) (fun Xx3 a w ea hR H=>?_)
 have hE:=Env.put_some hE rfl ea; clear ea
 refine KB (v:=.tuple #[.int .i64 Xx3.1,Xx3.2]) rfl rfl hE rfl (KD hE rfl) (fun a hE=>?_)
 refine KB (v:=.int .i64 Xx3.1) rfl rfl hE rfl (ZF hE rfl rfl) (fun a hE=>?_)
 refine KB (v:=Xx3.2) rfl rfl hE rfl (ZF hE rfl rfl) (fun a hE=>?_)
 refine KB (v:=.int .i64 Xx3.1) rfl rfl hE rfl (KE hE rfl) (fun a hE=>?_)
 refine KB (v:=Xx3.2) rfl rfl hE rfl (KE hE rfl) (fun a hE=>?_)
 refine KG ?_
 refine hK_2 _ _ ?_
 refine KH (fun K hK_4=>?_)
 refine KH (fun K hK_5=>?_)
 refine KC ?_
 refine KB (v:=Xx3.2) rfl rfl hE rfl (KD hE rfl) (fun a hE=>?_)
 obtain ⟨Xx6,qXx6,H⟩:=H
 refine KB (v:=.bool (!Xx6)) rfl rfl hE rfl (KL hE rfl rfl (g_ni qXx6) (KIX KAc qXx6)) (fun a hE=>?_)
 refine KG ?_
 refine hK_5 _ _ ?_
 refine KS (!Xx6) hE rfl (fun hb=>?_) (fun hb=>?_)
 ·replace H:=M.ite_t hb H
  refine KH (fun K hK_7=>?_)
  refine KC ?_
  refine KB (v:=.int .i64 Xx3.1) rfl rfl hE rfl (KD hE rfl) (fun a hE=>?_)
  refine KB (v:=.string x0) rfl rfl hE rfl (KD hE rfl) (fun a hE=>?_)
  refine KB (v:=.int .i64 x1) rfl rfl hE rfl (KD hE rfl) (fun a hE=>?_)
  refine KB (v:=.int .i64 x2) rfl rfl hE rfl (KD hE rfl) (fun a hE=>?_)
  refine KB (v:=Xx3.2) rfl rfl hE rfl (KD hE rfl) (fun a hE=>?_)
  refine KZ hE hR qG rfl (qt (⟨#[80,97,114,115,101,73,110,116]⟩:ByteArray) x0 x1 x2 Xx3.2) (M.unbind H) (fun Xx8 a w ea hR H=>?_)
  have hE:=Env.put_some hE rfl ea; clear ea
  refine KB (v:=.int .i64 Xx3.1) rfl rfl hE rfl (KE hE rfl) (fun a hE=>?_)
  refine KB (v:=Xx8) rfl rfl hE rfl (KE hE rfl) (fun a hE=>?_)
  refine KG ?_
  refine hK_7 _ _ ?_
  refine Kg ?_
  exact hret _ _ _ (Xx3.1,Xx8) _ hE hR (KM hE rfl (RV.tmp rfl (RV.tmp rfl RV.nil))) rfl H
 ·replace H:=M.ite_f hb H
  refine Ka ?_
  refine hK_4 _ _ ?_
  refine KH (fun K hK_9=>?_)
  refine KC ?_
  refine KB (v:=.int .i64 Xx3.1) rfl rfl hE rfl (KD hE rfl) (fun a hE=>?_)
  refine KB (v:=.int .i64 Xx3.1) rfl rfl hE rfl (KE hE rfl) (fun a hE=>?_)
  refine KB (v:=Value.nilIface) rfl rfl hE rfl (KE hE rfl) (fun a hE=>?_)
  refine KG ?_
  refine hK_9 _ _ ?_
  refine Kg ?_
  exact hret _ _ _ (Xx3.1,Value.nilIface) _ hE hR (KM hE rfl (RV.tmp rfl (RV.tmp rfl RV.nil))) rfl H
def WY (C4:ByteArray) (Xx3:ByteArray):M (Int × Int):=do
 let Xx7←M.ite (sEq Xx3 ByteArray.empty) (do
  M.pure true
  ) (do
  let Xx8←s2b Zi Xx3
  let Xx9←Z3 Xx8 (Value.func (.func NT) #[] #[])
  M.pure Xx9
  )
 let Xx10←M.ite Xx7 (do
  M.pure true
  ) (do
  let Xx11←ixS Xx3 0
  let Xx12←M.ite (Xx11 == 48) (do
   M.pure (!(sEq C4 (⟨#[48]⟩:ByteArray)))
   ) (do
   M.pure false
   )
  M.pure Xx12
  )
 M.ite Xx10 (do
  M.pure (0,10)
  ) (do
  let Xx15←VR C4 10 64
  let Xx17←isNI Xx15.2
  let Xx18←NE Xx15.1 Xx17
  M.pure (Xx18.1,Xx18.2)
  )
def qU (x0:ByteArray):M (Int × Int):=do
 let Xx20←M.ite (!(sEq x0 ByteArray.empty)) (do
  let Xx21←ixS x0 0
  M.pure (Xx21 == 45)
  ) (do
  M.pure false
  )
 M.ite Xx20 (do
  let Xx22←slS x0 1 x0.size
  WY x0 Xx22
  ) (do
  WY x0 x0
  )
theorem KCL (x0:ByteArray):ZK Go.Proofs.Tryz.prog 114 #[.string x0] (fun (r:Int × Int)=>.tuple #[.int .i64 r.1,.int .i64 r.2]) (qU x0):=by
 refine KY [(0,.string x0)] Go.Proofs.Tryz.func114 rfl rfl (Nat.le_of_ble_eq_true rfl) (Ke ⟨rfl,trivial⟩) (fun w0 w Q R a hret hE hR H=>?_)
 unfold qU at H
 refine KH (fun K hK_1=>?_)
 refine KC ?_
 refine KB (v:=.int .i64 0) rfl rfl hE rfl (KE hE rfl) (fun a hE=>?_)
 refine KB (v:=.int .i64 0) rfl rfl hE rfl (KE hE rfl) (fun a hE=>?_)
 refine KG ?_
 refine hK_1 _ _ ?_
 refine KH (fun K hK_2=>?_)
 refine KC ?_
 refine KB (v:=.string x0) rfl rfl hE rfl (KD hE rfl) (fun a hE=>?_)
 refine KB (v:=.string x0) rfl rfl hE rfl (KE hE rfl) (fun a hE=>?_)
 refine KG ?_
 refine hK_2 _ _ ?_
 refine Ku (fun a w=>∃ (Xx3:ByteArray),Env (⟨44,[]⟩:Frm) a [(0,.string x0),(4,.string Xx3)]∧Rest w0 w∧(WY x0 Xx3).wp w.heap Q) ?_ ?_
 ·rintro a w ⟨Xx3,hE,hR,H⟩
  unfold WY at H
  refine KH (fun K hK_5=>?_)
  refine KH (fun K hK_6=>?_)
  refine KC ?_
  refine KB (v:=.string Xx3) rfl rfl hE rfl (KD hE rfl) (fun a hE=>?_)
  refine KB (v:=.bool (sEq Xx3 ByteArray.empty)) rfl rfl hE rfl (KL hE rfl rfl Xc N4) (fun a hE=>?_)
  refine KB (v:=.bool (sEq Xx3 ByteArray.empty)) rfl rfl hE rfl (KD hE rfl) (fun a hE=>?_)
  refine J5 (n:=(⟨44,[]⟩:Frm)) (w0:=w0) 4 (fun Xx7:Bool=>[(0,.string x0),(4,.string Xx3),(23,.bool Xx7)]) (M.unbind H) (fun Kr hKr H=>?_) ?_
  ·rcases Kq (sEq Xx3 ByteArray.empty) with hb | hb
   ·replace H:=M.ite_t hb H
    have hE:=hE.reb 19 (sEq Xx3 ByteArray.empty) true hb rfl
    refine Kf rfl hE rfl rfl rfl (fun a ea=>?_)
    have hE:=Env.put_some hE rfl ea; clear ea
    refine Kf rfl hE rfl rfl rfl (fun a ea=>?_)
    have hE:=Env.put_some hE rfl ea; clear ea
    refine Kf rfl hE rfl rfl rfl (fun a ea=>?_)
    have hE:=Env.put_some hE rfl ea; clear ea
    refine KB rfl rfl hE rfl (Kc hE rfl rfl) (fun a hE=>?_)
    refine KG ?_
    exact hKr _ _ _ (hE.cut (.cons rfl (.cons rfl (.cons rfl Subs.nil)))) hR H
   ·replace H:=M.ite_f hb H
    have hE:=hE.reb 19 (sEq Xx3 ByteArray.empty) false hb rfl
    refine t_on rfl hE rfl rfl rfl ?_
    refine KB (v:=.string Xx3) rfl rfl hE rfl (KD hE rfl) (fun a hE=>?_)
    refine t_on rfl hE rfl rfl rfl ?_
    refine t_ex (fun Xx8=>(Xx8:Sl).v) rfl rfl hR (M.unbind H) (fun Q H=>KEH hE rfl un9 un35 un5 H) (fun Xx8 a w ea hR H=>?_)
    have hE:=Env.put_some hE rfl ea; clear ea
    refine t_on rfl hE rfl rfl rfl ?_
    refine KZ hE hR Wb rfl (Wr Xx8 (Value.func (.func NT) #[] #[])) (M.unbind H) (fun Xx9 a w ea hR H=>?_)
    have hE:=Env.put_some hE rfl ea; clear ea
    refine KB rfl rfl hE rfl (Kd hE rfl rfl) (fun a hE=>?_)
    refine KG ?_
    exact hKr _ _ _ (hE.cut (.cons rfl (.cons rfl (.cons rfl Subs.nil)))) hR H
  ·intro Xx7 a w hE hR H
   refine KB (v:=.bool Xx7) rfl rfl hE rfl (KD hE rfl) (fun a hE=>?_)
   refine J5 (n:=(⟨44,[]⟩:Frm)) (w0:=w0) 8 (fun Xx10:Bool=>[(0,.string x0),(32,.bool Xx10)]) (M.unbind H) (fun Kr hKr H=>?_) ?_
   ·rcases Kq Xx7 with hb | hb
    ·replace H:=M.ite_t hb H
     have hE:=hE.reb 24 Xx7 true hb rfl
     refine Kf rfl hE rfl rfl rfl (fun a ea=>?_)
     have hE:=Env.put_some hE rfl ea; clear ea
     refine Kf rfl hE rfl rfl rfl (fun a ea=>?_)
     have hE:=Env.put_some hE rfl ea; clear ea
     refine Kf rfl hE rfl rfl rfl (fun a ea=>?_)
     have hE:=Env.put_some hE rfl ea; clear ea
     refine Kf rfl hE rfl rfl rfl (fun a ea=>?_)
     have hE:=Env.put_some hE rfl ea; clear ea
     refine Ge rfl hE rfl rfl (fun b hb=>by cases hb) (fun a ea=>?_)
     have hE:=Env.put_some hE rfl ea; clear ea
     refine Ge rfl hE rfl rfl (fun b hb=>by cases hb) (fun a ea=>?_)
     have hE:=Env.put_some hE rfl ea; clear ea
     refine Kf rfl hE rfl rfl rfl (fun a ea=>?_)
     have hE:=Env.put_some hE rfl ea; clear ea
     refine KB rfl rfl hE rfl (Kc hE rfl rfl) (fun a hE=>?_)
     refine KG ?_
     exact hKr _ _ _ (hE.cut (.cons rfl (.cons rfl Subs.nil))) hR H
    ·replace H:=M.ite_f hb H
     have hE:=hE.reb 24 Xx7 false hb rfl
     refine t_on rfl hE rfl rfl rfl ?_
     refine KB (v:=.string Xx3) rfl rfl hE rfl (KD hE rfl) (fun a hE=>?_)
     refine t_on rfl hE rfl rfl rfl ?_
     obtain ⟨Xx11,qXx11,H⟩:=H
     refine KB (v:=.int .u8 Xx11) rfl rfl hE rfl (VW hE rfl rfl un9 qXx11) (fun a hE=>?_)
     refine t_on rfl hE rfl rfl rfl ?_
     refine KB (v:=.bool (Xx11 == 48)) rfl rfl hE rfl (KL hE rfl rfl KN Z5) (fun a hE=>?_)
     refine t_on rfl hE rfl rfl rfl ?_
     refine KB (v:=.bool (Xx11 == 48)) rfl rfl hE rfl (KD hE rfl) (fun a hE=>?_)
     refine J5 (n:=(⟨44,[]⟩:Frm)) (w0:=w0) 3 (fun Xx12:Bool=>[(0,.string x0),(24,.bool false),(31,.bool Xx12)]) (M.unbind H) (fun Kr hKr H=>?_) ?_
     ·rcases Kq (Xx11 == 48) with hb | hb
      ·replace H:=M.ite_t hb H
       have hE:=hE.reb 28 (Xx11 == 48) true hb rfl
       refine t_on rfl hE rfl rfl rfl ?_
       refine KB (v:=.string x0) rfl rfl hE rfl (KD hE rfl) (fun a hE=>?_)
       refine t_on rfl hE rfl rfl rfl ?_
       refine KB (v:=.bool (!(sEq x0 (⟨#[48]⟩:ByteArray)))) rfl rfl hE rfl (KL hE rfl rfl Xc KGv) (fun a hE=>?_)
       refine t_on rfl hE rfl rfl rfl ?_
       refine KB rfl rfl hE rfl (Kc hE rfl rfl) (fun a hE=>?_)
       refine KG ?_
       exact hKr _ _ _ (hE.cut (.cons rfl (.cons rfl (.cons rfl Subs.nil)))) hR H
      ·replace H:=M.ite_f hb H
       have hE:=hE.reb 28 (Xx11 == 48) false hb rfl
       refine Kf rfl hE rfl rfl rfl (fun a ea=>?_)
       have hE:=Env.put_some hE rfl ea; clear ea
       refine Kf rfl hE rfl rfl rfl (fun a ea=>?_)
       have hE:=Env.put_some hE rfl ea; clear ea
       refine t_on rfl hE rfl rfl rfl ?_
       refine KB rfl rfl hE rfl (Kd hE rfl rfl) (fun a hE=>?_)
       refine KG ?_
       exact hKr _ _ _ (hE.cut (.cons rfl (.cons rfl (.cons rfl Subs.nil)))) hR H
     ·intro Xx12 a w hE hR H
      refine KB rfl rfl hE rfl (Kd hE rfl rfl) (fun a hE=>?_)
      refine KG ?_
      exact hKr _ _ _ (hE.cut (.cons rfl (.cons rfl Subs.nil))) hR H
   ·intro Xx10 a w hE hR H
    refine KG ?_
    refine hK_6 _ _ ?_
    refine KS Xx10 hE rfl (fun hb=>?_) (fun hb=>?_)
    ·replace H:=M.ite_t hb H
     refine KH (fun K hK_13=>?_)
     refine KC ?_
     refine KB (v:=.int .i64 0) rfl rfl hE rfl (KE hE rfl) (fun a hE=>?_)
     refine KB (v:=.int .i64 10) rfl rfl hE rfl (KE hE rfl) (fun a hE=>?_)
     refine KG ?_
     refine hK_13 _ _ ?_
     refine Kg ?_
     exact hret _ _ _ (0,10) _ hE hR (KM hE rfl (RV.tmp rfl (RV.tmp rfl RV.nil))) rfl H
    ·replace H:=M.ite_f hb H
     refine Ka ?_
     refine hK_5 _ _ ?_
     refine KH (fun K hK_14=>?_)
     refine KC ?_
     refine KB (v:=.string x0) rfl rfl hE rfl (KD hE rfl) (fun a hE=>?_)
     refine KZ hE hR Nm rfl (qT x0 10 64) (M.unbind H) (fun Xx15 a w ea hR H=>?_)
     have hE:=Env.put_some hE rfl ea; clear ea
     refine KB (v:=.tuple #[.int .i64 Xx15.1,Xx15.2]) rfl rfl hE rfl (KD hE rfl) (fun a hE=>?_)
     refine KB (v:=.int .i64 Xx15.1) rfl rfl hE rfl (ZF hE rfl rfl) (fun a hE=>?_)
     refine KB (v:=Xx15.2) rfl rfl hE rfl (ZF hE rfl rfl) (fun a hE=>?_)
     refine KB (v:=.int .i64 Xx15.1) rfl rfl hE rfl (KE hE rfl) (fun a hE=>?_)
     refine KB (v:=Xx15.2) rfl rfl hE rfl (KE hE rfl) (fun a hE=>?_)
     refine KG ?_
     refine hK_14 _ _ ?_
     refine KH (fun K hK_16=>?_)
     refine KC ?_
     refine KB (v:=.int .i64 Xx15.1) rfl rfl hE rfl (KD hE rfl) (fun a hE=>?_)
     refine KB (v:=Xx15.2) rfl rfl hE rfl (KD hE rfl) (fun a hE=>?_)
     obtain ⟨Xx17,qXx17,H⟩:=H
     refine KB (v:=.bool Xx17) rfl rfl hE rfl (KL hE rfl rfl (g_ni qXx17) (KEM KAc qXx17)) (fun a hE=>?_)
     refine KZ hE hR KCK rfl (KDa Xx15.1 Xx17) (M.unbind H) (fun Xx18 a w ea hR H=>?_)
     have hE:=Env.put_some hE rfl ea; clear ea
     refine KB (v:=.int .i64 Xx18.1) rfl rfl hE rfl (ZF hE rfl rfl) (fun a hE=>?_)
     refine KB (v:=.int .i64 Xx18.2) rfl rfl hE rfl (ZF hE rfl rfl) (fun a hE=>?_)
     refine KB (v:=.int .i64 Xx18.1) rfl rfl hE rfl (KE hE rfl) (fun a hE=>?_)
     refine KB (v:=.int .i64 Xx18.2) rfl rfl hE rfl (KE hE rfl) (fun a hE=>?_)
     refine KG ?_
     refine hK_16 _ _ ?_
     refine Kg ?_
     exact hret _ _ _ (Xx18.1,Xx18.2) _ hE hR (KM hE rfl (RV.tmp rfl (RV.tmp rfl RV.nil))) rfl H
 ·skip
  refine KH (fun K hK_19=>?_)
  refine KC ?_
  refine KB (v:=.string x0) rfl rfl hE rfl (KD hE rfl) (fun a hE=>?_)
  refine KB (v:=.bool (!(sEq x0 ByteArray.empty))) rfl rfl hE rfl (KL hE rfl rfl Xc KGv) (fun a hE=>?_)
  refine KB (v:=.bool (!(sEq x0 ByteArray.empty))) rfl rfl hE rfl (KD hE rfl) (fun a hE=>?_)
  refine J5 (n:=(⟨44,[]⟩:Frm)) (w0:=w0) 4 (fun Xx20:Bool=>[(0,.string x0),(4,.string x0),(14,.bool Xx20)]) (M.unbind H) (fun Kr hKr H=>?_) ?_
  ·rcases Kq (!(sEq x0 ByteArray.empty)) with hb | hb
   ·replace H:=M.ite_t hb H
    have hE:=hE.reb 10 (!(sEq x0 ByteArray.empty)) true hb rfl
    refine t_on rfl hE rfl rfl rfl ?_
    refine KB (v:=.string x0) rfl rfl hE rfl (KD hE rfl) (fun a hE=>?_)
    refine t_on rfl hE rfl rfl rfl ?_
    obtain ⟨Xx21,qXx21,H⟩:=H
    refine KB (v:=.int .u8 Xx21) rfl rfl hE rfl (VW hE rfl rfl un9 qXx21) (fun a hE=>?_)
    refine t_on rfl hE rfl rfl rfl ?_
    refine KB (v:=.bool (Xx21 == 45)) rfl rfl hE rfl (KL hE rfl rfl KN Z5) (fun a hE=>?_)
    refine KB rfl rfl hE rfl (Kc hE rfl rfl) (fun a hE=>?_)
    refine KG ?_
    exact hKr _ _ _ (hE.cut (.cons rfl (.cons rfl (.cons rfl Subs.nil)))) hR H
   ·replace H:=M.ite_f hb H
    have hE:=hE.reb 10 (!(sEq x0 ByteArray.empty)) false hb rfl
    refine Kf rfl hE rfl rfl rfl (fun a ea=>?_)
    have hE:=Env.put_some hE rfl ea; clear ea
    refine Kf rfl hE rfl rfl rfl (fun a ea=>?_)
    have hE:=Env.put_some hE rfl ea; clear ea
    refine Kf rfl hE rfl rfl rfl (fun a ea=>?_)
    have hE:=Env.put_some hE rfl ea; clear ea
    refine KB rfl rfl hE rfl (Kd hE rfl rfl) (fun a hE=>?_)
    refine KG ?_
    exact hKr _ _ _ (hE.cut (.cons rfl (.cons rfl (.cons rfl Subs.nil)))) hR H
  ·intro Xx20 a w hE hR H
   refine KG ?_
   refine hK_19 _ _ ?_
   refine KS Xx20 hE rfl (fun hb=>?_) (fun hb=>?_)
   ·replace H:=M.ite_t hb H
    refine KC ?_
    refine KB (v:=.string x0) rfl rfl hE rfl (KD hE rfl) (fun a hE=>?_)
    obtain ⟨Xx22,qXx22,H⟩:=H
    refine KB (v:=.string Xx22) rfl rfl hE rfl (KDV hE rfl rfl un9 qXx22) (fun a hE=>?_)
    refine KB (v:=.string Xx22) rfl rfl hE rfl (KE hE rfl) (fun a hE=>?_)
    refine KG ?_
    exact ⟨Xx22,hE.cut (.cons rfl (.cons rfl Subs.nil)),hR,H⟩
   ·replace H:=M.ite_f hb H
    refine Ka ?_
    exact ⟨x0,hE.cut (.cons rfl (.cons rfl Subs.nil)),hR,H⟩
end Gx
namespace Gx
open Go
set_option linter.unusedVariables false
set_option maxRecDepth 100000
def Nt (x0:Array Value) (x1:Addr):M (Bool):=do
 let Xx2←mkB KJ x0
 let Xx4←ldG 4 Xx2
 let Xx5←ldI .i64 x1
 let Xx6←Y8 Xx4 (IntKind.wrap .i64 (Xx5+1))
 M.pure (!Xx6)
theorem KBP (x0:Array Value) (x1:Addr):ZK Go.Proofs.Tryz.prog 129 #[.agg x0,.pointer (some x1)] (fun (r:Bool)=>.bool r) (Nt x0 x1):=by
 refine KY [(0,.agg x0),(1,.pointer (some x1))] Go.Proofs.Tryz.func129 rfl rfl (Nat.le_of_ble_eq_true rfl) (Ke ⟨rfl,rfl,trivial⟩) (fun w0 w Q R a hret hE hR H=>?_)
 unfold Nt at H
 refine KH (fun K hK_1=>?_)
 refine KC ?_
 obtain ⟨Xx2,qXx2,H⟩:=H
 refine ZR (v:=.pointer (some Xx2)) rfl rfl hE rfl hR (YP hE rfl qXx2) (fun a w hE hR hh=>?_)
 replace H:=M.at hh H; clear hh
 refine KB (v:=.bool false) rfl rfl hE rfl (KE hE rfl) (fun a hE=>?_)
 refine KG ?_
 refine hK_1 _ _ ?_
 refine KH (fun K hK_3=>?_)
 refine KC ?_
 obtain ⟨Xx4,qXx4,H⟩:=H
 refine KB (v:=.agg Xx4) rfl rfl hE rfl (ZN hE rfl ag24 qXx4) (fun a hE=>?_)
 obtain ⟨Xx5,qXx5,H⟩:=H
 refine KB (v:=.int .i64 Xx5) rfl rfl hE rfl (KU hE rfl sc3 qXx5) (fun a hE=>?_)
 refine KB (v:=.int .i64 (IntKind.wrap .i64 (Xx5+1))) rfl rfl hE rfl (KL hE rfl rfl KN JE) (fun a hE=>?_)
 refine KZ hE hR zC rfl (zm Xx4 (IntKind.wrap .i64 (Xx5+1))) (M.unbind H) (fun Xx6 a w ea hR H=>?_)
 have hE:=Env.put_some hE rfl ea; clear ea
 refine KB (v:=.bool (!Xx6)) rfl rfl hE rfl (r_un hE rfl GB) (fun a hE=>?_)
 refine KB (v:=.bool (!Xx6)) rfl rfl hE rfl (KE hE rfl) (fun a hE=>?_)
 refine KG ?_
 refine hK_3 _ _ ?_
 refine Kg ?_
 exact hret _ _ _ (!Xx6) _ hE hR (KM hE rfl (RV.tmp rfl RV.nil)) rfl H
end Gx
namespace Gx
open Go
set_option linter.unusedVariables false
set_option maxRecDepth 100000
def VV (x0:Int):M (ByteArray):=do
 M.ite (decide (x0 < 10)) (do
  let Xx5←slS (⟨#[48,49,50,51,52,53,54,55,56,57,97,98,99,100,101,102,103,104,105,106,107,108,109,110,111,112,113,114,115,116,117,118,119,120,121,122]⟩:ByteArray) x0 (IntKind.wrap .i64 (x0+1))
  M.pure Xx5
  ) (do
  let Xx7←slS (⟨#[48,48,48,49,48,50,48,51,48,52,48,53,48,54,48,55,48,56,48,57,49,48,49,49,49,50,49,51,49,52,49,53,49,54,49,55,49,56,49,57,50,48,50,49,50,50,50,51,50,52,50,53,50,54,50,55,50,56,50,57,51,48,51,49,51,50,51,51,51,52,51,53,51,54,51,55,51,56,51,57,52,48,52,49,52,50,52,51,52,52,52,53,52,54,52,55,52,56,52,57,53,48,53,49,53,50,53,51,53,52,53,53,53,54,53,55,53,56,53,57,54,48,54,49,54,50,54,51,54,52,54,53,54,54,54,55,54,56,54,57,55,48,55,49,55,50,55,51,55,52,55,53,55,54,55,55,55,56,55,57,56,48,56,49,56,50,56,51,56,52,56,53,56,54,56,55,56,56,56,57,57,48,57,49,57,50,57,51,57,52,57,53,57,54,57,55,57,56,57,57]⟩:ByteArray) (IntKind.wrap .i64 (x0 * 2)) (IntKind.wrap .i64 ((IntKind.wrap .i64 (x0 * 2))+2))
  M.pure Xx7
  )
theorem X2 (x0:Int):ZK Go.Proofs.Tryz.prog 227 #[.int .i64 x0] (fun (r:ByteArray)=>.string r) (VV x0):=by
 refine KY [(0,.int .i64 x0)] Go.Proofs.Tryz.func227 rfl rfl (Nat.le_of_ble_eq_true rfl) (Ke ⟨rfl,trivial⟩) (fun w0 w Q R a hret hE hR H=>?_)
 unfold VV at H
 refine KH (fun K hK_1=>?_)
 refine KC ?_
 refine KB (v:=.string ByteArray.empty) rfl rfl hE rfl (KE hE rfl) (fun a hE=>?_)
 refine KG ?_
 refine hK_1 _ _ ?_
 refine KH (fun K hK_2=>?_)
 refine KH (fun K hK_3=>?_)
 refine KC ?_
 refine KB (v:=.int .i64 x0) rfl rfl hE rfl (KD hE rfl) (fun a hE=>?_)
 refine KB (v:=.bool (decide (x0 < 10))) rfl rfl hE rfl (KL hE rfl rfl KN JL) (fun a hE=>?_)
 refine KG ?_
 refine hK_3 _ _ ?_
 refine KS (decide (x0 < 10)) hE rfl (fun hb=>?_) (fun hb=>?_)
 ·replace H:=M.ite_t hb H
  refine KH (fun K hK_4=>?_)
  refine KC ?_
  refine KB (v:=.int .i64 x0) rfl rfl hE rfl (KD hE rfl) (fun a hE=>?_)
  refine KB (v:=.int .i64 x0) rfl rfl hE rfl (KD hE rfl) (fun a hE=>?_)
  refine KB (v:=.int .i64 (IntKind.wrap .i64 (x0+1))) rfl rfl hE rfl (KL hE rfl rfl KN JE) (fun a hE=>?_)
  obtain ⟨Xx5,qXx5,H⟩:=H
  refine KB (v:=.string Xx5) rfl rfl hE rfl (Na hE rfl rfl rfl un9 qXx5) (fun a hE=>?_)
  refine KB (v:=.string Xx5) rfl rfl hE rfl (KE hE rfl) (fun a hE=>?_)
  refine KG ?_
  refine hK_4 _ _ ?_
  refine Kg ?_
  exact hret _ _ _ Xx5 _ hE hR (KM hE rfl (RV.tmp rfl RV.nil)) rfl H
 ·replace H:=M.ite_f hb H
  refine Ka ?_
  refine hK_2 _ _ ?_
  refine KH (fun K hK_6=>?_)
  refine KC ?_
  refine KB (v:=.int .i64 x0) rfl rfl hE rfl (KD hE rfl) (fun a hE=>?_)
  refine KB (v:=.int .i64 (IntKind.wrap .i64 (x0 * 2))) rfl rfl hE rfl (KL hE rfl rfl KN KAB) (fun a hE=>?_)
  refine KB (v:=.int .i64 x0) rfl rfl hE rfl (KD hE rfl) (fun a hE=>?_)
  refine KB (v:=.int .i64 (IntKind.wrap .i64 (x0 * 2))) rfl rfl hE rfl (KL hE rfl rfl KN KAB) (fun a hE=>?_)
  refine KB (v:=.int .i64 (IntKind.wrap .i64 ((IntKind.wrap .i64 (x0 * 2))+2))) rfl rfl hE rfl (KL hE rfl rfl KN JE) (fun a hE=>?_)
  obtain ⟨Xx7,qXx7,H⟩:=H
  refine KB (v:=.string Xx7) rfl rfl hE rfl (Na hE rfl rfl rfl un9 qXx7) (fun a hE=>?_)
  refine KB (v:=.string Xx7) rfl rfl hE rfl (KE hE rfl) (fun a hE=>?_)
  refine KG ?_
  refine hK_6 _ _ ?_
  refine Kg ?_
  exact hret _ _ _ Xx7 _ hE hR (KM hE rfl (RV.tmp rfl RV.nil)) rfl H
def VZ (Xx6:Int) (Xx7:Int):M (Int):=do
 let Xx9←ixS (⟨#[0,1,2,2,3,3,3,3,4,4,4,4,4,4,4,4,5,5,5,5,5,5,5,5,5,5,5,5,5,5,5,5,6,6,6,6,6,6,6,6,6,6,6,6,6,6,6,6,6,6,6,6,6,6,6,6,6,6,6,6,6,6,6,6,7,7,7,7,7,7,7,7,7,7,7,7,7,7,7,7,7,7,7,7,7,7,7,7,7,7,7,7,7,7,7,7,7,7,7,7,7,7,7,7,7,7,7,7,7,7,7,7,7,7,7,7,7,7,7,7,7,7,7,7,7,7,7,7,8,8,8,8,8,8,8,8,8,8,8,8,8,8,8,8,8,8,8,8,8,8,8,8,8,8,8,8,8,8,8,8,8,8,8,8,8,8,8,8,8,8,8,8,8,8,8,8,8,8,8,8,8,8,8,8,8,8,8,8,8,8,8,8,8,8,8,8,8,8,8,8,8,8,8,8,8,8,8,8,8,8,8,8,8,8,8,8,8,8,8,8,8,8,8,8,8,8,8,8,8,8,8,8,8,8,8,8,8,8,8,8,8,8,8,8,8,8,8,8,8,8,8,8,8,8,8,8]⟩:ByteArray) (IntKind.wrap .u8 Xx6)
 M.pure (IntKind.wrap .i64 (Xx7+(IntKind.wrap .i64 Xx9)))
def Va (Xx4:Int) (Xx5:Int):M (Int):=do
 M.ite (decide (Xx4 ≥ 256)) (do
  VZ (iShr .u64 Xx4 8) (IntKind.wrap .i64 (Xx5+8))
  ) (do
  VZ Xx4 Xx5
  )
def Vb (Xx2:Int) (Xx3:Int):M (Int):=do
 M.ite (decide (Xx2 ≥ 65536)) (do
  Va (iShr .u64 Xx2 16) (IntKind.wrap .i64 (Xx3+16))
  ) (do
  Va Xx2 Xx3
  )
def XH (x0:Int):M (Int):=do
 M.ite (decide (x0 ≥ 4294967296)) (do
  Vb (iShr .u64 x0 32) 32
  ) (do
  Vb x0 0
  )
theorem qu (x0:Int):ZK Go.Proofs.Tryz.prog 217 #[.int .u64 x0] (fun (r:Int)=>.int .i64 r) (XH x0):=by
 refine KY [(0,.int .u64 x0)] Go.Proofs.Tryz.func217 rfl rfl (Nat.le_of_ble_eq_true rfl) (Ke ⟨rfl,trivial⟩) (fun w0 w Q R a hret hE hR H=>?_)
 unfold XH at H
 refine KH (fun K hK_1=>?_)
 refine KC ?_
 refine KB (v:=.int .i64 0) rfl rfl hE rfl (KE hE rfl) (fun a hE=>?_)
 refine KG ?_
 refine hK_1 _ _ ?_
 refine Ku (fun a w=>∃ (Xx2:Int),∃ (Xx3:Int),Env (⟨25,[]⟩:Frm) a [(0,.int .u64 Xx2),(2,.int .i64 Xx3)]∧Rest w0 w∧(Vb Xx2 Xx3).wp w.heap Q) ?_ ?_
 ·rintro a w ⟨Xx2,Xx3,hE,hR,H⟩
  unfold Vb at H
  refine Ku (fun a w=>∃ (Xx4:Int),∃ (Xx5:Int),Env (⟨25,[]⟩:Frm) a [(0,.int .u64 Xx4),(2,.int .i64 Xx5)]∧Rest w0 w∧(Va Xx4 Xx5).wp w.heap Q) ?_ ?_
  ·rintro a w ⟨Xx4,Xx5,hE,hR,H⟩
   unfold Va at H
   refine Ku (fun a w=>∃ (Xx6:Int),∃ (Xx7:Int),Env (⟨25,[]⟩:Frm) a [(0,.int .u64 Xx6),(2,.int .i64 Xx7)]∧Rest w0 w∧(VZ Xx6 Xx7).wp w.heap Q) ?_ ?_
   ·rintro a w ⟨Xx6,Xx7,hE,hR,H⟩
    unfold VZ at H
    refine KH (fun K hK_8=>?_)
    refine KC ?_
    refine KB (v:=.int .i64 Xx7) rfl rfl hE rfl (KD hE rfl) (fun a hE=>?_)
    refine KB (v:=.int .u64 Xx6) rfl rfl hE rfl (KD hE rfl) (fun a hE=>?_)
    refine KB (v:=.int .u8 (IntKind.wrap .u8 Xx6)) rfl rfl hE rfl (Ue hE rfl KEP un5) (fun a hE=>?_)
    obtain ⟨Xx9,qXx9,H⟩:=H
    refine KB (v:=.int .u8 Xx9) rfl rfl hE rfl (VW hE rfl rfl un9 qXx9) (fun a hE=>?_)
    refine KB (v:=.int .i64 (IntKind.wrap .i64 Xx9)) rfl rfl hE rfl (Ue hE rfl un5 un3) (fun a hE=>?_)
    refine KB (v:=.int .i64 (IntKind.wrap .i64 (Xx7+(IntKind.wrap .i64 Xx9)))) rfl rfl hE rfl (KL hE rfl rfl KN JE) (fun a hE=>?_)
    refine KB (v:=.int .i64 (IntKind.wrap .i64 (Xx7+(IntKind.wrap .i64 Xx9)))) rfl rfl hE rfl (KE hE rfl) (fun a hE=>?_)
    refine KG ?_
    refine hK_8 _ _ ?_
    refine Kg ?_
    exact hret _ _ _ (IntKind.wrap .i64 (Xx7+(IntKind.wrap .i64 Xx9))) _ hE hR (KM hE rfl (RV.tmp rfl RV.nil)) rfl H
   ·skip
    refine KH (fun K hK_10=>?_)
    refine KC ?_
    refine KB (v:=.int .u64 Xx4) rfl rfl hE rfl (KD hE rfl) (fun a hE=>?_)
    refine KB (v:=.bool (decide (Xx4 ≥ 256))) rfl rfl hE rfl (KL hE rfl rfl KN YJ) (fun a hE=>?_)
    refine KG ?_
    refine hK_10 _ _ ?_
    refine KS (decide (Xx4 ≥ 256)) hE rfl (fun hb=>?_) (fun hb=>?_)
    ·replace H:=M.ite_t hb H
     refine KH (fun K hK_11=>?_)
     refine KC ?_
     refine KB (v:=.int .u64 Xx4) rfl rfl hE rfl (KD hE rfl) (fun a hE=>?_)
     refine KB (v:=.int .u64 (iShr .u64 Xx4 8)) rfl rfl hE rfl (KL hE rfl rfl KN (zX ⟨by decide,rfl⟩)) (fun a hE=>?_)
     refine KB (v:=.int .u64 (iShr .u64 Xx4 8)) rfl rfl hE rfl (KE hE rfl) (fun a hE=>?_)
     refine KG ?_
     refine hK_11 _ _ ?_
     refine KC ?_
     refine KB (v:=.int .i64 Xx5) rfl rfl hE rfl (KD hE rfl) (fun a hE=>?_)
     refine KB (v:=.int .i64 (IntKind.wrap .i64 (Xx5+8))) rfl rfl hE rfl (KL hE rfl rfl KN JE) (fun a hE=>?_)
     refine KB (v:=.int .i64 (IntKind.wrap .i64 (Xx5+8))) rfl rfl hE rfl (KE hE rfl) (fun a hE=>?_)
     refine KG ?_
     exact ⟨iShr .u64 Xx4 8,IntKind.wrap .i64 (Xx5+8),hE.cut (.cons rfl (.cons rfl Subs.nil)),hR,H⟩
    ·replace H:=M.ite_f hb H
     refine Ka ?_
     exact ⟨Xx4,Xx5,hE.cut (.cons rfl (.cons rfl Subs.nil)),hR,H⟩
  ·skip
   refine KH (fun K hK_12=>?_)
   refine KC ?_
   refine KB (v:=.int .u64 Xx2) rfl rfl hE rfl (KD hE rfl) (fun a hE=>?_)
   refine KB (v:=.bool (decide (Xx2 ≥ 65536))) rfl rfl hE rfl (KL hE rfl rfl KN YJ) (fun a hE=>?_)
   refine KG ?_
   refine hK_12 _ _ ?_
   refine KS (decide (Xx2 ≥ 65536)) hE rfl (fun hb=>?_) (fun hb=>?_)
   ·replace H:=M.ite_t hb H
    refine KH (fun K hK_13=>?_)
    refine KC ?_
    refine KB (v:=.int .u64 Xx2) rfl rfl hE rfl (KD hE rfl) (fun a hE=>?_)
    refine KB (v:=.int .u64 (iShr .u64 Xx2 16)) rfl rfl hE rfl (KL hE rfl rfl KN (zX ⟨by decide,rfl⟩)) (fun a hE=>?_)
    refine KB (v:=.int .u64 (iShr .u64 Xx2 16)) rfl rfl hE rfl (KE hE rfl) (fun a hE=>?_)
    refine KG ?_
    refine hK_13 _ _ ?_
    refine KC ?_
    refine KB (v:=.int .i64 Xx3) rfl rfl hE rfl (KD hE rfl) (fun a hE=>?_)
    refine KB (v:=.int .i64 (IntKind.wrap .i64 (Xx3+16))) rfl rfl hE rfl (KL hE rfl rfl KN JE) (fun a hE=>?_)
    refine KB (v:=.int .i64 (IntKind.wrap .i64 (Xx3+16))) rfl rfl hE rfl (KE hE rfl) (fun a hE=>?_)
    refine KG ?_
    exact ⟨iShr .u64 Xx2 16,IntKind.wrap .i64 (Xx3+16),hE.cut (.cons rfl (.cons rfl Subs.nil)),hR,H⟩
   ·replace H:=M.ite_f hb H
    refine Ka ?_
    exact ⟨Xx2,Xx3,hE.cut (.cons rfl (.cons rfl Subs.nil)),hR,H⟩
 ·skip
  refine KH (fun K hK_14=>?_)
  refine KC ?_
  refine KB (v:=.int .u64 x0) rfl rfl hE rfl (KD hE rfl) (fun a hE=>?_)
  refine KB (v:=.bool (decide (x0 ≥ 4294967296))) rfl rfl hE rfl (KL hE rfl rfl KN YJ) (fun a hE=>?_)
  refine KG ?_
  refine hK_14 _ _ ?_
  refine KS (decide (x0 ≥ 4294967296)) hE rfl (fun hb=>?_) (fun hb=>?_)
  ·replace H:=M.ite_t hb H
   refine KH (fun K hK_15=>?_)
   refine KC ?_
   refine KB (v:=.int .u64 x0) rfl rfl hE rfl (KD hE rfl) (fun a hE=>?_)
   refine KB (v:=.int .u64 (iShr .u64 x0 32)) rfl rfl hE rfl (KL hE rfl rfl KN (zX ⟨by decide,rfl⟩)) (fun a hE=>?_)
   refine KB (v:=.int .u64 (iShr .u64 x0 32)) rfl rfl hE rfl (KE hE rfl) (fun a hE=>?_)
   refine KG ?_
   refine hK_15 _ _ ?_
   refine KC ?_
   refine KB (v:=.int .i64 32) rfl rfl hE rfl (KE hE rfl) (fun a hE=>?_)
   refine KG ?_
   exact ⟨iShr .u64 x0 32,32,hE.cut (.cons rfl (.cons rfl Subs.nil)),hR,H⟩
  ·replace H:=M.ite_f hb H
   refine Ka ?_
   exact ⟨x0,0,hE.cut (.cons rfl (.cons rfl Subs.nil)),hR,H⟩
def Uo (x0:Int):M (Int):=do
 M.pure (iShr .i64 (IntKind.wrap .i64 (x0 * 78913)) 18)
theorem Yr (x0:Int):ZK Go.Proofs.Tryz.prog 247 #[.int .i64 x0] (fun (r:Int)=>.int .i64 r) (Uo x0):=by
 refine KY [(0,.int .i64 x0)] Go.Proofs.Tryz.func247 rfl rfl (Nat.le_of_ble_eq_true rfl) (Ke ⟨rfl,trivial⟩) (fun w0 w Q R a hret hE hR H=>?_)
 unfold Uo at H
 refine KH (fun K hK_1=>?_)
 refine KC ?_
 refine KB (v:=.int .i64 0) rfl rfl hE rfl (KE hE rfl) (fun a hE=>?_)
 refine KG ?_
 refine hK_1 _ _ ?_
 refine KH (fun K hK_2=>?_)
 refine KC ?_
 refine KB (v:=.int .i64 x0) rfl rfl hE rfl (KD hE rfl) (fun a hE=>?_)
 refine KB (v:=.int .i64 (IntKind.wrap .i64 (x0 * 78913))) rfl rfl hE rfl (KL hE rfl rfl KN KAB) (fun a hE=>?_)
 refine KB (v:=.int .i64 (iShr .i64 (IntKind.wrap .i64 (x0 * 78913)) 18)) rfl rfl hE rfl (KL hE rfl rfl KN (zX ⟨by decide,rfl⟩)) (fun a hE=>?_)
 refine KB (v:=.int .i64 (iShr .i64 (IntKind.wrap .i64 (x0 * 78913)) 18)) rfl rfl hE rfl (KE hE rfl) (fun a hE=>?_)
 refine KG ?_
 refine hK_2 _ _ ?_
 refine Kg ?_
 exact hret _ _ _ (iShr .i64 (IntKind.wrap .i64 (x0 * 78913)) 18) _ hE hR (KM hE rfl (RV.tmp rfl RV.nil)) rfl H
def Up (x0:Bool):M (Int):=do
 M.ite x0 (do
  M.pure 1
  ) (do
  M.pure 0
  )
theorem Ys (x0:Bool):ZK Go.Proofs.Tryz.prog 248 #[.bool x0] (fun (r:Int)=>.int .i64 r) (Up x0):=by
 refine KY [(0,.bool x0)] Go.Proofs.Tryz.func248 rfl rfl (Nat.le_of_ble_eq_true rfl) (Ke ⟨rfl,trivial⟩) (fun w0 w Q R a hret hE hR H=>?_)
 unfold Up at H
 refine KH (fun K hK_1=>?_)
 refine KC ?_
 refine KB (v:=.int .i64 0) rfl rfl hE rfl (KE hE rfl) (fun a hE=>?_)
 refine KG ?_
 refine hK_1 _ _ ?_
 refine KH (fun K hK_2=>?_)
 refine KH (fun K hK_3=>?_)
 refine KC ?_
 refine KB (v:=.bool x0) rfl rfl hE rfl (KD hE rfl) (fun a hE=>?_)
 refine KG ?_
 refine hK_3 _ _ ?_
 refine KS x0 hE rfl (fun hb=>?_) (fun hb=>?_)
 ·replace H:=M.ite_t hb H
  refine KH (fun K hK_4=>?_)
  refine KC ?_
  refine KB (v:=.int .i64 1) rfl rfl hE rfl (KE hE rfl) (fun a hE=>?_)
  refine KG ?_
  refine hK_4 _ _ ?_
  refine Kg ?_
  exact hret _ _ _ 1 _ hE hR (KM hE rfl (RV.tmp rfl RV.nil)) rfl H
 ·replace H:=M.ite_f hb H
  refine Ka ?_
  refine hK_2 _ _ ?_
  refine KH (fun K hK_5=>?_)
  refine KC ?_
  refine KB (v:=.int .i64 0) rfl rfl hE rfl (KE hE rfl) (fun a hE=>?_)
  refine KG ?_
  refine hK_5 _ _ ?_
  refine Kg ?_
  exact hret _ _ _ 0 _ hE hR (KM hE rfl (RV.tmp rfl RV.nil)) rfl H
def Uq (x0:Int):M (Int):=do
 let Xx3←XH x0
 let Xx4←Uo Xx3
 let Xx6←ixA (⟨3,0,none⟩:Addr) 20 Xx4 1
 let Xx7←ldI .u64 Xx6
 let Xx8←Up (decide (x0 ≥ Xx7))
 M.pure (IntKind.wrap .i64 (Xx4+Xx8))
theorem Yt (x0:Int):ZK Go.Proofs.Tryz.prog 228 #[.int .u64 x0] (fun (r:Int)=>.int .i64 r) (Uq x0):=by
 refine KY [(0,.int .u64 x0)] Go.Proofs.Tryz.func228 rfl rfl (Nat.le_of_ble_eq_true rfl) (Ke ⟨rfl,trivial⟩) (fun w0 w Q R a hret hE hR H=>?_)
 unfold Uq at H
 refine KH (fun K hK_1=>?_)
 refine KC ?_
 refine KB (v:=.int .i64 0) rfl rfl hE rfl (KE hE rfl) (fun a hE=>?_)
 refine KG ?_
 refine hK_1 _ _ ?_
 refine KH (fun K hK_2=>?_)
 refine KC ?_
 refine KB (v:=.int .u64 x0) rfl rfl hE rfl (KD hE rfl) (fun a hE=>?_)
 refine KZ hE hR qC rfl (qu x0) (M.unbind H) (fun Xx3 a w ea hR H=>?_)
 have hE:=Env.put_some hE rfl ea; clear ea
 refine KZ hE hR YU rfl (Yr Xx3) (M.unbind H) (fun Xx4 a w ea hR H=>?_)
 have hE:=Env.put_some hE rfl ea; clear ea
 refine KB (v:=.int .i64 Xx4) rfl rfl hE rfl (KE hE rfl) (fun a hE=>?_)
 refine KG ?_
 refine hK_2 _ _ ?_
 refine KH (fun K hK_5=>?_)
 refine KC ?_
 refine KB (v:=.int .i64 Xx4) rfl rfl hE rfl (KD hE rfl) (fun a hE=>?_)
 refine KB (v:=.int .u64 x0) rfl rfl hE rfl (KD hE rfl) (fun a hE=>?_)
 refine KB (v:=.int .i64 Xx4) rfl rfl hE rfl (KD hE rfl) (fun a hE=>?_)
 obtain ⟨Xx6,qXx6,H⟩:=H
 refine KB (v:=.pointer (some Xx6)) rfl rfl hE rfl (VD hE rfl rfl KJR KJc qXx6) (fun a hE=>?_)
 obtain ⟨Xx7,qXx7,H⟩:=H
 refine KB (v:=.int .u64 Xx7) rfl rfl hE rfl (KU hE rfl KJb qXx7) (fun a hE=>?_)
 refine KB (v:=.bool (decide (x0 ≥ Xx7))) rfl rfl hE rfl (KL hE rfl rfl KN YJ) (fun a hE=>?_)
 refine KZ hE hR YT rfl (Ys (decide (x0 ≥ Xx7))) (M.unbind H) (fun Xx8 a w ea hR H=>?_)
 have hE:=Env.put_some hE rfl ea; clear ea
 refine KB (v:=.int .i64 (IntKind.wrap .i64 (Xx4+Xx8))) rfl rfl hE rfl (KL hE rfl rfl KN JE) (fun a hE=>?_)
 refine KB (v:=.int .i64 (IntKind.wrap .i64 (Xx4+Xx8))) rfl rfl hE rfl (KE hE rfl) (fun a hE=>?_)
 refine KG ?_
 refine hK_5 _ _ ?_
 refine Kg ?_
 exact hret _ _ _ (IntKind.wrap .i64 (Xx4+Xx8)) _ hE hR (KM hE rfl (RV.tmp rfl RV.nil)) rfl H
def Jk (x0:Int):M (Bool):=do
 M.pure ((iAnd .i64 x0 (IntKind.wrap .i64 (x0 - 1))) == 0)
theorem YB (x0:Int):ZK Go.Proofs.Tryz.prog 249 #[.int .i64 x0] (fun (r:Bool)=>.bool r) (Jk x0):=by
 refine KY [(0,.int .i64 x0)] Go.Proofs.Tryz.func249 rfl rfl (Nat.le_of_ble_eq_true rfl) (Ke ⟨rfl,trivial⟩) (fun w0 w Q R a hret hE hR H=>?_)
 unfold Jk at H
 refine KH (fun K hK_1=>?_)
 refine KC ?_
 refine KB (v:=.bool false) rfl rfl hE rfl (KE hE rfl) (fun a hE=>?_)
 refine KG ?_
 refine hK_1 _ _ ?_
 refine KH (fun K hK_2=>?_)
 refine KC ?_
 refine KB (v:=.int .i64 x0) rfl rfl hE rfl (KD hE rfl) (fun a hE=>?_)
 refine KB (v:=.int .i64 x0) rfl rfl hE rfl (KD hE rfl) (fun a hE=>?_)
 refine KB (v:=.int .i64 (IntKind.wrap .i64 (x0 - 1))) rfl rfl hE rfl (KL hE rfl rfl KN VA) (fun a hE=>?_)
 refine KB (v:=.int .i64 (iAnd .i64 x0 (IntKind.wrap .i64 (x0 - 1)))) rfl rfl hE rfl (KL hE rfl rfl KN KFr) (fun a hE=>?_)
 refine KB (v:=.bool ((iAnd .i64 x0 (IntKind.wrap .i64 (x0 - 1))) == 0)) rfl rfl hE rfl (KL hE rfl rfl KN Z5) (fun a hE=>?_)
 refine KB (v:=.bool ((iAnd .i64 x0 (IntKind.wrap .i64 (x0 - 1))) == 0)) rfl rfl hE rfl (KE hE rfl) (fun a hE=>?_)
 refine KG ?_
 refine hK_2 _ _ ?_
 refine Kg ?_
 exact hret _ _ _ ((iAnd .i64 x0 (IntKind.wrap .i64 (x0 - 1))) == 0) _ hE hR (KM hE rfl (RV.tmp rfl RV.nil)) rfl H
def UJ (x0:Int):M (Int):=do
 M.ite (x0 == 0) (do
  M.pure 64
  ) (do
  let Xx6←ixA (⟨7,0,none⟩:Addr) 64 (iShr .u64 (IntKind.wrap .u64 ((iAnd .u64 x0 (IntKind.wrap .u64 (0 - x0))) * 285870213051353865)) 58) 1
  let Xx7←ldI .u8 Xx6
  M.pure (IntKind.wrap .i64 Xx7)
  )
theorem XI (x0:Int):ZK Go.Proofs.Tryz.prog 259 #[.int .u64 x0] (fun (r:Int)=>.int .i64 r) (UJ x0):=by
 refine KY [(0,.int .u64 x0)] Go.Proofs.Tryz.func259 rfl rfl (Nat.le_of_ble_eq_true rfl) (Ke ⟨rfl,trivial⟩) (fun w0 w Q R a hret hE hR H=>?_)
 unfold UJ at H
 refine KH (fun K hK_1=>?_)
 refine KC ?_
 refine KB (v:=.int .i64 0) rfl rfl hE rfl (KE hE rfl) (fun a hE=>?_)
 refine KG ?_
 refine hK_1 _ _ ?_
 refine KH (fun K hK_2=>?_)
 refine KH (fun K hK_3=>?_)
 refine KC ?_
 refine KB (v:=.int .u64 x0) rfl rfl hE rfl (KD hE rfl) (fun a hE=>?_)
 refine KB (v:=.bool (x0 == 0)) rfl rfl hE rfl (KL hE rfl rfl KN Z5) (fun a hE=>?_)
 refine KG ?_
 refine hK_3 _ _ ?_
 refine KS (x0 == 0) hE rfl (fun hb=>?_) (fun hb=>?_)
 ·replace H:=M.ite_t hb H
  refine KH (fun K hK_4=>?_)
  refine KC ?_
  refine KB (v:=.int .i64 64) rfl rfl hE rfl (KE hE rfl) (fun a hE=>?_)
  refine KG ?_
  refine hK_4 _ _ ?_
  refine Kg ?_
  exact hret _ _ _ 64 _ hE hR (KM hE rfl (RV.tmp rfl RV.nil)) rfl H
 ·replace H:=M.ite_f hb H
  refine Ka ?_
  refine hK_2 _ _ ?_
  refine KH (fun K hK_5=>?_)
  refine KC ?_
  refine KB (v:=.int .u64 x0) rfl rfl hE rfl (KD hE rfl) (fun a hE=>?_)
  refine KB (v:=.int .u64 x0) rfl rfl hE rfl (KD hE rfl) (fun a hE=>?_)
  refine KB (v:=.int .u64 (IntKind.wrap .u64 (0 - x0))) rfl rfl hE rfl (r_un hE rfl KHG) (fun a hE=>?_)
  refine KB (v:=.int .u64 (iAnd .u64 x0 (IntKind.wrap .u64 (0 - x0)))) rfl rfl hE rfl (KL hE rfl rfl KN KFr) (fun a hE=>?_)
  refine KB (v:=.int .u64 (IntKind.wrap .u64 ((iAnd .u64 x0 (IntKind.wrap .u64 (0 - x0))) * 285870213051353865))) rfl rfl hE rfl (KL hE rfl rfl KN KAB) (fun a hE=>?_)
  refine KB (v:=.int .u64 (iShr .u64 (IntKind.wrap .u64 ((iAnd .u64 x0 (IntKind.wrap .u64 (0 - x0))) * 285870213051353865)) 58)) rfl rfl hE rfl (KL hE rfl rfl KN (zX ⟨by decide,rfl⟩)) (fun a hE=>?_)
  obtain ⟨Xx6,qXx6,H⟩:=H
  refine KB (v:=.pointer (some Xx6)) rfl rfl hE rfl (VD hE rfl rfl KJS sz5 qXx6) (fun a hE=>?_)
  obtain ⟨Xx7,qXx7,H⟩:=H
  refine KB (v:=.int .u8 Xx7) rfl rfl hE rfl (KU hE rfl sc5 qXx7) (fun a hE=>?_)
  refine KB (v:=.int .i64 (IntKind.wrap .i64 Xx7)) rfl rfl hE rfl (Ue hE rfl un5 un3) (fun a hE=>?_)
  refine KB (v:=.int .i64 (IntKind.wrap .i64 Xx7)) rfl rfl hE rfl (KE hE rfl) (fun a hE=>?_)
  refine KG ?_
  refine hK_5 _ _ ?_
  refine Kg ?_
  exact hret _ _ _ (IntKind.wrap .i64 Xx7) _ hE hR (KM hE rfl (RV.tmp rfl RV.nil)) rfl H
def Ua (x0:Int):M (Int):=do
 let Xx4←UJ x0
 M.pure Xx4
theorem Xj (x0:Int):ZK Go.Proofs.Tryz.prog 250 #[.int .u64 x0] (fun (r:Int)=>.int .i64 r) (Ua x0):=by
 refine KY [(0,.int .u64 x0)] Go.Proofs.Tryz.func250 rfl rfl (Nat.le_of_ble_eq_true rfl) (Ke ⟨rfl,trivial⟩) (fun w0 w Q R a hret hE hR H=>?_)
 unfold Ua at H
 refine KH (fun K hK_1=>?_)
 refine KC ?_
 refine KB (v:=.int .i64 0) rfl rfl hE rfl (KE hE rfl) (fun a hE=>?_)
 refine KG ?_
 refine hK_1 _ _ ?_
 refine KH (fun K hK_2=>?_)
 refine KBf false (fun hb=>by cases hb) (fun _=>?_)
 refine Ka ?_
 refine hK_2 _ _ ?_
 refine KH (fun K hK_3=>?_)
 refine KC ?_
 refine KB (v:=.int .u64 x0) rfl rfl hE rfl (KD hE rfl) (fun a hE=>?_)
 refine KZ hE hR Yl rfl (XI x0) (M.unbind H) (fun Xx4 a w ea hR H=>?_)
 have hE:=Env.put_some hE rfl ea; clear ea
 refine KB (v:=.int .i64 Xx4) rfl rfl hE rfl (KE hE rfl) (fun a hE=>?_)
 refine KG ?_
 refine hK_3 _ _ ?_
 refine Kg ?_
 exact hret _ _ _ Xx4 _ hE hR (KM hE rfl (RV.tmp rfl RV.nil)) rfl H
def Z6 (C26:Sl) (C27:Bool) (C28:Sl) (C29:ByteArray) (C30:Addr) (Xx25:Int):M (Sl × ByteArray):=do
 M.ite C27 (do
  let Xx34←slA C30 65 Xx25 65 1
  let Xx35←apL Zi 1 1 (#[.int .u8 0]:Array Value) C26 Xx34
  M.pure (Xx35,C29)
  ) (do
  let Xx37←slA C30 65 Xx25 65 1
  let Xx38←b2s Xx37
  M.pure (C28,Xx38)
  )
def Z7 (C19:Sl) (C20:Bool) (C21:Bool) (C22:Sl) (C23:ByteArray) (C24:Addr) (Xx18:Int):M (Sl × ByteArray):=do
 M.ite C20 (do
  let Xx41←ixA C24 65 (IntKind.wrap .i64 (Xx18 - 1)) 1
  stV Xx41 (.int .u8 45)
  Z6 C19 C21 C22 C23 C24 (IntKind.wrap .i64 (Xx18 - 1))
  ) (do
  Z6 C19 C21 C22 C23 C24 Xx18
  )
def Jb (C52:Sl) (C53:Bool) (C54:Bool) (C55:Sl) (C56:ByteArray) (C57:Addr) (C58:Int) (C59:Int) (C60:Int) (self1:(Int × Int)→M (Sl × ByteArray)):(Int × Int)→M (Sl × ByteArray):=fun s=>match s with
 | (Xx50,Xx51)=>do
  M.ite (decide (Xx50 ≥ C59)) (do
   let Xx66←ixS (⟨#[48,49,50,51,52,53,54,55,56,57,97,98,99,100,101,102,103,104,105,106,107,108,109,110,111,112,113,114,115,116,117,118,119,120,121,122]⟩:ByteArray) (iAnd .u64 Xx50 C60)
   let Xx67←ixA C57 65 (IntKind.wrap .i64 (Xx51 - 1)) 1
   stV Xx67 (.int .u8 Xx66)
   let Xx69←pShr .u64 Xx50 C58
   self1 (Xx69,IntKind.wrap .i64 (Xx51 - 1))
   ) (do
   let Xx71←ixS (⟨#[48,49,50,51,52,53,54,55,56,57,97,98,99,100,101,102,103,104,105,106,107,108,109,110,111,112,113,114,115,116,117,118,119,120,121,122]⟩:ByteArray) Xx50
   let Xx72←ixA C57 65 (IntKind.wrap .i64 (Xx51 - 1)) 1
   stV Xx72 (.int .u8 Xx71)
   Z7 C52 C53 C54 C55 C56 C57 (IntKind.wrap .i64 (Xx51 - 1))
   )
def UO (C78:Sl) (C79:Bool) (C80:Bool) (C81:Sl) (C82:ByteArray) (C83:Addr) (C84:Int) (self2:(Int × Int)→M (Sl × ByteArray)):(Int × Int)→M (Sl × ByteArray):=fun s=>match s with
 | (Xx76,Xx77)=>do
  M.ite (decide (Xx76 ≥ C84)) (do
   let Xx90←pQuo .u64 Xx76 C84
   let Xx92←ixS (⟨#[48,49,50,51,52,53,54,55,56,57,97,98,99,100,101,102,103,104,105,106,107,108,109,110,111,112,113,114,115,116,117,118,119,120,121,122]⟩:ByteArray) (IntKind.wrap .u64 (Xx76 - (IntKind.wrap .u64 (Xx90 * C84))))
   let Xx93←ixA C83 65 (IntKind.wrap .i64 (Xx77 - 1)) 1
   stV Xx93 (.int .u8 Xx92)
   self2 (Xx90,IntKind.wrap .i64 (Xx77 - 1))
   ) (do
   let Xx96←ixS (⟨#[48,49,50,51,52,53,54,55,56,57,97,98,99,100,101,102,103,104,105,106,107,108,109,110,111,112,113,114,115,116,117,118,119,120,121,122]⟩:ByteArray) Xx76
   let Xx97←ixA C83 65 (IntKind.wrap .i64 (Xx77 - 1)) 1
   stV Xx97 (.int .u8 Xx96)
   Z7 C78 C79 C80 C81 C82 C83 (IntKind.wrap .i64 (Xx77 - 1))
   )
def Z8 (C10:Sl) (C11:Int) (C12:Bool) (C13:Bool) (C14:Sl) (C15:ByteArray) (C16:Addr) (C17:Int) (Xx9:Int):M (Sl × ByteArray):=do
 let Xx44←Jk C11
 M.ite Xx44 (do
  let Xx46←Ua (IntKind.wrap .u64 C11)
  M.loop (Jb C10 C12 C13 C14 C15 C16 (IntKind.wrap .u64 Xx46) (IntKind.wrap .u64 C11) (IntKind.wrap .u64 ((IntKind.wrap .u64 C11) - 1))) (Xx9,C17)
  ) (do
  M.loop (UO C10 C12 C13 C14 C15 C16 (IntKind.wrap .u64 C11)) (Xx9,C17)
  )
def J1 (x0:Sl) (x1:Int) (x2:Int) (x3:Bool) (x4:Bool):M (Sl × ByteArray):=do
 let Xx4←M.ite (decide (x2 < 2)) (do
  M.pure true
  ) (do
  M.pure (x2 == 10)
  )
 let Xx5←M.ite Xx4 (do
  M.pure true
  ) (do
  M.pure (decide (x2 > 36))
  )
 M.ite Xx5 (do
  M.fail
  ) (do
  let Xx7←mkB W8 (Array.replicate 65 (.int .u8 0):Array Value)
  M.ite x3 (do
   Z8 x0 x2 x3 x4 Sl.nil ByteArray.empty Xx7 65 (IntKind.wrap .u64 (0 - x1))
   ) (do
   Z8 x0 x2 x3 x4 Sl.nil ByteArray.empty Xx7 65 x1
   )
  )
theorem Ya (x0:Sl) (x1:Int) (x2:Int) (x3:Bool) (x4:Bool):ZK Go.Proofs.Tryz.prog 230 #[(x0:Sl).v,.int .u64 x1,.int .i64 x2,.bool x3,.bool x4] (fun (r:Sl × ByteArray)=>.tuple #[(r.1:Sl).v,.string r.2]) (J1 x0 x1 x2 x3 x4):=by
 refine KY [(0,(x0:Sl).v),(1,.int .u64 x1),(2,.int .i64 x2),(3,.bool x3),(4,.bool x4)] Go.Proofs.Tryz.func230 rfl rfl (Nat.le_of_ble_eq_true rfl) (Ke ⟨rfl,rfl,rfl,rfl,rfl,trivial⟩) (fun w0 w Q R a hret hE hR H=>?_)
 unfold J1 at H
 refine KH (fun K hK_1=>?_)
 refine KC ?_
 refine KB (v:=(Sl.nil:Sl).v) rfl rfl hE rfl (KE hE rfl) (fun a hE=>?_)
 refine KB (v:=.string ByteArray.empty) rfl rfl hE rfl (KE hE rfl) (fun a hE=>?_)
 refine KG ?_
 refine hK_1 _ _ ?_
 refine KH (fun K hK_2=>?_)
 refine KH (fun K hK_3=>?_)
 refine KC ?_
 refine KB (v:=.int .i64 x2) rfl rfl hE rfl (KD hE rfl) (fun a hE=>?_)
 refine KB (v:=.bool (decide (x2 < 2))) rfl rfl hE rfl (KL hE rfl rfl KN JL) (fun a hE=>?_)
 refine KB (v:=.bool (decide (x2 < 2))) rfl rfl hE rfl (KD hE rfl) (fun a hE=>?_)
 refine J5 (n:=(⟨102,[]⟩:Frm)) (w0:=w0) 3 (fun Xx4:Bool=>[(0,(x0:Sl).v),(1,.int .u64 x1),(2,.int .i64 x2),(3,.bool x3),(4,.bool x4),(10,(Sl.nil:Sl).v),(11,.string ByteArray.empty),(24,.bool Xx4)]) (M.unbind H) (fun Kr hKr H=>?_) ?_
 ·rcases Kq (decide (x2 < 2)) with hb | hb
  ·replace H:=M.ite_t hb H
   have hE:=hE.reb 21 (decide (x2 < 2)) true hb rfl
   refine Kf rfl hE rfl rfl rfl (fun a ea=>?_)
   have hE:=Env.put_some hE rfl ea; clear ea
   refine Kf rfl hE rfl rfl rfl (fun a ea=>?_)
   have hE:=Env.put_some hE rfl ea; clear ea
   refine KB rfl rfl hE rfl (Kc hE rfl rfl) (fun a hE=>?_)
   refine KG ?_
   exact hKr _ _ _ (hE.cut (.cons rfl (.cons rfl (.cons rfl (.cons rfl (.cons rfl (.cons rfl (.cons rfl (.cons rfl Subs.nil))))))))) hR H
  ·replace H:=M.ite_f hb H
   have hE:=hE.reb 21 (decide (x2 < 2)) false hb rfl
   refine t_on rfl hE rfl rfl rfl ?_
   refine KB (v:=.int .i64 x2) rfl rfl hE rfl (KD hE rfl) (fun a hE=>?_)
   refine t_on rfl hE rfl rfl rfl ?_
   refine KB (v:=.bool (x2 == 10)) rfl rfl hE rfl (KL hE rfl rfl KN Z5) (fun a hE=>?_)
   refine KB rfl rfl hE rfl (Kd hE rfl rfl) (fun a hE=>?_)
   refine KG ?_
   exact hKr _ _ _ (hE.cut (.cons rfl (.cons rfl (.cons rfl (.cons rfl (.cons rfl (.cons rfl (.cons rfl (.cons rfl Subs.nil))))))))) hR H
 ·intro Xx4 a w hE hR H
  refine KB (v:=.bool Xx4) rfl rfl hE rfl (KD hE rfl) (fun a hE=>?_)
  refine J5 (n:=(⟨102,[]⟩:Frm)) (w0:=w0) 3 (fun Xx5:Bool=>[(0,(x0:Sl).v),(1,.int .u64 x1),(2,.int .i64 x2),(3,.bool x3),(4,.bool x4),(10,(Sl.nil:Sl).v),(11,.string ByteArray.empty),(28,.bool Xx5)]) (M.unbind H) (fun Kr hKr H=>?_) ?_
  ·rcases Kq Xx4 with hb | hb
   ·replace H:=M.ite_t hb H
    have hE:=hE.reb 25 Xx4 true hb rfl
    refine Kf rfl hE rfl rfl rfl (fun a ea=>?_)
    have hE:=Env.put_some hE rfl ea; clear ea
    refine Kf rfl hE rfl rfl rfl (fun a ea=>?_)
    have hE:=Env.put_some hE rfl ea; clear ea
    refine KB rfl rfl hE rfl (Kc hE rfl rfl) (fun a hE=>?_)
    refine KG ?_
    exact hKr _ _ _ (hE.cut (.cons rfl (.cons rfl (.cons rfl (.cons rfl (.cons rfl (.cons rfl (.cons rfl (.cons rfl Subs.nil))))))))) hR H
   ·replace H:=M.ite_f hb H
    have hE:=hE.reb 25 Xx4 false hb rfl
    refine t_on rfl hE rfl rfl rfl ?_
    refine KB (v:=.int .i64 x2) rfl rfl hE rfl (KD hE rfl) (fun a hE=>?_)
    refine t_on rfl hE rfl rfl rfl ?_
    refine KB (v:=.bool (decide (x2 > 36))) rfl rfl hE rfl (KL hE rfl rfl KN YI) (fun a hE=>?_)
    refine KB rfl rfl hE rfl (Kd hE rfl rfl) (fun a hE=>?_)
    refine KG ?_
    exact hKr _ _ _ (hE.cut (.cons rfl (.cons rfl (.cons rfl (.cons rfl (.cons rfl (.cons rfl (.cons rfl (.cons rfl Subs.nil))))))))) hR H
  ·intro Xx5 a w hE hR H
   refine KG ?_
   refine hK_3 _ _ ?_
   refine KS Xx5 hE rfl (fun hb=>?_) (fun hb=>?_)
   ·replace H:=M.ite_t hb H
    exact False.elim H
   ·replace H:=M.ite_f hb H
    refine Ka ?_
    refine hK_2 _ _ ?_
    refine KH (fun K hK_6=>?_)
    refine KC ?_
    obtain ⟨Xx7,qXx7,H⟩:=H
    refine ZR (v:=.pointer (some Xx7)) rfl rfl hE rfl hR (Z4 KJU qXx7) (fun a w hE hR hh=>?_)
    replace H:=M.at hh H; clear hh
    refine KG ?_
    refine hK_6 _ _ ?_
    refine KH (fun K hK_8=>?_)
    refine KC ?_
    refine KB (v:=.int .i64 65) rfl rfl hE rfl (KE hE rfl) (fun a hE=>?_)
    refine KG ?_
    refine hK_8 _ _ ?_
    refine Ku (fun a w=>∃ (Xx9:Int),Env (⟨102,[]⟩:Frm) a [(0,(x0:Sl).v),(2,.int .i64 x2),(3,.bool x3),(4,.bool x4),(10,(Sl.nil:Sl).v),(11,.string ByteArray.empty),(12,.pointer (some Xx7)),(13,.int .i64 65),(1,.int .u64 Xx9)]∧Rest w0 w∧(Z8 x0 x2 x3 x4 Sl.nil ByteArray.empty Xx7 65 Xx9).wp w.heap Q) ?_ ?_
    ·rintro a w ⟨Xx9,hE,hR,H⟩
     unfold Z8 at H
     refine Ku (fun a w=>∃ (Xx18:Int),Env (⟨102,[]⟩:Frm) a [(0,(x0:Sl).v),(3,.bool x3),(4,.bool x4),(10,(Sl.nil:Sl).v),(11,.string ByteArray.empty),(12,.pointer (some Xx7)),(13,.int .i64 Xx18)]∧Rest w0 w∧(Z7 x0 x3 x4 Sl.nil ByteArray.empty Xx7 Xx18).wp w.heap Q) ?_ ?_
     ·rintro a w ⟨Xx18,hE,hR,H⟩
      unfold Z7 at H
      refine Ku (fun a w=>∃ (Xx25:Int),Env (⟨102,[]⟩:Frm) a [(0,(x0:Sl).v),(4,.bool x4),(10,(Sl.nil:Sl).v),(11,.string ByteArray.empty),(12,.pointer (some Xx7)),(13,.int .i64 Xx25)]∧Rest w0 w∧(Z6 x0 x4 Sl.nil ByteArray.empty Xx7 Xx25).wp w.heap Q) ?_ ?_
      ·rintro a w ⟨Xx25,hE,hR,H⟩
       unfold Z6 at H
       refine KH (fun K hK_31=>?_)
       refine KH (fun K hK_32=>?_)
       refine KC ?_
       refine KB (v:=.bool x4) rfl rfl hE rfl (KD hE rfl) (fun a hE=>?_)
       refine KG ?_
       refine hK_32 _ _ ?_
       refine KS x4 hE rfl (fun hb=>?_) (fun hb=>?_)
       ·replace H:=M.ite_t hb H
        refine KH (fun K hK_33=>?_)
        refine KC ?_
        refine KB (v:=(x0:Sl).v) rfl rfl hE rfl (KD hE rfl) (fun a hE=>?_)
        refine KB (v:=.int .i64 Xx25) rfl rfl hE rfl (KD hE rfl) (fun a hE=>?_)
        obtain ⟨Xx34,qXx34,H⟩:=H
        refine KB (v:=(Xx34:Sl).v) rfl rfl hE rfl (KAZ hE rfl rfl KCJ sz5 qXx34) (fun a hE=>?_)
        refine t_ex (fun Xx35=>(Xx35:Sl).v) rfl rfl hR (M.unbind H) (fun Q H=>Xm hE rfl rfl ap35 H) (fun Xx35 a w ea hR H=>?_)
        have hE:=Env.put_some hE rfl ea; clear ea
        refine KB (v:=(Xx35:Sl).v) rfl rfl hE rfl (KE hE rfl) (fun a hE=>?_)
        refine KG ?_
        refine hK_33 _ _ ?_
        refine Kg ?_
        exact hret _ _ _ (Xx35,ByteArray.empty) _ hE hR (KM hE rfl (RV.tmp rfl (RV.tmp rfl RV.nil))) rfl H
       ·replace H:=M.ite_f hb H
        refine Ka ?_
        refine hK_31 _ _ ?_
        refine KH (fun K hK_36=>?_)
        refine KC ?_
        refine KB (v:=.int .i64 Xx25) rfl rfl hE rfl (KD hE rfl) (fun a hE=>?_)
        obtain ⟨Xx37,qXx37,H⟩:=H
        refine KB (v:=(Xx37:Sl).v) rfl rfl hE rfl (KAZ hE rfl rfl KCJ sz5 qXx37) (fun a hE=>?_)
        obtain ⟨Xx38,qXx38,H⟩:=H
        refine KB (v:=.string Xx38) rfl rfl hE rfl (KA4 hE rfl un35 un9 un5 qXx38) (fun a hE=>?_)
        refine KB (v:=.string Xx38) rfl rfl hE rfl (KE hE rfl) (fun a hE=>?_)
        refine KG ?_
        refine hK_36 _ _ ?_
        refine Kg ?_
        exact hret _ _ _ (Sl.nil,Xx38) _ hE hR (KM hE rfl (RV.tmp rfl (RV.tmp rfl RV.nil))) rfl H
      ·skip
       refine KH (fun K hK_39=>?_)
       refine KC ?_
       refine KB (v:=.bool x3) rfl rfl hE rfl (KD hE rfl) (fun a hE=>?_)
       refine KG ?_
       refine hK_39 _ _ ?_
       refine KS x3 hE rfl (fun hb=>?_) (fun hb=>?_)
       ·replace H:=M.ite_t hb H
        refine KH (fun K hK_40=>?_)
        refine KC ?_
        refine KB (v:=.int .i64 Xx18) rfl rfl hE rfl (KD hE rfl) (fun a hE=>?_)
        refine KB (v:=.int .i64 (IntKind.wrap .i64 (Xx18 - 1))) rfl rfl hE rfl (KL hE rfl rfl KN VA) (fun a hE=>?_)
        refine KB (v:=.int .i64 (IntKind.wrap .i64 (Xx18 - 1))) rfl rfl hE rfl (KE hE rfl) (fun a hE=>?_)
        refine KG ?_
        refine hK_40 _ _ ?_
        refine KC ?_
        refine KB (v:=.int .i64 (IntKind.wrap .i64 (Xx18 - 1))) rfl rfl hE rfl (KD hE rfl) (fun a hE=>?_)
        obtain ⟨Xx41,qXx41,H⟩:=H
        refine KB (v:=.pointer (some Xx41)) rfl rfl hE rfl (VD hE rfl rfl KCJ sz5 qXx41) (fun a hE=>?_)
        obtain ⟨u_42,qu_42,H⟩:=H
        refine JI rfl rfl hE hR (JK hE rfl rfl sz5 qu_42) (fun a w hE hR hh=>?_)
        replace H:=M.at hh H; clear hh
        refine KG ?_
        exact ⟨IntKind.wrap .i64 (Xx18 - 1),hE.cut (.cons rfl (.cons rfl (.cons rfl (.cons rfl (.cons rfl (.cons rfl Subs.nil)))))),hR,H⟩
       ·replace H:=M.ite_f hb H
        refine Ka ?_
        exact ⟨Xx18,hE.cut (.cons rfl (.cons rfl (.cons rfl (.cons rfl (.cons rfl (.cons rfl Subs.nil)))))),hR,H⟩
     ·skip
      refine KH (fun K hK_43=>?_)
      refine KC ?_
      refine KB (v:=.int .i64 x2) rfl rfl hE rfl (KD hE rfl) (fun a hE=>?_)
      refine KZ hE hR Ww rfl (YB x2) (M.unbind H) (fun Xx44 a w ea hR H=>?_)
      have hE:=Env.put_some hE rfl ea; clear ea
      refine KG ?_
      refine hK_43 _ _ ?_
      refine KS Xx44 hE rfl (fun hb=>?_) (fun hb=>?_)
      ·replace H:=M.ite_t hb H
       refine KH (fun K hK_45=>?_)
       refine KC ?_
       refine KB (v:=.int .i64 x2) rfl rfl hE rfl (KD hE rfl) (fun a hE=>?_)
       refine KB (v:=.int .u64 (IntKind.wrap .u64 x2)) rfl rfl hE rfl (Ue hE rfl un3 zh) (fun a hE=>?_)
       refine KZ hE hR XM rfl (Xj (IntKind.wrap .u64 x2)) (M.unbind H) (fun Xx46 a w ea hR H=>?_)
       have hE:=Env.put_some hE rfl ea; clear ea
       refine KB (v:=.int .u64 (IntKind.wrap .u64 Xx46)) rfl rfl hE rfl (Ue hE rfl un3 zh) (fun a hE=>?_)
       refine KB (v:=.int .u64 (IntKind.wrap .u64 Xx46)) rfl rfl hE rfl (KE hE rfl) (fun a hE=>?_)
       refine KG ?_
       refine hK_45 _ _ ?_
       refine KH (fun K hK_47=>?_)
       refine KC ?_
       refine KB (v:=.int .i64 x2) rfl rfl hE rfl (KD hE rfl) (fun a hE=>?_)
       refine KB (v:=.int .u64 (IntKind.wrap .u64 x2)) rfl rfl hE rfl (Ue hE rfl un3 KEP) (fun a hE=>?_)
       refine KB (v:=.int .u64 (IntKind.wrap .u64 x2)) rfl rfl hE rfl (KE hE rfl) (fun a hE=>?_)
       refine KG ?_
       refine hK_47 _ _ ?_
       refine KH (fun K hK_48=>?_)
       refine KC ?_
       refine KB (v:=.int .i64 x2) rfl rfl hE rfl (KD hE rfl) (fun a hE=>?_)
       refine KB (v:=.int .u64 (IntKind.wrap .u64 x2)) rfl rfl hE rfl (Ue hE rfl un3 zh) (fun a hE=>?_)
       refine KB (v:=.int .u64 (IntKind.wrap .u64 ((IntKind.wrap .u64 x2) - 1))) rfl rfl hE rfl (KL hE rfl rfl KN VA) (fun a hE=>?_)
       refine KB (v:=.int .u64 (IntKind.wrap .u64 ((IntKind.wrap .u64 x2) - 1))) rfl rfl hE rfl (KE hE rfl) (fun a hE=>?_)
       refine KG ?_
       refine hK_48 _ _ ?_
       refine KH (fun K hK_49=>?_)
       refine Kj ?_
       refine J7 (fun (s:Int × Int)=>(⟨102,[]⟩:Frm)) (fun (s:Int × Int)=>[(0,(x0:Sl).v),(1,.int .u64 s.1),(3,.bool x3),(4,.bool x4),(10,(Sl.nil:Sl).v),(11,.string ByteArray.empty),(12,.pointer (some Xx7)),(13,.int .i64 s.2),(14,.int .u64 (IntKind.wrap .u64 Xx46)),(15,.int .u64 (IntKind.wrap .u64 x2)),(16,.int .u64 (IntKind.wrap .u64 ((IntKind.wrap .u64 x2) - 1)))]) H (hE.cut (.cons rfl (.cons rfl (.cons rfl (.cons rfl (.cons rfl (.cons rfl (.cons rfl (.cons rfl (.cons rfl (.cons rfl (.cons rfl Subs.nil)))))))))))) hR (fun Y self1 hY_61 s a w hE hR H=>?_)
       rcases s with ⟨Xx50,Xx51⟩
       replace hE:Env (⟨102,[]⟩:Frm) a [(0,(x0:Sl).v),(1,.int .u64 Xx50),(3,.bool x3),(4,.bool x4),(10,(Sl.nil:Sl).v),(11,.string ByteArray.empty),(12,.pointer (some Xx7)),(13,.int .i64 Xx51),(14,.int .u64 (IntKind.wrap .u64 Xx46)),(15,.int .u64 (IntKind.wrap .u64 x2)),(16,.int .u64 (IntKind.wrap .u64 ((IntKind.wrap .u64 x2) - 1)))]:=hE
       replace H:(Jb x0 x3 x4 Sl.nil ByteArray.empty Xx7 (IntKind.wrap .u64 Xx46) (IntKind.wrap .u64 x2) (IntKind.wrap .u64 ((IntKind.wrap .u64 x2) - 1)) self1 (Xx50,Xx51)).wp w.heap Q:=H
       unfold Jb at H
       refine KH (fun K hK_62=>?_)
       refine KH (fun K hK_63=>?_)
       refine KC ?_
       refine KB (v:=.int .u64 Xx50) rfl rfl hE rfl (KD hE rfl) (fun a hE=>?_)
       refine KB (v:=.int .u64 (IntKind.wrap .u64 x2)) rfl rfl hE rfl (KD hE rfl) (fun a hE=>?_)
       refine KB (v:=.bool (decide (Xx50 ≥ (IntKind.wrap .u64 x2)))) rfl rfl hE rfl (KL hE rfl rfl KN YJ) (fun a hE=>?_)
       refine KG ?_
       refine hK_63 _ _ ?_
       refine KS (decide (Xx50 ≥ (IntKind.wrap .u64 x2))) hE rfl (fun hb=>?_) (fun hb=>?_)
       ·replace H:=M.ite_t hb H
        refine Ka ?_
        refine hK_62 _ _ ?_
        refine Kj ?_
        refine KH (fun K hK_64=>?_)
        refine KC ?_
        refine KB (v:=.int .i64 Xx51) rfl rfl hE rfl (KD hE rfl) (fun a hE=>?_)
        refine KB (v:=.int .i64 (IntKind.wrap .i64 (Xx51 - 1))) rfl rfl hE rfl (KL hE rfl rfl KN VA) (fun a hE=>?_)
        refine KB (v:=.int .i64 (IntKind.wrap .i64 (Xx51 - 1))) rfl rfl hE rfl (KE hE rfl) (fun a hE=>?_)
        refine KG ?_
        refine hK_64 _ _ ?_
        refine KH (fun K hK_65=>?_)
        refine KC ?_
        refine KB (v:=.int .i64 (IntKind.wrap .i64 (Xx51 - 1))) rfl rfl hE rfl (KD hE rfl) (fun a hE=>?_)
        refine KB (v:=.int .u64 Xx50) rfl rfl hE rfl (KD hE rfl) (fun a hE=>?_)
        refine KB (v:=.int .u64 (IntKind.wrap .u64 ((IntKind.wrap .u64 x2) - 1))) rfl rfl hE rfl (KD hE rfl) (fun a hE=>?_)
        refine KB (v:=.int .u64 (iAnd .u64 Xx50 (IntKind.wrap .u64 ((IntKind.wrap .u64 x2) - 1)))) rfl rfl hE rfl (KL hE rfl rfl KN KFr) (fun a hE=>?_)
        obtain ⟨Xx66,qXx66,H⟩:=H
        refine KB (v:=.int .u8 Xx66) rfl rfl hE rfl (VW hE rfl rfl un9 qXx66) (fun a hE=>?_)
        obtain ⟨Xx67,qXx67,H⟩:=H
        refine KB (v:=.pointer (some Xx67)) rfl rfl hE rfl (VD hE rfl rfl KCJ sz5 qXx67) (fun a hE=>?_)
        obtain ⟨u_68,qu_68,H⟩:=H
        refine JI rfl rfl hE hR (JK hE rfl rfl sz5 qu_68) (fun a w hE hR hh=>?_)
        replace H:=M.at hh H; clear hh
        refine KG ?_
        refine hK_65 _ _ ?_
        refine KC ?_
        refine KB (v:=.int .u64 Xx50) rfl rfl hE rfl (KD hE rfl) (fun a hE=>?_)
        refine KB (v:=.int .u64 (IntKind.wrap .u64 Xx46)) rfl rfl hE rfl (KD hE rfl) (fun a hE=>?_)
        obtain ⟨Xx69,qXx69,H⟩:=H
        refine KB (v:=.int .u64 Xx69) rfl rfl hE rfl (KL hE rfl rfl KN (zX qXx69)) (fun a hE=>?_)
        refine KB (v:=.int .u64 Xx69) rfl rfl hE rfl (KE hE rfl) (fun a hE=>?_)
        refine KG ?_
        exact hY_61 (Xx69,IntKind.wrap .i64 (Xx51 - 1)) _ _ (hE.cut (.cons rfl (.cons rfl (.cons rfl (.cons rfl (.cons rfl (.cons rfl (.cons rfl (.cons rfl (.cons rfl (.cons rfl (.cons rfl Subs.nil)))))))))))) hR H
       ·replace H:=M.ite_f hb H
        refine J6 ?_
        refine Xu.same ?_
        refine hK_49 _ _ ?_
        refine KH (fun K hK_70=>?_)
        refine KC ?_
        refine KB (v:=.int .i64 Xx51) rfl rfl hE rfl (KD hE rfl) (fun a hE=>?_)
        refine KB (v:=.int .i64 (IntKind.wrap .i64 (Xx51 - 1))) rfl rfl hE rfl (KL hE rfl rfl KN VA) (fun a hE=>?_)
        refine KB (v:=.int .i64 (IntKind.wrap .i64 (Xx51 - 1))) rfl rfl hE rfl (KE hE rfl) (fun a hE=>?_)
        refine KG ?_
        refine hK_70 _ _ ?_
        refine KC ?_
        refine KB (v:=.int .i64 (IntKind.wrap .i64 (Xx51 - 1))) rfl rfl hE rfl (KD hE rfl) (fun a hE=>?_)
        refine KB (v:=.int .u64 Xx50) rfl rfl hE rfl (KD hE rfl) (fun a hE=>?_)
        obtain ⟨Xx71,qXx71,H⟩:=H
        refine KB (v:=.int .u8 Xx71) rfl rfl hE rfl (VW hE rfl rfl un9 qXx71) (fun a hE=>?_)
        obtain ⟨Xx72,qXx72,H⟩:=H
        refine KB (v:=.pointer (some Xx72)) rfl rfl hE rfl (VD hE rfl rfl KCJ sz5 qXx72) (fun a hE=>?_)
        obtain ⟨u_73,qu_73,H⟩:=H
        refine JI rfl rfl hE hR (JK hE rfl rfl sz5 qu_73) (fun a w hE hR hh=>?_)
        replace H:=M.at hh H; clear hh
        refine KG ?_
        exact ⟨IntKind.wrap .i64 (Xx51 - 1),hE.cut (.cons rfl (.cons rfl (.cons rfl (.cons rfl (.cons rfl (.cons rfl (.cons rfl Subs.nil))))))),hR,H⟩
      ·replace H:=M.ite_f hb H
       refine KH (fun K hK_74=>?_)
       refine KC ?_
       refine KB (v:=.int .i64 x2) rfl rfl hE rfl (KD hE rfl) (fun a hE=>?_)
       refine KB (v:=.int .u64 (IntKind.wrap .u64 x2)) rfl rfl hE rfl (Ue hE rfl un3 KEP) (fun a hE=>?_)
       refine KB (v:=.int .u64 (IntKind.wrap .u64 x2)) rfl rfl hE rfl (KE hE rfl) (fun a hE=>?_)
       refine KG ?_
       refine hK_74 _ _ ?_
       refine KH (fun K hK_75=>?_)
       refine Kj ?_
       refine J7 (fun (s:Int × Int)=>(⟨102,[]⟩:Frm)) (fun (s:Int × Int)=>[(0,(x0:Sl).v),(1,.int .u64 s.1),(3,.bool x3),(4,.bool x4),(10,(Sl.nil:Sl).v),(11,.string ByteArray.empty),(12,.pointer (some Xx7)),(13,.int .i64 s.2),(17,.int .u64 (IntKind.wrap .u64 x2))]) H (hE.cut (.cons rfl (.cons rfl (.cons rfl (.cons rfl (.cons rfl (.cons rfl (.cons rfl (.cons rfl (.cons rfl Subs.nil)))))))))) hR (fun Y self2 hY_85 s a w hE hR H=>?_)
       rcases s with ⟨Xx76,Xx77⟩
       replace hE:Env (⟨102,[]⟩:Frm) a [(0,(x0:Sl).v),(1,.int .u64 Xx76),(3,.bool x3),(4,.bool x4),(10,(Sl.nil:Sl).v),(11,.string ByteArray.empty),(12,.pointer (some Xx7)),(13,.int .i64 Xx77),(17,.int .u64 (IntKind.wrap .u64 x2))]:=hE
       replace H:(UO x0 x3 x4 Sl.nil ByteArray.empty Xx7 (IntKind.wrap .u64 x2) self2 (Xx76,Xx77)).wp w.heap Q:=H
       unfold UO at H
       refine KH (fun K hK_86=>?_)
       refine KH (fun K hK_87=>?_)
       refine KC ?_
       refine KB (v:=.int .u64 Xx76) rfl rfl hE rfl (KD hE rfl) (fun a hE=>?_)
       refine KB (v:=.int .u64 (IntKind.wrap .u64 x2)) rfl rfl hE rfl (KD hE rfl) (fun a hE=>?_)
       refine KB (v:=.bool (decide (Xx76 ≥ (IntKind.wrap .u64 x2)))) rfl rfl hE rfl (KL hE rfl rfl KN YJ) (fun a hE=>?_)
       refine KG ?_
       refine hK_87 _ _ ?_
       refine KS (decide (Xx76 ≥ (IntKind.wrap .u64 x2))) hE rfl (fun hb=>?_) (fun hb=>?_)
       ·replace H:=M.ite_t hb H
        refine Ka ?_
        refine hK_86 _ _ ?_
        refine Kj ?_
        refine KH (fun K hK_88=>?_)
        refine KC ?_
        refine KB (v:=.int .i64 Xx77) rfl rfl hE rfl (KD hE rfl) (fun a hE=>?_)
        refine KB (v:=.int .i64 (IntKind.wrap .i64 (Xx77 - 1))) rfl rfl hE rfl (KL hE rfl rfl KN VA) (fun a hE=>?_)
        refine KB (v:=.int .i64 (IntKind.wrap .i64 (Xx77 - 1))) rfl rfl hE rfl (KE hE rfl) (fun a hE=>?_)
        refine KG ?_
        refine hK_88 _ _ ?_
        refine KH (fun K hK_89=>?_)
        refine KC ?_
        refine KB (v:=.int .u64 Xx76) rfl rfl hE rfl (KD hE rfl) (fun a hE=>?_)
        refine KB (v:=.int .u64 (IntKind.wrap .u64 x2)) rfl rfl hE rfl (KD hE rfl) (fun a hE=>?_)
        obtain ⟨Xx90,qXx90,H⟩:=H
        refine KB (v:=.int .u64 Xx90) rfl rfl hE rfl (KL hE rfl rfl KN (KIO qXx90)) (fun a hE=>?_)
        refine KB (v:=.int .u64 Xx90) rfl rfl hE rfl (KE hE rfl) (fun a hE=>?_)
        refine KG ?_
        refine hK_89 _ _ ?_
        refine KH (fun K hK_91=>?_)
        refine KC ?_
        refine KB (v:=.int .i64 (IntKind.wrap .i64 (Xx77 - 1))) rfl rfl hE rfl (KD hE rfl) (fun a hE=>?_)
        refine KB (v:=.int .u64 Xx76) rfl rfl hE rfl (KD hE rfl) (fun a hE=>?_)
        refine KB (v:=.int .u64 Xx90) rfl rfl hE rfl (KD hE rfl) (fun a hE=>?_)
        refine KB (v:=.int .u64 (IntKind.wrap .u64 x2)) rfl rfl hE rfl (KD hE rfl) (fun a hE=>?_)
        refine KB (v:=.int .u64 (IntKind.wrap .u64 (Xx90 * (IntKind.wrap .u64 x2)))) rfl rfl hE rfl (KL hE rfl rfl KN KAB) (fun a hE=>?_)
        refine KB (v:=.int .u64 (IntKind.wrap .u64 (Xx76 - (IntKind.wrap .u64 (Xx90 * (IntKind.wrap .u64 x2)))))) rfl rfl hE rfl (KL hE rfl rfl KN VA) (fun a hE=>?_)
        obtain ⟨Xx92,qXx92,H⟩:=H
        refine KB (v:=.int .u8 Xx92) rfl rfl hE rfl (VW hE rfl rfl un9 qXx92) (fun a hE=>?_)
        obtain ⟨Xx93,qXx93,H⟩:=H
        refine KB (v:=.pointer (some Xx93)) rfl rfl hE rfl (VD hE rfl rfl KCJ sz5 qXx93) (fun a hE=>?_)
        obtain ⟨u_94,qu_94,H⟩:=H
        refine JI rfl rfl hE hR (JK hE rfl rfl sz5 qu_94) (fun a w hE hR hh=>?_)
        replace H:=M.at hh H; clear hh
        refine KG ?_
        refine hK_91 _ _ ?_
        refine KC ?_
        refine KB (v:=.int .u64 Xx90) rfl rfl hE rfl (KD hE rfl) (fun a hE=>?_)
        refine KB (v:=.int .u64 Xx90) rfl rfl hE rfl (KE hE rfl) (fun a hE=>?_)
        refine KG ?_
        exact hY_85 (Xx90,IntKind.wrap .i64 (Xx77 - 1)) _ _ (hE.cut (.cons rfl (.cons rfl (.cons rfl (.cons rfl (.cons rfl (.cons rfl (.cons rfl (.cons rfl (.cons rfl Subs.nil)))))))))) hR H
       ·replace H:=M.ite_f hb H
        refine J6 ?_
        refine Xu.same ?_
        refine hK_75 _ _ ?_
        refine KH (fun K hK_95=>?_)
        refine KC ?_
        refine KB (v:=.int .i64 Xx77) rfl rfl hE rfl (KD hE rfl) (fun a hE=>?_)
        refine KB (v:=.int .i64 (IntKind.wrap .i64 (Xx77 - 1))) rfl rfl hE rfl (KL hE rfl rfl KN VA) (fun a hE=>?_)
        refine KB (v:=.int .i64 (IntKind.wrap .i64 (Xx77 - 1))) rfl rfl hE rfl (KE hE rfl) (fun a hE=>?_)
        refine KG ?_
        refine hK_95 _ _ ?_
        refine KC ?_
        refine KB (v:=.int .i64 (IntKind.wrap .i64 (Xx77 - 1))) rfl rfl hE rfl (KD hE rfl) (fun a hE=>?_)
        refine KB (v:=.int .u64 Xx76) rfl rfl hE rfl (KD hE rfl) (fun a hE=>?_)
        obtain ⟨Xx96,qXx96,H⟩:=H
        refine KB (v:=.int .u8 Xx96) rfl rfl hE rfl (VW hE rfl rfl un9 qXx96) (fun a hE=>?_)
        obtain ⟨Xx97,qXx97,H⟩:=H
        refine KB (v:=.pointer (some Xx97)) rfl rfl hE rfl (VD hE rfl rfl KCJ sz5 qXx97) (fun a hE=>?_)
        obtain ⟨u_98,qu_98,H⟩:=H
        refine JI rfl rfl hE hR (JK hE rfl rfl sz5 qu_98) (fun a w hE hR hh=>?_)
        replace H:=M.at hh H; clear hh
        refine KG ?_
        exact ⟨IntKind.wrap .i64 (Xx77 - 1),hE.cut (.cons rfl (.cons rfl (.cons rfl (.cons rfl (.cons rfl (.cons rfl (.cons rfl Subs.nil))))))),hR,H⟩
    ·skip
     refine KH (fun K hK_99=>?_)
     refine KC ?_
     refine KB (v:=.bool x3) rfl rfl hE rfl (KD hE rfl) (fun a hE=>?_)
     refine KG ?_
     refine hK_99 _ _ ?_
     refine KS x3 hE rfl (fun hb=>?_) (fun hb=>?_)
     ·replace H:=M.ite_t hb H
      refine KC ?_
      refine KB (v:=.int .u64 x1) rfl rfl hE rfl (KD hE rfl) (fun a hE=>?_)
      refine KB (v:=.int .u64 (IntKind.wrap .u64 (0 - x1))) rfl rfl hE rfl (r_un hE rfl KHG) (fun a hE=>?_)
      refine KB (v:=.int .u64 (IntKind.wrap .u64 (0 - x1))) rfl rfl hE rfl (KE hE rfl) (fun a hE=>?_)
      refine KG ?_
      exact ⟨IntKind.wrap .u64 (0 - x1),hE.cut (.cons rfl (.cons rfl (.cons rfl (.cons rfl (.cons rfl (.cons rfl (.cons rfl (.cons rfl (.cons rfl Subs.nil))))))))),hR,H⟩
     ·replace H:=M.ite_f hb H
      refine Ka ?_
      exact ⟨x1,hE.cut (.cons rfl (.cons rfl (.cons rfl (.cons rfl (.cons rfl (.cons rfl (.cons rfl (.cons rfl (.cons rfl Subs.nil))))))))),hR,H⟩
end Gx
