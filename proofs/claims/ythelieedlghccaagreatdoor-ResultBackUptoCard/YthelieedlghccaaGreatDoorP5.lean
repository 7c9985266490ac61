/- Printed by program: Go functions as Lean programs, each tied to its code. No condition. -/
import Derived.Test.YthelieedlghccaaGreatDoorP0
import Derived.Test.YthelieedlghccaaGreatDoorP1
import Derived.Test.YthelieedlghccaaGreatDoorP2
import Derived.Test.YthelieedlghccaaGreatDoorP3
import Derived.Test.YthelieedlghccaaGreatDoorP4
import Derived.Shelf.SlSortCmp.WholeK
import Derived.KernelRfl
set_option linter.unusedVariables false
set_option linter.unusedSimpArgs false
namespace Gx
open Go
set_option linter.unusedVariables false
set_option maxRecDepth 100000
def JL (self1:(Sl)→M (Value ⊕ (ByteArray))) (C24:Sl) (Xx22:Int):M (Value ⊕ (ByteArray)):=do
 let Xx25←bdL K9 1 #[.int .u8 Xx22]
 let Xx26←apL K9 1 1 (#[.int .u8 0]:Array Value) C24 Xx25
 self1 Xx26
def Ju (self1:(Sl)→M (Value ⊕ (ByteArray))) (C14:Option Addr) (C15:Sl) (C16:Int):M (Value ⊕ (ByteArray)):=do
 let Xx18←nilP C14
 let Xx19←ldI .i64 ((Xx18).add 1)
 let Xx20←nilP C14
 stV ((Xx20).add 1) (.int .i64 (IntKind.wrap .i64 (Xx19+1)))
 M.ite (C16 == 92) (do
  thr (Ji C14) fun Xx28=>do
   JL self1 C15 Xx28
  ) (do
  JL self1 C15 C16
  )
def Ug (C7:Option Addr) (self1:(Sl)→M (Value ⊕ (ByteArray))):(Sl)→M (Value ⊕ (ByteArray)):=fun s=>match s with
 | Xx6=>do
  let Xx11←Kh C7
  M.ite (Xx11 != 39) (do
   let Xx13←Kh C7
   let Xx30←M.ite (decide (Xx13 < 32)) (do
    M.pure true
    ) (do
    M.pure (decide (Xx13 > 126))
    )
   M.ite Xx30 (do
    thr (Kp C7) fun Xx31=>do
     Ju self1 C7 Xx6 Xx13
    ) (do
    Ju self1 C7 Xx6 Xx13
    )
   ) (do
   let Xx33←nilP C7
   let Xx34←ldI .i64 ((Xx33).add 1)
   let Xx35←nilP C7
   stV ((Xx35).add 1) (.int .i64 (IntKind.wrap .i64 (Xx34+1)))
   let Xx38←b2s Xx6
   M.pure (.inr Xx38)
   )
def Ul (x0:Option Addr):M (Value ⊕ (ByteArray)):=do
 thr (ZB x0 (⟨#[39]⟩:ByteArray)) fun Xx5=>do
  M.loop (Ug x0) Sl.nil
theorem KAO (x0:Option Addr):GJ Go.Proofs.Tryz.prog 173 #[.pointer x0] (fun (r:ByteArray)=>.string r) (Ul x0):=by
 refine YF [(0,.pointer x0)] Go.Proofs.Tryz.func173 rfl rfl (Nat.le_of_ble_eq_true rfl) (Vz ⟨rfl,trivial⟩) (fun w0 w Q R X a hret hthr hE hR H=>?_)
 unfold Ul at H
 refine KW (fun K hK_1=>?_)
 refine KD ?_
 refine KE (v:=.string ByteArray.empty) rfl rfl hE rfl (KZ hE rfl) (fun a hE=>?_)
 refine KU ?_
 refine hK_1 _ _ ?_
 refine KW (fun K hK_2=>?_)
 refine KD ?_
 refine KE (v:=(Sl.nil:Sl).v) rfl rfl hE rfl (KZ hE rfl) (fun a hE=>?_)
 refine KU ?_
 refine hK_2 _ _ ?_
 refine KW (fun K hK_3=>?_)
 refine KW (fun K hK_4=>?_)
 refine KD ?_
 refine KE (v:=.pointer x0) rfl rfl hE rfl (KH hE rfl) (fun a hE=>?_)
 refine JH hE hR ZS rfl (ZZ x0 (⟨#[39]⟩:ByteArray)) H (fun _ _ hR HQ=>hthr _ _ hR HQ) (fun Xx5 a w ea hR H=>?_)
 have hE:=Env.put_some hE rfl ea; clear ea
 refine KU ?_
 refine hK_4 _ _ ?_
 refine Ut ?_
 refine KBz (fun (s:Sl)=>(⟨44,[]⟩:Frm)) (fun (s:Sl)=>[(0,.pointer x0),(3,(s:Sl).v)]) H (hE.cut (.cons rfl (.cons rfl Subs.nil))) hR (fun Y self1 hY_8 Xx6 a w hE hR H=>?_)
 replace hE:Env (⟨44,[]⟩:Frm) a [(0,.pointer x0),(3,(Xx6:Sl).v)]:=hE
 replace H:(Ug x0 self1 Xx6).wp w.heap Q:=H
 unfold Ug at H
 refine KW (fun K hK_9=>?_)
 refine KW (fun K hK_10=>?_)
 refine KD ?_
 refine KE (v:=.pointer x0) rfl rfl hE rfl (KH hE rfl) (fun a hE=>?_)
 refine J9 hE hR Ki rfl (Ku x0) (M.unbind H) (fun Xx11 a w ea hR H=>?_)
 have hE:=Env.put_some hE rfl ea; clear ea
 refine KE (v:=.bool (Xx11 != 39)) rfl rfl hE rfl (ZL hE rfl rfl ZF KCv) (fun a hE=>?_)
 refine KU ?_
 refine hK_10 _ _ ?_
 refine JE (Xx11 != 39) hE rfl (fun hb=>?_) (fun hb=>?_)
 ·replace H:=M.ite_t hb H
  refine J7 ?_
  refine hK_9 _ _ ?_
  refine Ut ?_
  refine KW (fun K hK_12=>?_)
  refine KD ?_
  refine KE (v:=.pointer x0) rfl rfl hE rfl (KH hE rfl) (fun a hE=>?_)
  refine J9 hE hR Ki rfl (Ku x0) (M.unbind H) (fun Xx13 a w ea hR H=>?_)
  have hE:=Env.put_some hE rfl ea; clear ea
  refine KE (v:=.int .u8 Xx13) rfl rfl hE rfl (KZ hE rfl) (fun a hE=>?_)
  refine KU ?_
  refine hK_12 _ _ ?_
  refine JW (fun a w=>Env (⟨44,[]⟩:Frm) a [(0,.pointer x0),(3,(Xx6:Sl).v),(4,.int .u8 Xx13)]∧Rest w0 w∧(Ju self1 x0 Xx6 Xx13).wp w.heap Q) ?_ ?_
  ·rintro a w ⟨hE,hR,H⟩
   unfold Ju at H
   refine KW (fun K hK_17=>?_)
   refine KD ?_
   refine KE (v:=.pointer x0) rfl rfl hE rfl (KH hE rfl) (fun a hE=>?_)
   obtain ⟨Xx18,qXx18,H⟩:=H
   refine KE (v:=.pointer (some Xx18)) rfl rfl hE rfl (KO hE (Ja rfl (congrArg Value.pointer qXx18))) (fun a hE=>?_)
   refine KE (v:=.pointer (some ((Xx18).add 1))) rfl rfl hE rfl (KL hE rfl ZU) (fun a hE=>?_)
   obtain ⟨Xx19,qXx19,H⟩:=H
   refine KE (v:=.int .i64 Xx19) rfl rfl hE rfl (ZR hE rfl sc3 qXx19) (fun a hE=>?_)
   refine KE (v:=.int .i64 (IntKind.wrap .i64 (Xx19+1))) rfl rfl hE rfl (ZL hE rfl rfl ZF NE) (fun a hE=>?_)
   obtain ⟨Xx20,qXx20,H⟩:=H
   refine KE (v:=.pointer (some Xx20)) rfl rfl hE rfl (KO hE (Ja rfl (congrArg Value.pointer qXx20))) (fun a hE=>?_)
   refine KE (v:=.pointer (some ((Xx20).add 1))) rfl rfl hE rfl (KL hE rfl ZU) (fun a hE=>?_)
   obtain ⟨u_21,qu_21,H⟩:=H
   refine UF rfl rfl hE hR (ZT hE rfl rfl sz3 qu_21) (fun a w hE hR hh=>?_)
   replace H:=M.at hh H; clear hh
   refine KU ?_
   refine hK_17 _ _ ?_
   refine JW (fun a w=>∃ (Xx22:Int),Env (⟨44,[]⟩:Frm) a [(0,.pointer x0),(3,(Xx6:Sl).v),(4,.int .u8 Xx22)]∧Rest w0 w∧(JL self1 Xx6 Xx22).wp w.heap Q) ?_ ?_
   ·rintro a w ⟨Xx22,hE,hR,H⟩
    unfold JL at H
    refine KD ?_
    refine KE (v:=(Xx6:Sl).v) rfl rfl hE rfl (KH hE rfl) (fun a hE=>?_)
    refine KE (v:=.int .u8 Xx22) rfl rfl hE rfl (KH hE rfl) (fun a hE=>?_)
    obtain ⟨Xx25,qXx25,H⟩:=H
    refine Wi (v:=(Xx25:Sl).v) rfl rfl hE rfl hR (Gf (cells:=#[.int .u8 Xx22]) hE rfl un35 sz5 zr5 rfl rfl qXx25) (fun a w hE hR hh=>?_)
    replace H:=M.at hh H; clear hh
    refine t_ex (fun Xx26=>(Xx26:Sl).v) rfl rfl hR (M.unbind H) (fun Q H=>KDZ hE rfl rfl ap35 H) (fun Xx26 a w ea hR H=>?_)
    have hE:=Env.put_some hE rfl ea; clear ea
    refine KE (v:=(Xx26:Sl).v) rfl rfl hE rfl (KZ hE rfl) (fun a hE=>?_)
    refine KU ?_
    exact hY_8 Xx26 _ _ (hE.cut (.cons rfl (.cons rfl Subs.nil))) hR H
   ·skip
    refine KW (fun K hK_27=>?_)
    refine KD ?_
    refine KE (v:=.int .u8 Xx13) rfl rfl hE rfl (KH hE rfl) (fun a hE=>?_)
    refine KE (v:=.bool (Xx13 == 92)) rfl rfl hE rfl (ZL hE rfl rfl ZF Gd) (fun a hE=>?_)
    refine KU ?_
    refine hK_27 _ _ ?_
    refine JE (Xx13 == 92) hE rfl (fun hb=>?_) (fun hb=>?_)
    ·replace H:=M.ite_t hb H
     refine KD ?_
     refine KE (v:=.pointer x0) rfl rfl hE rfl (KH hE rfl) (fun a hE=>?_)
     refine JH hE hR Gp rfl (NP x0) H (fun _ _ hR HQ=>Xu.ne rfl (Xu.ne rfl (hthr _ _ hR HQ))) (fun Xx28 a w ea hR H=>?_)
     have hE:=Env.put_some hE rfl ea; clear ea
     refine KE (v:=.int .u8 Xx28) rfl rfl hE rfl (KZ hE rfl) (fun a hE=>?_)
     refine KU ?_
     exact ⟨Xx28,hE.cut (.cons rfl (.cons rfl (.cons rfl Subs.nil))),hR,H⟩
    ·replace H:=M.ite_f hb H
     refine J7 ?_
     exact ⟨Xx13,hE.cut (.cons rfl (.cons rfl (.cons rfl Subs.nil))),hR,H⟩
  ·skip
   refine KW (fun K hK_29=>?_)
   refine KD ?_
   refine KE (v:=.int .u8 Xx13) rfl rfl hE rfl (KH hE rfl) (fun a hE=>?_)
   refine KE (v:=.bool (decide (Xx13 < 32))) rfl rfl hE rfl (ZL hE rfl rfl ZF zP) (fun a hE=>?_)
   refine KE (v:=.bool (decide (Xx13 < 32))) rfl rfl hE rfl (KH hE rfl) (fun a hE=>?_)
   refine KE5 (n:=(⟨44,[]⟩:Frm)) (w0:=w0) 3 (fun Xx30:Bool=>[(0,.pointer x0),(3,(Xx6:Sl).v),(4,.int .u8 Xx13),(17,.bool Xx30)]) (M.unbind H) (fun Kr hKr H=>?_) ?_
   ·rcases VT (decide (Xx13 < 32)) with hb | hb
    ·replace H:=M.ite_t hb H
     have hE:=hE.reb 14 (decide (Xx13 < 32)) true hb rfl
     refine NF rfl hE rfl rfl rfl (fun a ea=>?_)
     have hE:=Env.put_some hE rfl ea; clear ea
     refine NF rfl hE rfl rfl rfl (fun a ea=>?_)
     have hE:=Env.put_some hE rfl ea; clear ea
     refine KE rfl rfl hE rfl (J8 hE rfl rfl) (fun a hE=>?_)
     refine KU ?_
     exact hKr _ _ _ (hE.cut (.cons rfl (.cons rfl (.cons rfl (.cons rfl Subs.nil))))) hR H
    ·replace H:=M.ite_f hb H
     have hE:=hE.reb 14 (decide (Xx13 < 32)) false hb rfl
     refine t_on rfl hE rfl rfl rfl ?_
     refine KE (v:=.int .u8 Xx13) rfl rfl hE rfl (KH hE rfl) (fun a hE=>?_)
     refine t_on rfl hE rfl rfl rfl ?_
     refine KE (v:=.bool (decide (Xx13 > 126))) rfl rfl hE rfl (ZL hE rfl rfl ZF KF8) (fun a hE=>?_)
     refine KE rfl rfl hE rfl (JP hE rfl rfl) (fun a hE=>?_)
     refine KU ?_
     exact hKr _ _ _ (hE.cut (.cons rfl (.cons rfl (.cons rfl (.cons rfl Subs.nil))))) hR H
   ·intro Xx30 a w hE hR H
    refine KU ?_
    refine hK_29 _ _ ?_
    refine JE Xx30 hE rfl (fun hb=>?_) (fun hb=>?_)
    ·replace H:=M.ite_t hb H
     refine KD ?_
     refine KE (v:=.pointer x0) rfl rfl hE rfl (KH hE rfl) (fun a hE=>?_)
     refine JH hE hR Kz rfl (ZC x0) H (fun _ _ hR HQ=>Xu.ne rfl (Xu.ne rfl (hthr _ _ hR HQ))) (fun Xx31 a w ea hR H=>?_)
     have hE:=Env.put_some hE rfl ea; clear ea
     refine KU ?_
     exact ⟨hE.cut (.cons rfl (.cons rfl (.cons rfl Subs.nil))),hR,H⟩
    ·replace H:=M.ite_f hb H
     refine J7 ?_
     exact ⟨hE.cut (.cons rfl (.cons rfl (.cons rfl Subs.nil))),hR,H⟩
 ·replace H:=M.ite_f hb H
  refine KBt ?_
  refine Xu.same ?_
  refine hK_3 _ _ ?_
  refine KW (fun K hK_32=>?_)
  refine KD ?_
  refine KE (v:=.pointer x0) rfl rfl hE rfl (KH hE rfl) (fun a hE=>?_)
  obtain ⟨Xx33,qXx33,H⟩:=H
  refine KE (v:=.pointer (some Xx33)) rfl rfl hE rfl (KO hE (Ja rfl (congrArg Value.pointer qXx33))) (fun a hE=>?_)
  refine KE (v:=.pointer (some ((Xx33).add 1))) rfl rfl hE rfl (KL hE rfl ZU) (fun a hE=>?_)
  obtain ⟨Xx34,qXx34,H⟩:=H
  refine KE (v:=.int .i64 Xx34) rfl rfl hE rfl (ZR hE rfl sc3 qXx34) (fun a hE=>?_)
  refine KE (v:=.int .i64 (IntKind.wrap .i64 (Xx34+1))) rfl rfl hE rfl (ZL hE rfl rfl ZF NE) (fun a hE=>?_)
  obtain ⟨Xx35,qXx35,H⟩:=H
  refine KE (v:=.pointer (some Xx35)) rfl rfl hE rfl (KO hE (Ja rfl (congrArg Value.pointer qXx35))) (fun a hE=>?_)
  refine KE (v:=.pointer (some ((Xx35).add 1))) rfl rfl hE rfl (KL hE rfl ZU) (fun a hE=>?_)
  obtain ⟨u_36,qu_36,H⟩:=H
  refine UF rfl rfl hE hR (ZT hE rfl rfl sz3 qu_36) (fun a w hE hR hh=>?_)
  replace H:=M.at hh H; clear hh
  refine KU ?_
  refine hK_32 _ _ ?_
  refine KW (fun K hK_37=>?_)
  refine KD ?_
  refine KE (v:=(Xx6:Sl).v) rfl rfl hE rfl (KH hE rfl) (fun a hE=>?_)
  obtain ⟨Xx38,qXx38,H⟩:=H
  refine KE (v:=.string Xx38) rfl rfl hE rfl (KIt hE rfl un35 un9 un5 qXx38) (fun a hE=>?_)
  refine KE (v:=.string Xx38) rfl rfl hE rfl (KZ hE rfl) (fun a hE=>?_)
  refine KU ?_
  refine hK_37 _ _ ?_
  refine WZ ?_
  exact hret _ _ _ Xx38 _ hE hR (Z2 hE rfl (RV.tmp rfl RV.nil)) rfl H
def Z7 (x0:Option Addr) (x1:Int):M (Value ⊕ (Array Value)):=do
 let Xx2←mkB KB (#[.int .i64 0,.int .i64 0,.string ByteArray.empty,.slice none 0 0]:Array Value)
 let Xx4←nilP x0
 let Xx5←ldI .i64 ((Xx4).add 1)
 let Xx6←nilP x0
 stV ((Xx6).add 1) (.int .i64 (IntKind.wrap .i64 (Xx5+1)))
 thr (ZB x0 (⟨#[91]⟩:ByteArray)) fun Xx9=>do
  thr (JK x0) fun Xx11=>do
   let Xx12←mkB KB (#[.int .i64 0,.int .i64 0,.string ByteArray.empty,.slice none 0 0]:Array Value)
   M.need ((#[.int .i64 x1,.int .i64 Xx11,.string ByteArray.empty,.slice none 0 0]:Array Value).size=4)
   stG Xx12 (#[.int .i64 x1,.int .i64 Xx11,.string ByteArray.empty,.slice none 0 0]:Array Value)
   thr (ZB x0 (⟨#[93]⟩:ByteArray)) fun Xx15=>do
    let Xx17←ldG 4 Xx12
    M.need (Xx17.size=4)
    stG Xx2 Xx17
    let Rr19←ldG 4 Xx2
    M.pure (.inr Rr19)
theorem Wl (x0:Option Addr) (x1:Int):GJ Go.Proofs.Tryz.prog 175 #[.pointer x0,.int .i64 x1] (fun (r:Array Value)=>.agg r) (Z7 x0 x1):=by
 refine YF [(0,.pointer x0),(1,.int .i64 x1)] Go.Proofs.Tryz.func175 rfl rfl (Nat.le_of_ble_eq_true rfl) (Vz ⟨rfl,rfl,trivial⟩) (fun w0 w Q R X a hret hthr hE hR H=>?_)
 unfold Z7 at H
 refine KW (fun K hK_1=>?_)
 refine KD ?_
 obtain ⟨Xx2,qXx2,H⟩:=H
 refine Wi (v:=.pointer (some Xx2)) rfl rfl hE rfl hR (Uv zr24 qXx2) (fun a w hE hR hh=>?_)
 replace H:=M.at hh H; clear hh
 refine KU ?_
 refine hK_1 _ _ ?_
 refine KW (fun K hK_3=>?_)
 refine KD ?_
 refine KE (v:=.pointer x0) rfl rfl hE rfl (KH hE rfl) (fun a hE=>?_)
 obtain ⟨Xx4,qXx4,H⟩:=H
 refine KE (v:=.pointer (some Xx4)) rfl rfl hE rfl (KO hE (Ja rfl (congrArg Value.pointer qXx4))) (fun a hE=>?_)
 refine KE (v:=.pointer (some ((Xx4).add 1))) rfl rfl hE rfl (KL hE rfl ZU) (fun a hE=>?_)
 obtain ⟨Xx5,qXx5,H⟩:=H
 refine KE (v:=.int .i64 Xx5) rfl rfl hE rfl (ZR hE rfl sc3 qXx5) (fun a hE=>?_)
 refine KE (v:=.int .i64 (IntKind.wrap .i64 (Xx5+1))) rfl rfl hE rfl (ZL hE rfl rfl ZF NE) (fun a hE=>?_)
 obtain ⟨Xx6,qXx6,H⟩:=H
 refine KE (v:=.pointer (some Xx6)) rfl rfl hE rfl (KO hE (Ja rfl (congrArg Value.pointer qXx6))) (fun a hE=>?_)
 refine KE (v:=.pointer (some ((Xx6).add 1))) rfl rfl hE rfl (KL hE rfl ZU) (fun a hE=>?_)
 obtain ⟨u_7,qu_7,H⟩:=H
 refine UF rfl rfl hE hR (ZT hE rfl rfl sz3 qu_7) (fun a w hE hR hh=>?_)
 replace H:=M.at hh H; clear hh
 refine KU ?_
 refine hK_3 _ _ ?_
 refine KW (fun K hK_8=>?_)
 refine KD ?_
 refine KE (v:=.pointer x0) rfl rfl hE rfl (KH hE rfl) (fun a hE=>?_)
 refine JH hE hR ZS rfl (ZZ x0 (⟨#[91]⟩:ByteArray)) H (fun _ _ hR HQ=>hthr _ _ hR HQ) (fun Xx9 a w ea hR H=>?_)
 have hE:=Env.put_some hE rfl ea; clear ea
 refine KU ?_
 refine hK_8 _ _ ?_
 refine KW (fun K hK_10=>?_)
 refine KD ?_
 refine KE (v:=.int .i64 x1) rfl rfl hE rfl (KH hE rfl) (fun a hE=>?_)
 refine KE (v:=.pointer x0) rfl rfl hE rfl (KH hE rfl) (fun a hE=>?_)
 refine JH hE hR Wk rfl (YV x0) H (fun _ _ hR HQ=>hthr _ _ hR HQ) (fun Xx11 a w ea hR H=>?_)
 have hE:=Env.put_some hE rfl ea; clear ea
 refine KE (v:=.agg (#[.int .i64 x1,.int .i64 Xx11,.string ByteArray.empty,.slice none 0 0]:Array Value)) rfl rfl hE rfl (NW hE rfl zr24 pl24 (by rfl)) (fun a hE=>?_)
 obtain ⟨Xx12,qXx12,H⟩:=H
 refine Wi (v:=.pointer (some Xx12)) rfl rfl hE rfl hR (Uv zr24 qXx12) (fun a w hE hR hh=>?_)
 replace H:=M.at hh H; clear hh
 obtain ⟨qz,H⟩:=H
 obtain ⟨u_13,qu_13,H⟩:=H
 refine UF rfl rfl hE hR (Z1 hE rfl rfl sz24 qz qu_13) (fun a w hE hR hh=>?_)
 replace H:=M.at hh H; clear hh
 refine KU ?_
 refine hK_10 _ _ ?_
 refine KW (fun K hK_14=>?_)
 refine KD ?_
 refine KE (v:=.pointer x0) rfl rfl hE rfl (KH hE rfl) (fun a hE=>?_)
 refine JH hE hR ZS rfl (ZZ x0 (⟨#[93]⟩:ByteArray)) H (fun _ _ hR HQ=>hthr _ _ hR HQ) (fun Xx15 a w ea hR H=>?_)
 have hE:=Env.put_some hE rfl ea; clear ea
 refine KU ?_
 refine hK_14 _ _ ?_
 refine KW (fun K hK_16=>?_)
 refine KD ?_
 obtain ⟨Xx17,qXx17,H⟩:=H
 refine KE (v:=.agg Xx17) rfl rfl hE rfl (qZ hE rfl ag24 qXx17) (fun a hE=>?_)
 obtain ⟨qz,H⟩:=H
 obtain ⟨u_18,qu_18,H⟩:=H
 refine UF rfl rfl hE hR (Z1 hE rfl rfl sz24 qz qu_18) (fun a w hE hR hh=>?_)
 replace H:=M.at hh H; clear hh
 refine KU ?_
 refine hK_16 _ _ ?_
 refine WZ ?_
 obtain ⟨Rr19,qRr19,H⟩:=H
 exact hret _ _ _ Rr19 _ hE hR (Z2 hE rfl (RV.cellG rfl ag24 qRr19 RV.nil)) rfl H
def JU (C3:Option Addr) (C4:Int) (C5:Addr):M (Value ⊕ (Array Value)):=do
 let Xx7←Kh C3
 let Xx10←M.ite (Xx7 == 45) (do
  M.pure true
  ) (do
  let Xx11←Wy Xx7
  M.pure Xx11
  )
 M.ite Xx10 (do
  thr (JK C3) fun Xx13=>do
   let Xx14←KCK Xx13
   M.need (Xx14.size=4)
   stG C5 Xx14
   let Rr16←ldG 4 C5
   M.pure (.inr Rr16)
  ) (do
  M.ite (Xx7 == 39) (do
   thr (Ul C3) fun Xx19=>do
    let Xx20←KCL Xx19
    M.need (Xx20.size=4)
    stG C5 Xx20
    let Rr22←ldG 4 C5
    M.pure (.inr Rr22)
   ) (do
   M.ite (Xx7 == 116) (do
    thr (ZB C3 (⟨#[116,114,117,101]⟩:ByteArray)) fun Xx25=>do
     let Xx27←GT true
     M.need (Xx27.size=4)
     stG C5 Xx27
     let Rr29←ldG 4 C5
     M.pure (.inr Rr29)
    ) (do
    M.ite (Xx7 == 102) (do
     thr (ZB C3 (⟨#[102,97,108,115,101]⟩:ByteArray)) fun Xx32=>do
      let Xx34←GT false
      M.need (Xx34.size=4)
      stG C5 Xx34
      let Rr36←ldG 4 C5
      M.pure (.inr Rr36)
     ) (do
     M.ite (Xx7 == 118) (do
      thr (Z7 C3 6) fun Xx39=>do
       M.need (Xx39.size=4)
       stG C5 Xx39
       let Rr41←ldG 4 C5
       M.pure (.inr Rr41)
      ) (do
      M.ite (Xx7 == 101) (do
       thr (Z7 C3 7) fun Xx44=>do
        M.need (Xx44.size=4)
        stG C5 Xx44
        let Rr46←ldG 4 C5
        M.pure (.inr Rr46)
       ) (do
       M.ite (Xx7 == 91) (do
        thr (KBu Go.Proofs.Tryz.prog Yq #[.pointer C3,.int .i64 C4,.int .u8 93,.int .i64 1] (fun r:Sl=>(r:Sl).v)) fun Xx49=>do
         M.need ((#[.int .i64 4,.int .i64 0,.string ByteArray.empty,(Xx49:Sl).v]:Array Value).size=4)
         stG C5 (#[.int .i64 4,.int .i64 0,.string ByteArray.empty,(Xx49:Sl).v]:Array Value)
         let Rr51←ldG 4 C5
         M.pure (.inr Rr51)
        ) (do
        M.ite (Xx7 == 123) (do
         thr (KBu Go.Proofs.Tryz.prog Yq #[.pointer C3,.int .i64 C4,.int .u8 125,.int .i64 2] (fun r:Sl=>(r:Sl).v)) fun Xx54=>do
          M.need ((#[.int .i64 5,.int .i64 0,.string ByteArray.empty,(Xx54:Sl).v]:Array Value).size=4)
          stG C5 (#[.int .i64 5,.int .i64 0,.string ByteArray.empty,(Xx54:Sl).v]:Array Value)
          let Rr56←ldG 4 C5
          M.pure (.inr Rr56)
         ) (do
         thr (Kp C3) fun Xx58=>do
          M.need ((#[.int .i64 0,.int .i64 0,.string ByteArray.empty,.slice none 0 0]:Array Value).size=4)
          stG C5 (#[.int .i64 0,.int .i64 0,.string ByteArray.empty,.slice none 0 0]:Array Value)
          let Rr61←ldG 4 C5
          M.pure (.inr Rr61)
         )
        )
       )
      )
     )
    )
   )
  )
def JZ (x0:Option Addr) (x1:Int):M (Value ⊕ (Array Value)):=do
 let Xx2←mkB KB (#[.int .i64 0,.int .i64 0,.string ByteArray.empty,.slice none 0 0]:Array Value)
 M.ite (decide (x1 > 8)) (do
  thr (Kp x0) fun Xx63=>do
   JU x0 x1 Xx2
  ) (do
  JU x0 x1 Xx2
  )
theorem Yt (x0:Option Addr) (x1:Int):GJ Go.Proofs.Tryz.prog 131 #[.pointer x0,.int .i64 x1] (fun (r:Array Value)=>.agg r) (JZ x0 x1):=by
 refine YF [(0,.pointer x0),(1,.int .i64 x1)] Go.Proofs.Tryz.func131 rfl rfl (Nat.le_of_ble_eq_true rfl) (Vz ⟨rfl,rfl,trivial⟩) (fun w0 w Q R X a hret hthr hE hR H=>?_)
 unfold JZ at H
 refine KW (fun K hK_1=>?_)
 refine KD ?_
 obtain ⟨Xx2,qXx2,H⟩:=H
 refine Wi (v:=.pointer (some Xx2)) rfl rfl hE rfl hR (Uv zr24 qXx2) (fun a w hE hR hh=>?_)
 replace H:=M.at hh H; clear hh
 refine KU ?_
 refine hK_1 _ _ ?_
 refine JW (fun a w=>Env (⟨67,[]⟩:Frm) a [(0,.pointer x0),(1,.int .i64 x1),(4,.pointer (some Xx2))]∧Rest w0 w∧(JU x0 x1 Xx2).wp w.heap Q) ?_ ?_
 ·rintro a w ⟨hE,hR,H⟩
  unfold JU at H
  refine KW (fun K hK_6=>?_)
  refine KD ?_
  refine KE (v:=.pointer x0) rfl rfl hE rfl (KH hE rfl) (fun a hE=>?_)
  refine J9 hE hR Ki rfl (Ku x0) (M.unbind H) (fun Xx7 a w ea hR H=>?_)
  have hE:=Env.put_some hE rfl ea; clear ea
  refine KE (v:=.int .u8 Xx7) rfl rfl hE rfl (KZ hE rfl) (fun a hE=>?_)
  refine KU ?_
  refine hK_6 _ _ ?_
  refine KW (fun K hK_8=>?_)
  refine Ut ?_
  refine KW (fun K hK_9=>?_)
  refine KD ?_
  refine KE (v:=.int .u8 Xx7) rfl rfl hE rfl (KH hE rfl) (fun a hE=>?_)
  refine KE (v:=.bool (Xx7 == 45)) rfl rfl hE rfl (ZL hE rfl rfl ZF Gd) (fun a hE=>?_)
  refine KE (v:=.bool (Xx7 == 45)) rfl rfl hE rfl (KH hE rfl) (fun a hE=>?_)
  refine KE5 (n:=(⟨67,[]⟩:Frm)) (w0:=w0) 3 (fun Xx10:Bool=>[(0,.pointer x0),(1,.int .i64 x1),(4,.pointer (some Xx2)),(5,.int .u8 Xx7),(18,.bool Xx10)]) (M.unbind H) (fun Kr hKr H=>?_) ?_
  ·rcases VT (Xx7 == 45) with hb | hb
   ·replace H:=M.ite_t hb H
    have hE:=hE.reb 15 (Xx7 == 45) true hb rfl
    refine NF rfl hE rfl rfl rfl (fun a ea=>?_)
    have hE:=Env.put_some hE rfl ea; clear ea
    refine NF rfl hE rfl rfl rfl (fun a ea=>?_)
    have hE:=Env.put_some hE rfl ea; clear ea
    refine KE rfl rfl hE rfl (J8 hE rfl rfl) (fun a hE=>?_)
    refine KU ?_
    exact hKr _ _ _ (hE.cut (.cons rfl (.cons rfl (.cons rfl (.cons rfl (.cons rfl Subs.nil)))))) hR H
   ·replace H:=M.ite_f hb H
    have hE:=hE.reb 15 (Xx7 == 45) false hb rfl
    refine t_on rfl hE rfl rfl rfl ?_
    refine KE (v:=.int .u8 Xx7) rfl rfl hE rfl (KH hE rfl) (fun a hE=>?_)
    refine t_on rfl hE rfl rfl rfl ?_
    refine J9 hE hR X8 rfl (Gz Xx7) (M.unbind H) (fun Xx11 a w ea hR H=>?_)
    have hE:=Env.put_some hE rfl ea; clear ea
    refine KE rfl rfl hE rfl (JP hE rfl rfl) (fun a hE=>?_)
    refine KU ?_
    exact hKr _ _ _ (hE.cut (.cons rfl (.cons rfl (.cons rfl (.cons rfl (.cons rfl Subs.nil)))))) hR H
  ·intro Xx10 a w hE hR H
   refine KE (v:=.bool Xx10) rfl rfl hE rfl (KZ hE rfl) (fun a hE=>?_)
   refine KU ?_
   refine hK_9 _ _ ?_
   refine JE Xx10 hE rfl (fun hb=>?_) (fun hb=>?_)
   ·replace H:=M.ite_t hb H
    refine KW (fun K hK_12=>?_)
    refine KD ?_
    refine KE (v:=.pointer x0) rfl rfl hE rfl (KH hE rfl) (fun a hE=>?_)
    refine JH hE hR Wk rfl (YV x0) H (fun _ _ hR HQ=>Xu.ne rfl (hthr _ _ hR HQ)) (fun Xx13 a w ea hR H=>?_)
    have hE:=Env.put_some hE rfl ea; clear ea
    refine J9 hE hR KFK rfl (KGP Xx13) (M.unbind H) (fun Xx14 a w ea hR H=>?_)
    have hE:=Env.put_some hE rfl ea; clear ea
    obtain ⟨qz,H⟩:=H
    obtain ⟨u_15,qu_15,H⟩:=H
    refine UF rfl rfl hE hR (Z1 hE rfl rfl sz24 qz qu_15) (fun a w hE hR hh=>?_)
    replace H:=M.at hh H; clear hh
    refine KU ?_
    refine hK_12 _ _ ?_
    refine WZ ?_
    obtain ⟨Rr16,qRr16,H⟩:=H
    exact hret _ _ _ Rr16 _ hE hR (Z2 hE rfl (RV.cellG rfl ag24 qRr16 RV.nil)) rfl H
   ·replace H:=M.ite_f hb H
    refine KW (fun K hK_17=>?_)
    refine KD ?_
    refine KE (v:=.int .u8 Xx7) rfl rfl hE rfl (KH hE rfl) (fun a hE=>?_)
    refine KE (v:=.bool (Xx7 == 39)) rfl rfl hE rfl (ZL hE rfl rfl ZF Gd) (fun a hE=>?_)
    refine KE (v:=.bool (Xx7 == 39)) rfl rfl hE rfl (KZ hE rfl) (fun a hE=>?_)
    refine KU ?_
    refine hK_17 _ _ ?_
    refine JE (Xx7 == 39) hE rfl (fun hb=>?_) (fun hb=>?_)
    ·replace H:=M.ite_t hb H
     refine KW (fun K hK_18=>?_)
     refine KD ?_
     refine KE (v:=.pointer x0) rfl rfl hE rfl (KH hE rfl) (fun a hE=>?_)
     refine JH hE hR qt rfl (KAO x0) H (fun _ _ hR HQ=>Xu.ne rfl (hthr _ _ hR HQ)) (fun Xx19 a w ea hR H=>?_)
     have hE:=Env.put_some hE rfl ea; clear ea
     refine J9 hE hR KFL rfl (KGQ Xx19) (M.unbind H) (fun Xx20 a w ea hR H=>?_)
     have hE:=Env.put_some hE rfl ea; clear ea
     obtain ⟨qz,H⟩:=H
     obtain ⟨u_21,qu_21,H⟩:=H
     refine UF rfl rfl hE hR (Z1 hE rfl rfl sz24 qz qu_21) (fun a w hE hR hh=>?_)
     replace H:=M.at hh H; clear hh
     refine KU ?_
     refine hK_18 _ _ ?_
     refine WZ ?_
     obtain ⟨Rr22,qRr22,H⟩:=H
     exact hret _ _ _ Rr22 _ hE hR (Z2 hE rfl (RV.cellG rfl ag24 qRr22 RV.nil)) rfl H
    ·replace H:=M.ite_f hb H
     refine KW (fun K hK_23=>?_)
     refine KD ?_
     refine KE (v:=.int .u8 Xx7) rfl rfl hE rfl (KH hE rfl) (fun a hE=>?_)
     refine KE (v:=.bool (Xx7 == 116)) rfl rfl hE rfl (ZL hE rfl rfl ZF Gd) (fun a hE=>?_)
     refine KE (v:=.bool (Xx7 == 116)) rfl rfl hE rfl (KZ hE rfl) (fun a hE=>?_)
     refine KU ?_
     refine hK_23 _ _ ?_
     refine JE (Xx7 == 116) hE rfl (fun hb=>?_) (fun hb=>?_)
     ·replace H:=M.ite_t hb H
      refine KW (fun K hK_24=>?_)
      refine KD ?_
      refine KE (v:=.pointer x0) rfl rfl hE rfl (KH hE rfl) (fun a hE=>?_)
      refine JH hE hR ZS rfl (ZZ x0 (⟨#[116,114,117,101]⟩:ByteArray)) H (fun _ _ hR HQ=>Xu.ne rfl (hthr _ _ hR HQ)) (fun Xx25 a w ea hR H=>?_)
      have hE:=Env.put_some hE rfl ea; clear ea
      refine KU ?_
      refine hK_24 _ _ ?_
      refine KW (fun K hK_26=>?_)
      refine KD ?_
      refine J9 hE hR zx rfl (KBQ true) (M.unbind H) (fun Xx27 a w ea hR H=>?_)
      have hE:=Env.put_some hE rfl ea; clear ea
      obtain ⟨qz,H⟩:=H
      obtain ⟨u_28,qu_28,H⟩:=H
      refine UF rfl rfl hE hR (Z1 hE rfl rfl sz24 qz qu_28) (fun a w hE hR hh=>?_)
      replace H:=M.at hh H; clear hh
      refine KU ?_
      refine hK_26 _ _ ?_
      refine WZ ?_
      obtain ⟨Rr29,qRr29,H⟩:=H
      exact hret _ _ _ Rr29 _ hE hR (Z2 hE rfl (RV.cellG rfl ag24 qRr29 RV.nil)) rfl H
     ·replace H:=M.ite_f hb H
      refine KW (fun K hK_30=>?_)
      refine KD ?_
      refine KE (v:=.int .u8 Xx7) rfl rfl hE rfl (KH hE rfl) (fun a hE=>?_)
      refine KE (v:=.bool (Xx7 == 102)) rfl rfl hE rfl (ZL hE rfl rfl ZF Gd) (fun a hE=>?_)
      refine KE (v:=.bool (Xx7 == 102)) rfl rfl hE rfl (KZ hE rfl) (fun a hE=>?_)
      refine KU ?_
      refine hK_30 _ _ ?_
      refine JE (Xx7 == 102) hE rfl (fun hb=>?_) (fun hb=>?_)
      ·replace H:=M.ite_t hb H
       refine KW (fun K hK_31=>?_)
       refine KD ?_
       refine KE (v:=.pointer x0) rfl rfl hE rfl (KH hE rfl) (fun a hE=>?_)
       refine JH hE hR ZS rfl (ZZ x0 (⟨#[102,97,108,115,101]⟩:ByteArray)) H (fun _ _ hR HQ=>Xu.ne rfl (hthr _ _ hR HQ)) (fun Xx32 a w ea hR H=>?_)
       have hE:=Env.put_some hE rfl ea; clear ea
       refine KU ?_
       refine hK_31 _ _ ?_
       refine KW (fun K hK_33=>?_)
       refine KD ?_
       refine J9 hE hR zx rfl (KBQ false) (M.unbind H) (fun Xx34 a w ea hR H=>?_)
       have hE:=Env.put_some hE rfl ea; clear ea
       obtain ⟨qz,H⟩:=H
       obtain ⟨u_35,qu_35,H⟩:=H
       refine UF rfl rfl hE hR (Z1 hE rfl rfl sz24 qz qu_35) (fun a w hE hR hh=>?_)
       replace H:=M.at hh H; clear hh
       refine KU ?_
       refine hK_33 _ _ ?_
       refine WZ ?_
       obtain ⟨Rr36,qRr36,H⟩:=H
       exact hret _ _ _ Rr36 _ hE hR (Z2 hE rfl (RV.cellG rfl ag24 qRr36 RV.nil)) rfl H
      ·replace H:=M.ite_f hb H
       refine KW (fun K hK_37=>?_)
       refine KD ?_
       refine KE (v:=.int .u8 Xx7) rfl rfl hE rfl (KH hE rfl) (fun a hE=>?_)
       refine KE (v:=.bool (Xx7 == 118)) rfl rfl hE rfl (ZL hE rfl rfl ZF Gd) (fun a hE=>?_)
       refine KE (v:=.bool (Xx7 == 118)) rfl rfl hE rfl (KZ hE rfl) (fun a hE=>?_)
       refine KU ?_
       refine hK_37 _ _ ?_
       refine JE (Xx7 == 118) hE rfl (fun hb=>?_) (fun hb=>?_)
       ·replace H:=M.ite_t hb H
        refine KW (fun K hK_38=>?_)
        refine KD ?_
        refine KE (v:=.pointer x0) rfl rfl hE rfl (KH hE rfl) (fun a hE=>?_)
        refine JH hE hR WI rfl (Wl x0 6) H (fun _ _ hR HQ=>Xu.ne rfl (hthr _ _ hR HQ)) (fun Xx39 a w ea hR H=>?_)
        have hE:=Env.put_some hE rfl ea; clear ea
        obtain ⟨qz,H⟩:=H
        obtain ⟨u_40,qu_40,H⟩:=H
        refine UF rfl rfl hE hR (Z1 hE rfl rfl sz24 qz qu_40) (fun a w hE hR hh=>?_)
        replace H:=M.at hh H; clear hh
        refine KU ?_
        refine hK_38 _ _ ?_
        refine WZ ?_
        obtain ⟨Rr41,qRr41,H⟩:=H
        exact hret _ _ _ Rr41 _ hE hR (Z2 hE rfl (RV.cellG rfl ag24 qRr41 RV.nil)) rfl H
       ·replace H:=M.ite_f hb H
        refine KW (fun K hK_42=>?_)
        refine KD ?_
        refine KE (v:=.int .u8 Xx7) rfl rfl hE rfl (KH hE rfl) (fun a hE=>?_)
        refine KE (v:=.bool (Xx7 == 101)) rfl rfl hE rfl (ZL hE rfl rfl ZF Gd) (fun a hE=>?_)
        refine KE (v:=.bool (Xx7 == 101)) rfl rfl hE rfl (KZ hE rfl) (fun a hE=>?_)
        refine KU ?_
        refine hK_42 _ _ ?_
        refine JE (Xx7 == 101) hE rfl (fun hb=>?_) (fun hb=>?_)
        ·replace H:=M.ite_t hb H
         refine KW (fun K hK_43=>?_)
         refine KD ?_
         refine KE (v:=.pointer x0) rfl rfl hE rfl (KH hE rfl) (fun a hE=>?_)
         refine JH hE hR WI rfl (Wl x0 7) H (fun _ _ hR HQ=>Xu.ne rfl (hthr _ _ hR HQ)) (fun Xx44 a w ea hR H=>?_)
         have hE:=Env.put_some hE rfl ea; clear ea
         obtain ⟨qz,H⟩:=H
         obtain ⟨u_45,qu_45,H⟩:=H
         refine UF rfl rfl hE hR (Z1 hE rfl rfl sz24 qz qu_45) (fun a w hE hR hh=>?_)
         replace H:=M.at hh H; clear hh
         refine KU ?_
         refine hK_43 _ _ ?_
         refine WZ ?_
         obtain ⟨Rr46,qRr46,H⟩:=H
         exact hret _ _ _ Rr46 _ hE hR (Z2 hE rfl (RV.cellG rfl ag24 qRr46 RV.nil)) rfl H
        ·replace H:=M.ite_f hb H
         refine KW (fun K hK_47=>?_)
         refine KD ?_
         refine KE (v:=.int .u8 Xx7) rfl rfl hE rfl (KH hE rfl) (fun a hE=>?_)
         refine KE (v:=.bool (Xx7 == 91)) rfl rfl hE rfl (ZL hE rfl rfl ZF Gd) (fun a hE=>?_)
         refine KE (v:=.bool (Xx7 == 91)) rfl rfl hE rfl (KZ hE rfl) (fun a hE=>?_)
         refine KU ?_
         refine hK_47 _ _ ?_
         refine JE (Xx7 == 91) hE rfl (fun hb=>?_) (fun hb=>?_)
         ·replace H:=M.ite_t hb H
          refine KW (fun K hK_48=>?_)
          refine KD ?_
          refine KE (v:=.pointer x0) rfl rfl hE rfl (KH hE rfl) (fun a hE=>?_)
          refine KE (v:=.int .i64 x1) rfl rfl hE rfl (KH hE rfl) (fun a hE=>?_)
          refine JH hE hR Ys rfl (Xt) H (fun _ _ hR HQ=>Xu.ne rfl (hthr _ _ hR HQ)) (fun Xx49 a w ea hR H=>?_)
          have hE:=Env.put_some hE rfl ea; clear ea
          refine KE (v:=.agg (#[.int .i64 4,.int .i64 0,.string ByteArray.empty,(Xx49:Sl).v]:Array Value)) rfl rfl hE rfl (NW hE rfl zr24 pl24 (by rfl)) (fun a hE=>?_)
          obtain ⟨qz,H⟩:=H
          obtain ⟨u_50,qu_50,H⟩:=H
          refine UF rfl rfl hE hR (Z1 hE rfl rfl sz24 qz qu_50) (fun a w hE hR hh=>?_)
          replace H:=M.at hh H; clear hh
          refine KU ?_
          refine hK_48 _ _ ?_
          refine WZ ?_
          obtain ⟨Rr51,qRr51,H⟩:=H
          exact hret _ _ _ Rr51 _ hE hR (Z2 hE rfl (RV.cellG rfl ag24 qRr51 RV.nil)) rfl H
         ·replace H:=M.ite_f hb H
          refine KW (fun K hK_52=>?_)
          refine KD ?_
          refine KE (v:=.int .u8 Xx7) rfl rfl hE rfl (KH hE rfl) (fun a hE=>?_)
          refine KE (v:=.bool (Xx7 == 123)) rfl rfl hE rfl (ZL hE rfl rfl ZF Gd) (fun a hE=>?_)
          refine KE (v:=.bool (Xx7 == 123)) rfl rfl hE rfl (KZ hE rfl) (fun a hE=>?_)
          refine KU ?_
          refine hK_52 _ _ ?_
          refine JE (Xx7 == 123) hE rfl (fun hb=>?_) (fun hb=>?_)
          ·replace H:=M.ite_t hb H
           refine KW (fun K hK_53=>?_)
           refine KD ?_
           refine KE (v:=.pointer x0) rfl rfl hE rfl (KH hE rfl) (fun a hE=>?_)
           refine KE (v:=.int .i64 x1) rfl rfl hE rfl (KH hE rfl) (fun a hE=>?_)
           refine JH hE hR Ys rfl (Xt) H (fun _ _ hR HQ=>Xu.ne rfl (hthr _ _ hR HQ)) (fun Xx54 a w ea hR H=>?_)
           have hE:=Env.put_some hE rfl ea; clear ea
           refine KE (v:=.agg (#[.int .i64 5,.int .i64 0,.string ByteArray.empty,(Xx54:Sl).v]:Array Value)) rfl rfl hE rfl (NW hE rfl zr24 pl24 (by rfl)) (fun a hE=>?_)
           obtain ⟨qz,H⟩:=H
           obtain ⟨u_55,qu_55,H⟩:=H
           refine UF rfl rfl hE hR (Z1 hE rfl rfl sz24 qz qu_55) (fun a w hE hR hh=>?_)
           replace H:=M.at hh H; clear hh
           refine KU ?_
           refine hK_53 _ _ ?_
           refine WZ ?_
           obtain ⟨Rr56,qRr56,H⟩:=H
           exact hret _ _ _ Rr56 _ hE hR (Z2 hE rfl (RV.cellG rfl ag24 qRr56 RV.nil)) rfl H
          ·replace H:=M.ite_f hb H
           refine J7 ?_
           refine hK_8 _ _ ?_
           refine KW (fun K hK_57=>?_)
           refine KD ?_
           refine KE (v:=.pointer x0) rfl rfl hE rfl (KH hE rfl) (fun a hE=>?_)
           refine JH hE hR Kz rfl (ZC x0) H (fun _ _ hR HQ=>hthr _ _ hR HQ) (fun Xx58 a w ea hR H=>?_)
           have hE:=Env.put_some hE rfl ea; clear ea
           refine KU ?_
           refine hK_57 _ _ ?_
           refine KW (fun K hK_59=>?_)
           refine KD ?_
           refine KE (v:=.agg (#[.int .i64 0,.int .i64 0,.string ByteArray.empty,.slice none 0 0]:Array Value)) rfl rfl hE rfl (KG2 bd24) (fun a hE=>?_)
           obtain ⟨qz,H⟩:=H
           obtain ⟨u_60,qu_60,H⟩:=H
           refine UF rfl rfl hE hR (Z1 hE rfl rfl sz24 qz qu_60) (fun a w hE hR hh=>?_)
           replace H:=M.at hh H; clear hh
           refine KU ?_
           refine hK_59 _ _ ?_
           refine WZ ?_
           obtain ⟨Rr61,qRr61,H⟩:=H
           exact hret _ _ _ Rr61 _ hE hR (Z2 hE rfl (RV.cellG rfl ag24 qRr61 RV.nil)) rfl H
 ·skip
  refine KW (fun K hK_62=>?_)
  refine KD ?_
  refine KE (v:=.int .i64 x1) rfl rfl hE rfl (KH hE rfl) (fun a hE=>?_)
  refine KE (v:=.bool (decide (x1 > 8))) rfl rfl hE rfl (ZL hE rfl rfl ZF KF8) (fun a hE=>?_)
  refine KU ?_
  refine hK_62 _ _ ?_
  refine JE (decide (x1 > 8)) hE rfl (fun hb=>?_) (fun hb=>?_)
  ·replace H:=M.ite_t hb H
   refine KD ?_
   refine KE (v:=.pointer x0) rfl rfl hE rfl (KH hE rfl) (fun a hE=>?_)
   refine JH hE hR Kz rfl (ZC x0) H (fun _ _ hR HQ=>hthr _ _ hR HQ) (fun Xx63 a w ea hR H=>?_)
   have hE:=Env.put_some hE rfl ea; clear ea
   refine KU ?_
   exact ⟨hE.cut (.cons rfl (.cons rfl (.cons rfl Subs.nil))),hR,H⟩
  ·replace H:=M.ite_f hb H
   refine J7 ?_
   exact ⟨hE.cut (.cons rfl (.cons rfl (.cons rfl Subs.nil))),hR,H⟩
def Za (C3:Value) (C4:Addr) (C5:Addr) (self1:(Int)→M (Unit)):(Int)→M (Unit):=fun s=>match s with
 | Xx2=>do
  let Xx9←ldL C4
  M.ite (decide (Xx2 < (Xx9.len:Int))) (do
   let Xx12←ldI .i64 C5
   let Xx13←ldL C4
   let Xx14←slL Xx13 Xx2 Xx13.len 4
   let Xx16←ldL C4
   let Xx17←slL3 Xx16 Xx2 (IntKind.wrap .i64 (Xx2+(iMin Xx12 (Xx14.len:Int)))) (IntKind.wrap .i64 (Xx2+(iMin Xx12 (Xx14.len:Int)))) 4
   let Xx18←VD Go.Proofs.Tryz.prog (fun r:Bool=>.bool r) C3 [(Xx17:Sl).v]
   M.ite (!Xx18) (do
    M.pure ()
    ) (do
    let Xx19←ldI .i64 C5
    self1 (IntKind.wrap .i64 (Xx2+Xx19))
    )
   ) (do
   M.pure ()
   )
def Jo (x0:Value) (x1:Addr) (x2:Addr):M (Unit):=do
 M.loop (Za x0 x1 x2) 0
theorem VQ (x0:Value) (x1:Addr) (x2:Addr):Kn Go.Proofs.Tryz.prog 136 #[x0,.pointer (some x1),.pointer (some x2)] (fun (r:Unit)=>.tuple #[]) (Jo x0 x1 x2) :=
 KM [] [] [] [(0,.V x0),(1,.A x1),(2,.A x2)] (.q .o (.b (.l [(0,.V),(1,.A),(2,.A)] [(4,.I .i64)] (fun (t:Value × Addr × Addr)=>Za t.1 t.2.1 t.2.2) (fun _=>.q .o (.q (.b (.q (.r [0,0,0,6,8,17,63] [0,0,0,6,8,17,32] [0,0,0,6,14,31,63] (.pu 2 (.pu 0 (.pu 1 (.pu 3 (.pu 4 (.pu 5 (.pu 6 (.st [5,6] .dn))))))))) .o)) .o))))) Go.Proofs.Tryz.func136 rfl rfl ⟨rfl,rfl,rfl,trivial⟩ rfl (by kernel_rfl) (by kernel_rfl)
def zB (x0:Int):M (Bool):=do
 let Xx3←M.ite (decide (x0 < 48)) (do
  M.pure true
  ) (do
  M.pure (decide (x0 > 57))
  )
 M.pure Xx3
theorem KEX (x0:Int):Kn Go.Proofs.Tryz.prog 160 #[.int .u8 x0] (fun (r:Bool)=>.bool r) (zB x0) :=
 KM [] [] [.B] [(0,.I .u8 x0)] .o Go.Proofs.Tryz.func160 rfl rfl ⟨rfl,trivial⟩ rfl (by kernel_rfl) (by kernel_rfl)
end Gx
namespace Gx
open Go
set_option linter.unusedVariables false
set_option maxRecDepth 100000
def Z8 (self1:(Sl)→M (Value ⊕ (Sl))) (C29:Option Addr) (C31:Int) (Xx28:Sl):M (Value ⊕ (Sl)):=do
 let Xx34←Kh C29
 let Xx36←M.ite (Xx34 != C31) (do
  M.pure (Xx34 != 44)
  ) (do
  M.pure false
  )
 M.ite Xx36 (do
  thr (Kp C29) fun Xx37=>do
   self1 Xx28
  ) (do
  self1 Xx28
  )
def Z9 (self1:(Sl)→M (Value ⊕ (Sl))) (C18:Option Addr) (C19:Int) (C20:Int) (C21:Int) (C22:Sl):M (Value ⊕ (Sl)):=do
 thr (KBu Go.Proofs.Tryz.prog VF #[.pointer C18,.int .i64 (IntKind.wrap .i64 (C19+1))] (fun r:Array Value=>.agg r)) fun Xx24=>do
  let y_26←GL 4 1 (#[.int .i64 0,.int .i64 0,.string ByteArray.empty,.slice none 0 0]:Array Value) [(0,.agg Xx24)]
  let Xx25←bdL KB 1 y_26
  let Xx27←apL KB 4 56 (#[.int .i64 0,.int .i64 0,.string ByteArray.empty,.slice none 0 0]:Array Value) C22 Xx25
  M.ite (C21 == 2) (do
   thr (ZB C18 (⟨#[58,32]⟩:ByteArray)) fun Xx40=>do
    thr (KBu Go.Proofs.Tryz.prog VF #[.pointer C18,.int .i64 (IntKind.wrap .i64 (C19+1))] (fun r:Array Value=>.agg r)) fun Xx41=>do
     let y_43←GL 4 1 (#[.int .i64 0,.int .i64 0,.string ByteArray.empty,.slice none 0 0]:Array Value) [(0,.agg Xx41)]
     let Xx42←bdL KB 1 y_43
     let Xx44←apL KB 4 56 (#[.int .i64 0,.int .i64 0,.string ByteArray.empty,.slice none 0 0]:Array Value) Xx27 Xx42
     Z8 self1 C18 C20 Xx44
   ) (do
   Z8 self1 C18 C20 Xx27
   )
def UL (C10:Option Addr) (C11:Int) (C12:Int) (C13:Int) (self1:(Sl)→M (Value ⊕ (Sl))):(Sl)→M (Value ⊕ (Sl)):=fun s=>match s with
 | Xx9=>do
  let Xx17←Kh C10
  M.ite (Xx17 != C12) (do
   M.ite (decide ((Xx9.len:Int) > 0)) (do
    thr (ZB C10 (⟨#[44,32]⟩:ByteArray)) fun Xx46=>do
     Z9 self1 C10 C11 C12 C13 Xx9
    ) (do
    Z9 self1 C10 C11 C12 C13 Xx9
    )
   ) (do
   let Xx48←nilP C10
   let Xx49←ldI .i64 ((Xx48).add 1)
   let Xx50←nilP C10
   stV ((Xx50).add 1) (.int .i64 (IntKind.wrap .i64 (Xx49+1)))
   M.pure (.inr Xx9)
   )
def VR (x0:Option Addr) (x1:Int) (x2:Int) (x3:Int):M (Value ⊕ (Sl)):=do
 let Xx3←nilP x0
 let Xx4←ldI .i64 ((Xx3).add 1)
 let Xx5←nilP x0
 stV ((Xx5).add 1) (.int .i64 (IntKind.wrap .i64 (Xx4+1)))
 M.loop (UL x0 x1 x2 x3) Sl.nil
theorem Xe (x0:Option Addr) (x1:Int) (x2:Int) (x3:Int):GJ Go.Proofs.Tryz.prog 176 #[.pointer x0,.int .i64 x1,.int .u8 x2,.int .i64 x3] (fun (r:Sl)=>(r:Sl).v) (VR x0 x1 x2 x3):=by
 refine YF [(0,.pointer x0),(1,.int .i64 x1),(2,.int .u8 x2),(3,.int .i64 x3)] Go.Proofs.Tryz.func176 rfl rfl (Nat.le_of_ble_eq_true rfl) (Vz ⟨rfl,rfl,rfl,rfl,trivial⟩) (fun w0 w Q R X a hret hthr hE hR H=>?_)
 unfold VR at H
 refine KW (fun K hK_1=>?_)
 refine KD ?_
 refine KE (v:=(Sl.nil:Sl).v) rfl rfl hE rfl (KZ hE rfl) (fun a hE=>?_)
 refine KU ?_
 refine hK_1 _ _ ?_
 refine KW (fun K hK_2=>?_)
 refine KD ?_
 refine KE (v:=.pointer x0) rfl rfl hE rfl (KH hE rfl) (fun a hE=>?_)
 obtain ⟨Xx3,qXx3,H⟩:=H
 refine KE (v:=.pointer (some Xx3)) rfl rfl hE rfl (KO hE (Ja rfl (congrArg Value.pointer qXx3))) (fun a hE=>?_)
 refine KE (v:=.pointer (some ((Xx3).add 1))) rfl rfl hE rfl (KL hE rfl ZU) (fun a hE=>?_)
 obtain ⟨Xx4,qXx4,H⟩:=H
 refine KE (v:=.int .i64 Xx4) rfl rfl hE rfl (ZR hE rfl sc3 qXx4) (fun a hE=>?_)
 refine KE (v:=.int .i64 (IntKind.wrap .i64 (Xx4+1))) rfl rfl hE rfl (ZL hE rfl rfl ZF NE) (fun a hE=>?_)
 obtain ⟨Xx5,qXx5,H⟩:=H
 refine KE (v:=.pointer (some Xx5)) rfl rfl hE rfl (KO hE (Ja rfl (congrArg Value.pointer qXx5))) (fun a hE=>?_)
 refine KE (v:=.pointer (some ((Xx5).add 1))) rfl rfl hE rfl (KL hE rfl ZU) (fun a hE=>?_)
 obtain ⟨u_6,qu_6,H⟩:=H
 refine UF rfl rfl hE hR (ZT hE rfl rfl sz3 qu_6) (fun a w hE hR hh=>?_)
 replace H:=M.at hh H; clear hh
 refine KU ?_
 refine hK_2 _ _ ?_
 refine KW (fun K hK_7=>?_)
 refine KD ?_
 refine KE (v:=(Sl.nil:Sl).v) rfl rfl hE rfl (KZ hE rfl) (fun a hE=>?_)
 refine KU ?_
 refine hK_7 _ _ ?_
 refine KW (fun K hK_8=>?_)
 refine Ut ?_
 refine KBz (fun (s:Sl)=>(⟨64,[]⟩:Frm)) (fun (s:Sl)=>[(0,.pointer x0),(1,.int .i64 x1),(2,.int .u8 x2),(3,.int .i64 x3),(9,(s:Sl).v)]) H (hE.cut (.cons rfl (.cons rfl (.cons rfl (.cons rfl (.cons rfl Subs.nil)))))) hR (fun Y self1 hY_14 Xx9 a w hE hR H=>?_)
 replace hE:Env (⟨64,[]⟩:Frm) a [(0,.pointer x0),(1,.int .i64 x1),(2,.int .u8 x2),(3,.int .i64 x3),(9,(Xx9:Sl).v)]:=hE
 replace H:(UL x0 x1 x2 x3 self1 Xx9).wp w.heap Q:=H
 unfold UL at H
 refine KW (fun K hK_15=>?_)
 refine KW (fun K hK_16=>?_)
 refine KD ?_
 refine KE (v:=.pointer x0) rfl rfl hE rfl (KH hE rfl) (fun a hE=>?_)
 refine J9 hE hR Ki rfl (Ku x0) (M.unbind H) (fun Xx17 a w ea hR H=>?_)
 have hE:=Env.put_some hE rfl ea; clear ea
 refine KE (v:=.int .u8 x2) rfl rfl hE rfl (KH hE rfl) (fun a hE=>?_)
 refine KE (v:=.bool (Xx17 != x2)) rfl rfl hE rfl (ZL hE rfl rfl ZF KCv) (fun a hE=>?_)
 refine KU ?_
 refine hK_16 _ _ ?_
 refine JE (Xx17 != x2) hE rfl (fun hb=>?_) (fun hb=>?_)
 ·replace H:=M.ite_t hb H
  refine J7 ?_
  refine hK_15 _ _ ?_
  refine Ut ?_
  refine JW (fun a w=>Env (⟨64,[]⟩:Frm) a [(0,.pointer x0),(1,.int .i64 x1),(2,.int .u8 x2),(3,.int .i64 x3),(9,(Xx9:Sl).v)]∧Rest w0 w∧(Z9 self1 x0 x1 x2 x3 Xx9).wp w.heap Q) ?_ ?_
  ·rintro a w ⟨hE,hR,H⟩
   unfold Z9 at H
   refine KW (fun K hK_23=>?_)
   refine KD ?_
   refine KE (v:=(Xx9:Sl).v) rfl rfl hE rfl (KH hE rfl) (fun a hE=>?_)
   refine KE (v:=.pointer x0) rfl rfl hE rfl (KH hE rfl) (fun a hE=>?_)
   refine KE (v:=.int .i64 x1) rfl rfl hE rfl (KH hE rfl) (fun a hE=>?_)
   refine KE (v:=.int .i64 (IntKind.wrap .i64 (x1+1))) rfl rfl hE rfl (ZL hE rfl rfl ZF NE) (fun a hE=>?_)
   refine JH hE hR VH rfl (Xt) H (fun _ _ hR HQ=>Xu.ne rfl (Xu.ne rfl (hthr _ _ hR HQ))) (fun Xx24 a w ea hR H=>?_)
   have hE:=Env.put_some hE rfl ea; clear ea
   obtain ⟨y_26,qy_26,H⟩:=H
   obtain ⟨Xx25,qXx25,H⟩:=H
   refine Wi (v:=(Xx25:Sl).v) rfl rfl hE rfl hR (Gf hE rfl un22 sz24 zr24 rfl qy_26 qXx25) (fun a w hE hR hh=>?_)
   replace H:=M.at hh H; clear hh
   refine t_ex (fun Xx27=>(Xx27:Sl).v) rfl rfl hR (M.unbind H) (fun Q H=>KDZ hE rfl rfl ap22 H) (fun Xx27 a w ea hR H=>?_)
   have hE:=Env.put_some hE rfl ea; clear ea
   refine KE (v:=(Xx27:Sl).v) rfl rfl hE rfl (KZ hE rfl) (fun a hE=>?_)
   refine KU ?_
   refine hK_23 _ _ ?_
   refine JW (fun a w=>∃ (Xx28:Sl),Env (⟨64,[]⟩:Frm) a [(0,.pointer x0),(1,.int .i64 x1),(2,.int .u8 x2),(3,.int .i64 x3),(9,(Xx28:Sl).v)]∧Rest w0 w∧(Z8 self1 x0 x2 Xx28).wp w.heap Q) ?_ ?_
   ·rintro a w ⟨Xx28,hE,hR,H⟩
    unfold Z8 at H
    refine KW (fun K hK_33=>?_)
    refine KD ?_
    refine KE (v:=.pointer x0) rfl rfl hE rfl (KH hE rfl) (fun a hE=>?_)
    refine J9 hE hR Ki rfl (Ku x0) (M.unbind H) (fun Xx34 a w ea hR H=>?_)
    have hE:=Env.put_some hE rfl ea; clear ea
    refine KE (v:=.int .u8 Xx34) rfl rfl hE rfl (KZ hE rfl) (fun a hE=>?_)
    refine KU ?_
    refine hK_33 _ _ ?_
    refine KW (fun K hK_35=>?_)
    refine KD ?_
    refine KE (v:=.int .u8 Xx34) rfl rfl hE rfl (KH hE rfl) (fun a hE=>?_)
    refine KE (v:=.int .u8 x2) rfl rfl hE rfl (KH hE rfl) (fun a hE=>?_)
    refine KE (v:=.bool (Xx34 != x2)) rfl rfl hE rfl (ZL hE rfl rfl ZF KCv) (fun a hE=>?_)
    refine KE (v:=.bool (Xx34 != x2)) rfl rfl hE rfl (KH hE rfl) (fun a hE=>?_)
    refine KE5 (n:=(⟨64,[]⟩:Frm)) (w0:=w0) 3 (fun Xx36:Bool=>[(0,.pointer x0),(1,.int .i64 x1),(2,.int .u8 x2),(3,.int .i64 x3),(9,(Xx28:Sl).v),(53,.bool Xx36)]) (M.unbind H) (fun Kr hKr H=>?_) ?_
    ·rcases VT (Xx34 != x2) with hb | hb
     ·replace H:=M.ite_t hb H
      have hE:=hE.reb 50 (Xx34 != x2) true hb rfl
      refine t_on rfl hE rfl rfl rfl ?_
      refine KE (v:=.int .u8 Xx34) rfl rfl hE rfl (KH hE rfl) (fun a hE=>?_)
      refine t_on rfl hE rfl rfl rfl ?_
      refine KE (v:=.bool (Xx34 != 44)) rfl rfl hE rfl (ZL hE rfl rfl ZF KCv) (fun a hE=>?_)
      refine KE rfl rfl hE rfl (J8 hE rfl rfl) (fun a hE=>?_)
      refine KU ?_
      exact hKr _ _ _ (hE.cut (.cons rfl (.cons rfl (.cons rfl (.cons rfl (.cons rfl (.cons rfl Subs.nil))))))) hR H
     ·replace H:=M.ite_f hb H
      have hE:=hE.reb 50 (Xx34 != x2) false hb rfl
      refine NF rfl hE rfl rfl rfl (fun a ea=>?_)
      have hE:=Env.put_some hE rfl ea; clear ea
      refine NF rfl hE rfl rfl rfl (fun a ea=>?_)
      have hE:=Env.put_some hE rfl ea; clear ea
      refine KE rfl rfl hE rfl (JP hE rfl rfl) (fun a hE=>?_)
      refine KU ?_
      exact hKr _ _ _ (hE.cut (.cons rfl (.cons rfl (.cons rfl (.cons rfl (.cons rfl (.cons rfl Subs.nil))))))) hR H
    ·intro Xx36 a w hE hR H
     refine KU ?_
     refine hK_35 _ _ ?_
     refine JE Xx36 hE rfl (fun hb=>?_) (fun hb=>?_)
     ·replace H:=M.ite_t hb H
      refine KD ?_
      refine KE (v:=.pointer x0) rfl rfl hE rfl (KH hE rfl) (fun a hE=>?_)
      refine JH hE hR Kz rfl (ZC x0) H (fun _ _ hR HQ=>Xu.ne rfl (Xu.ne rfl (hthr _ _ hR HQ))) (fun Xx37 a w ea hR H=>?_)
      have hE:=Env.put_some hE rfl ea; clear ea
      refine KU ?_
      exact hY_14 Xx28 _ _ (hE.cut (.cons rfl (.cons rfl (.cons rfl (.cons rfl (.cons rfl Subs.nil)))))) hR H
     ·replace H:=M.ite_f hb H
      refine J7 ?_
      exact hY_14 Xx28 _ _ (hE.cut (.cons rfl (.cons rfl (.cons rfl (.cons rfl (.cons rfl Subs.nil)))))) hR H
   ·skip
    refine KW (fun K hK_38=>?_)
    refine KD ?_
    refine KE (v:=.int .i64 x3) rfl rfl hE rfl (KH hE rfl) (fun a hE=>?_)
    refine KE (v:=.bool (x3 == 2)) rfl rfl hE rfl (ZL hE rfl rfl ZF Gd) (fun a hE=>?_)
    refine KU ?_
    refine hK_38 _ _ ?_
    refine JE (x3 == 2) hE rfl (fun hb=>?_) (fun hb=>?_)
    ·replace H:=M.ite_t hb H
     refine KW (fun K hK_39=>?_)
     refine KD ?_
     refine KE (v:=.pointer x0) rfl rfl hE rfl (KH hE rfl) (fun a hE=>?_)
     refine JH hE hR ZS rfl (ZZ x0 (⟨#[58,32]⟩:ByteArray)) H (fun _ _ hR HQ=>Xu.ne rfl (Xu.ne rfl (hthr _ _ hR HQ))) (fun Xx40 a w ea hR H=>?_)
     have hE:=Env.put_some hE rfl ea; clear ea
     refine KU ?_
     refine hK_39 _ _ ?_
     refine KD ?_
     refine KE (v:=(Xx27:Sl).v) rfl rfl hE rfl (KH hE rfl) (fun a hE=>?_)
     refine KE (v:=.pointer x0) rfl rfl hE rfl (KH hE rfl) (fun a hE=>?_)
     refine KE (v:=.int .i64 x1) rfl rfl hE rfl (KH hE rfl) (fun a hE=>?_)
     refine KE (v:=.int .i64 (IntKind.wrap .i64 (x1+1))) rfl rfl hE rfl (ZL hE rfl rfl ZF NE) (fun a hE=>?_)
     refine JH hE hR VH rfl (Xt) H (fun _ _ hR HQ=>Xu.ne rfl (Xu.ne rfl (hthr _ _ hR HQ))) (fun Xx41 a w ea hR H=>?_)
     have hE:=Env.put_some hE rfl ea; clear ea
     obtain ⟨y_43,qy_43,H⟩:=H
     obtain ⟨Xx42,qXx42,H⟩:=H
     refine Wi (v:=(Xx42:Sl).v) rfl rfl hE rfl hR (Gf hE rfl un22 sz24 zr24 rfl qy_43 qXx42) (fun a w hE hR hh=>?_)
     replace H:=M.at hh H; clear hh
     refine t_ex (fun Xx44=>(Xx44:Sl).v) rfl rfl hR (M.unbind H) (fun Q H=>KDZ hE rfl rfl ap22 H) (fun Xx44 a w ea hR H=>?_)
     have hE:=Env.put_some hE rfl ea; clear ea
     refine KE (v:=(Xx44:Sl).v) rfl rfl hE rfl (KZ hE rfl) (fun a hE=>?_)
     refine KU ?_
     exact ⟨Xx44,hE.cut (.cons rfl (.cons rfl (.cons rfl (.cons rfl (.cons rfl Subs.nil))))),hR,H⟩
    ·replace H:=M.ite_f hb H
     refine J7 ?_
     exact ⟨Xx27,hE.cut (.cons rfl (.cons rfl (.cons rfl (.cons rfl (.cons rfl Subs.nil))))),hR,H⟩
  ·skip
   refine KW (fun K hK_45=>?_)
   refine KD ?_
   refine KE (v:=(Xx9:Sl).v) rfl rfl hE rfl (KH hE rfl) (fun a hE=>?_)
   refine KE (v:=.int .i64 (Xx9.len:Int)) rfl rfl hE rfl (KHl hE rfl 24 un22) (fun a hE=>?_)
   refine KE (v:=.bool (decide ((Xx9.len:Int) > 0))) rfl rfl hE rfl (ZL hE rfl rfl ZF KF8) (fun a hE=>?_)
   refine KU ?_
   refine hK_45 _ _ ?_
   refine JE (decide ((Xx9.len:Int) > 0)) hE rfl (fun hb=>?_) (fun hb=>?_)
   ·replace H:=M.ite_t hb H
    refine KD ?_
    refine KE (v:=.pointer x0) rfl rfl hE rfl (KH hE rfl) (fun a hE=>?_)
    refine JH hE hR ZS rfl (ZZ x0 (⟨#[44,32]⟩:ByteArray)) H (fun _ _ hR HQ=>Xu.ne rfl (Xu.ne rfl (hthr _ _ hR HQ))) (fun Xx46 a w ea hR H=>?_)
    have hE:=Env.put_some hE rfl ea; clear ea
    refine KU ?_
    exact ⟨hE.cut (.cons rfl (.cons rfl (.cons rfl (.cons rfl (.cons rfl Subs.nil))))),hR,H⟩
   ·replace H:=M.ite_f hb H
    refine J7 ?_
    exact ⟨hE.cut (.cons rfl (.cons rfl (.cons rfl (.cons rfl (.cons rfl Subs.nil))))),hR,H⟩
 ·replace H:=M.ite_f hb H
  refine KBt ?_
  refine Xu.same ?_
  refine hK_8 _ _ ?_
  refine KW (fun K hK_47=>?_)
  refine KD ?_
  refine KE (v:=.pointer x0) rfl rfl hE rfl (KH hE rfl) (fun a hE=>?_)
  obtain ⟨Xx48,qXx48,H⟩:=H
  refine KE (v:=.pointer (some Xx48)) rfl rfl hE rfl (KO hE (Ja rfl (congrArg Value.pointer qXx48))) (fun a hE=>?_)
  refine KE (v:=.pointer (some ((Xx48).add 1))) rfl rfl hE rfl (KL hE rfl ZU) (fun a hE=>?_)
  obtain ⟨Xx49,qXx49,H⟩:=H
  refine KE (v:=.int .i64 Xx49) rfl rfl hE rfl (ZR hE rfl sc3 qXx49) (fun a hE=>?_)
  refine KE (v:=.int .i64 (IntKind.wrap .i64 (Xx49+1))) rfl rfl hE rfl (ZL hE rfl rfl ZF NE) (fun a hE=>?_)
  obtain ⟨Xx50,qXx50,H⟩:=H
  refine KE (v:=.pointer (some Xx50)) rfl rfl hE rfl (KO hE (Ja rfl (congrArg Value.pointer qXx50))) (fun a hE=>?_)
  refine KE (v:=.pointer (some ((Xx50).add 1))) rfl rfl hE rfl (KL hE rfl ZU) (fun a hE=>?_)
  obtain ⟨u_51,qu_51,H⟩:=H
  refine UF rfl rfl hE hR (ZT hE rfl rfl sz3 qu_51) (fun a w hE hR hh=>?_)
  replace H:=M.at hh H; clear hh
  refine KU ?_
  refine hK_47 _ _ ?_
  refine KW (fun K hK_52=>?_)
  refine KD ?_
  refine KE (v:=(Xx9:Sl).v) rfl rfl hE rfl (KH hE rfl) (fun a hE=>?_)
  refine KE (v:=(Xx9:Sl).v) rfl rfl hE rfl (KZ hE rfl) (fun a hE=>?_)
  refine KU ?_
  refine hK_52 _ _ ?_
  refine WZ ?_
  exact hret _ _ _ Xx9 _ hE hR (Z2 hE rfl (RV.tmp rfl RV.nil)) rfl H
def U1 (x0:Int):M (ByteArray):=do
 M.ite (decide (x0 < 10)) (do
  let Xx5←slS (⟨#[48,49,50,51,52,53,54,55,56,57,97,98,99,100,101,102,103,104,105,106,107,108,109,110,111,112,113,114,115,116,117,118,119,120,121,122]⟩:ByteArray) x0 (IntKind.wrap .i64 (x0+1))
  M.pure Xx5
  ) (do
  let Xx7←slS (⟨#[48,48,48,49,48,50,48,51,48,52,48,53,48,54,48,55,48,56,48,57,49,48,49,49,49,50,49,51,49,52,49,53,49,54,49,55,49,56,49,57,50,48,50,49,50,50,50,51,50,52,50,53,50,54,50,55,50,56,50,57,51,48,51,49,51,50,51,51,51,52,51,53,51,54,51,55,51,56,51,57,52,48,52,49,52,50,52,51,52,52,52,53,52,54,52,55,52,56,52,57,53,48,53,49,53,50,53,51,53,52,53,53,53,54,53,55,53,56,53,57,54,48,54,49,54,50,54,51,54,52,54,53,54,54,54,55,54,56,54,57,55,48,55,49,55,50,55,51,55,52,55,53,55,54,55,55,55,56,55,57,56,48,56,49,56,50,56,51,56,52,56,53,56,54,56,55,56,56,56,57,57,48,57,49,57,50,57,51,57,52,57,53,57,54,57,55,57,56,57,57]⟩:ByteArray) (IntKind.wrap .i64 (x0 * 2)) (IntKind.wrap .i64 ((IntKind.wrap .i64 (x0 * 2))+2))
  M.pure Xx7
  )
theorem GU (x0:Int):Kn Go.Proofs.Tryz.prog 227 #[.int .i64 x0] (fun (r:ByteArray)=>.string r) (U1 x0) :=
 KM [] [] [.S] [(0,.I .i64 x0)] .o Go.Proofs.Tryz.func227 rfl rfl ⟨rfl,trivial⟩ rfl (by kernel_rfl) (by kernel_rfl)
noncomputable def GV:CalleeS Go.Proofs.Tryz.prog:=mkC X5 X7 [.I .i64] [.S] (fun (t:Int)=>U1 t) (fun (t:Int)=>GU t)
def WU (Xx6:Int) (Xx7:Int):M (Int):=do
 let Xx9←ixS (⟨#[0,1,2,2,3,3,3,3,4,4,4,4,4,4,4,4,5,5,5,5,5,5,5,5,5,5,5,5,5,5,5,5,6,6,6,6,6,6,6,6,6,6,6,6,6,6,6,6,6,6,6,6,6,6,6,6,6,6,6,6,6,6,6,6,7,7,7,7,7,7,7,7,7,7,7,7,7,7,7,7,7,7,7,7,7,7,7,7,7,7,7,7,7,7,7,7,7,7,7,7,7,7,7,7,7,7,7,7,7,7,7,7,7,7,7,7,7,7,7,7,7,7,7,7,7,7,7,7,8,8,8,8,8,8,8,8,8,8,8,8,8,8,8,8,8,8,8,8,8,8,8,8,8,8,8,8,8,8,8,8,8,8,8,8,8,8,8,8,8,8,8,8,8,8,8,8,8,8,8,8,8,8,8,8,8,8,8,8,8,8,8,8,8,8,8,8,8,8,8,8,8,8,8,8,8,8,8,8,8,8,8,8,8,8,8,8,8,8,8,8,8,8,8,8,8,8,8,8,8,8,8,8,8,8,8,8,8,8,8,8,8,8,8,8,8,8,8,8,8,8,8,8,8,8,8,8]⟩:ByteArray) (IntKind.wrap .u8 Xx6)
 M.pure (IntKind.wrap .i64 (Xx7+(IntKind.wrap .i64 Xx9)))
def WV (Xx4:Int) (Xx5:Int):M (Int):=do
 M.ite (decide (Xx4 ≥ 256)) (do
  WU (iShr .u64 Xx4 8) (IntKind.wrap .i64 (Xx5+8))
  ) (do
  WU Xx4 Xx5
  )
def WW (Xx2:Int) (Xx3:Int):M (Int):=do
 M.ite (decide (Xx2 ≥ 65536)) (do
  WV (iShr .u64 Xx2 16) (IntKind.wrap .i64 (Xx3+16))
  ) (do
  WV Xx2 Xx3
  )
def Xf (x0:Int):M (Int):=do
 M.ite (decide (x0 ≥ 4294967296)) (do
  WW (iShr .u64 x0 32) 32
  ) (do
  WW x0 0
  )
theorem KA3 (x0:Int):Kn Go.Proofs.Tryz.prog 217 #[.int .u64 x0] (fun (r:Int)=>.int .i64 r) (Xf x0) :=
 KM [] [] [.I .i64] [(0,.I .u64 x0)] (.q .o (.q .o (.j [(0,.I .u64),(2,.I .i64)] (fun (t:Int × Int)=>WW t.1 t.2) (.q .o (.j [(0,.I .u64),(2,.I .i64)] (fun (t:Int × Int)=>WV t.1 t.2) (.q .o (.j [(0,.I .u64),(2,.I .i64)] (fun (t:Int × Int)=>WU t.1 t.2) .o))))))) Go.Proofs.Tryz.func217 rfl rfl ⟨rfl,trivial⟩ rfl (by kernel_rfl) (by kernel_rfl)
noncomputable def KA4:CalleeS Go.Proofs.Tryz.prog:=mkC zd zn [.I .u64] [.I .i64] (fun (t:Int)=>Xf t) (fun (t:Int)=>KA3 t)
def J0 (x0:Int):M (Int):=do
 M.pure (iShr .i64 (IntKind.wrap .i64 (x0 * 78913)) 18)
theorem XA (x0:Int):Kn Go.Proofs.Tryz.prog 247 #[.int .i64 x0] (fun (r:Int)=>.int .i64 r) (J0 x0) :=
 KM [] [] [.I .i64] [(0,.I .i64 x0)] .o Go.Proofs.Tryz.func247 rfl rfl ⟨rfl,trivial⟩ rfl (by kernel_rfl) (by kernel_rfl)
noncomputable def XB:CalleeS Go.Proofs.Tryz.prog:=mkC Yc Yi [.I .i64] [.I .i64] (fun (t:Int)=>J0 t) (fun (t:Int)=>XA t)
def J1 (x0:Bool):M (Int):=do
 M.ite x0 (do
  M.pure 1
  ) (do
  M.pure 0
  )
theorem XC (x0:Bool):Kn Go.Proofs.Tryz.prog 248 #[.bool x0] (fun (r:Int)=>.int .i64 r) (J1 x0) :=
 KM [] [] [.I .i64] [(0,.B x0)] .o Go.Proofs.Tryz.func248 rfl rfl ⟨rfl,trivial⟩ rfl (by kernel_rfl) (by kernel_rfl)
noncomputable def XD:CalleeS Go.Proofs.Tryz.prog:=mkC Ya Yh [.B] [.I .i64] (fun (t:Bool)=>J1 t) (fun (t:Bool)=>XC t)
def J2 (x0:Int):M (Int):=do
 let Xx3←Xf x0
 let Xx4←J0 Xx3
 let Xx6←ixA (⟨3,0,none⟩:Addr) 20 Xx4 1
 let Xx7←ldI .u64 Xx6
 let Xx8←J1 (decide (x0 ≥ Xx7))
 M.pure (IntKind.wrap .i64 (Xx4+Xx8))
theorem XE (x0:Int):Kn Go.Proofs.Tryz.prog 228 #[.int .u64 x0] (fun (r:Int)=>.int .i64 r) (J2 x0) :=
 KM [KA4,XB,XD] [] [.I .i64] [(0,.I .u64 x0)] .o Go.Proofs.Tryz.func228 rfl rfl ⟨rfl,trivial⟩ rfl (by kernel_rfl) (by kernel_rfl)
noncomputable def XF:CalleeS Go.Proofs.Tryz.prog:=mkC Yd Yj [.I .u64] [.I .i64] (fun (t:Int)=>J2 t) (fun (t:Int)=>XE t)
def JB (C48:Sl) (Xx46:Int) (Xx47:Int):M (Unit):=do
 M.ite (decide (Xx46 > 0)) (do
  let Xx50←ixL C48 0 1
  stV Xx50 (.int .u8 (IntKind.wrap .u8 (IntKind.wrap .u32 (48+Xx47))))
  M.pure ()
  ) (do
  M.pure ()
  )
def JC (C45:Sl) (Xx43:Int) (Xx44:Int):M (Unit):=do
 M.ite (decide (Xx43 ≥ 2)) (do
  let Xx56←ixS (⟨#[48,48,48,49,48,50,48,51,48,52,48,53,48,54,48,55,48,56,48,57,49,48,49,49,49,50,49,51,49,52,49,53,49,54,49,55,49,56,49,57,50,48,50,49,50,50,50,51,50,52,50,53,50,54,50,55,50,56,50,57,51,48,51,49,51,50,51,51,51,52,51,53,51,54,51,55,51,56,51,57,52,48,52,49,52,50,52,51,52,52,52,53,52,54,52,55,52,56,52,57,53,48,53,49,53,50,53,51,53,52,53,53,53,54,53,55,53,56,53,57,54,48,54,49,54,50,54,51,54,52,54,53,54,54,54,55,54,56,54,57,55,48,55,49,55,50,55,51,55,52,55,53,55,54,55,55,55,56,55,57,56,48,56,49,56,50,56,51,56,52,56,53,56,54,56,55,56,56,56,57,57,48,57,49,57,50,57,51,57,52,57,53,57,54,57,55,57,56,57,57]⟩:ByteArray) (IntKind.wrap .u32 ((IntKind.wrap .u32 ((Int.tmod Xx44 100) * 2))+1))
  let Xx57←ixS (⟨#[48,48,48,49,48,50,48,51,48,52,48,53,48,54,48,55,48,56,48,57,49,48,49,49,49,50,49,51,49,52,49,53,49,54,49,55,49,56,49,57,50,48,50,49,50,50,50,51,50,52,50,53,50,54,50,55,50,56,50,57,51,48,51,49,51,50,51,51,51,52,51,53,51,54,51,55,51,56,51,57,52,48,52,49,52,50,52,51,52,52,52,53,52,54,52,55,52,56,52,57,53,48,53,49,53,50,53,51,53,52,53,53,53,54,53,55,53,56,53,57,54,48,54,49,54,50,54,51,54,52,54,53,54,54,54,55,54,56,54,57,55,48,55,49,55,50,55,51,55,52,55,53,55,54,55,55,55,56,55,57,56,48,56,49,56,50,56,51,56,52,56,53,56,54,56,55,56,56,56,57,57,48,57,49,57,50,57,51,57,52,57,53,57,54,57,55,57,56,57,57]⟩:ByteArray) (IntKind.wrap .u32 ((Int.tmod Xx44 100) * 2))
  let Xx58←ixL C45 (IntKind.wrap .i64 (Xx43 - 1)) 1
  stV Xx58 (.int .u8 Xx56)
  let Xx60←ixL C45 (IntKind.wrap .i64 (Xx43 - 2)) 1
  stV Xx60 (.int .u8 Xx57)
  JB C45 (IntKind.wrap .i64 (Xx43 - 2)) (IntKind.wrap .u32 (Int.tdiv Xx44 100))
  ) (do
  JB C45 Xx43 Xx44
  )
def UI (C5:Sl) (self1:(Int × Int)→M (Unit)):(Int × Int)→M (Unit):=fun s=>match s with
 | (Xx3,Xx4)=>do
  M.ite (decide (Xx4 ≥ 8)) (do
   let Xx15←ixS (⟨#[48,48,48,49,48,50,48,51,48,52,48,53,48,54,48,55,48,56,48,57,49,48,49,49,49,50,49,51,49,52,49,53,49,54,49,55,49,56,49,57,50,48,50,49,50,50,50,51,50,52,50,53,50,54,50,55,50,56,50,57,51,48,51,49,51,50,51,51,51,52,51,53,51,54,51,55,51,56,51,57,52,48,52,49,52,50,52,51,52,52,52,53,52,54,52,55,52,56,52,57,53,48,53,49,53,50,53,51,53,52,53,53,53,54,53,55,53,56,53,57,54,48,54,49,54,50,54,51,54,52,54,53,54,54,54,55,54,56,54,57,55,48,55,49,55,50,55,51,55,52,55,53,55,54,55,55,55,56,55,57,56,48,56,49,56,50,56,51,56,52,56,53,56,54,56,55,56,56,56,57,57,48,57,49,57,50,57,51,57,52,57,53,57,54,57,55,57,56,57,57]⟩:ByteArray) (IntKind.wrap .u32 ((IntKind.wrap .u32 ((Int.tmod (Int.tmod (IntKind.wrap .u32 (Int.tmod Xx3 100000000)) 10000) 100) * 2))+1))
   let Xx16←ixS (⟨#[48,48,48,49,48,50,48,51,48,52,48,53,48,54,48,55,48,56,48,57,49,48,49,49,49,50,49,51,49,52,49,53,49,54,49,55,49,56,49,57,50,48,50,49,50,50,50,51,50,52,50,53,50,54,50,55,50,56,50,57,51,48,51,49,51,50,51,51,51,52,51,53,51,54,51,55,51,56,51,57,52,48,52,49,52,50,52,51,52,52,52,53,52,54,52,55,52,56,52,57,53,48,53,49,53,50,53,51,53,52,53,53,53,54,53,55,53,56,53,57,54,48,54,49,54,50,54,51,54,52,54,53,54,54,54,55,54,56,54,57,55,48,55,49,55,50,55,51,55,52,55,53,55,54,55,55,55,56,55,57,56,48,56,49,56,50,56,51,56,52,56,53,56,54,56,55,56,56,56,57,57,48,57,49,57,50,57,51,57,52,57,53,57,54,57,55,57,56,57,57]⟩:ByteArray) (IntKind.wrap .u32 ((Int.tmod (Int.tmod (IntKind.wrap .u32 (Int.tmod Xx3 100000000)) 10000) 100) * 2))
   let Xx17←ixL C5 (IntKind.wrap .i64 (Xx4 - 1)) 1
   stV Xx17 (.int .u8 Xx15)
   let Xx19←ixL C5 (IntKind.wrap .i64 (Xx4 - 2)) 1
   stV Xx19 (.int .u8 Xx16)
   let Xx22←ixS (⟨#[48,48,48,49,48,50,48,51,48,52,48,53,48,54,48,55,48,56,48,57,49,48,49,49,49,50,49,51,49,52,49,53,49,54,49,55,49,56,49,57,50,48,50,49,50,50,50,51,50,52,50,53,50,54,50,55,50,56,50,57,51,48,51,49,51,50,51,51,51,52,51,53,51,54,51,55,51,56,51,57,52,48,52,49,52,50,52,51,52,52,52,53,52,54,52,55,52,56,52,57,53,48,53,49,53,50,53,51,53,52,53,53,53,54,53,55,53,56,53,57,54,48,54,49,54,50,54,51,54,52,54,53,54,54,54,55,54,56,54,57,55,48,55,49,55,50,55,51,55,52,55,53,55,54,55,55,55,56,55,57,56,48,56,49,56,50,56,51,56,52,56,53,56,54,56,55,56,56,56,57,57,48,57,49,57,50,57,51,57,52,57,53,57,54,57,55,57,56,57,57]⟩:ByteArray) (IntKind.wrap .u32 ((IntKind.wrap .u32 ((IntKind.wrap .u32 (Int.tdiv (Int.tmod (IntKind.wrap .u32 (Int.tmod Xx3 100000000)) 10000) 100)) * 2))+1))
   let Xx23←ixS (⟨#[48,48,48,49,48,50,48,51,48,52,48,53,48,54,48,55,48,56,48,57,49,48,49,49,49,50,49,51,49,52,49,53,49,54,49,55,49,56,49,57,50,48,50,49,50,50,50,51,50,52,50,53,50,54,50,55,50,56,50,57,51,48,51,49,51,50,51,51,51,52,51,53,51,54,51,55,51,56,51,57,52,48,52,49,52,50,52,51,52,52,52,53,52,54,52,55,52,56,52,57,53,48,53,49,53,50,53,51,53,52,53,53,53,54,53,55,53,56,53,57,54,48,54,49,54,50,54,51,54,52,54,53,54,54,54,55,54,56,54,57,55,48,55,49,55,50,55,51,55,52,55,53,55,54,55,55,55,56,55,57,56,48,56,49,56,50,56,51,56,52,56,53,56,54,56,55,56,56,56,57,57,48,57,49,57,50,57,51,57,52,57,53,57,54,57,55,57,56,57,57]⟩:ByteArray) (IntKind.wrap .u32 ((IntKind.wrap .u32 (Int.tdiv (Int.tmod (IntKind.wrap .u32 (Int.tmod Xx3 100000000)) 10000) 100)) * 2))
   let Xx24←ixL C5 (IntKind.wrap .i64 (Xx4 - 3)) 1
   stV Xx24 (.int .u8 Xx22)
   let Xx26←ixL C5 (IntKind.wrap .i64 (Xx4 - 4)) 1
   stV Xx26 (.int .u8 Xx23)
   let Xx29←ixS (⟨#[48,48,48,49,48,50,48,51,48,52,48,53,48,54,48,55,48,56,48,57,49,48,49,49,49,50,49,51,49,52,49,53,49,54,49,55,49,56,49,57,50,48,50,49,50,50,50,51,50,52,50,53,50,54,50,55,50,56,50,57,51,48,51,49,51,50,51,51,51,52,51,53,51,54,51,55,51,56,51,57,52,48,52,49,52,50,52,51,52,52,52,53,52,54,52,55,52,56,52,57,53,48,53,49,53,50,53,51,53,52,53,53,53,54,53,55,53,56,53,57,54,48,54,49,54,50,54,51,54,52,54,53,54,54,54,55,54,56,54,57,55,48,55,49,55,50,55,51,55,52,55,53,55,54,55,55,55,56,55,57,56,48,56,49,56,50,56,51,56,52,56,53,56,54,56,55,56,56,56,57,57,48,57,49,57,50,57,51,57,52,57,53,57,54,57,55,57,56,57,57]⟩:ByteArray) (IntKind.wrap .u32 ((IntKind.wrap .u32 ((Int.tmod (IntKind.wrap .u32 (Int.tdiv (IntKind.wrap .u32 (Int.tmod Xx3 100000000)) 10000)) 100) * 2))+1))
   let Xx30←ixS (⟨#[48,48,48,49,48,50,48,51,48,52,48,53,48,54,48,55,48,56,48,57,49,48,49,49,49,50,49,51,49,52,49,53,49,54,49,55,49,56,49,57,50,48,50,49,50,50,50,51,50,52,50,53,50,54,50,55,50,56,50,57,51,48,51,49,51,50,51,51,51,52,51,53,51,54,51,55,51,56,51,57,52,48,52,49,52,50,52,51,52,52,52,53,52,54,52,55,52,56,52,57,53,48,53,49,53,50,53,51,53,52,53,53,53,54,53,55,53,56,53,57,54,48,54,49,54,50,54,51,54,52,54,53,54,54,54,55,54,56,54,57,55,48,55,49,55,50,55,51,55,52,55,53,55,54,55,55,55,56,55,57,56,48,56,49,56,50,56,51,56,52,56,53,56,54,56,55,56,56,56,57,57,48,57,49,57,50,57,51,57,52,57,53,57,54,57,55,57,56,57,57]⟩:ByteArray) (IntKind.wrap .u32 ((Int.tmod (IntKind.wrap .u32 (Int.tdiv (IntKind.wrap .u32 (Int.tmod Xx3 100000000)) 10000)) 100) * 2))
   let Xx31←ixL C5 (IntKind.wrap .i64 (Xx4 - 5)) 1
   stV Xx31 (.int .u8 Xx29)
   let Xx33←ixL C5 (IntKind.wrap .i64 (Xx4 - 6)) 1
   stV Xx33 (.int .u8 Xx30)
   let Xx36←ixS (⟨#[48,48,48,49,48,50,48,51,48,52,48,53,48,54,48,55,48,56,48,57,49,48,49,49,49,50,49,51,49,52,49,53,49,54,49,55,49,56,49,57,50,48,50,49,50,50,50,51,50,52,50,53,50,54,50,55,50,56,50,57,51,48,51,49,51,50,51,51,51,52,51,53,51,54,51,55,51,56,51,57,52,48,52,49,52,50,52,51,52,52,52,53,52,54,52,55,52,56,52,57,53,48,53,49,53,50,53,51,53,52,53,53,53,54,53,55,53,56,53,57,54,48,54,49,54,50,54,51,54,52,54,53,54,54,54,55,54,56,54,57,55,48,55,49,55,50,55,51,55,52,55,53,55,54,55,55,55,56,55,57,56,48,56,49,56,50,56,51,56,52,56,53,56,54,56,55,56,56,56,57,57,48,57,49,57,50,57,51,57,52,57,53,57,54,57,55,57,56,57,57]⟩:ByteArray) (IntKind.wrap .u32 ((IntKind.wrap .u32 ((IntKind.wrap .u32 (Int.tdiv (IntKind.wrap .u32 (Int.tdiv (IntKind.wrap .u32 (Int.tmod Xx3 100000000)) 10000)) 100)) * 2))+1))
   let Xx37←ixS (⟨#[48,48,48,49,48,50,48,51,48,52,48,53,48,54,48,55,48,56,48,57,49,48,49,49,49,50,49,51,49,52,49,53,49,54,49,55,49,56,49,57,50,48,50,49,50,50,50,51,50,52,50,53,50,54,50,55,50,56,50,57,51,48,51,49,51,50,51,51,51,52,51,53,51,54,51,55,51,56,51,57,52,48,52,49,52,50,52,51,52,52,52,53,52,54,52,55,52,56,52,57,53,48,53,49,53,50,53,51,53,52,53,53,53,54,53,55,53,56,53,57,54,48,54,49,54,50,54,51,54,52,54,53,54,54,54,55,54,56,54,57,55,48,55,49,55,50,55,51,55,52,55,53,55,54,55,55,55,56,55,57,56,48,56,49,56,50,56,51,56,52,56,53,56,54,56,55,56,56,56,57,57,48,57,49,57,50,57,51,57,52,57,53,57,54,57,55,57,56,57,57]⟩:ByteArray) (IntKind.wrap .u32 ((IntKind.wrap .u32 (Int.tdiv (IntKind.wrap .u32 (Int.tdiv (IntKind.wrap .u32 (Int.tmod Xx3 100000000)) 10000)) 100)) * 2))
   let Xx38←ixL C5 (IntKind.wrap .i64 (Xx4 - 7)) 1
   stV Xx38 (.int .u8 Xx36)
   let Xx40←ixL C5 (IntKind.wrap .i64 (Xx4 - 8)) 1
   stV Xx40 (.int .u8 Xx37)
   self1 (IntKind.wrap .u64 (Int.tdiv Xx3 100000000),IntKind.wrap .i64 (Xx4 - 8))
   ) (do
   M.ite (decide (Xx4 ≥ 4)) (do
    let Xx67←ixS (⟨#[48,48,48,49,48,50,48,51,48,52,48,53,48,54,48,55,48,56,48,57,49,48,49,49,49,50,49,51,49,52,49,53,49,54,49,55,49,56,49,57,50,48,50,49,50,50,50,51,50,52,50,53,50,54,50,55,50,56,50,57,51,48,51,49,51,50,51,51,51,52,51,53,51,54,51,55,51,56,51,57,52,48,52,49,52,50,52,51,52,52,52,53,52,54,52,55,52,56,52,57,53,48,53,49,53,50,53,51,53,52,53,53,53,54,53,55,53,56,53,57,54,48,54,49,54,50,54,51,54,52,54,53,54,54,54,55,54,56,54,57,55,48,55,49,55,50,55,51,55,52,55,53,55,54,55,55,55,56,55,57,56,48,56,49,56,50,56,51,56,52,56,53,56,54,56,55,56,56,56,57,57,48,57,49,57,50,57,51,57,52,57,53,57,54,57,55,57,56,57,57]⟩:ByteArray) (IntKind.wrap .u32 ((IntKind.wrap .u32 ((Int.tmod (Int.tmod (IntKind.wrap .u32 Xx3) 10000) 100) * 2))+1))
    let Xx68←ixS (⟨#[48,48,48,49,48,50,48,51,48,52,48,53,48,54,48,55,48,56,48,57,49,48,49,49,49,50,49,51,49,52,49,53,49,54,49,55,49,56,49,57,50,48,50,49,50,50,50,51,50,52,50,53,50,54,50,55,50,56,50,57,51,48,51,49,51,50,51,51,51,52,51,53,51,54,51,55,51,56,51,57,52,48,52,49,52,50,52,51,52,52,52,53,52,54,52,55,52,56,52,57,53,48,53,49,53,50,53,51,53,52,53,53,53,54,53,55,53,56,53,57,54,48,54,49,54,50,54,51,54,52,54,53,54,54,54,55,54,56,54,57,55,48,55,49,55,50,55,51,55,52,55,53,55,54,55,55,55,56,55,57,56,48,56,49,56,50,56,51,56,52,56,53,56,54,56,55,56,56,56,57,57,48,57,49,57,50,57,51,57,52,57,53,57,54,57,55,57,56,57,57]⟩:ByteArray) (IntKind.wrap .u32 ((Int.tmod (Int.tmod (IntKind.wrap .u32 Xx3) 10000) 100) * 2))
    let Xx69←ixL C5 (IntKind.wrap .i64 (Xx4 - 1)) 1
    stV Xx69 (.int .u8 Xx67)
    let Xx71←ixL C5 (IntKind.wrap .i64 (Xx4 - 2)) 1
    stV Xx71 (.int .u8 Xx68)
    let Xx74←ixS (⟨#[48,48,48,49,48,50,48,51,48,52,48,53,48,54,48,55,48,56,48,57,49,48,49,49,49,50,49,51,49,52,49,53,49,54,49,55,49,56,49,57,50,48,50,49,50,50,50,51,50,52,50,53,50,54,50,55,50,56,50,57,51,48,51,49,51,50,51,51,51,52,51,53,51,54,51,55,51,56,51,57,52,48,52,49,52,50,52,51,52,52,52,53,52,54,52,55,52,56,52,57,53,48,53,49,53,50,53,51,53,52,53,53,53,54,53,55,53,56,53,57,54,48,54,49,54,50,54,51,54,52,54,53,54,54,54,55,54,56,54,57,55,48,55,49,55,50,55,51,55,52,55,53,55,54,55,55,55,56,55,57,56,48,56,49,56,50,56,51,56,52,56,53,56,54,56,55,56,56,56,57,57,48,57,49,57,50,57,51,57,52,57,53,57,54,57,55,57,56,57,57]⟩:ByteArray) (IntKind.wrap .u32 ((IntKind.wrap .u32 ((IntKind.wrap .u32 (Int.tdiv (Int.tmod (IntKind.wrap .u32 Xx3) 10000) 100)) * 2))+1))
    let Xx75←ixS (⟨#[48,48,48,49,48,50,48,51,48,52,48,53,48,54,48,55,48,56,48,57,49,48,49,49,49,50,49,51,49,52,49,53,49,54,49,55,49,56,49,57,50,48,50,49,50,50,50,51,50,52,50,53,50,54,50,55,50,56,50,57,51,48,51,49,51,50,51,51,51,52,51,53,51,54,51,55,51,56,51,57,52,48,52,49,52,50,52,51,52,52,52,53,52,54,52,55,52,56,52,57,53,48,53,49,53,50,53,51,53,52,53,53,53,54,53,55,53,56,53,57,54,48,54,49,54,50,54,51,54,52,54,53,54,54,54,55,54,56,54,57,55,48,55,49,55,50,55,51,55,52,55,53,55,54,55,55,55,56,55,57,56,48,56,49,56,50,56,51,56,52,56,53,56,54,56,55,56,56,56,57,57,48,57,49,57,50,57,51,57,52,57,53,57,54,57,55,57,56,57,57]⟩:ByteArray) (IntKind.wrap .u32 ((IntKind.wrap .u32 (Int.tdiv (Int.tmod (IntKind.wrap .u32 Xx3) 10000) 100)) * 2))
    let Xx76←ixL C5 (IntKind.wrap .i64 (Xx4 - 3)) 1
    stV Xx76 (.int .u8 Xx74)
    let Xx78←ixL C5 (IntKind.wrap .i64 (Xx4 - 4)) 1
    stV Xx78 (.int .u8 Xx75)
    JC C5 (IntKind.wrap .i64 (Xx4 - 4)) (IntKind.wrap .u32 (Int.tdiv (IntKind.wrap .u32 Xx3) 10000))
    ) (do
    JC C5 Xx4 (IntKind.wrap .u32 Xx3)
    )
   )
def Je (x0:Sl) (x1:Int):M (Unit):=do
 M.loop (UI x0) (x1,(x0.len:Int))
theorem Wz (x0:Sl) (x1:Int):Kn Go.Proofs.Tryz.prog 229 #[(x0:Sl).v,.int .u64 x1] (fun (r:Unit)=>.tuple #[]) (Je x0 x1) :=
 KM [] [] [] [(0,.L x0),(1,.I .u64 x1)] (.q .o (.q (.b (.l [(0,.L)] [(1,.I .u64),(4,.I .i64)] (fun (t:Sl)=>UI t) (fun _=>.q .o (.b (.q .o (.q .o (.q .o (.q .o (.q .o (.q (.r [0,0,2,0,0,16,0,64,128,0,512,455,2503,8191,16383] [0,0,2,0,0,16,0,64,128,0,512,5,2304,40,9216] [0,0,2,0,0,16,0,64,192,0,512,455,2503,8191,16383] (.pu 0 (.pu 1 (.pu 2 (.pu 3 (.pu 4 (.pu 5 (.pu 6 (.pu 7 (.pu 8 (.pu 9 (.pu 10 (.pu 11 (.st [0,1,2,3,4,5,6,7,8,9,10,11,12,13,14] (.on 12 (.pu 13 (.nx (.on 14 .dn)))))))))))))))))) (.q (.r [0,0,2,0,0,16,0,64,128,0,512,455,2503,8191,16383] [0,0,2,0,0,16,0,64,128,0,512,5,2304,40,9216] [0,0,2,0,0,16,0,64,192,0,512,455,2503,8191,16383] (.pu 0 (.pu 1 (.pu 2 (.pu 3 (.pu 4 (.pu 5 (.pu 6 (.pu 7 (.pu 8 (.pu 9 (.pu 10 (.pu 11 (.st [0,1,2,3,4,5,6,7,8,9,10,11,12,13,14] (.on 12 (.pu 13 (.nx (.on 14 .dn)))))))))))))))))) (.q (.r [0,0,2,0,0,16,0,64,128,0,512,455,2503,8191,16383] [0,0,2,0,0,16,0,64,128,0,512,5,2304,40,9216] [0,0,2,0,0,16,0,64,192,0,512,455,2503,8191,16383] (.pu 0 (.pu 1 (.pu 2 (.pu 3 (.pu 4 (.pu 5 (.pu 6 (.pu 7 (.pu 8 (.pu 9 (.pu 10 (.pu 11 (.st [0,1,2,3,4,5,6,7,8,9,10,11,12,13,14] (.on 12 (.pu 13 (.nx (.on 14 .dn)))))))))))))))))) (.q (.r [0,0,2,0,0,16,0,64,128,0,512,455,2503,8191,16383] [0,0,2,0,0,16,0,64,128,0,512,5,2304,40,9216] [0,0,2,0,0,16,0,64,192,0,512,455,2503,8191,16383] (.pu 0 (.pu 1 (.pu 2 (.pu 3 (.pu 4 (.pu 5 (.pu 6 (.pu 7 (.pu 8 (.pu 9 (.pu 10 (.pu 11 (.st [0,1,2,3,4,5,6,7,8,9,10,11,12,13,14] (.on 12 (.pu 13 (.nx (.on 14 .dn)))))))))))))))))) .o))))))))))))) (.q .o (.q (.q .o (.q (.q .o (.q .o (.q .o (.q (.r [0,0,2,0,0,16,0,64,128,0,512,455,2503,8191,16383] [0,0,2,0,0,16,0,64,128,0,512,5,2304,40,9216] [0,0,2,0,0,16,0,64,192,0,512,455,2503,8191,16383] (.pu 0 (.pu 1 (.pu 2 (.pu 3 (.pu 4 (.pu 5 (.pu 6 (.pu 7 (.pu 8 (.pu 9 (.pu 10 (.pu 11 (.st [0,1,2,3,4,5,6,7,8,9,10,11,12,13,14] (.on 12 (.pu 13 (.nx (.on 14 .dn)))))))))))))))))) (.q (.r [0,0,2,0,0,16,0,64,128,0,512,455,2503,8191,16383] [0,0,2,0,0,16,0,64,128,0,512,5,2304,40,9216] [0,0,2,0,0,16,0,64,192,0,512,455,2503,8191,16383] (.pu 0 (.pu 1 (.pu 2 (.pu 3 (.pu 4 (.pu 5 (.pu 6 (.pu 7 (.pu 8 (.pu 9 (.pu 10 (.pu 11 (.st [0,1,2,3,4,5,6,7,8,9,10,11,12,13,14] (.on 12 (.pu 13 (.nx (.on 14 .dn)))))))))))))))))) .o))))) .o)) (.j [(0,.L),(4,.I .i64),(12,.I .u32)] (fun (t:Sl × Int × Int)=>JC t.1 t.2.1 t.2.2) (.q (.q .o (.q (.q .o (.q .o (.q (.r [0,0,2,0,0,16,0,64,128,0,512,455,2503,8191,16383] [0,0,2,0,0,16,0,64,128,0,512,5,2304,40,9216] [0,0,2,0,0,16,0,64,192,0,512,455,2503,8191,16383] (.pu 0 (.pu 1 (.pu 2 (.pu 3 (.pu 4 (.pu 5 (.pu 6 (.pu 7 (.pu 8 (.pu 9 (.pu 10 (.pu 11 (.st [0,1,2,3,4,5,6,7,8,9,10,11,12,13,14] (.on 12 (.pu 13 (.nx (.on 14 .dn)))))))))))))))))) .o))) .o)) (.j [(0,.L),(4,.I .i64),(12,.I .u32)] (fun (t:Sl × Int × Int)=>JB t.1 t.2.1 t.2.2) .o))))))) Go.Proofs.Tryz.func229 rfl rfl ⟨rfl,rfl,trivial⟩ rfl (by kernel_rfl) (by kernel_rfl)
noncomputable def W8:CalleeS Go.Proofs.Tryz.prog:=mkC Wa Wc [.L,.I .u64] [] (fun (t:Sl × Int)=>Je t.1 t.2) (fun (t:Sl × Int)=>Wz t.1 t.2)
def Zq (x0:Int):M (Bool):=do
 M.pure ((iAnd .i64 x0 (IntKind.wrap .i64 (x0 - 1))) == 0)
theorem W9 (x0:Int):Kn Go.Proofs.Tryz.prog 249 #[.int .i64 x0] (fun (r:Bool)=>.bool r) (Zq x0) :=
 KM [] [] [.B] [(0,.I .i64 x0)] .o Go.Proofs.Tryz.func249 rfl rfl ⟨rfl,trivial⟩ rfl (by kernel_rfl) (by kernel_rfl)
noncomputable def YA:CalleeS Go.Proofs.Tryz.prog:=mkC Wb Wd [.I .i64] [.B] (fun (t:Int)=>Zq t) (fun (t:Int)=>W9 t)
def JR (x0:Int):M (Int):=do
 M.ite (x0 == 0) (do
  M.pure 64
  ) (do
  let Xx6←ixA (⟨7,0,none⟩:Addr) 64 (iShr .u64 (IntKind.wrap .u64 ((iAnd .u64 x0 (IntKind.wrap .u64 (0 - x0))) * 285870213051353865)) 58) 1
  let Xx7←ldI .u8 Xx6
  M.pure (IntKind.wrap .i64 Xx7)
  )
theorem Xg (x0:Int):Kn Go.Proofs.Tryz.prog 259 #[.int .u64 x0] (fun (r:Int)=>.int .i64 r) (JR x0) :=
 KM [] [] [.I .i64] [(0,.I .u64 x0)] .o Go.Proofs.Tryz.func259 rfl rfl ⟨rfl,trivial⟩ rfl (by kernel_rfl) (by kernel_rfl)
noncomputable def Xh:CalleeS Go.Proofs.Tryz.prog:=mkC Yz Y5 [.I .u64] [.I .i64] (fun (t:Int)=>JR t) (fun (t:Int)=>Xg t)
def Jl (x0:Int):M (Int):=do
 let Xx4←JR x0
 M.pure Xx4
theorem GE (x0:Int):Kn Go.Proofs.Tryz.prog 250 #[.int .u64 x0] (fun (r:Int)=>.int .i64 r) (Jl x0) :=
 KM [Xh] [] [.I .i64] [(0,.I .u64 x0)] .o Go.Proofs.Tryz.func250 rfl rfl ⟨rfl,trivial⟩ rfl (by kernel_rfl) (by kernel_rfl)
noncomputable def GF:CalleeS Go.Proofs.Tryz.prog:=mkC Xm Xn [.I .u64] [.I .i64] (fun (t:Int)=>Jl t) (fun (t:Int)=>GE t)
def Zh (C26:Sl) (C27:Bool) (C28:Sl) (C29:ByteArray) (C30:Addr) (Xx25:Int):M (Sl × ByteArray):=do
 M.ite C27 (do
  let Xx34←slA C30 65 Xx25 65 1
  let Xx35←apL K9 1 1 (#[.int .u8 0]:Array Value) C26 Xx34
  M.pure (Xx35,C29)
  ) (do
  let Xx37←slA C30 65 Xx25 65 1
  let Xx38←b2s Xx37
  M.pure (C28,Xx38)
  )
def Zi (C19:Sl) (C20:Bool) (C21:Bool) (C22:Sl) (C23:ByteArray) (C24:Addr) (Xx18:Int):M (Sl × ByteArray):=do
 M.ite C20 (do
  let Xx41←ixA C24 65 (IntKind.wrap .i64 (Xx18 - 1)) 1
  stV Xx41 (.int .u8 45)
  Zh C19 C21 C22 C23 C24 (IntKind.wrap .i64 (Xx18 - 1))
  ) (do
  Zh C19 C21 C22 C23 C24 Xx18
  )
def JV (C52:Sl) (C53:Bool) (C54:Bool) (C55:Sl) (C56:ByteArray) (C57:Addr) (C58:Int) (C59:Int) (C60:Int) (self1:(Int × Int)→M (Sl × ByteArray)):(Int × Int)→M (Sl × ByteArray):=fun s=>match s with
 | (Xx50,Xx51)=>do
  M.ite (decide (Xx50 ≥ C59)) (do
   let Xx66←ixS (⟨#[48,49,50,51,52,53,54,55,56,57,97,98,99,100,101,102,103,104,105,106,107,108,109,110,111,112,113,114,115,116,117,118,119,120,121,122]⟩:ByteArray) (iAnd .u64 Xx50 C60)
   let Xx67←ixA C57 65 (IntKind.wrap .i64 (Xx51 - 1)) 1
   stV Xx67 (.int .u8 Xx66)
   let Xx69←pShr .u64 Xx50 C58
   self1 (Xx69,IntKind.wrap .i64 (Xx51 - 1))
   ) (do
   let Xx71←ixS (⟨#[48,49,50,51,52,53,54,55,56,57,97,98,99,100,101,102,103,104,105,106,107,108,109,110,111,112,113,114,115,116,117,118,119,120,121,122]⟩:ByteArray) Xx50
   let Xx72←ixA C57 65 (IntKind.wrap .i64 (Xx51 - 1)) 1
   stV Xx72 (.int .u8 Xx71)
   Zi C52 C53 C54 C55 C56 C57 (IntKind.wrap .i64 (Xx51 - 1))
   )
def UZ (C78:Sl) (C79:Bool) (C80:Bool) (C81:Sl) (C82:ByteArray) (C83:Addr) (C84:Int) (self2:(Int × Int)→M (Sl × ByteArray)):(Int × Int)→M (Sl × ByteArray):=fun s=>match s with
 | (Xx76,Xx77)=>do
  M.ite (decide (Xx76 ≥ C84)) (do
   let Xx90←pQuo .u64 Xx76 C84
   let Xx92←ixS (⟨#[48,49,50,51,52,53,54,55,56,57,97,98,99,100,101,102,103,104,105,106,107,108,109,110,111,112,113,114,115,116,117,118,119,120,121,122]⟩:ByteArray) (IntKind.wrap .u64 (Xx76 - (IntKind.wrap .u64 (Xx90 * C84))))
   let Xx93←ixA C83 65 (IntKind.wrap .i64 (Xx77 - 1)) 1
   stV Xx93 (.int .u8 Xx92)
   self2 (Xx90,IntKind.wrap .i64 (Xx77 - 1))
   ) (do
   let Xx96←ixS (⟨#[48,49,50,51,52,53,54,55,56,57,97,98,99,100,101,102,103,104,105,106,107,108,109,110,111,112,113,114,115,116,117,118,119,120,121,122]⟩:ByteArray) Xx76
   let Xx97←ixA C83 65 (IntKind.wrap .i64 (Xx77 - 1)) 1
   stV Xx97 (.int .u8 Xx96)
   Zi C78 C79 C80 C81 C82 C83 (IntKind.wrap .i64 (Xx77 - 1))
   )
def Zj (C10:Sl) (C11:Int) (C12:Bool) (C13:Bool) (C14:Sl) (C15:ByteArray) (C16:Addr) (C17:Int) (Xx9:Int):M (Sl × ByteArray):=do
 let Xx44←Zq C11
 M.ite Xx44 (do
  let Xx46←Jl (IntKind.wrap .u64 C11)
  M.loop (JV C10 C12 C13 C14 C15 C16 (IntKind.wrap .u64 Xx46) (IntKind.wrap .u64 C11) (IntKind.wrap .u64 ((IntKind.wrap .u64 C11) - 1))) (Xx9,C17)
  ) (do
  M.loop (UZ C10 C12 C13 C14 C15 C16 (IntKind.wrap .u64 C11)) (Xx9,C17)
  )
def Z6 (x0:Sl) (x1:Int) (x2:Int) (x3:Bool) (x4:Bool):M (Sl × ByteArray):=do
 let Xx4←M.ite (decide (x2 < 2)) (do
  M.pure true
  ) (do
  M.pure (x2 == 10)
  )
 let Xx5←M.ite Xx4 (do
  M.pure true
  ) (do
  M.pure (decide (x2 > 36))
  )
 M.ite Xx5 (do
  M.fail
  ) (do
  let Xx7←mkB Wo (Array.replicate 65 (.int .u8 0):Array Value)
  M.ite x3 (do
   Zj x0 x2 x3 x4 Sl.nil ByteArray.empty Xx7 65 (IntKind.wrap .u64 (0 - x1))
   ) (do
   Zj x0 x2 x3 x4 Sl.nil ByteArray.empty Xx7 65 x1
   )
  )
theorem Yo (x0:Sl) (x1:Int) (x2:Int) (x3:Bool) (x4:Bool):Kn Go.Proofs.Tryz.prog 230 #[(x0:Sl).v,.int .u64 x1,.int .i64 x2,.bool x3,.bool x4] (fun (r:Sl × ByteArray)=>.tuple #[(r.1:Sl).v,.string r.2]) (Z6 x0 x1 x2 x3 x4) :=
 KM [YA,GF] [] [.L,.S] [(0,.L x0),(1,.I .u64 x1),(2,.I .i64 x2),(3,.B x3),(4,.B x4)] (.q .o (.q .o (.q .o (.q .o (.q .o (.j [(0,.L),(2,.I .i64),(3,.B),(4,.B),(10,.L),(11,.S),(12,.A),(13,.I .i64),(1,.I .u64)] (fun (t:Sl × Int × Bool × Bool × Sl × ByteArray × Addr × Int × Int)=>Zj t.1 t.2.1 t.2.2.1 t.2.2.2.1 t.2.2.2.2.1 t.2.2.2.2.2.1 t.2.2.2.2.2.2.1 t.2.2.2.2.2.2.2.1 t.2.2.2.2.2.2.2.2) (.q (.q .o (.q (.q .o (.q .o (.q .o (.q (.b (.l [(0,.L),(3,.B),(4,.B),(10,.L),(11,.S),(12,.A),(14,.I .u64),(15,.I .u64),(16,.I .u64)] [(1,.I .u64),(13,.I .i64)] (fun (t:Sl × Bool × Bool × Sl × ByteArray × Addr × Int × Int × Int)=>JV t.1 t.2.1 t.2.2.1 t.2.2.2.1 t.2.2.2.2.1 t.2.2.2.2.2.1 t.2.2.2.2.2.2.1 t.2.2.2.2.2.2.2.1 t.2.2.2.2.2.2.2.2) (fun _=>.o))) .o)))) (.q .o (.q (.b (.l [(0,.L),(3,.B),(4,.B),(10,.L),(11,.S),(12,.A),(17,.I .u64)] [(1,.I .u64),(13,.I .i64)] (fun (t:Sl × Bool × Bool × Sl × ByteArray × Addr × Int)=>UZ t.1 t.2.1 t.2.2.1 t.2.2.2.1 t.2.2.2.2.1 t.2.2.2.2.2.1 t.2.2.2.2.2.2) (fun _=>.o))) .o)))) (.j [(0,.L),(3,.B),(4,.B),(10,.L),(11,.S),(12,.A),(13,.I .i64)] (fun (t:Sl × Bool × Bool × Sl × ByteArray × Addr × Int)=>Zi t.1 t.2.1 t.2.2.1 t.2.2.2.1 t.2.2.2.2.1 t.2.2.2.2.2.1 t.2.2.2.2.2.2) (.q .o (.j [(0,.L),(4,.B),(10,.L),(11,.S),(12,.A),(13,.I .i64)] (fun (t:Sl × Bool × Sl × ByteArray × Addr × Int)=>Zh t.1 t.2.1 t.2.2.1 t.2.2.2.1 t.2.2.2.2.1 t.2.2.2.2.2) .o)))))))))) Go.Proofs.Tryz.func230 rfl rfl ⟨rfl,rfl,rfl,rfl,rfl,trivial⟩ rfl (by kernel_rfl) (by kernel_rfl)
noncomputable def Yp:CalleeS Go.Proofs.Tryz.prog:=mkC YJ YM [.L,.I .u64,.I .i64,.B,.B] [.L,.S] (fun (t:Sl × Int × Int × Bool × Bool)=>Z6 t.1 t.2.1 t.2.2.1 t.2.2.2.1 t.2.2.2.2) (fun (t:Sl × Int × Int × Bool × Bool)=>Yo t.1 t.2.1 t.2.2.1 t.2.2.2.1 t.2.2.2.2)
end Gx
namespace Gx
open Go
set_option linter.unusedVariables false
set_option maxRecDepth 100000
def Jf (C13:Int) (C14:Addr) (Xx12:Int):M (ByteArray):=do
 let Xx16←J2 Xx12
 let Xx18←slA C14 24 1 (IntKind.wrap .i64 (1+Xx16)) 1
 let Xx19←Je Xx18 Xx12
 M.ite (decide (C13 < 0)) (do
  let Xx23←ixA C14 24 0 1
  stV Xx23 (.int .u8 45)
  let Xx26←slA C14 24 0 (IntKind.wrap .i64 (1+Xx16)) 1
  let Xx27←b2s Xx26
  M.pure Xx27
  ) (do
  let Xx29←slA C14 24 1 (IntKind.wrap .i64 (1+Xx16)) 1
  let Xx30←b2s Xx29
  M.pure Xx30
  )
def J3 (x0:Int) (x1:Int):M (ByteArray):=do
 M.ite (x1 == 10) (do
  let Xx6←M.ite (decide (0≤x0)) (do
   M.pure (decide (x0 < 100))
   ) (do
   M.pure false
   )
  M.ite Xx6 (do
   let Xx8←U1 x0
   M.pure Xx8
   ) (do
   let Xx10←mkB KGL (Array.replicate 24 (.int .u8 0):Array Value)
   M.ite (decide (x0 < 0)) (do
    Jf x0 Xx10 (IntKind.wrap .u64 (0 - (IntKind.wrap .u64 x0)))
    ) (do
    Jf x0 Xx10 (IntKind.wrap .u64 x0)
    )
   )
  ) (do
  let Xx33←Z6 Sl.nil (IntKind.wrap .u64 x0) x1 (decide (x0 < 0)) false
  M.pure Xx33.2
  )
theorem XG (x0:Int) (x1:Int):Kn Go.Proofs.Tryz.prog 198 #[.int .i64 x0,.int .i64 x1] (fun (r:ByteArray)=>.string r) (J3 x0 x1) :=
 KM [GV,XF,W8,Yp] [] [.S] [(0,.I .i64 x0),(1,.I .i64 x1)] (.q .o (.q (.q .o (.q (.q .o (.q .o (.q .o (.q .o (.j [(0,.I .i64),(5,.A),(6,.I .u64)] (fun (t:Int × Addr × Int)=>Jf t.1 t.2.1 t.2.2) .o))))) .o)) .o)) Go.Proofs.Tryz.func198 rfl rfl ⟨rfl,rfl,trivial⟩ rfl (by kernel_rfl) (by kernel_rfl)
end Gx
namespace Gx
open Go Go.Proofs Go.Shelf Go.Sort Go.RowKit
set_option maxRecDepth 100000
def KCP:Go.Shelf.Ren:=⟨fun | 6=>120 | 14=>166 | 15=>167 | 20=>208 | 21=>209 | 22=>210 | 23=>211 | 24=>212 | 25=>213 | 26=>214 | 27=>215 | 28=>216 | 29=>217 | 46=>237 | 47=>238 | 48=>239 | 49=>240 | 50=>241 | 57=>257 | n=>n,fun | 0=>0 | 3=>3 | 4=>4 | 5=>5 | 9=>9 | 22=>22 | 24=>24 | 25=>25 | 39=>184 | 45=>208 | 46=>209 | 50=>176 | 53=>215 | 55=>154 | 66=>231 | 70=>235 | 76=>252 | 77=>253 | n=>n,fun | n=>n⟩
theorem KCQ:Go.Proofs.SlLaysF0.n6 Tryz.prog KCP where
 mixed:=by kernel_rfl
 f6:=⟨"slices.SortFunc[[]ramble/api.Value,ramble/api.Value]",by decide,Tryz.func120.trans (congrArg some (by kernel_rfl))⟩
 f14:=⟨"slices.pdqsortCmpFunc[ramble/api.Value]",by decide,Tryz.func166.trans (congrArg some (by kernel_rfl))⟩
 f15:=Tryz.func167.trans (congrArg some (by kernel_rfl))
 f20:=⟨"slices.insertionSortCmpFunc[ramble/api.Value]",by decide,Tryz.func208.trans (congrArg some (by kernel_rfl))⟩
 f21:=⟨"slices.heapSortCmpFunc[ramble/api.Value]",by decide,Tryz.func209.trans (congrArg some (by kernel_rfl))⟩
 f22:=⟨"slices.breakPatternsCmpFunc[ramble/api.Value]",by decide,Tryz.func210.trans (congrArg some (by kernel_rfl))⟩
 f23:=⟨"slices.choosePivotCmpFunc[ramble/api.Value]",by decide,Tryz.func211.trans (congrArg some (by kernel_rfl))⟩
 f24:=⟨"slices.reverseRangeCmpFunc[ramble/api.Value]",by decide,Tryz.func212.trans (congrArg some (by kernel_rfl))⟩
 f25:=⟨"slices.partialInsertionSortCmpFunc[ramble/api.Value]",by decide,Tryz.func213.trans (congrArg some (by kernel_rfl))⟩
 f26:=⟨"slices.partitionEqualCmpFunc[ramble/api.Value]",by decide,Tryz.func214.trans (congrArg some (by kernel_rfl))⟩
 f27:=⟨"slices.partitionCmpFunc[ramble/api.Value]",by decide,Tryz.func215.trans (congrArg some (by kernel_rfl))⟩
 f28:=Tryz.func216.trans (congrArg some (by kernel_rfl))
 f29:=Tryz.func217.trans (congrArg some (by kernel_rfl))
 f46:=⟨"slices.siftDownCmpFunc[ramble/api.Value]",by decide,Tryz.func237.trans (congrArg some (by kernel_rfl))⟩
 f47:=Tryz.func238.trans (congrArg some (by kernel_rfl))
 f48:=Tryz.func239.trans (congrArg some (by kernel_rfl))
 f49:=⟨"slices.medianAdjacentCmpFunc[ramble/api.Value]",by decide,Tryz.func240.trans (congrArg some (by kernel_rfl))⟩
 f50:=⟨"slices.medianCmpFunc[ramble/api.Value]",by decide,Tryz.func241.trans (congrArg some (by kernel_rfl))⟩
 f57:=⟨"slices.order2CmpFunc[ramble/api.Value]",by decide,Tryz.func257.trans (congrArg some (by kernel_rfl))⟩
 t0:=Tryz.underlying0
 a0:=Tryz.isAgg0
 z0:=Tryz.sizeOf0
 v0:=Tryz.zeroValue0
 t3:=Tryz.underlying3
 a3:=Tryz.isAgg3
 z3:=Tryz.sizeOf3
 v3:=Tryz.zeroValue3
 t4:=Tryz.underlying4
 a4:=Tryz.isAgg4
 z4:=Tryz.sizeOf4
 v4:=Tryz.zeroValue4
 t5:=Tryz.underlying5
 a5:=Tryz.isAgg5
 z5:=Tryz.sizeOf5
 v5:=Tryz.zeroValue5
 t9:=Tryz.underlying9
 a9:=Tryz.isAgg9
 z9:=Tryz.sizeOf9
 v9:=Tryz.zeroValue9
 t22:=Tryz.underlying22
 a22:=Tryz.isAgg22
 z22:=Tryz.sizeOf22
 v22:=Tryz.zeroValue22
 t25:=Tryz.underlying25
 a25:=Tryz.isAgg25
 z25:=Tryz.sizeOf25
 v25:=Tryz.zeroValue25
 t39:=Tryz.underlying184
 a39:=Tryz.isAgg184
 z39:=Tryz.sizeOf184
 v39:=Tryz.zeroValue184
 t45:=Tryz.underlying208
 a45:=Tryz.isAgg208
 z45:=Tryz.sizeOf208
 v45:=Tryz.zeroValue208
 t46:=Tryz.underlying209
 a46:=Tryz.isAgg209
 z46:=Tryz.sizeOf209
 v46:=Tryz.zeroValue209
 t50:=Tryz.underlying176
 a50:=Tryz.isAgg176
 z50:=Tryz.sizeOf176
 v50:=Tryz.zeroValue176
 t53:=Tryz.underlying215
 a53:=Tryz.isAgg215
 z53:=Tryz.sizeOf215
 v53:=Tryz.zeroValue215
 t55:=Tryz.underlying154
 a55:=Tryz.isAgg154
 z55:=Tryz.sizeOf154
 v55:=Tryz.zeroValue154
 t66:=Tryz.underlying231
 a66:=Tryz.isAgg231
 z66:=Tryz.sizeOf231
 v66:=Tryz.zeroValue231
 t70:=Tryz.underlying235
 a70:=Tryz.isAgg235
 z70:=Tryz.sizeOf235
 v70:=Tryz.zeroValue235
 t76:=Tryz.underlying252
 a76:=Tryz.isAgg252
 z76:=Tryz.sizeOf252
 v76:=Tryz.zeroValue252
 t77:=Tryz.underlying253
 a77:=Tryz.isAgg253
 z77:=Tryz.sizeOf253
 v77:=Tryz.zeroValue253
end Gx
