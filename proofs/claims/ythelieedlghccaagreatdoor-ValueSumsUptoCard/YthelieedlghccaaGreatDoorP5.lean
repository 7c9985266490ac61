/- Printed by program: Go functions as Lean programs, each tied to its code. No condition. -/
import Derived.Test.YthelieedlghccaaGreatDoorP0
import Derived.Test.YthelieedlghccaaGreatDoorP1
import Derived.Test.YthelieedlghccaaGreatDoorP2
import Derived.Test.YthelieedlghccaaGreatDoorP3
import Derived.Test.YthelieedlghccaaGreatDoorP4
set_option linter.unusedVariables false
set_option linter.unusedSimpArgs false
namespace Gx
open Go
set_option linter.unusedVariables false
set_option maxRecDepth 100000
def JN (self1:(Sl)→M (Value ⊕ (Sl))) (C29:Option Addr) (C31:Int) (Xx28:Sl):M (Value ⊕ (Sl)):=do
 let Xx34←Ki C29
 let Xx36←M.ite (Xx34 != C31) (do
  M.pure (Xx34 != 44)
  ) (do
  M.pure false
  )
 M.ite Xx36 (do
  thr (Kv C29) fun Xx37=>do
   self1 Xx28
  ) (do
  self1 Xx28
  )
def JO (self1:(Sl)→M (Value ⊕ (Sl))) (C18:Option Addr) (C19:Int) (C20:Int) (C21:Int) (C22:Sl):M (Value ⊕ (Sl)):=do
 thr (KBG Go.Proofs.Tryz.prog VJ #[.pointer C18,.int .i64 (IntKind.wrap .i64 (C19+1))] (fun r:Array Value=>.agg r)) fun Xx24=>do
  let y_26←KDn 4 1 (#[.int .i64 0,.int .i64 0,.string ByteArray.empty,.slice none 0 0]:Array Value) [(0,.agg Xx24)]
  let Xx25←bdL KB 1 y_26
  let Xx27←apL KB 4 56 (#[.int .i64 0,.int .i64 0,.string ByteArray.empty,.slice none 0 0]:Array Value) C22 Xx25
  M.ite (C21 == 2) (do
   thr (ZH C18 (⟨#[58,32]⟩:ByteArray)) fun Xx40=>do
    thr (KBG Go.Proofs.Tryz.prog VJ #[.pointer C18,.int .i64 (IntKind.wrap .i64 (C19+1))] (fun r:Array Value=>.agg r)) fun Xx41=>do
     let y_43←KDn 4 1 (#[.int .i64 0,.int .i64 0,.string ByteArray.empty,.slice none 0 0]:Array Value) [(0,.agg Xx41)]
     let Xx42←bdL KB 1 y_43
     let Xx44←apL KB 4 56 (#[.int .i64 0,.int .i64 0,.string ByteArray.empty,.slice none 0 0]:Array Value) Xx27 Xx42
     JN self1 C18 C20 Xx44
   ) (do
   JN self1 C18 C20 Xx27
   )
def Ua (C10:Option Addr) (C11:Int) (C12:Int) (C13:Int) (self1:(Sl)→M (Value ⊕ (Sl))):(Sl)→M (Value ⊕ (Sl)):=fun s=>match s with
 | Xx9=>do
  let Xx17←Ki C10
  M.ite (Xx17 != C12) (do
   M.ite (decide ((Xx9.len:Int) > 0)) (do
    thr (ZH C10 (⟨#[44,32]⟩:ByteArray)) fun Xx46=>do
     JO self1 C10 C11 C12 C13 Xx9
    ) (do
    JO self1 C10 C11 C12 C13 Xx9
    )
   ) (do
   let Xx48←nilP C10
   let Xx49←ldI .i64 ((Xx48).add 1)
   let Xx50←nilP C10
   stV ((Xx50).add 1) (.int .i64 (IntKind.wrap .i64 (Xx49+1)))
   M.pure (.inr Xx9)
   )
def Vf (x0:Option Addr) (x1:Int) (x2:Int) (x3:Int):M (Value ⊕ (Sl)):=do
 let Xx3←nilP x0
 let Xx4←ldI .i64 ((Xx3).add 1)
 let Xx5←nilP x0
 stV ((Xx5).add 1) (.int .i64 (IntKind.wrap .i64 (Xx4+1)))
 M.loop (Ua x0 x1 x2 x3) Sl.nil
theorem Xo (x0:Option Addr) (x1:Int) (x2:Int) (x3:Int):GI Go.Proofs.Tryz.prog 176 #[.pointer x0,.int .i64 x1,.int .u8 x2,.int .i64 x3] (fun (r:Sl)=>(r:Sl).v) (Vf x0 x1 x2 x3):=by
 refine YT [(0,.pointer x0),(1,.int .i64 x1),(2,.int .u8 x2),(3,.int .i64 x3)] Go.Proofs.Tryz.func176 rfl rfl (Nat.le_of_ble_eq_true rfl) (Ym ⟨rfl,rfl,rfl,rfl,trivial⟩) (fun w0 w Q R X a hret hthr hE hR H=>?_)
 unfold Vf at H
 refine Kx (fun K hK_1=>?_)
 refine KH ?_
 refine KE (v:=(Sl.nil:Sl).v) rfl rfl hE rfl (Kf hE rfl) (fun a hE=>?_)
 refine Kc ?_
 refine hK_1 _ _ ?_
 refine Kx (fun K hK_2=>?_)
 refine KH ?_
 refine KE (v:=.pointer x0) rfl rfl hE rfl (KG hE rfl) (fun a hE=>?_)
 obtain ⟨Xx3,qXx3,H⟩:=H
 refine KE (v:=.pointer (some Xx3)) rfl rfl hE rfl (KM hE (Jj rfl (congrArg Value.pointer qXx3))) (fun a hE=>?_)
 refine KE (v:=.pointer (some ((Xx3).add 1))) rfl rfl hE rfl (KL hE rfl Za) (fun a hE=>?_)
 obtain ⟨Xx4,qXx4,H⟩:=H
 refine KE (v:=.int .i64 Xx4) rfl rfl hE rfl (Z3 hE rfl sc3 qXx4) (fun a hE=>?_)
 refine KE (v:=.int .i64 (IntKind.wrap .i64 (Xx4+1))) rfl rfl hE rfl (Zk hE rfl rfl ZX N0) (fun a hE=>?_)
 obtain ⟨Xx5,qXx5,H⟩:=H
 refine KE (v:=.pointer (some Xx5)) rfl rfl hE rfl (KM hE (Jj rfl (congrArg Value.pointer qXx5))) (fun a hE=>?_)
 refine KE (v:=.pointer (some ((Xx5).add 1))) rfl rfl hE rfl (KL hE rfl Za) (fun a hE=>?_)
 obtain ⟨u_6,qu_6,H⟩:=H
 refine XA rfl rfl hE hR (VD hE rfl rfl sz3 qu_6) (fun a w hE hR hh=>?_)
 replace H:=M.at hh H; clear hh
 refine Kc ?_
 refine hK_2 _ _ ?_
 refine Kx (fun K hK_7=>?_)
 refine KH ?_
 refine KE (v:=(Sl.nil:Sl).v) rfl rfl hE rfl (Kf hE rfl) (fun a hE=>?_)
 refine Kc ?_
 refine hK_7 _ _ ?_
 refine Kx (fun K hK_8=>?_)
 refine Yl ?_
 refine KDi (fun (s:Sl)=>(⟨64,[]⟩:Frm)) (fun (s:Sl)=>[(0,.pointer x0),(1,.int .i64 x1),(2,.int .u8 x2),(3,.int .i64 x3),(9,(s:Sl).v)]) H (hE.cut (.cons rfl (.cons rfl (.cons rfl (.cons rfl (.cons rfl Subs.nil)))))) hR (fun Y self1 hY_14 Xx9 a w hE hR H=>?_)
 replace hE:Env (⟨64,[]⟩:Frm) a [(0,.pointer x0),(1,.int .i64 x1),(2,.int .u8 x2),(3,.int .i64 x3),(9,(Xx9:Sl).v)]:=hE
 replace H:(Ua x0 x1 x2 x3 self1 Xx9).wp w.heap Q:=H
 unfold Ua at H
 refine Kx (fun K hK_15=>?_)
 refine Kx (fun K hK_16=>?_)
 refine KH ?_
 refine KE (v:=.pointer x0) rfl rfl hE rfl (KG hE rfl) (fun a hE=>?_)
 refine Vs hE hR Kj rfl (Kw x0) (M.unbind H) (fun Xx17 a w ea hR H=>?_)
 have hE:=Env.put_some hE rfl ea; clear ea
 refine KE (v:=.int .u8 x2) rfl rfl hE rfl (KG hE rfl) (fun a hE=>?_)
 refine KE (v:=.bool (Xx17 != x2)) rfl rfl hE rfl (Zk hE rfl rfl ZX KEc) (fun a hE=>?_)
 refine Kc ?_
 refine hK_16 _ _ ?_
 refine UE (Xx17 != x2) hE rfl (fun hb=>?_) (fun hb=>?_)
 ·replace H:=M.ite_t hb H
  refine Vg ?_
  refine hK_15 _ _ ?_
  refine Yl ?_
  refine Je (fun a w=>Env (⟨64,[]⟩:Frm) a [(0,.pointer x0),(1,.int .i64 x1),(2,.int .u8 x2),(3,.int .i64 x3),(9,(Xx9:Sl).v)]∧Rest w0 w∧(JO self1 x0 x1 x2 x3 Xx9).wp w.heap Q) ?_ ?_
  ·rintro a w ⟨hE,hR,H⟩
   unfold JO at H
   refine Kx (fun K hK_23=>?_)
   refine KH ?_
   refine KE (v:=(Xx9:Sl).v) rfl rfl hE rfl (KG hE rfl) (fun a hE=>?_)
   refine KE (v:=.pointer x0) rfl rfl hE rfl (KG hE rfl) (fun a hE=>?_)
   refine KE (v:=.int .i64 x1) rfl rfl hE rfl (KG hE rfl) (fun a hE=>?_)
   refine KE (v:=.int .i64 (IntKind.wrap .i64 (x1+1))) rfl rfl hE rfl (Zk hE rfl rfl ZX N0) (fun a hE=>?_)
   refine JU hE hR VN rfl (X1) H (fun _ _ hR HQ=>Xu.ne rfl (Xu.ne rfl (hthr _ _ hR HQ))) (fun Xx24 a w ea hR H=>?_)
   have hE:=Env.put_some hE rfl ea; clear ea
   obtain ⟨y_26,qy_26,H⟩:=H
   obtain ⟨Xx25,qXx25,H⟩:=H
   refine q8 (v:=(Xx25:Sl).v) rfl rfl hE rfl hR (Nv hE rfl un22 sz24 zr24 rfl qy_26 qXx25) (fun a w hE hR hh=>?_)
   replace H:=M.at hh H; clear hh
   refine t_ex (fun Xx27=>(Xx27:Sl).v) rfl rfl hR (M.unbind H) (fun Q H=>KDl hE rfl rfl ap22 H) (fun Xx27 a w ea hR H=>?_)
   have hE:=Env.put_some hE rfl ea; clear ea
   refine KE (v:=(Xx27:Sl).v) rfl rfl hE rfl (Kf hE rfl) (fun a hE=>?_)
   refine Kc ?_
   refine hK_23 _ _ ?_
   refine Je (fun a w=>∃ (Xx28:Sl),Env (⟨64,[]⟩:Frm) a [(0,.pointer x0),(1,.int .i64 x1),(2,.int .u8 x2),(3,.int .i64 x3),(9,(Xx28:Sl).v)]∧Rest w0 w∧(JN self1 x0 x2 Xx28).wp w.heap Q) ?_ ?_
   ·rintro a w ⟨Xx28,hE,hR,H⟩
    unfold JN at H
    refine Kx (fun K hK_33=>?_)
    refine KH ?_
    refine KE (v:=.pointer x0) rfl rfl hE rfl (KG hE rfl) (fun a hE=>?_)
    refine Vs hE hR Kj rfl (Kw x0) (M.unbind H) (fun Xx34 a w ea hR H=>?_)
    have hE:=Env.put_some hE rfl ea; clear ea
    refine KE (v:=.int .u8 Xx34) rfl rfl hE rfl (Kf hE rfl) (fun a hE=>?_)
    refine Kc ?_
    refine hK_33 _ _ ?_
    refine Kx (fun K hK_35=>?_)
    refine KH ?_
    refine KE (v:=.int .u8 Xx34) rfl rfl hE rfl (KG hE rfl) (fun a hE=>?_)
    refine KE (v:=.int .u8 x2) rfl rfl hE rfl (KG hE rfl) (fun a hE=>?_)
    refine KE (v:=.bool (Xx34 != x2)) rfl rfl hE rfl (Zk hE rfl rfl ZX KEc) (fun a hE=>?_)
    refine KE (v:=.bool (Xx34 != x2)) rfl rfl hE rfl (KG hE rfl) (fun a hE=>?_)
    refine KEg (n:=(⟨64,[]⟩:Frm)) (w0:=w0) 3 (fun Xx36:Bool=>[(0,.pointer x0),(1,.int .i64 x1),(2,.int .u8 x2),(3,.int .i64 x3),(9,(Xx28:Sl).v),(53,.bool Xx36)]) (M.unbind H) (fun Kr hKr H=>?_) ?_
    ·rcases WE (Xx34 != x2) with hb | hb
     ·replace H:=M.ite_t hb H
      have hE:=hE.reb 50 (Xx34 != x2) true hb rfl
      refine t_on rfl hE rfl rfl rfl ?_
      refine KE (v:=.int .u8 Xx34) rfl rfl hE rfl (KG hE rfl) (fun a hE=>?_)
      refine t_on rfl hE rfl rfl rfl ?_
      refine KE (v:=.bool (Xx34 != 44)) rfl rfl hE rfl (Zk hE rfl rfl ZX KEc) (fun a hE=>?_)
      refine KE rfl rfl hE rfl (UW hE rfl rfl) (fun a hE=>?_)
      refine Kc ?_
      exact hKr _ _ _ (hE.cut (.cons rfl (.cons rfl (.cons rfl (.cons rfl (.cons rfl (.cons rfl Subs.nil))))))) hR H
     ·replace H:=M.ite_f hb H
      have hE:=hE.reb 50 (Xx34 != x2) false hb rfl
      refine qT rfl hE rfl rfl rfl (fun a ea=>?_)
      have hE:=Env.put_some hE rfl ea; clear ea
      refine qT rfl hE rfl rfl rfl (fun a ea=>?_)
      have hE:=Env.put_some hE rfl ea; clear ea
      refine KE rfl rfl hE rfl (Jf hE rfl rfl) (fun a hE=>?_)
      refine Kc ?_
      exact hKr _ _ _ (hE.cut (.cons rfl (.cons rfl (.cons rfl (.cons rfl (.cons rfl (.cons rfl Subs.nil))))))) hR H
    ·intro Xx36 a w hE hR H
     refine Kc ?_
     refine hK_35 _ _ ?_
     refine UE Xx36 hE rfl (fun hb=>?_) (fun hb=>?_)
     ·replace H:=M.ite_t hb H
      refine KH ?_
      refine KE (v:=.pointer x0) rfl rfl hE rfl (KG hE rfl) (fun a hE=>?_)
      refine JU hE hR ZD rfl (ZK x0) H (fun _ _ hR HQ=>Xu.ne rfl (Xu.ne rfl (hthr _ _ hR HQ))) (fun Xx37 a w ea hR H=>?_)
      have hE:=Env.put_some hE rfl ea; clear ea
      refine Kc ?_
      exact hY_14 Xx28 _ _ (hE.cut (.cons rfl (.cons rfl (.cons rfl (.cons rfl (.cons rfl Subs.nil)))))) hR H
     ·replace H:=M.ite_f hb H
      refine Vg ?_
      exact hY_14 Xx28 _ _ (hE.cut (.cons rfl (.cons rfl (.cons rfl (.cons rfl (.cons rfl Subs.nil)))))) hR H
   ·skip
    refine Kx (fun K hK_38=>?_)
    refine KH ?_
    refine KE (v:=.int .i64 x3) rfl rfl hE rfl (KG hE rfl) (fun a hE=>?_)
    refine KE (v:=.bool (x3 == 2)) rfl rfl hE rfl (Zk hE rfl rfl ZX NE) (fun a hE=>?_)
    refine Kc ?_
    refine hK_38 _ _ ?_
    refine UE (x3 == 2) hE rfl (fun hb=>?_) (fun hb=>?_)
    ·replace H:=M.ite_t hb H
     refine Kx (fun K hK_39=>?_)
     refine KH ?_
     refine KE (v:=.pointer x0) rfl rfl hE rfl (KG hE rfl) (fun a hE=>?_)
     refine JU hE hR ZY rfl (Zi x0 (⟨#[58,32]⟩:ByteArray)) H (fun _ _ hR HQ=>Xu.ne rfl (Xu.ne rfl (hthr _ _ hR HQ))) (fun Xx40 a w ea hR H=>?_)
     have hE:=Env.put_some hE rfl ea; clear ea
     refine Kc ?_
     refine hK_39 _ _ ?_
     refine KH ?_
     refine KE (v:=(Xx27:Sl).v) rfl rfl hE rfl (KG hE rfl) (fun a hE=>?_)
     refine KE (v:=.pointer x0) rfl rfl hE rfl (KG hE rfl) (fun a hE=>?_)
     refine KE (v:=.int .i64 x1) rfl rfl hE rfl (KG hE rfl) (fun a hE=>?_)
     refine KE (v:=.int .i64 (IntKind.wrap .i64 (x1+1))) rfl rfl hE rfl (Zk hE rfl rfl ZX N0) (fun a hE=>?_)
     refine JU hE hR VN rfl (X1) H (fun _ _ hR HQ=>Xu.ne rfl (Xu.ne rfl (hthr _ _ hR HQ))) (fun Xx41 a w ea hR H=>?_)
     have hE:=Env.put_some hE rfl ea; clear ea
     obtain ⟨y_43,qy_43,H⟩:=H
     obtain ⟨Xx42,qXx42,H⟩:=H
     refine q8 (v:=(Xx42:Sl).v) rfl rfl hE rfl hR (Nv hE rfl un22 sz24 zr24 rfl qy_43 qXx42) (fun a w hE hR hh=>?_)
     replace H:=M.at hh H; clear hh
     refine t_ex (fun Xx44=>(Xx44:Sl).v) rfl rfl hR (M.unbind H) (fun Q H=>KDl hE rfl rfl ap22 H) (fun Xx44 a w ea hR H=>?_)
     have hE:=Env.put_some hE rfl ea; clear ea
     refine KE (v:=(Xx44:Sl).v) rfl rfl hE rfl (Kf hE rfl) (fun a hE=>?_)
     refine Kc ?_
     exact ⟨Xx44,hE.cut (.cons rfl (.cons rfl (.cons rfl (.cons rfl (.cons rfl Subs.nil))))),hR,H⟩
    ·replace H:=M.ite_f hb H
     refine Vg ?_
     exact ⟨Xx27,hE.cut (.cons rfl (.cons rfl (.cons rfl (.cons rfl (.cons rfl Subs.nil))))),hR,H⟩
  ·skip
   refine Kx (fun K hK_45=>?_)
   refine KH ?_
   refine KE (v:=(Xx9:Sl).v) rfl rfl hE rfl (KG hE rfl) (fun a hE=>?_)
   refine KE (v:=.int .i64 (Xx9.len:Int)) rfl rfl hE rfl (KLR hE rfl 24 un22) (fun a hE=>?_)
   refine KE (v:=.bool (decide ((Xx9.len:Int) > 0))) rfl rfl hE rfl (Zk hE rfl rfl ZX KEd) (fun a hE=>?_)
   refine Kc ?_
   refine hK_45 _ _ ?_
   refine UE (decide ((Xx9.len:Int) > 0)) hE rfl (fun hb=>?_) (fun hb=>?_)
   ·replace H:=M.ite_t hb H
    refine KH ?_
    refine KE (v:=.pointer x0) rfl rfl hE rfl (KG hE rfl) (fun a hE=>?_)
    refine JU hE hR ZY rfl (Zi x0 (⟨#[44,32]⟩:ByteArray)) H (fun _ _ hR HQ=>Xu.ne rfl (Xu.ne rfl (hthr _ _ hR HQ))) (fun Xx46 a w ea hR H=>?_)
    have hE:=Env.put_some hE rfl ea; clear ea
    refine Kc ?_
    exact ⟨hE.cut (.cons rfl (.cons rfl (.cons rfl (.cons rfl (.cons rfl Subs.nil))))),hR,H⟩
   ·replace H:=M.ite_f hb H
    refine Vg ?_
    exact ⟨hE.cut (.cons rfl (.cons rfl (.cons rfl (.cons rfl (.cons rfl Subs.nil))))),hR,H⟩
 ·replace H:=M.ite_f hb H
  refine KDd ?_
  refine Xu.same ?_
  refine hK_8 _ _ ?_
  refine Kx (fun K hK_47=>?_)
  refine KH ?_
  refine KE (v:=.pointer x0) rfl rfl hE rfl (KG hE rfl) (fun a hE=>?_)
  obtain ⟨Xx48,qXx48,H⟩:=H
  refine KE (v:=.pointer (some Xx48)) rfl rfl hE rfl (KM hE (Jj rfl (congrArg Value.pointer qXx48))) (fun a hE=>?_)
  refine KE (v:=.pointer (some ((Xx48).add 1))) rfl rfl hE rfl (KL hE rfl Za) (fun a hE=>?_)
  obtain ⟨Xx49,qXx49,H⟩:=H
  refine KE (v:=.int .i64 Xx49) rfl rfl hE rfl (Z3 hE rfl sc3 qXx49) (fun a hE=>?_)
  refine KE (v:=.int .i64 (IntKind.wrap .i64 (Xx49+1))) rfl rfl hE rfl (Zk hE rfl rfl ZX N0) (fun a hE=>?_)
  obtain ⟨Xx50,qXx50,H⟩:=H
  refine KE (v:=.pointer (some Xx50)) rfl rfl hE rfl (KM hE (Jj rfl (congrArg Value.pointer qXx50))) (fun a hE=>?_)
  refine KE (v:=.pointer (some ((Xx50).add 1))) rfl rfl hE rfl (KL hE rfl Za) (fun a hE=>?_)
  obtain ⟨u_51,qu_51,H⟩:=H
  refine XA rfl rfl hE hR (VD hE rfl rfl sz3 qu_51) (fun a w hE hR hh=>?_)
  replace H:=M.at hh H; clear hh
  refine Kc ?_
  refine hK_47 _ _ ?_
  refine Kx (fun K hK_52=>?_)
  refine KH ?_
  refine KE (v:=(Xx9:Sl).v) rfl rfl hE rfl (KG hE rfl) (fun a hE=>?_)
  refine KE (v:=(Xx9:Sl).v) rfl rfl hE rfl (Kf hE rfl) (fun a hE=>?_)
  refine Kc ?_
  refine hK_52 _ _ ?_
  refine Gd ?_
  exact hret _ _ _ Xx9 _ hE hR (UF hE rfl (RV.tmp rfl RV.nil)) rfl H
def U8 (x0:Int):M (ByteArray):=do
 M.ite (decide (x0 < 10)) (do
  let Xx5←slS (⟨#[48,49,50,51,52,53,54,55,56,57,97,98,99,100,101,102,103,104,105,106,107,108,109,110,111,112,113,114,115,116,117,118,119,120,121,122]⟩:ByteArray) x0 (IntKind.wrap .i64 (x0+1))
  M.pure Xx5
  ) (do
  let Xx7←slS (⟨#[48,48,48,49,48,50,48,51,48,52,48,53,48,54,48,55,48,56,48,57,49,48,49,49,49,50,49,51,49,52,49,53,49,54,49,55,49,56,49,57,50,48,50,49,50,50,50,51,50,52,50,53,50,54,50,55,50,56,50,57,51,48,51,49,51,50,51,51,51,52,51,53,51,54,51,55,51,56,51,57,52,48,52,49,52,50,52,51,52,52,52,53,52,54,52,55,52,56,52,57,53,48,53,49,53,50,53,51,53,52,53,53,53,54,53,55,53,56,53,57,54,48,54,49,54,50,54,51,54,52,54,53,54,54,54,55,54,56,54,57,55,48,55,49,55,50,55,51,55,52,55,53,55,54,55,55,55,56,55,57,56,48,56,49,56,50,56,51,56,52,56,53,56,54,56,55,56,56,56,57,57,48,57,49,57,50,57,51,57,52,57,53,57,54,57,55,57,56,57,57]⟩:ByteArray) (IntKind.wrap .i64 (x0 * 2)) (IntKind.wrap .i64 ((IntKind.wrap .i64 (x0 * 2))+2))
  M.pure Xx7
  )
theorem GX (x0:Int):Kg Go.Proofs.Tryz.prog 227 #[.int .i64 x0] (fun (r:ByteArray)=>.string r) (U8 x0) :=
 KI [] [] [.S] [(0,.I .i64 x0)] .o Go.Proofs.Tryz.func227 rfl rfl ⟨rfl,trivial⟩ rfl (by kernel_rfl) (by kernel_rfl)
noncomputable def GY:CalleeS Go.Proofs.Tryz.prog:=mkC X9 GB [.I .i64] [.S] (fun (t:Int)=>U8 t) (fun (t:Int)=>GX t)
def Wr (Xx6:Int) (Xx7:Int):M (Int):=do
 let Xx9←ixS (⟨#[0,1,2,2,3,3,3,3,4,4,4,4,4,4,4,4,5,5,5,5,5,5,5,5,5,5,5,5,5,5,5,5,6,6,6,6,6,6,6,6,6,6,6,6,6,6,6,6,6,6,6,6,6,6,6,6,6,6,6,6,6,6,6,6,7,7,7,7,7,7,7,7,7,7,7,7,7,7,7,7,7,7,7,7,7,7,7,7,7,7,7,7,7,7,7,7,7,7,7,7,7,7,7,7,7,7,7,7,7,7,7,7,7,7,7,7,7,7,7,7,7,7,7,7,7,7,7,7,8,8,8,8,8,8,8,8,8,8,8,8,8,8,8,8,8,8,8,8,8,8,8,8,8,8,8,8,8,8,8,8,8,8,8,8,8,8,8,8,8,8,8,8,8,8,8,8,8,8,8,8,8,8,8,8,8,8,8,8,8,8,8,8,8,8,8,8,8,8,8,8,8,8,8,8,8,8,8,8,8,8,8,8,8,8,8,8,8,8,8,8,8,8,8,8,8,8,8,8,8,8,8,8,8,8,8,8,8,8,8,8,8,8,8,8,8,8,8,8,8,8,8,8,8,8,8,8]⟩:ByteArray) (IntKind.wrap .u8 Xx6)
 M.pure (IntKind.wrap .i64 (Xx7+(IntKind.wrap .i64 Xx9)))
def Ws (Xx4:Int) (Xx5:Int):M (Int):=do
 M.ite (decide (Xx4 ≥ 256)) (do
  Wr (iShr .u64 Xx4 8) (IntKind.wrap .i64 (Xx5+8))
  ) (do
  Wr Xx4 Xx5
  )
def Wt (Xx2:Int) (Xx3:Int):M (Int):=do
 M.ite (decide (Xx2 ≥ 65536)) (do
  Ws (iShr .u64 Xx2 16) (IntKind.wrap .i64 (Xx3+16))
  ) (do
  Ws Xx2 Xx3
  )
def Xp (x0:Int):M (Int):=do
 M.ite (decide (x0 ≥ 4294967296)) (do
  Wt (iShr .u64 x0 32) 32
  ) (do
  Wt x0 0
  )
theorem KAg (x0:Int):Kg Go.Proofs.Tryz.prog 217 #[.int .u64 x0] (fun (r:Int)=>.int .i64 r) (Xp x0) :=
 KI [] [] [.I .i64] [(0,.I .u64 x0)] (.q .o (.q .o (.j [(0,.I .u64),(2,.I .i64)] (fun (t:Int × Int)=>Wt t.1 t.2) (.q .o (.j [(0,.I .u64),(2,.I .i64)] (fun (t:Int × Int)=>Ws t.1 t.2) (.q .o (.j [(0,.I .u64),(2,.I .i64)] (fun (t:Int × Int)=>Wr t.1 t.2) .o))))))) Go.Proofs.Tryz.func217 rfl rfl ⟨rfl,trivial⟩ rfl (by kernel_rfl) (by kernel_rfl)
noncomputable def KAh:CalleeS Go.Proofs.Tryz.prog:=mkC zM zY [.I .u64] [.I .i64] (fun (t:Int)=>Xp t) (fun (t:Int)=>KAg t)
def UI (x0:Int):M (Int):=do
 M.pure (iShr .i64 (IntKind.wrap .i64 (x0 * 78913)) 18)
theorem XP (x0:Int):Kg Go.Proofs.Tryz.prog 247 #[.int .i64 x0] (fun (r:Int)=>.int .i64 r) (UI x0) :=
 KI [] [] [.I .i64] [(0,.I .i64 x0)] .o Go.Proofs.Tryz.func247 rfl rfl ⟨rfl,trivial⟩ rfl (by kernel_rfl) (by kernel_rfl)
noncomputable def XQ:CalleeS Go.Proofs.Tryz.prog:=mkC Yq Yw [.I .i64] [.I .i64] (fun (t:Int)=>UI t) (fun (t:Int)=>XP t)
def UJ (x0:Bool):M (Int):=do
 M.ite x0 (do
  M.pure 1
  ) (do
  M.pure 0
  )
theorem XR (x0:Bool):Kg Go.Proofs.Tryz.prog 248 #[.bool x0] (fun (r:Int)=>.int .i64 r) (UJ x0) :=
 KI [] [] [.I .i64] [(0,.B x0)] .o Go.Proofs.Tryz.func248 rfl rfl ⟨rfl,trivial⟩ rfl (by kernel_rfl) (by kernel_rfl)
noncomputable def XS:CalleeS Go.Proofs.Tryz.prog:=mkC Yp Yv [.B] [.I .i64] (fun (t:Bool)=>UJ t) (fun (t:Bool)=>XR t)
def UK (x0:Int):M (Int):=do
 let Xx3←Xp x0
 let Xx4←UI Xx3
 let Xx6←ixA (⟨3,0,none⟩:Addr) 20 Xx4 1
 let Xx7←ldI .u64 Xx6
 let Xx8←UJ (decide (x0 ≥ Xx7))
 M.pure (IntKind.wrap .i64 (Xx4+Xx8))
theorem XT (x0:Int):Kg Go.Proofs.Tryz.prog 228 #[.int .u64 x0] (fun (r:Int)=>.int .i64 r) (UK x0) :=
 KI [KAh,XQ,XS] [] [.I .i64] [(0,.I .u64 x0)] .o Go.Proofs.Tryz.func228 rfl rfl ⟨rfl,trivial⟩ rfl (by kernel_rfl) (by kernel_rfl)
noncomputable def XU:CalleeS Go.Proofs.Tryz.prog:=mkC Yr Yx [.I .u64] [.I .i64] (fun (t:Int)=>UK t) (fun (t:Int)=>XT t)
def JQ (C48:Sl) (Xx46:Int) (Xx47:Int):M (Unit):=do
 M.ite (decide (Xx46 > 0)) (do
  let Xx50←ixL C48 0 1
  stV Xx50 (.int .u8 (IntKind.wrap .u8 (IntKind.wrap .u32 (48+Xx47))))
  M.pure ()
  ) (do
  M.pure ()
  )
def JR (C45:Sl) (Xx43:Int) (Xx44:Int):M (Unit):=do
 M.ite (decide (Xx43 ≥ 2)) (do
  let Xx56←ixS (⟨#[48,48,48,49,48,50,48,51,48,52,48,53,48,54,48,55,48,56,48,57,49,48,49,49,49,50,49,51,49,52,49,53,49,54,49,55,49,56,49,57,50,48,50,49,50,50,50,51,50,52,50,53,50,54,50,55,50,56,50,57,51,48,51,49,51,50,51,51,51,52,51,53,51,54,51,55,51,56,51,57,52,48,52,49,52,50,52,51,52,52,52,53,52,54,52,55,52,56,52,57,53,48,53,49,53,50,53,51,53,52,53,53,53,54,53,55,53,56,53,57,54,48,54,49,54,50,54,51,54,52,54,53,54,54,54,55,54,56,54,57,55,48,55,49,55,50,55,51,55,52,55,53,55,54,55,55,55,56,55,57,56,48,56,49,56,50,56,51,56,52,56,53,56,54,56,55,56,56,56,57,57,48,57,49,57,50,57,51,57,52,57,53,57,54,57,55,57,56,57,57]⟩:ByteArray) (IntKind.wrap .u32 ((IntKind.wrap .u32 ((Int.tmod Xx44 100) * 2))+1))
  let Xx57←ixS (⟨#[48,48,48,49,48,50,48,51,48,52,48,53,48,54,48,55,48,56,48,57,49,48,49,49,49,50,49,51,49,52,49,53,49,54,49,55,49,56,49,57,50,48,50,49,50,50,50,51,50,52,50,53,50,54,50,55,50,56,50,57,51,48,51,49,51,50,51,51,51,52,51,53,51,54,51,55,51,56,51,57,52,48,52,49,52,50,52,51,52,52,52,53,52,54,52,55,52,56,52,57,53,48,53,49,53,50,53,51,53,52,53,53,53,54,53,55,53,56,53,57,54,48,54,49,54,50,54,51,54,52,54,53,54,54,54,55,54,56,54,57,55,48,55,49,55,50,55,51,55,52,55,53,55,54,55,55,55,56,55,57,56,48,56,49,56,50,56,51,56,52,56,53,56,54,56,55,56,56,56,57,57,48,57,49,57,50,57,51,57,52,57,53,57,54,57,55,57,56,57,57]⟩:ByteArray) (IntKind.wrap .u32 ((Int.tmod Xx44 100) * 2))
  let Xx58←ixL C45 (IntKind.wrap .i64 (Xx43 - 1)) 1
  stV Xx58 (.int .u8 Xx56)
  let Xx60←ixL C45 (IntKind.wrap .i64 (Xx43 - 2)) 1
  stV Xx60 (.int .u8 Xx57)
  JQ C45 (IntKind.wrap .i64 (Xx43 - 2)) (IntKind.wrap .u32 (Int.tdiv Xx44 100))
  ) (do
  JQ C45 Xx43 Xx44
  )
def UV (C5:Sl) (self1:(Int × Int)→M (Unit)):(Int × Int)→M (Unit):=fun s=>match s with
 | (Xx3,Xx4)=>do
  M.ite (decide (Xx4 ≥ 8)) (do
   let Xx15←ixS (⟨#[48,48,48,49,48,50,48,51,48,52,48,53,48,54,48,55,48,56,48,57,49,48,49,49,49,50,49,51,49,52,49,53,49,54,49,55,49,56,49,57,50,48,50,49,50,50,50,51,50,52,50,53,50,54,50,55,50,56,50,57,51,48,51,49,51,50,51,51,51,52,51,53,51,54,51,55,51,56,51,57,52,48,52,49,52,50,52,51,52,52,52,53,52,54,52,55,52,56,52,57,53,48,53,49,53,50,53,51,53,52,53,53,53,54,53,55,53,56,53,57,54,48,54,49,54,50,54,51,54,52,54,53,54,54,54,55,54,56,54,57,55,48,55,49,55,50,55,51,55,52,55,53,55,54,55,55,55,56,55,57,56,48,56,49,56,50,56,51,56,52,56,53,56,54,56,55,56,56,56,57,57,48,57,49,57,50,57,51,57,52,57,53,57,54,57,55,57,56,57,57]⟩:ByteArray) (IntKind.wrap .u32 ((IntKind.wrap .u32 ((Int.tmod (Int.tmod (IntKind.wrap .u32 (Int.tmod Xx3 100000000)) 10000) 100) * 2))+1))
   let Xx16←ixS (⟨#[48,48,48,49,48,50,48,51,48,52,48,53,48,54,48,55,48,56,48,57,49,48,49,49,49,50,49,51,49,52,49,53,49,54,49,55,49,56,49,57,50,48,50,49,50,50,50,51,50,52,50,53,50,54,50,55,50,56,50,57,51,48,51,49,51,50,51,51,51,52,51,53,51,54,51,55,51,56,51,57,52,48,52,49,52,50,52,51,52,52,52,53,52,54,52,55,52,56,52,57,53,48,53,49,53,50,53,51,53,52,53,53,53,54,53,55,53,56,53,57,54,48,54,49,54,50,54,51,54,52,54,53,54,54,54,55,54,56,54,57,55,48,55,49,55,50,55,51,55,52,55,53,55,54,55,55,55,56,55,57,56,48,56,49,56,50,56,51,56,52,56,53,56,54,56,55,56,56,56,57,57,48,57,49,57,50,57,51,57,52,57,53,57,54,57,55,57,56,57,57]⟩:ByteArray) (IntKind.wrap .u32 ((Int.tmod (Int.tmod (IntKind.wrap .u32 (Int.tmod Xx3 100000000)) 10000) 100) * 2))
   let Xx17←ixL C5 (IntKind.wrap .i64 (Xx4 - 1)) 1
   stV Xx17 (.int .u8 Xx15)
   let Xx19←ixL C5 (IntKind.wrap .i64 (Xx4 - 2)) 1
   stV Xx19 (.int .u8 Xx16)
   let Xx22←ixS (⟨#[48,48,48,49,48,50,48,51,48,52,48,53,48,54,48,55,48,56,48,57,49,48,49,49,49,50,49,51,49,52,49,53,49,54,49,55,49,56,49,57,50,48,50,49,50,50,50,51,50,52,50,53,50,54,50,55,50,56,50,57,51,48,51,49,51,50,51,51,51,52,51,53,51,54,51,55,51,56,51,57,52,48,52,49,52,50,52,51,52,52,52,53,52,54,52,55,52,56,52,57,53,48,53,49,53,50,53,51,53,52,53,53,53,54,53,55,53,56,53,57,54,48,54,49,54,50,54,51,54,52,54,53,54,54,54,55,54,56,54,57,55,48,55,49,55,50,55,51,55,52,55,53,55,54,55,55,55,56,55,57,56,48,56,49,56,50,56,51,56,52,56,53,56,54,56,55,56,56,56,57,57,48,57,49,57,50,57,51,57,52,57,53,57,54,57,55,57,56,57,57]⟩:ByteArray) (IntKind.wrap .u32 ((IntKind.wrap .u32 ((IntKind.wrap .u32 (Int.tdiv (Int.tmod (IntKind.wrap .u32 (Int.tmod Xx3 100000000)) 10000) 100)) * 2))+1))
   let Xx23←ixS (⟨#[48,48,48,49,48,50,48,51,48,52,48,53,48,54,48,55,48,56,48,57,49,48,49,49,49,50,49,51,49,52,49,53,49,54,49,55,49,56,49,57,50,48,50,49,50,50,50,51,50,52,50,53,50,54,50,55,50,56,50,57,51,48,51,49,51,50,51,51,51,52,51,53,51,54,51,55,51,56,51,57,52,48,52,49,52,50,52,51,52,52,52,53,52,54,52,55,52,56,52,57,53,48,53,49,53,50,53,51,53,52,53,53,53,54,53,55,53,56,53,57,54,48,54,49,54,50,54,51,54,52,54,53,54,54,54,55,54,56,54,57,55,48,55,49,55,50,55,51,55,52,55,53,55,54,55,55,55,56,55,57,56,48,56,49,56,50,56,51,56,52,56,53,56,54,56,55,56,56,56,57,57,48,57,49,57,50,57,51,57,52,57,53,57,54,57,55,57,56,57,57]⟩:ByteArray) (IntKind.wrap .u32 ((IntKind.wrap .u32 (Int.tdiv (Int.tmod (IntKind.wrap .u32 (Int.tmod Xx3 100000000)) 10000) 100)) * 2))
   let Xx24←ixL C5 (IntKind.wrap .i64 (Xx4 - 3)) 1
   stV Xx24 (.int .u8 Xx22)
   let Xx26←ixL C5 (IntKind.wrap .i64 (Xx4 - 4)) 1
   stV Xx26 (.int .u8 Xx23)
   let Xx29←ixS (⟨#[48,48,48,49,48,50,48,51,48,52,48,53,48,54,48,55,48,56,48,57,49,48,49,49,49,50,49,51,49,52,49,53,49,54,49,55,49,56,49,57,50,48,50,49,50,50,50,51,50,52,50,53,50,54,50,55,50,56,50,57,51,48,51,49,51,50,51,51,51,52,51,53,51,54,51,55,51,56,51,57,52,48,52,49,52,50,52,51,52,52,52,53,52,54,52,55,52,56,52,57,53,48,53,49,53,50,53,51,53,52,53,53,53,54,53,55,53,56,53,57,54,48,54,49,54,50,54,51,54,52,54,53,54,54,54,55,54,56,54,57,55,48,55,49,55,50,55,51,55,52,55,53,55,54,55,55,55,56,55,57,56,48,56,49,56,50,56,51,56,52,56,53,56,54,56,55,56,56,56,57,57,48,57,49,57,50,57,51,57,52,57,53,57,54,57,55,57,56,57,57]⟩:ByteArray) (IntKind.wrap .u32 ((IntKind.wrap .u32 ((Int.tmod (IntKind.wrap .u32 (Int.tdiv (IntKind.wrap .u32 (Int.tmod Xx3 100000000)) 10000)) 100) * 2))+1))
   let Xx30←ixS (⟨#[48,48,48,49,48,50,48,51,48,52,48,53,48,54,48,55,48,56,48,57,49,48,49,49,49,50,49,51,49,52,49,53,49,54,49,55,49,56,49,57,50,48,50,49,50,50,50,51,50,52,50,53,50,54,50,55,50,56,50,57,51,48,51,49,51,50,51,51,51,52,51,53,51,54,51,55,51,56,51,57,52,48,52,49,52,50,52,51,52,52,52,53,52,54,52,55,52,56,52,57,53,48,53,49,53,50,53,51,53,52,53,53,53,54,53,55,53,56,53,57,54,48,54,49,54,50,54,51,54,52,54,53,54,54,54,55,54,56,54,57,55,48,55,49,55,50,55,51,55,52,55,53,55,54,55,55,55,56,55,57,56,48,56,49,56,50,56,51,56,52,56,53,56,54,56,55,56,56,56,57,57,48,57,49,57,50,57,51,57,52,57,53,57,54,57,55,57,56,57,57]⟩:ByteArray) (IntKind.wrap .u32 ((Int.tmod (IntKind.wrap .u32 (Int.tdiv (IntKind.wrap .u32 (Int.tmod Xx3 100000000)) 10000)) 100) * 2))
   let Xx31←ixL C5 (IntKind.wrap .i64 (Xx4 - 5)) 1
   stV Xx31 (.int .u8 Xx29)
   let Xx33←ixL C5 (IntKind.wrap .i64 (Xx4 - 6)) 1
   stV Xx33 (.int .u8 Xx30)
   let Xx36←ixS (⟨#[48,48,48,49,48,50,48,51,48,52,48,53,48,54,48,55,48,56,48,57,49,48,49,49,49,50,49,51,49,52,49,53,49,54,49,55,49,56,49,57,50,48,50,49,50,50,50,51,50,52,50,53,50,54,50,55,50,56,50,57,51,48,51,49,51,50,51,51,51,52,51,53,51,54,51,55,51,56,51,57,52,48,52,49,52,50,52,51,52,52,52,53,52,54,52,55,52,56,52,57,53,48,53,49,53,50,53,51,53,52,53,53,53,54,53,55,53,56,53,57,54,48,54,49,54,50,54,51,54,52,54,53,54,54,54,55,54,56,54,57,55,48,55,49,55,50,55,51,55,52,55,53,55,54,55,55,55,56,55,57,56,48,56,49,56,50,56,51,56,52,56,53,56,54,56,55,56,56,56,57,57,48,57,49,57,50,57,51,57,52,57,53,57,54,57,55,57,56,57,57]⟩:ByteArray) (IntKind.wrap .u32 ((IntKind.wrap .u32 ((IntKind.wrap .u32 (Int.tdiv (IntKind.wrap .u32 (Int.tdiv (IntKind.wrap .u32 (Int.tmod Xx3 100000000)) 10000)) 100)) * 2))+1))
   let Xx37←ixS (⟨#[48,48,48,49,48,50,48,51,48,52,48,53,48,54,48,55,48,56,48,57,49,48,49,49,49,50,49,51,49,52,49,53,49,54,49,55,49,56,49,57,50,48,50,49,50,50,50,51,50,52,50,53,50,54,50,55,50,56,50,57,51,48,51,49,51,50,51,51,51,52,51,53,51,54,51,55,51,56,51,57,52,48,52,49,52,50,52,51,52,52,52,53,52,54,52,55,52,56,52,57,53,48,53,49,53,50,53,51,53,52,53,53,53,54,53,55,53,56,53,57,54,48,54,49,54,50,54,51,54,52,54,53,54,54,54,55,54,56,54,57,55,48,55,49,55,50,55,51,55,52,55,53,55,54,55,55,55,56,55,57,56,48,56,49,56,50,56,51,56,52,56,53,56,54,56,55,56,56,56,57,57,48,57,49,57,50,57,51,57,52,57,53,57,54,57,55,57,56,57,57]⟩:ByteArray) (IntKind.wrap .u32 ((IntKind.wrap .u32 (Int.tdiv (IntKind.wrap .u32 (Int.tdiv (IntKind.wrap .u32 (Int.tmod Xx3 100000000)) 10000)) 100)) * 2))
   let Xx38←ixL C5 (IntKind.wrap .i64 (Xx4 - 7)) 1
   stV Xx38 (.int .u8 Xx36)
   let Xx40←ixL C5 (IntKind.wrap .i64 (Xx4 - 8)) 1
   stV Xx40 (.int .u8 Xx37)
   self1 (IntKind.wrap .u64 (Int.tdiv Xx3 100000000),IntKind.wrap .i64 (Xx4 - 8))
   ) (do
   M.ite (decide (Xx4 ≥ 4)) (do
    let Xx67←ixS (⟨#[48,48,48,49,48,50,48,51,48,52,48,53,48,54,48,55,48,56,48,57,49,48,49,49,49,50,49,51,49,52,49,53,49,54,49,55,49,56,49,57,50,48,50,49,50,50,50,51,50,52,50,53,50,54,50,55,50,56,50,57,51,48,51,49,51,50,51,51,51,52,51,53,51,54,51,55,51,56,51,57,52,48,52,49,52,50,52,51,52,52,52,53,52,54,52,55,52,56,52,57,53,48,53,49,53,50,53,51,53,52,53,53,53,54,53,55,53,56,53,57,54,48,54,49,54,50,54,51,54,52,54,53,54,54,54,55,54,56,54,57,55,48,55,49,55,50,55,51,55,52,55,53,55,54,55,55,55,56,55,57,56,48,56,49,56,50,56,51,56,52,56,53,56,54,56,55,56,56,56,57,57,48,57,49,57,50,57,51,57,52,57,53,57,54,57,55,57,56,57,57]⟩:ByteArray) (IntKind.wrap .u32 ((IntKind.wrap .u32 ((Int.tmod (Int.tmod (IntKind.wrap .u32 Xx3) 10000) 100) * 2))+1))
    let Xx68←ixS (⟨#[48,48,48,49,48,50,48,51,48,52,48,53,48,54,48,55,48,56,48,57,49,48,49,49,49,50,49,51,49,52,49,53,49,54,49,55,49,56,49,57,50,48,50,49,50,50,50,51,50,52,50,53,50,54,50,55,50,56,50,57,51,48,51,49,51,50,51,51,51,52,51,53,51,54,51,55,51,56,51,57,52,48,52,49,52,50,52,51,52,52,52,53,52,54,52,55,52,56,52,57,53,48,53,49,53,50,53,51,53,52,53,53,53,54,53,55,53,56,53,57,54,48,54,49,54,50,54,51,54,52,54,53,54,54,54,55,54,56,54,57,55,48,55,49,55,50,55,51,55,52,55,53,55,54,55,55,55,56,55,57,56,48,56,49,56,50,56,51,56,52,56,53,56,54,56,55,56,56,56,57,57,48,57,49,57,50,57,51,57,52,57,53,57,54,57,55,57,56,57,57]⟩:ByteArray) (IntKind.wrap .u32 ((Int.tmod (Int.tmod (IntKind.wrap .u32 Xx3) 10000) 100) * 2))
    let Xx69←ixL C5 (IntKind.wrap .i64 (Xx4 - 1)) 1
    stV Xx69 (.int .u8 Xx67)
    let Xx71←ixL C5 (IntKind.wrap .i64 (Xx4 - 2)) 1
    stV Xx71 (.int .u8 Xx68)
    let Xx74←ixS (⟨#[48,48,48,49,48,50,48,51,48,52,48,53,48,54,48,55,48,56,48,57,49,48,49,49,49,50,49,51,49,52,49,53,49,54,49,55,49,56,49,57,50,48,50,49,50,50,50,51,50,52,50,53,50,54,50,55,50,56,50,57,51,48,51,49,51,50,51,51,51,52,51,53,51,54,51,55,51,56,51,57,52,48,52,49,52,50,52,51,52,52,52,53,52,54,52,55,52,56,52,57,53,48,53,49,53,50,53,51,53,52,53,53,53,54,53,55,53,56,53,57,54,48,54,49,54,50,54,51,54,52,54,53,54,54,54,55,54,56,54,57,55,48,55,49,55,50,55,51,55,52,55,53,55,54,55,55,55,56,55,57,56,48,56,49,56,50,56,51,56,52,56,53,56,54,56,55,56,56,56,57,57,48,57,49,57,50,57,51,57,52,57,53,57,54,57,55,57,56,57,57]⟩:ByteArray) (IntKind.wrap .u32 ((IntKind.wrap .u32 ((IntKind.wrap .u32 (Int.tdiv (Int.tmod (IntKind.wrap .u32 Xx3) 10000) 100)) * 2))+1))
    let Xx75←ixS (⟨#[48,48,48,49,48,50,48,51,48,52,48,53,48,54,48,55,48,56,48,57,49,48,49,49,49,50,49,51,49,52,49,53,49,54,49,55,49,56,49,57,50,48,50,49,50,50,50,51,50,52,50,53,50,54,50,55,50,56,50,57,51,48,51,49,51,50,51,51,51,52,51,53,51,54,51,55,51,56,51,57,52,48,52,49,52,50,52,51,52,52,52,53,52,54,52,55,52,56,52,57,53,48,53,49,53,50,53,51,53,52,53,53,53,54,53,55,53,56,53,57,54,48,54,49,54,50,54,51,54,52,54,53,54,54,54,55,54,56,54,57,55,48,55,49,55,50,55,51,55,52,55,53,55,54,55,55,55,56,55,57,56,48,56,49,56,50,56,51,56,52,56,53,56,54,56,55,56,56,56,57,57,48,57,49,57,50,57,51,57,52,57,53,57,54,57,55,57,56,57,57]⟩:ByteArray) (IntKind.wrap .u32 ((IntKind.wrap .u32 (Int.tdiv (Int.tmod (IntKind.wrap .u32 Xx3) 10000) 100)) * 2))
    let Xx76←ixL C5 (IntKind.wrap .i64 (Xx4 - 3)) 1
    stV Xx76 (.int .u8 Xx74)
    let Xx78←ixL C5 (IntKind.wrap .i64 (Xx4 - 4)) 1
    stV Xx78 (.int .u8 Xx75)
    JR C5 (IntKind.wrap .i64 (Xx4 - 4)) (IntKind.wrap .u32 (Int.tdiv (IntKind.wrap .u32 Xx3) 10000))
    ) (do
    JR C5 Xx4 (IntKind.wrap .u32 Xx3)
    )
   )
def Jm (x0:Sl) (x1:Int):M (Unit):=do
 M.loop (UV x0) (x1,(x0.len:Int))
theorem YM (x0:Sl) (x1:Int):Kg Go.Proofs.Tryz.prog 229 #[(x0:Sl).v,.int .u64 x1] (fun (r:Unit)=>.tuple #[]) (Jm x0 x1) :=
 KI [] [] [] [(0,.L x0),(1,.I .u64 x1)] (.q .o (.q (.b (.l [(0,.L)] [(1,.I .u64),(4,.I .i64)] (fun (t:Sl)=>UV t) (fun _=>.q .o (.b (.q .o (.q .o (.q .o (.q .o (.q .o (.q (.r [0,0,2,0,0,16,0,64,128,0,512,455,2503,8191,16383] [0,0,2,0,0,16,0,64,128,0,512,5,2304,40,9216] [0,0,2,0,0,16,0,64,192,0,512,455,2503,8191,16383] (.pu 0 (.pu 1 (.pu 2 (.pu 3 (.pu 4 (.pu 5 (.pu 6 (.pu 7 (.pu 8 (.pu 9 (.pu 10 (.pu 11 (.st [0,1,2,3,4,5,6,7,8,9,10,11,12,13,14] (.on 12 (.pu 13 (.nx (.on 14 .dn)))))))))))))))))) (.q (.r [0,0,2,0,0,16,0,64,128,0,512,455,2503,8191,16383] [0,0,2,0,0,16,0,64,128,0,512,5,2304,40,9216] [0,0,2,0,0,16,0,64,192,0,512,455,2503,8191,16383] (.pu 0 (.pu 1 (.pu 2 (.pu 3 (.pu 4 (.pu 5 (.pu 6 (.pu 7 (.pu 8 (.pu 9 (.pu 10 (.pu 11 (.st [0,1,2,3,4,5,6,7,8,9,10,11,12,13,14] (.on 12 (.pu 13 (.nx (.on 14 .dn)))))))))))))))))) (.q (.r [0,0,2,0,0,16,0,64,128,0,512,455,2503,8191,16383] [0,0,2,0,0,16,0,64,128,0,512,5,2304,40,9216] [0,0,2,0,0,16,0,64,192,0,512,455,2503,8191,16383] (.pu 0 (.pu 1 (.pu 2 (.pu 3 (.pu 4 (.pu 5 (.pu 6 (.pu 7 (.pu 8 (.pu 9 (.pu 10 (.pu 11 (.st [0,1,2,3,4,5,6,7,8,9,10,11,12,13,14] (.on 12 (.pu 13 (.nx (.on 14 .dn)))))))))))))))))) (.q (.r [0,0,2,0,0,16,0,64,128,0,512,455,2503,8191,16383] [0,0,2,0,0,16,0,64,128,0,512,5,2304,40,9216] [0,0,2,0,0,16,0,64,192,0,512,455,2503,8191,16383] (.pu 0 (.pu 1 (.pu 2 (.pu 3 (.pu 4 (.pu 5 (.pu 6 (.pu 7 (.pu 8 (.pu 9 (.pu 10 (.pu 11 (.st [0,1,2,3,4,5,6,7,8,9,10,11,12,13,14] (.on 12 (.pu 13 (.nx (.on 14 .dn)))))))))))))))))) .o))))))))))))) (.q .o (.q (.q .o (.q (.q .o (.q .o (.q .o (.q (.r [0,0,2,0,0,16,0,64,128,0,512,455,2503,8191,16383] [0,0,2,0,0,16,0,64,128,0,512,5,2304,40,9216] [0,0,2,0,0,16,0,64,192,0,512,455,2503,8191,16383] (.pu 0 (.pu 1 (.pu 2 (.pu 3 (.pu 4 (.pu 5 (.pu 6 (.pu 7 (.pu 8 (.pu 9 (.pu 10 (.pu 11 (.st [0,1,2,3,4,5,6,7,8,9,10,11,12,13,14] (.on 12 (.pu 13 (.nx (.on 14 .dn)))))))))))))))))) (.q (.r [0,0,2,0,0,16,0,64,128,0,512,455,2503,8191,16383] [0,0,2,0,0,16,0,64,128,0,512,5,2304,40,9216] [0,0,2,0,0,16,0,64,192,0,512,455,2503,8191,16383] (.pu 0 (.pu 1 (.pu 2 (.pu 3 (.pu 4 (.pu 5 (.pu 6 (.pu 7 (.pu 8 (.pu 9 (.pu 10 (.pu 11 (.st [0,1,2,3,4,5,6,7,8,9,10,11,12,13,14] (.on 12 (.pu 13 (.nx (.on 14 .dn)))))))))))))))))) .o))))) .o)) (.j [(0,.L),(4,.I .i64),(12,.I .u32)] (fun (t:Sl × Int × Int)=>JR t.1 t.2.1 t.2.2) (.q (.q .o (.q (.q .o (.q .o (.q (.r [0,0,2,0,0,16,0,64,128,0,512,455,2503,8191,16383] [0,0,2,0,0,16,0,64,128,0,512,5,2304,40,9216] [0,0,2,0,0,16,0,64,192,0,512,455,2503,8191,16383] (.pu 0 (.pu 1 (.pu 2 (.pu 3 (.pu 4 (.pu 5 (.pu 6 (.pu 7 (.pu 8 (.pu 9 (.pu 10 (.pu 11 (.st [0,1,2,3,4,5,6,7,8,9,10,11,12,13,14] (.on 12 (.pu 13 (.nx (.on 14 .dn)))))))))))))))))) .o))) .o)) (.j [(0,.L),(4,.I .i64),(12,.I .u32)] (fun (t:Sl × Int × Int)=>JQ t.1 t.2.1 t.2.2) .o))))))) Go.Proofs.Tryz.func229 rfl rfl ⟨rfl,rfl,trivial⟩ rfl (by kernel_rfl) (by kernel_rfl)
noncomputable def YN:CalleeS Go.Proofs.Tryz.prog:=mkC Wv Wx [.L,.I .u64] [] (fun (t:Sl × Int)=>Jm t.1 t.2) (fun (t:Sl × Int)=>YM t.1 t.2)
def Z5 (x0:Int):M (Bool):=do
 M.pure ((iAnd .i64 x0 (IntKind.wrap .i64 (x0 - 1))) == 0)
theorem YO (x0:Int):Kg Go.Proofs.Tryz.prog 249 #[.int .i64 x0] (fun (r:Bool)=>.bool r) (Z5 x0) :=
 KI [] [] [.B] [(0,.I .i64 x0)] .o Go.Proofs.Tryz.func249 rfl rfl ⟨rfl,trivial⟩ rfl (by kernel_rfl) (by kernel_rfl)
noncomputable def YP:CalleeS Go.Proofs.Tryz.prog:=mkC Ww Wy [.I .i64] [.B] (fun (t:Int)=>Z5 t) (fun (t:Int)=>YO t)
def Ja (x0:Int):M (Int):=do
 M.ite (x0 == 0) (do
  M.pure 64
  ) (do
  let Xx6←ixA (⟨7,0,none⟩:Addr) 64 (iShr .u64 (IntKind.wrap .u64 ((iAnd .u64 x0 (IntKind.wrap .u64 (0 - x0))) * 285870213051353865)) 58) 1
  let Xx7←ldI .u8 Xx6
  M.pure (IntKind.wrap .i64 Xx7)
  )
theorem Xq (x0:Int):Kg Go.Proofs.Tryz.prog 259 #[.int .u64 x0] (fun (r:Int)=>.int .i64 r) (Ja x0) :=
 KI [] [] [.I .i64] [(0,.I .u64 x0)] .o Go.Proofs.Tryz.func259 rfl rfl ⟨rfl,trivial⟩ rfl (by kernel_rfl) (by kernel_rfl)
noncomputable def Xs:CalleeS Go.Proofs.Tryz.prog:=mkC XE XJ [.I .u64] [.I .i64] (fun (t:Int)=>Ja t) (fun (t:Int)=>Xq t)
def J1 (x0:Int):M (Int):=do
 let Xx4←Ja x0
 M.pure Xx4
theorem GG (x0:Int):Kg Go.Proofs.Tryz.prog 250 #[.int .u64 x0] (fun (r:Int)=>.int .i64 r) (J1 x0) :=
 KI [Xs] [] [.I .i64] [(0,.I .u64 x0)] .o Go.Proofs.Tryz.func250 rfl rfl ⟨rfl,trivial⟩ rfl (by kernel_rfl) (by kernel_rfl)
noncomputable def GH:CalleeS Go.Proofs.Tryz.prog:=mkC Xy Xz [.I .u64] [.I .i64] (fun (t:Int)=>J1 t) (fun (t:Int)=>GG t)
def Zx (C26:Sl) (C27:Bool) (C28:Sl) (C29:ByteArray) (C30:Addr) (Xx25:Int):M (Sl × ByteArray):=do
 M.ite C27 (do
  let Xx34←slA C30 65 Xx25 65 1
  let Xx35←apL ZG 1 1 (#[.int .u8 0]:Array Value) C26 Xx34
  M.pure (Xx35,C29)
  ) (do
  let Xx37←slA C30 65 Xx25 65 1
  let Xx38←b2s Xx37
  M.pure (C28,Xx38)
  )
def Zy (C19:Sl) (C20:Bool) (C21:Bool) (C22:Sl) (C23:ByteArray) (C24:Addr) (Xx18:Int):M (Sl × ByteArray):=do
 M.ite C20 (do
  let Xx41←ixA C24 65 (IntKind.wrap .i64 (Xx18 - 1)) 1
  stV Xx41 (.int .u8 45)
  Zx C19 C21 C22 C23 C24 (IntKind.wrap .i64 (Xx18 - 1))
  ) (do
  Zx C19 C21 C22 C23 C24 Xx18
  )
def Jd (C52:Sl) (C53:Bool) (C54:Bool) (C55:Sl) (C56:ByteArray) (C57:Addr) (C58:Int) (C59:Int) (C60:Int) (self1:(Int × Int)→M (Sl × ByteArray)):(Int × Int)→M (Sl × ByteArray):=fun s=>match s with
 | (Xx50,Xx51)=>do
  M.ite (decide (Xx50 ≥ C59)) (do
   let Xx66←ixS (⟨#[48,49,50,51,52,53,54,55,56,57,97,98,99,100,101,102,103,104,105,106,107,108,109,110,111,112,113,114,115,116,117,118,119,120,121,122]⟩:ByteArray) (iAnd .u64 Xx50 C60)
   let Xx67←ixA C57 65 (IntKind.wrap .i64 (Xx51 - 1)) 1
   stV Xx67 (.int .u8 Xx66)
   let Xx69←pShr .u64 Xx50 C58
   self1 (Xx69,IntKind.wrap .i64 (Xx51 - 1))
   ) (do
   let Xx71←ixS (⟨#[48,49,50,51,52,53,54,55,56,57,97,98,99,100,101,102,103,104,105,106,107,108,109,110,111,112,113,114,115,116,117,118,119,120,121,122]⟩:ByteArray) Xx50
   let Xx72←ixA C57 65 (IntKind.wrap .i64 (Xx51 - 1)) 1
   stV Xx72 (.int .u8 Xx71)
   Zy C52 C53 C54 C55 C56 C57 (IntKind.wrap .i64 (Xx51 - 1))
   )
def Uo (C78:Sl) (C79:Bool) (C80:Bool) (C81:Sl) (C82:ByteArray) (C83:Addr) (C84:Int) (self2:(Int × Int)→M (Sl × ByteArray)):(Int × Int)→M (Sl × ByteArray):=fun s=>match s with
 | (Xx76,Xx77)=>do
  M.ite (decide (Xx76 ≥ C84)) (do
   let Xx90←pQuo .u64 Xx76 C84
   let Xx92←ixS (⟨#[48,49,50,51,52,53,54,55,56,57,97,98,99,100,101,102,103,104,105,106,107,108,109,110,111,112,113,114,115,116,117,118,119,120,121,122]⟩:ByteArray) (IntKind.wrap .u64 (Xx76 - (IntKind.wrap .u64 (Xx90 * C84))))
   let Xx93←ixA C83 65 (IntKind.wrap .i64 (Xx77 - 1)) 1
   stV Xx93 (.int .u8 Xx92)
   self2 (Xx90,IntKind.wrap .i64 (Xx77 - 1))
   ) (do
   let Xx96←ixS (⟨#[48,49,50,51,52,53,54,55,56,57,97,98,99,100,101,102,103,104,105,106,107,108,109,110,111,112,113,114,115,116,117,118,119,120,121,122]⟩:ByteArray) Xx76
   let Xx97←ixA C83 65 (IntKind.wrap .i64 (Xx77 - 1)) 1
   stV Xx97 (.int .u8 Xx96)
   Zy C78 C79 C80 C81 C82 C83 (IntKind.wrap .i64 (Xx77 - 1))
   )
def Zz (C10:Sl) (C11:Int) (C12:Bool) (C13:Bool) (C14:Sl) (C15:ByteArray) (C16:Addr) (C17:Int) (Xx9:Int):M (Sl × ByteArray):=do
 let Xx44←Z5 C11
 M.ite Xx44 (do
  let Xx46←J1 (IntKind.wrap .u64 C11)
  M.loop (Jd C10 C12 C13 C14 C15 C16 (IntKind.wrap .u64 Xx46) (IntKind.wrap .u64 C11) (IntKind.wrap .u64 ((IntKind.wrap .u64 C11) - 1))) (Xx9,C17)
  ) (do
  M.loop (Uo C10 C12 C13 C14 C15 C16 (IntKind.wrap .u64 C11)) (Xx9,C17)
  )
def JK (x0:Sl) (x1:Int) (x2:Int) (x3:Bool) (x4:Bool):M (Sl × ByteArray):=do
 let Xx4←M.ite (decide (x2 < 2)) (do
  M.pure true
  ) (do
  M.pure (x2 == 10)
  )
 let Xx5←M.ite Xx4 (do
  M.pure true
  ) (do
  M.pure (decide (x2 > 36))
  )
 M.ite Xx5 (do
  M.fail
  ) (do
  let Xx7←mkB YG (Array.replicate 65 (.int .u8 0):Array Value)
  M.ite x3 (do
   Zz x0 x2 x3 x4 Sl.nil ByteArray.empty Xx7 65 (IntKind.wrap .u64 (0 - x1))
   ) (do
   Zz x0 x2 x3 x4 Sl.nil ByteArray.empty Xx7 65 x1
   )
  )
theorem Y3 (x0:Sl) (x1:Int) (x2:Int) (x3:Bool) (x4:Bool):Kg Go.Proofs.Tryz.prog 230 #[(x0:Sl).v,.int .u64 x1,.int .i64 x2,.bool x3,.bool x4] (fun (r:Sl × ByteArray)=>.tuple #[(r.1:Sl).v,.string r.2]) (JK x0 x1 x2 x3 x4) :=
 KI [YP,GH] [] [.L,.S] [(0,.L x0),(1,.I .u64 x1),(2,.I .i64 x2),(3,.B x3),(4,.B x4)] (.q .o (.q .o (.q .o (.q .o (.q .o (.j [(0,.L),(2,.I .i64),(3,.B),(4,.B),(10,.L),(11,.S),(12,.A),(13,.I .i64),(1,.I .u64)] (fun (t:Sl × Int × Bool × Bool × Sl × ByteArray × Addr × Int × Int)=>Zz t.1 t.2.1 t.2.2.1 t.2.2.2.1 t.2.2.2.2.1 t.2.2.2.2.2.1 t.2.2.2.2.2.2.1 t.2.2.2.2.2.2.2.1 t.2.2.2.2.2.2.2.2) (.q (.q .o (.q (.q .o (.q .o (.q .o (.q (.b (.l [(0,.L),(3,.B),(4,.B),(10,.L),(11,.S),(12,.A),(14,.I .u64),(15,.I .u64),(16,.I .u64)] [(1,.I .u64),(13,.I .i64)] (fun (t:Sl × Bool × Bool × Sl × ByteArray × Addr × Int × Int × Int)=>Jd t.1 t.2.1 t.2.2.1 t.2.2.2.1 t.2.2.2.2.1 t.2.2.2.2.2.1 t.2.2.2.2.2.2.1 t.2.2.2.2.2.2.2.1 t.2.2.2.2.2.2.2.2) (fun _=>.o))) .o)))) (.q .o (.q (.b (.l [(0,.L),(3,.B),(4,.B),(10,.L),(11,.S),(12,.A),(17,.I .u64)] [(1,.I .u64),(13,.I .i64)] (fun (t:Sl × Bool × Bool × Sl × ByteArray × Addr × Int)=>Uo t.1 t.2.1 t.2.2.1 t.2.2.2.1 t.2.2.2.2.1 t.2.2.2.2.2.1 t.2.2.2.2.2.2) (fun _=>.o))) .o)))) (.j [(0,.L),(3,.B),(4,.B),(10,.L),(11,.S),(12,.A),(13,.I .i64)] (fun (t:Sl × Bool × Bool × Sl × ByteArray × Addr × Int)=>Zy t.1 t.2.1 t.2.2.1 t.2.2.2.1 t.2.2.2.2.1 t.2.2.2.2.2.1 t.2.2.2.2.2.2) (.q .o (.j [(0,.L),(4,.B),(10,.L),(11,.S),(12,.A),(13,.I .i64)] (fun (t:Sl × Bool × Sl × ByteArray × Addr × Int)=>Zx t.1 t.2.1 t.2.2.1 t.2.2.2.1 t.2.2.2.2.1 t.2.2.2.2.2) .o)))))))))) Go.Proofs.Tryz.func230 rfl rfl ⟨rfl,rfl,rfl,rfl,rfl,trivial⟩ rfl (by kernel_rfl) (by kernel_rfl)
noncomputable def Y4:CalleeS Go.Proofs.Tryz.prog:=mkC YW YY [.L,.I .u64,.I .i64,.B,.B] [.L,.S] (fun (t:Sl × Int × Int × Bool × Bool)=>JK t.1 t.2.1 t.2.2.1 t.2.2.2.1 t.2.2.2.2) (fun (t:Sl × Int × Int × Bool × Bool)=>Y3 t.1 t.2.1 t.2.2.1 t.2.2.2.1 t.2.2.2.2)
def Jn (C13:Int) (C14:Addr) (Xx12:Int):M (ByteArray):=do
 let Xx16←UK Xx12
 let Xx18←slA C14 24 1 (IntKind.wrap .i64 (1+Xx16)) 1
 let Xx19←Jm Xx18 Xx12
 M.ite (decide (C13 < 0)) (do
  let Xx23←ixA C14 24 0 1
  stV Xx23 (.int .u8 45)
  let Xx26←slA C14 24 0 (IntKind.wrap .i64 (1+Xx16)) 1
  let Xx27←b2s Xx26
  M.pure Xx27
  ) (do
  let Xx29←slA C14 24 1 (IntKind.wrap .i64 (1+Xx16)) 1
  let Xx30←b2s Xx29
  M.pure Xx30
  )
def UL (x0:Int) (x1:Int):M (ByteArray):=do
 M.ite (x1 == 10) (do
  let Xx6←M.ite (decide (0≤x0)) (do
   M.pure (decide (x0 < 100))
   ) (do
   M.pure false
   )
  M.ite Xx6 (do
   let Xx8←U8 x0
   M.pure Xx8
   ) (do
   let Xx10←mkB KEu (Array.replicate 24 (.int .u8 0):Array Value)
   M.ite (decide (x0 < 0)) (do
    Jn x0 Xx10 (IntKind.wrap .u64 (0 - (IntKind.wrap .u64 x0)))
    ) (do
    Jn x0 Xx10 (IntKind.wrap .u64 x0)
    )
   )
  ) (do
  let Xx33←JK Sl.nil (IntKind.wrap .u64 x0) x1 (decide (x0 < 0)) false
  M.pure Xx33.2
  )
theorem XV (x0:Int) (x1:Int):Kg Go.Proofs.Tryz.prog 198 #[.int .i64 x0,.int .i64 x1] (fun (r:ByteArray)=>.string r) (UL x0 x1) :=
 KI [GY,XU,YN,Y4] [] [.S] [(0,.I .i64 x0),(1,.I .i64 x1)] (.q .o (.q (.q .o (.q (.q .o (.q .o (.q .o (.q .o (.j [(0,.I .i64),(5,.A),(6,.I .u64)] (fun (t:Int × Addr × Int)=>Jn t.1 t.2.1 t.2.2) .o))))) .o)) .o)) Go.Proofs.Tryz.func198 rfl rfl ⟨rfl,rfl,trivial⟩ rfl (by kernel_rfl) (by kernel_rfl)
end Gx
