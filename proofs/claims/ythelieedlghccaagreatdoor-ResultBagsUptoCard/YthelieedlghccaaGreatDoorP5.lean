/- Printed by program: Go functions as Lean programs, each tied to its code. No condition. -/
import Derived.Test.YthelieedlghccaaGreatDoorP0
import Derived.Test.YthelieedlghccaaGreatDoorP1
import Derived.Test.YthelieedlghccaaGreatDoorP2
import Derived.Test.YthelieedlghccaaGreatDoorP3
import Derived.Test.YthelieedlghccaaGreatDoorP4
import Derived.Shelf.SlSortCmp.WholeK
import Derived.KernelRfl
set_option linter.unusedVariables false
set_option linter.unusedSimpArgs false
namespace Gx
open Go
set_option linter.unusedVariables false
set_option maxRecDepth 100000
def JP (C28:Option Addr) (C29:Int) (C30:Int):M (Value ⊕ (Int)):=do
 let Xx32←nilP C28
 let Xx33←ldI .i64 ((Xx32).add 1)
 let Xx34←nilP C28
 stV ((Xx34).add 1) (.int .i64 (IntKind.wrap .i64 (Xx33+1)))
 M.pure (.inr (IntKind.wrap .u8 (iOr .i64 (iShl .i64 C29 4) C30)))
def Ky (C38:Option Addr) (C39:Int) (C40:Int) (Xx37:Bool):M (Value ⊕ (Int)):=do
 M.ite Xx37 (do
  thr (K9 C38) fun Xx41=>do
   JP C38 C39 C40
  ) (do
  JP C38 C39 C40
  )
noncomputable def Ny:Array Oper:=KNB Go.Proofs.Tryz.f218 11
def KJq:List (List Nat):=[[],[0],[1],[2],[],[4],[5],[6],[7],[3,8],[9],[10],[11,10],[10,12],[13,10],[14],[15,14],[16,14,14],[17],[18,17],[17,19,14],[14,20]]
def KJr:List (List Nat):=[[],[0],[1],[2],[],[4],[5],[6],[7],[3,8],[9],[10],[10,11],[10,12],[13],[14],[14,15],[14,16],[17],[17,18],[14,17,19],[14,20]]
def KJs:List (List Nat):=[[],[0],[0,1],[0,1,2],[],[4],[4,5],[4,5,6],[4,5,6,7],[0,1,2,3,4,5,6,7,8],[0,1,2,3,4,5,6,7,8,9],[0,1,2,3,4,5,6,7,8,9,10],[0,1,2,3,4,5,6,7,8,9,10,11],[0,1,2,3,4,5,6,7,8,9,10,11,12],[0,1,2,3,4,5,6,7,8,9,10,11,12,13],[0,1,2,3,4,5,6,7,8,9,10,11,12,13,14],[0,1,2,3,4,5,6,7,8,9,10,11,12,13,14,15],[0,1,2,3,4,5,6,7,8,9,10,11,12,13,14,15,16],[0,1,2,3,4,5,6,7,8,9,10,11,12,13,14,15,16,17],[0,1,2,3,4,5,6,7,8,9,10,11,12,13,14,15,16,17,18],[0,1,2,3,4,5,6,7,8,9,10,11,12,13,14,15,16,17,18,19],[0,1,2,3,4,5,6,7,8,9,10,11,12,13,14,15,16,17,18,19,20]]
theorem KEN:KHe Go.Proofs.Tryz.f218 11 KJq KJr KJs=true:=by kernel_rfl
theorem KC4:KIi 22 KJq KJr KJs [0,1,2,4,0,16,32,64,128,264,512,1024,3072,5120,9216,16384,49152,81920,131072,393216,671744,1064960] [0,1,2,4,0,16,32,64,128,264,512,1024,3072,5120,8192,16384,49152,81920,131072,393216,671744,1064960] [0,1,3,7,0,16,48,112,240,511,1023,2047,4095,8191,16383,32767,65535,131071,262143,524287,1048575,2097151]=true:=by kernel_rfl
def JQ (C18:Option Addr) (C19:Int):M (Value ⊕ (Int)):=do
 let Xx21←nilP C18
 let Xx22←ldI .i64 ((Xx21).add 1)
 let Xx23←nilP C18
 stV ((Xx23).add 1) (.int .i64 (IntKind.wrap .i64 (Xx22+1)))
 let Xx26←Kv C18
 let Xx27←VK (⟨#[48,49,50,51,52,53,54,55,56,57,97,98,99,100,101,102]⟩:ByteArray) Xx26
 let Xx42←nilP C18
 let Xx43←nilP C18
 let Xx44←ldI .i64 ((Xx42).add 1)
 let Xx45←ldS ((Xx43).add 0)
 M.ite (decide (Xx44 ≥ (Xx45.size:Int))) (do
  Ky C18 C19 Xx27 true
  ) (do
  M.ite (decide (Xx27 < 0)) (do
   Ky C18 C19 Xx27 true
   ) (do
   M.ite (C19 == 7) (do
    Ky C18 C19 Xx27 (decide (Xx27 < 15))
    ) (do
    Ky C18 C19 Xx27 false
    )
   )
  )
def Kz (C50:Option Addr) (C51:Int) (Xx49:Bool):M (Value ⊕ (Int)):=do
 M.ite Xx49 (do
  thr (K9 C50) fun Xx52=>do
   JQ C50 C51
  ) (do
  JQ C50 C51
  )
noncomputable def zx:Array Oper:=KNB Go.Proofs.Tryz.f218 7
def KLs:List (List Nat):=[[],[0],[1],[2],[],[4],[5],[6],[7],[3,8],[9],[10],[11,10],[10,12],[13,10],[14],[15,14],[16,14,14],[17],[18,17],[17,19,14],[14,20]]
def KLt:List (List Nat):=[[],[0],[1],[2],[],[4],[5],[6],[7],[3,8],[9],[10],[10,11],[10,12],[13],[14],[14,15],[14,16],[17],[17,18],[14,17,19],[14,20]]
def KLu:List (List Nat):=[[],[0],[0,1],[0,1,2],[],[4],[4,5],[4,5,6],[4,5,6,7],[0,1,2,3,4,5,6,7,8],[0,1,2,3,4,5,6,7,8,9],[0,1,2,3,4,5,6,7,8,9,10],[0,1,2,3,4,5,6,7,8,9,10,11],[0,1,2,3,4,5,6,7,8,9,10,11,12],[0,1,2,3,4,5,6,7,8,9,10,11,12,13],[0,1,2,3,4,5,6,7,8,9,10,11,12,13,14],[0,1,2,3,4,5,6,7,8,9,10,11,12,13,14,15],[0,1,2,3,4,5,6,7,8,9,10,11,12,13,14,15,16],[0,1,2,3,4,5,6,7,8,9,10,11,12,13,14,15,16,17],[0,1,2,3,4,5,6,7,8,9,10,11,12,13,14,15,16,17,18],[0,1,2,3,4,5,6,7,8,9,10,11,12,13,14,15,16,17,18,19],[0,1,2,3,4,5,6,7,8,9,10,11,12,13,14,15,16,17,18,19,20]]
theorem KG6:KHe Go.Proofs.Tryz.f218 7 KLs KLt KLu=true:=by kernel_rfl
theorem KEO:KIi 22 KLs KLt KLu [0,1,2,4,0,16,32,64,128,264,512,1024,3072,5120,9216,16384,49152,81920,131072,393216,671744,1064960] [0,1,2,4,0,16,32,64,128,264,512,1024,3072,5120,8192,16384,49152,81920,131072,393216,671744,1064960] [0,1,3,7,0,16,48,112,240,511,1023,2047,4095,8191,16383,32767,65535,131071,262143,524287,1048575,2097151]=true:=by kernel_rfl
def UK (x0:Option Addr):M (Value ⊕ (Int)):=do
 let Xx4←Kv x0
 let Xx6←M.ite (Xx4 == 39) (do
  M.pure true
  ) (do
  M.pure (Xx4 == 92)
  )
 M.ite Xx6 (do
  let Xx8←nilP x0
  let Xx9←ldI .i64 ((Xx8).add 1)
  let Xx10←nilP x0
  stV ((Xx10).add 1) (.int .i64 (IntKind.wrap .i64 (Xx9+1)))
  M.pure (.inr Xx4)
  ) (do
  thr (ZN x0 (⟨#[120]⟩:ByteArray)) fun Xx14=>do
   let Xx16←Kv x0
   let Xx17←VK (⟨#[48,49,50,51,52,53,54,55,56,57,97,98,99,100,101,102]⟩:ByteArray) Xx16
   let Xx53←nilP x0
   let Xx54←nilP x0
   let Xx55←ldI .i64 ((Xx53).add 1)
   let Xx56←ldS ((Xx54).add 0)
   M.ite (decide (Xx55 ≥ (Xx56.size:Int))) (do
    Kz x0 Xx17 true
    ) (do
    M.ite (decide (Xx17 < 0)) (do
     Kz x0 Xx17 true
     ) (do
     M.ite (decide (Xx17 > 1)) (do
      Kz x0 Xx17 (decide (Xx17 < 7))
      ) (do
      Kz x0 Xx17 false
      )
     )
    )
  )
theorem za (x0:Option Addr):qH Go.Proofs.Tryz.prog 218 #[.pointer x0] (fun (r:Int)=>.int .u8 r) (UK x0):=by
 refine XK [(0,.pointer x0)] Go.Proofs.Tryz.func218 rfl rfl (Nat.le_of_ble_eq_true rfl) (Yw ⟨rfl,trivial⟩) (fun w0 w Q R X a hret hthr hE hR H=>?_)
 unfold UK at H
 refine Kc (fun K hK_1=>?_)
 refine KG ?_
 refine KH (v:=.int .u8 0) rfl rfl hE rfl (Kp hE rfl) (fun a hE=>?_)
 refine Ka ?_
 refine hK_1 _ _ ?_
 refine Kc (fun K hK_2=>?_)
 refine Kc (fun K hK_3=>?_)
 refine KG ?_
 refine KH (v:=.pointer x0) rfl rfl hE rfl (KJ hE rfl) (fun a hE=>?_)
 refine Uy hE hR Kw rfl (ZB x0) (M.unbind H) (fun Xx4 a w ea hR H=>?_)
 have hE:=Env.put_some hE rfl ea; clear ea
 refine KH (v:=.int .u8 Xx4) rfl rfl hE rfl (Kp hE rfl) (fun a hE=>?_)
 refine Ka ?_
 refine hK_3 _ _ ?_
 refine Kc (fun K hK_5=>?_)
 refine KG ?_
 refine KH (v:=.int .u8 Xx4) rfl rfl hE rfl (KJ hE rfl) (fun a hE=>?_)
 refine KH (v:=.bool (Xx4 == 39)) rfl rfl hE rfl (Zd hE rfl rfl ZV zP) (fun a hE=>?_)
 refine KH (v:=.bool (Xx4 == 39)) rfl rfl hE rfl (KJ hE rfl) (fun a hE=>?_)
 refine KHc (n:=(⟨97,[]⟩:Frm)) (w0:=w0) 3 (fun Xx6:Bool=>[(0,.pointer x0),(3,.int .u8 Xx4),(13,.bool Xx6)]) (M.unbind H) (fun Kr hKr H=>?_) ?_
 ·rcases WY (Xx4 == 39) with hb | hb
  ·replace H:=M.ite_t hb H
   have hE:=hE.reb 10 (Xx4 == 39) true hb rfl
   refine zQ rfl hE rfl rfl rfl (fun a ea=>?_)
   have hE:=Env.put_some hE rfl ea; clear ea
   refine zQ rfl hE rfl rfl rfl (fun a ea=>?_)
   have hE:=Env.put_some hE rfl ea; clear ea
   refine KH rfl rfl hE rfl (Uo hE rfl rfl) (fun a hE=>?_)
   refine Ka ?_
   exact hKr _ _ _ (hE.cut (.cons rfl (.cons rfl (.cons rfl Subs.nil)))) hR H
  ·replace H:=M.ite_f hb H
   have hE:=hE.reb 10 (Xx4 == 39) false hb rfl
   refine t_on rfl hE rfl rfl rfl ?_
   refine KH (v:=.int .u8 Xx4) rfl rfl hE rfl (KJ hE rfl) (fun a hE=>?_)
   refine t_on rfl hE rfl rfl rfl ?_
   refine KH (v:=.bool (Xx4 == 92)) rfl rfl hE rfl (Zd hE rfl rfl ZV zP) (fun a hE=>?_)
   refine KH rfl rfl hE rfl (Jv hE rfl rfl) (fun a hE=>?_)
   refine Ka ?_
   exact hKr _ _ _ (hE.cut (.cons rfl (.cons rfl (.cons rfl Subs.nil)))) hR H
 ·intro Xx6 a w hE hR H
  refine Ka ?_
  refine hK_5 _ _ ?_
  refine Jg Xx6 hE rfl (fun hb=>?_) (fun hb=>?_)
  ·replace H:=M.ite_t hb H
   refine Kc (fun K hK_7=>?_)
   refine KG ?_
   refine KH (v:=.pointer x0) rfl rfl hE rfl (KJ hE rfl) (fun a hE=>?_)
   obtain ⟨Xx8,qXx8,H⟩:=H
   refine KH (v:=.pointer (some Xx8)) rfl rfl hE rfl (KV hE (J7 rfl (congrArg Value.pointer qXx8))) (fun a hE=>?_)
   refine KH (v:=.pointer (some ((Xx8).add 1))) rfl rfl hE rfl (KM hE rfl Zi) (fun a hE=>?_)
   obtain ⟨Xx9,qXx9,H⟩:=H
   refine KH (v:=.int .i64 Xx9) rfl rfl hE rfl (Zk hE rfl sc3 qXx9) (fun a hE=>?_)
   refine KH (v:=.int .i64 (IntKind.wrap .i64 (Xx9+1))) rfl rfl hE rfl (Zd hE rfl rfl ZV zO) (fun a hE=>?_)
   obtain ⟨Xx10,qXx10,H⟩:=H
   refine KH (v:=.pointer (some Xx10)) rfl rfl hE rfl (KV hE (J7 rfl (congrArg Value.pointer qXx10))) (fun a hE=>?_)
   refine KH (v:=.pointer (some ((Xx10).add 1))) rfl rfl hE rfl (KM hE rfl Zi) (fun a hE=>?_)
   obtain ⟨u_11,qu_11,H⟩:=H
   refine U0 rfl rfl hE hR (Zn hE rfl rfl sz3 qu_11) (fun a w hE hR hh=>?_)
   replace H:=M.at hh H; clear hh
   refine Ka ?_
   refine hK_7 _ _ ?_
   refine Kc (fun K hK_12=>?_)
   refine KG ?_
   refine KH (v:=.int .u8 Xx4) rfl rfl hE rfl (KJ hE rfl) (fun a hE=>?_)
   refine KH (v:=.int .u8 Xx4) rfl rfl hE rfl (Kp hE rfl) (fun a hE=>?_)
   refine Ka ?_
   refine hK_12 _ _ ?_
   refine Yv ?_
   exact hret _ _ _ Xx4 _ hE hR (Jb hE rfl (RV.tmp rfl RV.nil)) rfl H
  ·replace H:=M.ite_f hb H
   refine Un ?_
   refine hK_2 _ _ ?_
   refine Kc (fun K hK_13=>?_)
   refine KG ?_
   refine KH (v:=.pointer x0) rfl rfl hE rfl (KJ hE rfl) (fun a hE=>?_)
   refine Jk hE hR Zh rfl (Zs x0 (⟨#[120]⟩:ByteArray)) H (fun _ _ hR HQ=>hthr _ _ hR HQ) (fun Xx14 a w ea hR H=>?_)
   have hE:=Env.put_some hE rfl ea; clear ea
   refine Ka ?_
   refine hK_13 _ _ ?_
   refine Kc (fun K hK_15=>?_)
   refine KG ?_
   refine KH (v:=.pointer x0) rfl rfl hE rfl (KJ hE rfl) (fun a hE=>?_)
   refine Uy hE hR Kw rfl (ZB x0) (M.unbind H) (fun Xx16 a w ea hR H=>?_)
   have hE:=Env.put_some hE rfl ea; clear ea
   refine Uy hE hR GA rfl (NK (⟨#[48,49,50,51,52,53,54,55,56,57,97,98,99,100,101,102]⟩:ByteArray) Xx16) (M.unbind H) (fun Xx17 a w ea hR H=>?_)
   have hE:=Env.put_some hE rfl ea; clear ea
   refine KH (v:=.int .i64 Xx17) rfl rfl hE rfl (Kp hE rfl) (fun a hE=>?_)
   refine Ka ?_
   refine hK_15 _ _ ?_
   refine J3 (fun a w=>Env (⟨97,[]⟩:Frm) a [(0,.pointer x0),(4,.int .i64 Xx17)]∧Rest w0 w∧(JQ x0 Xx17).wp w.heap Q) ?_ ?_
   ·rintro a w ⟨hE,hR,H⟩
    unfold JQ at H
    refine Kc (fun K hK_20=>?_)
    refine KG ?_
    refine KH (v:=.pointer x0) rfl rfl hE rfl (KJ hE rfl) (fun a hE=>?_)
    obtain ⟨Xx21,qXx21,H⟩:=H
    refine KH (v:=.pointer (some Xx21)) rfl rfl hE rfl (KV hE (J7 rfl (congrArg Value.pointer qXx21))) (fun a hE=>?_)
    refine KH (v:=.pointer (some ((Xx21).add 1))) rfl rfl hE rfl (KM hE rfl Zi) (fun a hE=>?_)
    obtain ⟨Xx22,qXx22,H⟩:=H
    refine KH (v:=.int .i64 Xx22) rfl rfl hE rfl (Zk hE rfl sc3 qXx22) (fun a hE=>?_)
    refine KH (v:=.int .i64 (IntKind.wrap .i64 (Xx22+1))) rfl rfl hE rfl (Zd hE rfl rfl ZV zO) (fun a hE=>?_)
    obtain ⟨Xx23,qXx23,H⟩:=H
    refine KH (v:=.pointer (some Xx23)) rfl rfl hE rfl (KV hE (J7 rfl (congrArg Value.pointer qXx23))) (fun a hE=>?_)
    refine KH (v:=.pointer (some ((Xx23).add 1))) rfl rfl hE rfl (KM hE rfl Zi) (fun a hE=>?_)
    obtain ⟨u_24,qu_24,H⟩:=H
    refine U0 rfl rfl hE hR (Zn hE rfl rfl sz3 qu_24) (fun a w hE hR hh=>?_)
    replace H:=M.at hh H; clear hh
    refine Ka ?_
    refine hK_20 _ _ ?_
    refine Kc (fun K hK_25=>?_)
    refine KG ?_
    refine KH (v:=.pointer x0) rfl rfl hE rfl (KJ hE rfl) (fun a hE=>?_)
    refine Uy hE hR Kw rfl (ZB x0) (M.unbind H) (fun Xx26 a w ea hR H=>?_)
    have hE:=Env.put_some hE rfl ea; clear ea
    refine Uy hE hR GA rfl (NK (⟨#[48,49,50,51,52,53,54,55,56,57,97,98,99,100,101,102]⟩:ByteArray) Xx26) (M.unbind H) (fun Xx27 a w ea hR H=>?_)
    have hE:=Env.put_some hE rfl ea; clear ea
    refine KH (v:=.int .i64 Xx27) rfl rfl hE rfl (Kp hE rfl) (fun a hE=>?_)
    refine Ka ?_
    refine hK_25 _ _ ?_
    refine J3 (fun a w=>Env (⟨97,[]⟩:Frm) a [(0,.pointer x0),(4,.int .i64 Xx17),(5,.int .i64 Xx27)]∧Rest w0 w∧(JP x0 Xx17 Xx27).wp w.heap Q) ?_ ?_
    ·rintro a w ⟨hE,hR,H⟩
     unfold JP at H
     refine Kc (fun K hK_31=>?_)
     refine KG ?_
     refine KH (v:=.pointer x0) rfl rfl hE rfl (KJ hE rfl) (fun a hE=>?_)
     obtain ⟨Xx32,qXx32,H⟩:=H
     refine KH (v:=.pointer (some Xx32)) rfl rfl hE rfl (KV hE (J7 rfl (congrArg Value.pointer qXx32))) (fun a hE=>?_)
     refine KH (v:=.pointer (some ((Xx32).add 1))) rfl rfl hE rfl (KM hE rfl Zi) (fun a hE=>?_)
     obtain ⟨Xx33,qXx33,H⟩:=H
     refine KH (v:=.int .i64 Xx33) rfl rfl hE rfl (Zk hE rfl sc3 qXx33) (fun a hE=>?_)
     refine KH (v:=.int .i64 (IntKind.wrap .i64 (Xx33+1))) rfl rfl hE rfl (Zd hE rfl rfl ZV zO) (fun a hE=>?_)
     obtain ⟨Xx34,qXx34,H⟩:=H
     refine KH (v:=.pointer (some Xx34)) rfl rfl hE rfl (KV hE (J7 rfl (congrArg Value.pointer qXx34))) (fun a hE=>?_)
     refine KH (v:=.pointer (some ((Xx34).add 1))) rfl rfl hE rfl (KM hE rfl Zi) (fun a hE=>?_)
     obtain ⟨u_35,qu_35,H⟩:=H
     refine U0 rfl rfl hE hR (Zn hE rfl rfl sz3 qu_35) (fun a w hE hR hh=>?_)
     replace H:=M.at hh H; clear hh
     refine Ka ?_
     refine hK_31 _ _ ?_
     refine Kc (fun K hK_36=>?_)
     refine KG ?_
     refine KH (v:=.int .i64 Xx17) rfl rfl hE rfl (KJ hE rfl) (fun a hE=>?_)
     refine KH (v:=.int .i64 (iShl .i64 Xx17 4)) rfl rfl hE rfl (Zd hE rfl rfl ZV (KOf ⟨by decide,rfl⟩)) (fun a hE=>?_)
     refine KH (v:=.int .i64 Xx27) rfl rfl hE rfl (KJ hE rfl) (fun a hE=>?_)
     refine KH (v:=.int .i64 (iOr .i64 (iShl .i64 Xx17 4) Xx27)) rfl rfl hE rfl (Zd hE rfl rfl ZV b_or) (fun a hE=>?_)
     refine KH (v:=.int .u8 (IntKind.wrap .u8 (iOr .i64 (iShl .i64 Xx17 4) Xx27))) rfl rfl hE rfl (KK5 hE rfl un3 un5) (fun a hE=>?_)
     refine KH (v:=.int .u8 (IntKind.wrap .u8 (iOr .i64 (iShl .i64 Xx17 4) Xx27))) rfl rfl hE rfl (Kp hE rfl) (fun a hE=>?_)
     refine Ka ?_
     refine hK_36 _ _ ?_
     refine Yv ?_
     exact hret _ _ _ (IntKind.wrap .u8 (iOr .i64 (iShl .i64 Xx17 4) Xx27)) _ hE hR (Jb hE rfl (RV.tmp rfl RV.nil)) rfl H
    ·skip
     refine J3 (fun a w=>∃ (Xx37:Bool),Env (⟨97,[]⟩:Frm) a [(0,.pointer x0),(4,.int .i64 Xx17),(5,.int .i64 Xx27),(82,.bool Xx37)]∧Rest w0 w∧(Ky x0 Xx17 Xx27 Xx37).wp w.heap Q) ?_ ?_
     ·rintro a w ⟨Xx37,hE,hR,H⟩
      unfold Ky at H
      refine Jg Xx37 hE rfl (fun hb=>?_) (fun hb=>?_)
      ·replace H:=M.ite_t hb H
       refine KG ?_
       refine KH (v:=.pointer x0) rfl rfl hE rfl (KJ hE rfl) (fun a hE=>?_)
       refine Jk hE hR ZH rfl (ZQ x0) H (fun _ _ hR HQ=>hthr _ _ hR HQ) (fun Xx41 a w ea hR H=>?_)
       have hE:=Env.put_some hE rfl ea; clear ea
       refine Ka ?_
       exact ⟨hE.cut (.cons rfl (.cons rfl (.cons rfl Subs.nil))),hR,H⟩
      ·replace H:=M.ite_f hb H
       refine Un ?_
       exact ⟨hE.cut (.cons rfl (.cons rfl (.cons rfl Subs.nil))),hR,H⟩
     ·skip
      obtain ⟨Xx42,qXx42,H⟩:=H
      obtain ⟨Xx43,qXx43,H⟩:=H
      obtain ⟨Xx44,qXx44,H⟩:=H
      obtain ⟨Xx45,qXx45,H⟩:=H
      rcases WY (decide (Xx44 ≥ (Xx45.size:Int))) with hb_46 | hb_46
      ·replace H:=M.ite_t hb_46 H
       refine zd (rops:=Ny) (by kernel_rfl) ?_
       have hT:Tab Ny _ _ _:=qJ KEN rfl (by kernel_rfl)
       have hM:=TabM.of KC4
       refine YL (m:=22) (fun w:World=>(fun h:Heap=>(KO h ((Xx42).add 1)=some (.int .i64 Xx44))∧(KO h ((Xx43).add 0)=some (.string Xx45))) w.heap) [9,10,11,12,13,14,15,16,17,18,19,20,21] (unb 22 0) mo hR (by kernel_rfl) (by kernel_rfl) (fun w' e=>by rw [e]; exact ⟨qXx44,qXx45⟩) (fun w hh hR hs=>?_)
       replace H:=M.at hh H; clear hh
       refine KF (i:=0) (v:=.pointer x0) (unb 22 1) rfl rfl hT (anyM hM (by kernel_rfl)) hE rfl (KA rfl) (fun w=>KJ hE rfl) (fun a hE=>?_)
       refine KF (i:=1) (v:=.pointer (some Xx42)) (unb 22 3) rfl rfl hT (anyM hM (by kernel_rfl)) hE rfl (KA rfl) (fun w=>KV hE (J7 rfl (congrArg Value.pointer qXx42))) (fun a hE=>?_)
       refine KF (i:=2) (v:=.pointer (some ((Xx42).add 1))) (unb 22 7) rfl rfl hT (anyM hM (by kernel_rfl)) hE rfl (KA rfl) (fun w=>KM hE rfl Zi) (fun a hE=>?_)
       refine KF (i:=4) (v:=.pointer x0) (unb 22 23) rfl rfl hT (anyM hM (by kernel_rfl)) hE rfl (KA rfl) (fun w=>KJ hE rfl) (fun a hE=>?_)
       refine KF (i:=5) (v:=.pointer (some Xx43)) (unb 22 55) rfl rfl hT (anyM hM (by kernel_rfl)) hE rfl (KA rfl) (fun w=>KV hE (J7 rfl (congrArg Value.pointer qXx43))) (fun a hE=>?_)
       refine KF (i:=6) (v:=.pointer (some ((Xx43).add 0))) (unb 22 119) rfl rfl hT (anyM hM (by kernel_rfl)) hE rfl (KA rfl) (fun w=>KM hE rfl Xy) (fun a hE=>?_)
       refine U8 (i:=3) (v:=.int .i64 Xx44) (unb 22 127) rfl rfl hT (Xh hM (by kernel_rfl)) hE rfl (KA rfl) hs (fun w s=>Zk hE rfl sc3 s.1) (fun a hE=>?_)
       refine U8 (i:=7) (v:=.string Xx45) (unb 22 255) rfl rfl hT (Xh hM (by kernel_rfl)) hE rfl (KA rfl) hs (fun w s=>Zk hE rfl sc9 s.2) (fun a hE=>?_)
       refine KF (i:=8) (v:=.int .i64 (Xx45.size:Int)) (unb 22 511) rfl rfl hT (anyM hM (by kernel_rfl)) hE rfl (KA rfl) (fun w=>qI hE rfl un9) (fun a hE=>?_)
       refine KF (i:=9) (v:=.bool (decide (Xx44 ≥ (Xx45.size:Int)))) (unb 22 1023) rfl rfl hT (anyM hM (by kernel_rfl)) hE rfl (KA rfl) (fun w=>Zd hE rfl rfl ZV KEc) (fun a hE=>?_)
       refine KF (i:=10) (v:=.bool (decide (Xx44 ≥ (Xx45.size:Int)))) (unb 22 2047) rfl rfl hT (anyM hM (by kernel_rfl)) hE rfl (KA rfl) (fun w=>KJ hE rfl) (fun a hE=>?_)
       have hE:=hE.reb 71 (decide (Xx44 ≥ (Xx45.size:Int))) true hb_46 rfl
       replace hE:=hE.cut (l':=[(0,.pointer x0),(4,.int .i64 Xx17),(5,.int .i64 Xx27),(71,.bool true)]) (.cons rfl (.cons rfl (.cons rfl (.cons rfl Subs.nil))))
       refine KGX (i:=11) (unb 22 4095) rfl rfl hT (anyM hM (by kernel_rfl)) (Uw rfl hE rfl rfl rfl) (fun a ea=>?_)
       have hE:=Env.put_some hE rfl ea; clear ea
       refine KGX (i:=12) (unb 22 8191) rfl rfl hT (anyM hM (by kernel_rfl)) (Uw rfl hE rfl rfl rfl) (fun a ea=>?_)
       have hE:=Env.put_some hE rfl ea; clear ea
       refine KF (i:=13) (v:=.bool true) (unb 22 16383) rfl rfl hT (anyM hM (by kernel_rfl)) hE rfl (KA rfl) (fun w=>Uo hE rfl rfl) (fun a hE=>?_)
       refine KF (i:=14) (v:=.bool true) (unb 22 32767) rfl rfl hT (anyM hM (by kernel_rfl)) hE rfl (KA rfl) (fun w=>KJ hE rfl) (fun a hE=>?_)
       refine KCD [(15,some 76),(16,some 77),(17,some 78),(18,some 79),(19,some 80),(20,some 81)] 1 hT hM hE (by kernel_rfl) (m':=2097151) (by kernel_rfl) (fun a hE=>?_)
       refine KF (i:=21) (v:=.bool true) (unb 22 4194303) rfl rfl hT (anyM hM (by kernel_rfl)) hE rfl (KA rfl) (fun w=>Uo hE rfl rfl) (fun a hE=>?_)
       refine Nq hT (KEB hM (by kernel_rfl)) ?_
       exact ⟨true,hE.cut (.cons rfl (.cons rfl (.cons rfl (.cons rfl Subs.nil)))),hR,H⟩
      ·replace H:=M.ite_f hb_46 H
       rcases WY (decide (Xx27 < 0)) with hb_47 | hb_47
       ·replace H:=M.ite_t hb_47 H
        refine zd (rops:=Ny) (by kernel_rfl) ?_
        have hT:Tab Ny _ _ _:=qJ KEN rfl (by kernel_rfl)
        have hM:=TabM.of KC4
        refine YL (m:=22) (fun w:World=>(fun h:Heap=>(KO h ((Xx42).add 1)=some (.int .i64 Xx44))∧(KO h ((Xx43).add 0)=some (.string Xx45))) w.heap) [9,10,11,12,13,14,15,16,17,18,19,20,21] (unb 22 0) mo hR (by kernel_rfl) (by kernel_rfl) (fun w' e=>by rw [e]; exact ⟨qXx44,qXx45⟩) (fun w hh hR hs=>?_)
        replace H:=M.at hh H; clear hh
        refine KF (i:=0) (v:=.pointer x0) (unb 22 1) rfl rfl hT (anyM hM (by kernel_rfl)) hE rfl (KA rfl) (fun w=>KJ hE rfl) (fun a hE=>?_)
        refine KF (i:=1) (v:=.pointer (some Xx42)) (unb 22 3) rfl rfl hT (anyM hM (by kernel_rfl)) hE rfl (KA rfl) (fun w=>KV hE (J7 rfl (congrArg Value.pointer qXx42))) (fun a hE=>?_)
        refine KF (i:=2) (v:=.pointer (some ((Xx42).add 1))) (unb 22 7) rfl rfl hT (anyM hM (by kernel_rfl)) hE rfl (KA rfl) (fun w=>KM hE rfl Zi) (fun a hE=>?_)
        refine KF (i:=4) (v:=.pointer x0) (unb 22 23) rfl rfl hT (anyM hM (by kernel_rfl)) hE rfl (KA rfl) (fun w=>KJ hE rfl) (fun a hE=>?_)
        refine KF (i:=5) (v:=.pointer (some Xx43)) (unb 22 55) rfl rfl hT (anyM hM (by kernel_rfl)) hE rfl (KA rfl) (fun w=>KV hE (J7 rfl (congrArg Value.pointer qXx43))) (fun a hE=>?_)
        refine KF (i:=6) (v:=.pointer (some ((Xx43).add 0))) (unb 22 119) rfl rfl hT (anyM hM (by kernel_rfl)) hE rfl (KA rfl) (fun w=>KM hE rfl Xy) (fun a hE=>?_)
        refine U8 (i:=3) (v:=.int .i64 Xx44) (unb 22 127) rfl rfl hT (Xh hM (by kernel_rfl)) hE rfl (KA rfl) hs (fun w s=>Zk hE rfl sc3 s.1) (fun a hE=>?_)
        refine U8 (i:=7) (v:=.string Xx45) (unb 22 255) rfl rfl hT (Xh hM (by kernel_rfl)) hE rfl (KA rfl) hs (fun w s=>Zk hE rfl sc9 s.2) (fun a hE=>?_)
        refine KF (i:=8) (v:=.int .i64 (Xx45.size:Int)) (unb 22 511) rfl rfl hT (anyM hM (by kernel_rfl)) hE rfl (KA rfl) (fun w=>qI hE rfl un9) (fun a hE=>?_)
        refine KF (i:=9) (v:=.bool (decide (Xx44 ≥ (Xx45.size:Int)))) (unb 22 1023) rfl rfl hT (anyM hM (by kernel_rfl)) hE rfl (KA rfl) (fun w=>Zd hE rfl rfl ZV KEc) (fun a hE=>?_)
        refine KF (i:=10) (v:=.bool (decide (Xx44 ≥ (Xx45.size:Int)))) (unb 22 2047) rfl rfl hT (anyM hM (by kernel_rfl)) hE rfl (KA rfl) (fun w=>KJ hE rfl) (fun a hE=>?_)
        have hE:=hE.reb 71 (decide (Xx44 ≥ (Xx45.size:Int))) false hb_46 rfl
        replace hE:=hE.cut (l':=[(0,.pointer x0),(4,.int .i64 Xx17),(5,.int .i64 Xx27),(71,.bool false)]) (.cons rfl (.cons rfl (.cons rfl (.cons rfl Subs.nil))))
        refine KF (i:=11) (v:=.int .i64 Xx27) (unb 22 4095) rfl rfl hT (anyM hM (by kernel_rfl)) hE rfl (Ke rfl hE rfl rfl rfl) (fun w=>KJ hE rfl) (fun a hE=>?_)
        refine KF (i:=12) (v:=.bool (decide (Xx27 < 0))) (unb 22 8191) rfl rfl hT (anyM hM (by kernel_rfl)) hE rfl (Ke rfl hE rfl rfl rfl) (fun w=>Zd hE rfl rfl ZV KB7) (fun a hE=>?_)
        refine KF (i:=13) (v:=.bool (decide (Xx27 < 0))) (unb 22 16383) rfl rfl hT (anyM hM (by kernel_rfl)) hE rfl (KA rfl) (fun w=>Jv hE rfl rfl) (fun a hE=>?_)
        refine KF (i:=14) (v:=.bool (decide (Xx27 < 0))) (unb 22 32767) rfl rfl hT (anyM hM (by kernel_rfl)) hE rfl (KA rfl) (fun w=>KJ hE rfl) (fun a hE=>?_)
        have hE:=hE.reb 75 (decide (Xx27 < 0)) true hb_47 rfl
        replace hE:=hE.cut (l':=[(0,.pointer x0),(4,.int .i64 Xx17),(5,.int .i64 Xx27),(75,.bool true)]) (.cons rfl (.cons rfl (.cons rfl (.cons rfl Subs.nil))))
        refine KCD [(15,some 76),(16,some 77),(17,some 78),(18,some 79),(19,some 80),(20,some 81)] 1 hT hM hE (by kernel_rfl) (m':=2097151) (by kernel_rfl) (fun a hE=>?_)
        refine KF (i:=21) (v:=.bool true) (unb 22 4194303) rfl rfl hT (anyM hM (by kernel_rfl)) hE rfl (KA rfl) (fun w=>Uo hE rfl rfl) (fun a hE=>?_)
        refine Nq hT (KEB hM (by kernel_rfl)) ?_
        exact ⟨true,hE.cut (.cons rfl (.cons rfl (.cons rfl (.cons rfl Subs.nil)))),hR,H⟩
       ·replace H:=M.ite_f hb_47 H
        rcases WY (Xx17 == 7) with hb_48 | hb_48
        ·replace H:=M.ite_t hb_48 H
         refine zd (rops:=Ny) (by kernel_rfl) ?_
         have hT:Tab Ny _ _ _:=qJ KEN rfl (by kernel_rfl)
         have hM:=TabM.of KC4
         refine YL (m:=22) (fun w:World=>(fun h:Heap=>(KO h ((Xx42).add 1)=some (.int .i64 Xx44))∧(KO h ((Xx43).add 0)=some (.string Xx45))) w.heap) [9,10,11,12,13,14,15,16,17,18,19,20,21] (unb 22 0) mo hR (by kernel_rfl) (by kernel_rfl) (fun w' e=>by rw [e]; exact ⟨qXx44,qXx45⟩) (fun w hh hR hs=>?_)
         replace H:=M.at hh H; clear hh
         refine KF (i:=0) (v:=.pointer x0) (unb 22 1) rfl rfl hT (anyM hM (by kernel_rfl)) hE rfl (KA rfl) (fun w=>KJ hE rfl) (fun a hE=>?_)
         refine KF (i:=1) (v:=.pointer (some Xx42)) (unb 22 3) rfl rfl hT (anyM hM (by kernel_rfl)) hE rfl (KA rfl) (fun w=>KV hE (J7 rfl (congrArg Value.pointer qXx42))) (fun a hE=>?_)
         refine KF (i:=2) (v:=.pointer (some ((Xx42).add 1))) (unb 22 7) rfl rfl hT (anyM hM (by kernel_rfl)) hE rfl (KA rfl) (fun w=>KM hE rfl Zi) (fun a hE=>?_)
         refine KF (i:=4) (v:=.pointer x0) (unb 22 23) rfl rfl hT (anyM hM (by kernel_rfl)) hE rfl (KA rfl) (fun w=>KJ hE rfl) (fun a hE=>?_)
         refine KF (i:=5) (v:=.pointer (some Xx43)) (unb 22 55) rfl rfl hT (anyM hM (by kernel_rfl)) hE rfl (KA rfl) (fun w=>KV hE (J7 rfl (congrArg Value.pointer qXx43))) (fun a hE=>?_)
         refine KF (i:=6) (v:=.pointer (some ((Xx43).add 0))) (unb 22 119) rfl rfl hT (anyM hM (by kernel_rfl)) hE rfl (KA rfl) (fun w=>KM hE rfl Xy) (fun a hE=>?_)
         refine U8 (i:=3) (v:=.int .i64 Xx44) (unb 22 127) rfl rfl hT (Xh hM (by kernel_rfl)) hE rfl (KA rfl) hs (fun w s=>Zk hE rfl sc3 s.1) (fun a hE=>?_)
         refine U8 (i:=7) (v:=.string Xx45) (unb 22 255) rfl rfl hT (Xh hM (by kernel_rfl)) hE rfl (KA rfl) hs (fun w s=>Zk hE rfl sc9 s.2) (fun a hE=>?_)
         refine KF (i:=8) (v:=.int .i64 (Xx45.size:Int)) (unb 22 511) rfl rfl hT (anyM hM (by kernel_rfl)) hE rfl (KA rfl) (fun w=>qI hE rfl un9) (fun a hE=>?_)
         refine KF (i:=9) (v:=.bool (decide (Xx44 ≥ (Xx45.size:Int)))) (unb 22 1023) rfl rfl hT (anyM hM (by kernel_rfl)) hE rfl (KA rfl) (fun w=>Zd hE rfl rfl ZV KEc) (fun a hE=>?_)
         refine KF (i:=10) (v:=.bool (decide (Xx44 ≥ (Xx45.size:Int)))) (unb 22 2047) rfl rfl hT (anyM hM (by kernel_rfl)) hE rfl (KA rfl) (fun w=>KJ hE rfl) (fun a hE=>?_)
         have hE:=hE.reb 71 (decide (Xx44 ≥ (Xx45.size:Int))) false hb_46 rfl
         replace hE:=hE.cut (l':=[(0,.pointer x0),(4,.int .i64 Xx17),(5,.int .i64 Xx27),(71,.bool false)]) (.cons rfl (.cons rfl (.cons rfl (.cons rfl Subs.nil))))
         refine KF (i:=11) (v:=.int .i64 Xx27) (unb 22 4095) rfl rfl hT (anyM hM (by kernel_rfl)) hE rfl (Ke rfl hE rfl rfl rfl) (fun w=>KJ hE rfl) (fun a hE=>?_)
         refine KF (i:=12) (v:=.bool (decide (Xx27 < 0))) (unb 22 8191) rfl rfl hT (anyM hM (by kernel_rfl)) hE rfl (Ke rfl hE rfl rfl rfl) (fun w=>Zd hE rfl rfl ZV KB7) (fun a hE=>?_)
         refine KF (i:=13) (v:=.bool (decide (Xx27 < 0))) (unb 22 16383) rfl rfl hT (anyM hM (by kernel_rfl)) hE rfl (KA rfl) (fun w=>Jv hE rfl rfl) (fun a hE=>?_)
         refine KF (i:=14) (v:=.bool (decide (Xx27 < 0))) (unb 22 32767) rfl rfl hT (anyM hM (by kernel_rfl)) hE rfl (KA rfl) (fun w=>KJ hE rfl) (fun a hE=>?_)
         have hE:=hE.reb 75 (decide (Xx27 < 0)) false hb_47 rfl
         replace hE:=hE.cut (l':=[(0,.pointer x0),(4,.int .i64 Xx17),(5,.int .i64 Xx27),(75,.bool false)]) (.cons rfl (.cons rfl (.cons rfl (.cons rfl Subs.nil))))
         refine KF (i:=15) (v:=.int .i64 Xx17) (unb 22 65535) rfl rfl hT (anyM hM (by kernel_rfl)) hE rfl (Ke rfl hE rfl rfl rfl) (fun w=>KJ hE rfl) (fun a hE=>?_)
         refine KF (i:=16) (v:=.bool (Xx17 == 7)) (unb 22 131071) rfl rfl hT (anyM hM (by kernel_rfl)) hE rfl (Ke rfl hE rfl rfl rfl) (fun w=>Zd hE rfl rfl ZV zP) (fun a hE=>?_)
         refine KF (i:=17) (v:=.bool (Xx17 == 7)) (unb 22 262143) rfl rfl hT (anyM hM (by kernel_rfl)) hE rfl (Ke rfl hE rfl rfl rfl) (fun w=>KJ hE rfl) (fun a hE=>?_)
         have hE:=hE.reb 78 (Xx17 == 7) true hb_48 rfl
         replace hE:=hE.cut (l':=[(0,.pointer x0),(4,.int .i64 Xx17),(5,.int .i64 Xx27),(75,.bool false),(78,.bool true)]) (.cons rfl (.cons rfl (.cons rfl (.cons rfl (.cons rfl Subs.nil)))))
         refine KF (i:=18) (v:=.int .i64 Xx27) (unb 22 524287) rfl rfl hT (anyM hM (by kernel_rfl)) hE rfl (Ke rfl hE rfl rfl rfl) (fun w=>KJ hE rfl) (fun a hE=>?_)
         refine KF (i:=19) (v:=.bool (decide (Xx27 < 15))) (unb 22 1048575) rfl rfl hT (anyM hM (by kernel_rfl)) hE rfl (Ke rfl hE rfl rfl rfl) (fun w=>Zd hE rfl rfl ZV KB7) (fun a hE=>?_)
         refine KF (i:=20) (v:=.bool (decide (Xx27 < 15))) (unb 22 2097151) rfl rfl hT (anyM hM (by kernel_rfl)) hE rfl (Ke rfl hE rfl rfl rfl) (fun w=>Uo hE rfl rfl) (fun a hE=>?_)
         refine KF (i:=21) (v:=.bool (decide (Xx27 < 15))) (unb 22 4194303) rfl rfl hT (anyM hM (by kernel_rfl)) hE rfl (KA rfl) (fun w=>Jv hE rfl rfl) (fun a hE=>?_)
         refine Nq hT (KEB hM (by kernel_rfl)) ?_
         exact ⟨decide (Xx27 < 15),hE.cut (.cons rfl (.cons rfl (.cons rfl (.cons rfl Subs.nil)))),hR,H⟩
        ·replace H:=M.ite_f hb_48 H
         refine zd (rops:=Ny) (by kernel_rfl) ?_
         have hT:Tab Ny _ _ _:=qJ KEN rfl (by kernel_rfl)
         have hM:=TabM.of KC4
         refine YL (m:=22) (fun w:World=>(fun h:Heap=>(KO h ((Xx42).add 1)=some (.int .i64 Xx44))∧(KO h ((Xx43).add 0)=some (.string Xx45))) w.heap) [9,10,11,12,13,14,15,16,17,18,19,20,21] (unb 22 0) mo hR (by kernel_rfl) (by kernel_rfl) (fun w' e=>by rw [e]; exact ⟨qXx44,qXx45⟩) (fun w hh hR hs=>?_)
         replace H:=M.at hh H; clear hh
         refine KF (i:=0) (v:=.pointer x0) (unb 22 1) rfl rfl hT (anyM hM (by kernel_rfl)) hE rfl (KA rfl) (fun w=>KJ hE rfl) (fun a hE=>?_)
         refine KF (i:=1) (v:=.pointer (some Xx42)) (unb 22 3) rfl rfl hT (anyM hM (by kernel_rfl)) hE rfl (KA rfl) (fun w=>KV hE (J7 rfl (congrArg Value.pointer qXx42))) (fun a hE=>?_)
         refine KF (i:=2) (v:=.pointer (some ((Xx42).add 1))) (unb 22 7) rfl rfl hT (anyM hM (by kernel_rfl)) hE rfl (KA rfl) (fun w=>KM hE rfl Zi) (fun a hE=>?_)
         refine KF (i:=4) (v:=.pointer x0) (unb 22 23) rfl rfl hT (anyM hM (by kernel_rfl)) hE rfl (KA rfl) (fun w=>KJ hE rfl) (fun a hE=>?_)
         refine KF (i:=5) (v:=.pointer (some Xx43)) (unb 22 55) rfl rfl hT (anyM hM (by kernel_rfl)) hE rfl (KA rfl) (fun w=>KV hE (J7 rfl (congrArg Value.pointer qXx43))) (fun a hE=>?_)
         refine KF (i:=6) (v:=.pointer (some ((Xx43).add 0))) (unb 22 119) rfl rfl hT (anyM hM (by kernel_rfl)) hE rfl (KA rfl) (fun w=>KM hE rfl Xy) (fun a hE=>?_)
         refine U8 (i:=3) (v:=.int .i64 Xx44) (unb 22 127) rfl rfl hT (Xh hM (by kernel_rfl)) hE rfl (KA rfl) hs (fun w s=>Zk hE rfl sc3 s.1) (fun a hE=>?_)
         refine U8 (i:=7) (v:=.string Xx45) (unb 22 255) rfl rfl hT (Xh hM (by kernel_rfl)) hE rfl (KA rfl) hs (fun w s=>Zk hE rfl sc9 s.2) (fun a hE=>?_)
         refine KF (i:=8) (v:=.int .i64 (Xx45.size:Int)) (unb 22 511) rfl rfl hT (anyM hM (by kernel_rfl)) hE rfl (KA rfl) (fun w=>qI hE rfl un9) (fun a hE=>?_)
         refine KF (i:=9) (v:=.bool (decide (Xx44 ≥ (Xx45.size:Int)))) (unb 22 1023) rfl rfl hT (anyM hM (by kernel_rfl)) hE rfl (KA rfl) (fun w=>Zd hE rfl rfl ZV KEc) (fun a hE=>?_)
         refine KF (i:=10) (v:=.bool (decide (Xx44 ≥ (Xx45.size:Int)))) (unb 22 2047) rfl rfl hT (anyM hM (by kernel_rfl)) hE rfl (KA rfl) (fun w=>KJ hE rfl) (fun a hE=>?_)
         have hE:=hE.reb 71 (decide (Xx44 ≥ (Xx45.size:Int))) false hb_46 rfl
         replace hE:=hE.cut (l':=[(0,.pointer x0),(4,.int .i64 Xx17),(5,.int .i64 Xx27),(71,.bool false)]) (.cons rfl (.cons rfl (.cons rfl (.cons rfl Subs.nil))))
         refine KF (i:=11) (v:=.int .i64 Xx27) (unb 22 4095) rfl rfl hT (anyM hM (by kernel_rfl)) hE rfl (Ke rfl hE rfl rfl rfl) (fun w=>KJ hE rfl) (fun a hE=>?_)
         refine KF (i:=12) (v:=.bool (decide (Xx27 < 0))) (unb 22 8191) rfl rfl hT (anyM hM (by kernel_rfl)) hE rfl (Ke rfl hE rfl rfl rfl) (fun w=>Zd hE rfl rfl ZV KB7) (fun a hE=>?_)
         refine KF (i:=13) (v:=.bool (decide (Xx27 < 0))) (unb 22 16383) rfl rfl hT (anyM hM (by kernel_rfl)) hE rfl (KA rfl) (fun w=>Jv hE rfl rfl) (fun a hE=>?_)
         refine KF (i:=14) (v:=.bool (decide (Xx27 < 0))) (unb 22 32767) rfl rfl hT (anyM hM (by kernel_rfl)) hE rfl (KA rfl) (fun w=>KJ hE rfl) (fun a hE=>?_)
         have hE:=hE.reb 75 (decide (Xx27 < 0)) false hb_47 rfl
         replace hE:=hE.cut (l':=[(0,.pointer x0),(4,.int .i64 Xx17),(5,.int .i64 Xx27),(75,.bool false)]) (.cons rfl (.cons rfl (.cons rfl (.cons rfl Subs.nil))))
         refine KF (i:=15) (v:=.int .i64 Xx17) (unb 22 65535) rfl rfl hT (anyM hM (by kernel_rfl)) hE rfl (Ke rfl hE rfl rfl rfl) (fun w=>KJ hE rfl) (fun a hE=>?_)
         refine KF (i:=16) (v:=.bool (Xx17 == 7)) (unb 22 131071) rfl rfl hT (anyM hM (by kernel_rfl)) hE rfl (Ke rfl hE rfl rfl rfl) (fun w=>Zd hE rfl rfl ZV zP) (fun a hE=>?_)
         refine KF (i:=17) (v:=.bool (Xx17 == 7)) (unb 22 262143) rfl rfl hT (anyM hM (by kernel_rfl)) hE rfl (Ke rfl hE rfl rfl rfl) (fun w=>KJ hE rfl) (fun a hE=>?_)
         have hE:=hE.reb 78 (Xx17 == 7) false hb_48 rfl
         replace hE:=hE.cut (l':=[(0,.pointer x0),(4,.int .i64 Xx17),(5,.int .i64 Xx27),(75,.bool false),(78,.bool false)]) (.cons rfl (.cons rfl (.cons rfl (.cons rfl (.cons rfl Subs.nil)))))
         refine KGX (i:=18) (unb 22 524287) rfl rfl hT (anyM hM (by kernel_rfl)) (Uw rfl hE rfl rfl rfl) (fun a ea=>?_)
         have hE:=Env.put_some hE rfl ea; clear ea
         refine KGX (i:=19) (unb 22 1048575) rfl rfl hT (anyM hM (by kernel_rfl)) (Uw rfl hE rfl rfl rfl) (fun a ea=>?_)
         have hE:=Env.put_some hE rfl ea; clear ea
         refine KF (i:=20) (v:=.bool false) (unb 22 2097151) rfl rfl hT (anyM hM (by kernel_rfl)) hE rfl (Ke rfl hE rfl rfl rfl) (fun w=>Jv hE rfl rfl) (fun a hE=>?_)
         refine KF (i:=21) (v:=.bool false) (unb 22 4194303) rfl rfl hT (anyM hM (by kernel_rfl)) hE rfl (KA rfl) (fun w=>Jv hE rfl rfl) (fun a hE=>?_)
         refine Nq hT (KEB hM (by kernel_rfl)) ?_
         exact ⟨false,hE.cut (.cons rfl (.cons rfl (.cons rfl (.cons rfl Subs.nil)))),hR,H⟩
   ·skip
    refine J3 (fun a w=>∃ (Xx49:Bool),Env (⟨97,[]⟩:Frm) a [(0,.pointer x0),(4,.int .i64 Xx17),(48,.bool Xx49)]∧Rest w0 w∧(Kz x0 Xx17 Xx49).wp w.heap Q) ?_ ?_
    ·rintro a w ⟨Xx49,hE,hR,H⟩
     unfold Kz at H
     refine Jg Xx49 hE rfl (fun hb=>?_) (fun hb=>?_)
     ·replace H:=M.ite_t hb H
      refine KG ?_
      refine KH (v:=.pointer x0) rfl rfl hE rfl (KJ hE rfl) (fun a hE=>?_)
      refine Jk hE hR ZH rfl (ZQ x0) H (fun _ _ hR HQ=>hthr _ _ hR HQ) (fun Xx52 a w ea hR H=>?_)
      have hE:=Env.put_some hE rfl ea; clear ea
      refine Ka ?_
      exact ⟨hE.cut (.cons rfl (.cons rfl Subs.nil)),hR,H⟩
     ·replace H:=M.ite_f hb H
      refine Un ?_
      exact ⟨hE.cut (.cons rfl (.cons rfl Subs.nil)),hR,H⟩
    ·skip
     obtain ⟨Xx53,qXx53,H⟩:=H
     obtain ⟨Xx54,qXx54,H⟩:=H
     obtain ⟨Xx55,qXx55,H⟩:=H
     obtain ⟨Xx56,qXx56,H⟩:=H
     rcases WY (decide (Xx55 ≥ (Xx56.size:Int))) with hb_57 | hb_57
     ·replace H:=M.ite_t hb_57 H
      refine zd (rops:=zx) (by kernel_rfl) ?_
      have hT:Tab zx _ _ _:=qJ KG6 rfl (by kernel_rfl)
      have hM:=TabM.of KEO
      refine YL (m:=22) (fun w:World=>(fun h:Heap=>(KO h ((Xx53).add 1)=some (.int .i64 Xx55))∧(KO h ((Xx54).add 0)=some (.string Xx56))) w.heap) [9,10,11,12,13,14,15,16,17,18,19,20,21] (unb 22 0) mo hR (by kernel_rfl) (by kernel_rfl) (fun w' e=>by rw [e]; exact ⟨qXx55,qXx56⟩) (fun w hh hR hs=>?_)
      replace H:=M.at hh H; clear hh
      refine KF (i:=0) (v:=.pointer x0) (unb 22 1) rfl rfl hT (anyM hM (by kernel_rfl)) hE rfl (KA rfl) (fun w=>KJ hE rfl) (fun a hE=>?_)
      refine KF (i:=1) (v:=.pointer (some Xx53)) (unb 22 3) rfl rfl hT (anyM hM (by kernel_rfl)) hE rfl (KA rfl) (fun w=>KV hE (J7 rfl (congrArg Value.pointer qXx53))) (fun a hE=>?_)
      refine KF (i:=2) (v:=.pointer (some ((Xx53).add 1))) (unb 22 7) rfl rfl hT (anyM hM (by kernel_rfl)) hE rfl (KA rfl) (fun w=>KM hE rfl Zi) (fun a hE=>?_)
      refine KF (i:=4) (v:=.pointer x0) (unb 22 23) rfl rfl hT (anyM hM (by kernel_rfl)) hE rfl (KA rfl) (fun w=>KJ hE rfl) (fun a hE=>?_)
      refine KF (i:=5) (v:=.pointer (some Xx54)) (unb 22 55) rfl rfl hT (anyM hM (by kernel_rfl)) hE rfl (KA rfl) (fun w=>KV hE (J7 rfl (congrArg Value.pointer qXx54))) (fun a hE=>?_)
      refine KF (i:=6) (v:=.pointer (some ((Xx54).add 0))) (unb 22 119) rfl rfl hT (anyM hM (by kernel_rfl)) hE rfl (KA rfl) (fun w=>KM hE rfl Xy) (fun a hE=>?_)
      refine U8 (i:=3) (v:=.int .i64 Xx55) (unb 22 127) rfl rfl hT (Xh hM (by kernel_rfl)) hE rfl (KA rfl) hs (fun w s=>Zk hE rfl sc3 s.1) (fun a hE=>?_)
      refine U8 (i:=7) (v:=.string Xx56) (unb 22 255) rfl rfl hT (Xh hM (by kernel_rfl)) hE rfl (KA rfl) hs (fun w s=>Zk hE rfl sc9 s.2) (fun a hE=>?_)
      refine KF (i:=8) (v:=.int .i64 (Xx56.size:Int)) (unb 22 511) rfl rfl hT (anyM hM (by kernel_rfl)) hE rfl (KA rfl) (fun w=>qI hE rfl un9) (fun a hE=>?_)
      refine KF (i:=9) (v:=.bool (decide (Xx55 ≥ (Xx56.size:Int)))) (unb 22 1023) rfl rfl hT (anyM hM (by kernel_rfl)) hE rfl (KA rfl) (fun w=>Zd hE rfl rfl ZV KEc) (fun a hE=>?_)
      refine KF (i:=10) (v:=.bool (decide (Xx55 ≥ (Xx56.size:Int)))) (unb 22 2047) rfl rfl hT (anyM hM (by kernel_rfl)) hE rfl (KA rfl) (fun w=>KJ hE rfl) (fun a hE=>?_)
      have hE:=hE.reb 37 (decide (Xx55 ≥ (Xx56.size:Int))) true hb_57 rfl
      replace hE:=hE.cut (l':=[(0,.pointer x0),(4,.int .i64 Xx17),(37,.bool true)]) (.cons rfl (.cons rfl (.cons rfl Subs.nil)))
      refine KGX (i:=11) (unb 22 4095) rfl rfl hT (anyM hM (by kernel_rfl)) (Uw rfl hE rfl rfl rfl) (fun a ea=>?_)
      have hE:=Env.put_some hE rfl ea; clear ea
      refine KGX (i:=12) (unb 22 8191) rfl rfl hT (anyM hM (by kernel_rfl)) (Uw rfl hE rfl rfl rfl) (fun a ea=>?_)
      have hE:=Env.put_some hE rfl ea; clear ea
      refine KF (i:=13) (v:=.bool true) (unb 22 16383) rfl rfl hT (anyM hM (by kernel_rfl)) hE rfl (KA rfl) (fun w=>Uo hE rfl rfl) (fun a hE=>?_)
      refine KF (i:=14) (v:=.bool true) (unb 22 32767) rfl rfl hT (anyM hM (by kernel_rfl)) hE rfl (KA rfl) (fun w=>KJ hE rfl) (fun a hE=>?_)
      refine KCD [(15,some 42),(16,some 43),(17,some 44),(18,some 45),(19,some 46),(20,some 47)] 1 hT hM hE (by kernel_rfl) (m':=2097151) (by kernel_rfl) (fun a hE=>?_)
      refine KF (i:=21) (v:=.bool true) (unb 22 4194303) rfl rfl hT (anyM hM (by kernel_rfl)) hE rfl (KA rfl) (fun w=>Uo hE rfl rfl) (fun a hE=>?_)
      refine Nq hT (KEB hM (by kernel_rfl)) ?_
      exact ⟨true,hE.cut (.cons rfl (.cons rfl (.cons rfl Subs.nil))),hR,H⟩
     ·replace H:=M.ite_f hb_57 H
      rcases WY (decide (Xx17 < 0)) with hb_58 | hb_58
      ·replace H:=M.ite_t hb_58 H
       refine zd (rops:=zx) (by kernel_rfl) ?_
       have hT:Tab zx _ _ _:=qJ KG6 rfl (by kernel_rfl)
       have hM:=TabM.of KEO
       refine YL (m:=22) (fun w:World=>(fun h:Heap=>(KO h ((Xx53).add 1)=some (.int .i64 Xx55))∧(KO h ((Xx54).add 0)=some (.string Xx56))) w.heap) [9,10,11,12,13,14,15,16,17,18,19,20,21] (unb 22 0) mo hR (by kernel_rfl) (by kernel_rfl) (fun w' e=>by rw [e]; exact ⟨qXx55,qXx56⟩) (fun w hh hR hs=>?_)
       replace H:=M.at hh H; clear hh
       refine KF (i:=0) (v:=.pointer x0) (unb 22 1) rfl rfl hT (anyM hM (by kernel_rfl)) hE rfl (KA rfl) (fun w=>KJ hE rfl) (fun a hE=>?_)
       refine KF (i:=1) (v:=.pointer (some Xx53)) (unb 22 3) rfl rfl hT (anyM hM (by kernel_rfl)) hE rfl (KA rfl) (fun w=>KV hE (J7 rfl (congrArg Value.pointer qXx53))) (fun a hE=>?_)
       refine KF (i:=2) (v:=.pointer (some ((Xx53).add 1))) (unb 22 7) rfl rfl hT (anyM hM (by kernel_rfl)) hE rfl (KA rfl) (fun w=>KM hE rfl Zi) (fun a hE=>?_)
       refine KF (i:=4) (v:=.pointer x0) (unb 22 23) rfl rfl hT (anyM hM (by kernel_rfl)) hE rfl (KA rfl) (fun w=>KJ hE rfl) (fun a hE=>?_)
       refine KF (i:=5) (v:=.pointer (some Xx54)) (unb 22 55) rfl rfl hT (anyM hM (by kernel_rfl)) hE rfl (KA rfl) (fun w=>KV hE (J7 rfl (congrArg Value.pointer qXx54))) (fun a hE=>?_)
       refine KF (i:=6) (v:=.pointer (some ((Xx54).add 0))) (unb 22 119) rfl rfl hT (anyM hM (by kernel_rfl)) hE rfl (KA rfl) (fun w=>KM hE rfl Xy) (fun a hE=>?_)
       refine U8 (i:=3) (v:=.int .i64 Xx55) (unb 22 127) rfl rfl hT (Xh hM (by kernel_rfl)) hE rfl (KA rfl) hs (fun w s=>Zk hE rfl sc3 s.1) (fun a hE=>?_)
       refine U8 (i:=7) (v:=.string Xx56) (unb 22 255) rfl rfl hT (Xh hM (by kernel_rfl)) hE rfl (KA rfl) hs (fun w s=>Zk hE rfl sc9 s.2) (fun a hE=>?_)
       refine KF (i:=8) (v:=.int .i64 (Xx56.size:Int)) (unb 22 511) rfl rfl hT (anyM hM (by kernel_rfl)) hE rfl (KA rfl) (fun w=>qI hE rfl un9) (fun a hE=>?_)
       refine KF (i:=9) (v:=.bool (decide (Xx55 ≥ (Xx56.size:Int)))) (unb 22 1023) rfl rfl hT (anyM hM (by kernel_rfl)) hE rfl (KA rfl) (fun w=>Zd hE rfl rfl ZV KEc) (fun a hE=>?_)
       refine KF (i:=10) (v:=.bool (decide (Xx55 ≥ (Xx56.size:Int)))) (unb 22 2047) rfl rfl hT (anyM hM (by kernel_rfl)) hE rfl (KA rfl) (fun w=>KJ hE rfl) (fun a hE=>?_)
       have hE:=hE.reb 37 (decide (Xx55 ≥ (Xx56.size:Int))) false hb_57 rfl
       replace hE:=hE.cut (l':=[(0,.pointer x0),(4,.int .i64 Xx17),(37,.bool false)]) (.cons rfl (.cons rfl (.cons rfl Subs.nil)))
       refine KF (i:=11) (v:=.int .i64 Xx17) (unb 22 4095) rfl rfl hT (anyM hM (by kernel_rfl)) hE rfl (Ke rfl hE rfl rfl rfl) (fun w=>KJ hE rfl) (fun a hE=>?_)
       refine KF (i:=12) (v:=.bool (decide (Xx17 < 0))) (unb 22 8191) rfl rfl hT (anyM hM (by kernel_rfl)) hE rfl (Ke rfl hE rfl rfl rfl) (fun w=>Zd hE rfl rfl ZV KB7) (fun a hE=>?_)
       refine KF (i:=13) (v:=.bool (decide (Xx17 < 0))) (unb 22 16383) rfl rfl hT (anyM hM (by kernel_rfl)) hE rfl (KA rfl) (fun w=>Jv hE rfl rfl) (fun a hE=>?_)
       refine KF (i:=14) (v:=.bool (decide (Xx17 < 0))) (unb 22 32767) rfl rfl hT (anyM hM (by kernel_rfl)) hE rfl (KA rfl) (fun w=>KJ hE rfl) (fun a hE=>?_)
       have hE:=hE.reb 41 (decide (Xx17 < 0)) true hb_58 rfl
       replace hE:=hE.cut (l':=[(0,.pointer x0),(4,.int .i64 Xx17),(41,.bool true)]) (.cons rfl (.cons rfl (.cons rfl Subs.nil)))
       refine KCD [(15,some 42),(16,some 43),(17,some 44),(18,some 45),(19,some 46),(20,some 47)] 1 hT hM hE (by kernel_rfl) (m':=2097151) (by kernel_rfl) (fun a hE=>?_)
       refine KF (i:=21) (v:=.bool true) (unb 22 4194303) rfl rfl hT (anyM hM (by kernel_rfl)) hE rfl (KA rfl) (fun w=>Uo hE rfl rfl) (fun a hE=>?_)
       refine Nq hT (KEB hM (by kernel_rfl)) ?_
       exact ⟨true,hE.cut (.cons rfl (.cons rfl (.cons rfl Subs.nil))),hR,H⟩
      ·replace H:=M.ite_f hb_58 H
       rcases WY (decide (Xx17 > 1)) with hb_59 | hb_59
       ·replace H:=M.ite_t hb_59 H
        refine zd (rops:=zx) (by kernel_rfl) ?_
        have hT:Tab zx _ _ _:=qJ KG6 rfl (by kernel_rfl)
        have hM:=TabM.of KEO
        refine YL (m:=22) (fun w:World=>(fun h:Heap=>(KO h ((Xx53).add 1)=some (.int .i64 Xx55))∧(KO h ((Xx54).add 0)=some (.string Xx56))) w.heap) [9,10,11,12,13,14,15,16,17,18,19,20,21] (unb 22 0) mo hR (by kernel_rfl) (by kernel_rfl) (fun w' e=>by rw [e]; exact ⟨qXx55,qXx56⟩) (fun w hh hR hs=>?_)
        replace H:=M.at hh H; clear hh
        refine KF (i:=0) (v:=.pointer x0) (unb 22 1) rfl rfl hT (anyM hM (by kernel_rfl)) hE rfl (KA rfl) (fun w=>KJ hE rfl) (fun a hE=>?_)
        refine KF (i:=1) (v:=.pointer (some Xx53)) (unb 22 3) rfl rfl hT (anyM hM (by kernel_rfl)) hE rfl (KA rfl) (fun w=>KV hE (J7 rfl (congrArg Value.pointer qXx53))) (fun a hE=>?_)
        refine KF (i:=2) (v:=.pointer (some ((Xx53).add 1))) (unb 22 7) rfl rfl hT (anyM hM (by kernel_rfl)) hE rfl (KA rfl) (fun w=>KM hE rfl Zi) (fun a hE=>?_)
        refine KF (i:=4) (v:=.pointer x0) (unb 22 23) rfl rfl hT (anyM hM (by kernel_rfl)) hE rfl (KA rfl) (fun w=>KJ hE rfl) (fun a hE=>?_)
        refine KF (i:=5) (v:=.pointer (some Xx54)) (unb 22 55) rfl rfl hT (anyM hM (by kernel_rfl)) hE rfl (KA rfl) (fun w=>KV hE (J7 rfl (congrArg Value.pointer qXx54))) (fun a hE=>?_)
        refine KF (i:=6) (v:=.pointer (some ((Xx54).add 0))) (unb 22 119) rfl rfl hT (anyM hM (by kernel_rfl)) hE rfl (KA rfl) (fun w=>KM hE rfl Xy) (fun a hE=>?_)
        refine U8 (i:=3) (v:=.int .i64 Xx55) (unb 22 127) rfl rfl hT (Xh hM (by kernel_rfl)) hE rfl (KA rfl) hs (fun w s=>Zk hE rfl sc3 s.1) (fun a hE=>?_)
        refine U8 (i:=7) (v:=.string Xx56) (unb 22 255) rfl rfl hT (Xh hM (by kernel_rfl)) hE rfl (KA rfl) hs (fun w s=>Zk hE rfl sc9 s.2) (fun a hE=>?_)
        refine KF (i:=8) (v:=.int .i64 (Xx56.size:Int)) (unb 22 511) rfl rfl hT (anyM hM (by kernel_rfl)) hE rfl (KA rfl) (fun w=>qI hE rfl un9) (fun a hE=>?_)
        refine KF (i:=9) (v:=.bool (decide (Xx55 ≥ (Xx56.size:Int)))) (unb 22 1023) rfl rfl hT (anyM hM (by kernel_rfl)) hE rfl (KA rfl) (fun w=>Zd hE rfl rfl ZV KEc) (fun a hE=>?_)
        refine KF (i:=10) (v:=.bool (decide (Xx55 ≥ (Xx56.size:Int)))) (unb 22 2047) rfl rfl hT (anyM hM (by kernel_rfl)) hE rfl (KA rfl) (fun w=>KJ hE rfl) (fun a hE=>?_)
        have hE:=hE.reb 37 (decide (Xx55 ≥ (Xx56.size:Int))) false hb_57 rfl
        replace hE:=hE.cut (l':=[(0,.pointer x0),(4,.int .i64 Xx17),(37,.bool false)]) (.cons rfl (.cons rfl (.cons rfl Subs.nil)))
        refine KF (i:=11) (v:=.int .i64 Xx17) (unb 22 4095) rfl rfl hT (anyM hM (by kernel_rfl)) hE rfl (Ke rfl hE rfl rfl rfl) (fun w=>KJ hE rfl) (fun a hE=>?_)
        refine KF (i:=12) (v:=.bool (decide (Xx17 < 0))) (unb 22 8191) rfl rfl hT (anyM hM (by kernel_rfl)) hE rfl (Ke rfl hE rfl rfl rfl) (fun w=>Zd hE rfl rfl ZV KB7) (fun a hE=>?_)
        refine KF (i:=13) (v:=.bool (decide (Xx17 < 0))) (unb 22 16383) rfl rfl hT (anyM hM (by kernel_rfl)) hE rfl (KA rfl) (fun w=>Jv hE rfl rfl) (fun a hE=>?_)
        refine KF (i:=14) (v:=.bool (decide (Xx17 < 0))) (unb 22 32767) rfl rfl hT (anyM hM (by kernel_rfl)) hE rfl (KA rfl) (fun w=>KJ hE rfl) (fun a hE=>?_)
        have hE:=hE.reb 41 (decide (Xx17 < 0)) false hb_58 rfl
        replace hE:=hE.cut (l':=[(0,.pointer x0),(4,.int .i64 Xx17),(41,.bool false)]) (.cons rfl (.cons rfl (.cons rfl Subs.nil)))
        refine KF (i:=15) (v:=.int .i64 Xx17) (unb 22 65535) rfl rfl hT (anyM hM (by kernel_rfl)) hE rfl (Ke rfl hE rfl rfl rfl) (fun w=>KJ hE rfl) (fun a hE=>?_)
        refine KF (i:=16) (v:=.bool (decide (Xx17 > 1))) (unb 22 131071) rfl rfl hT (anyM hM (by kernel_rfl)) hE rfl (Ke rfl hE rfl rfl rfl) (fun w=>Zd hE rfl rfl ZV KIf) (fun a hE=>?_)
        refine KF (i:=17) (v:=.bool (decide (Xx17 > 1))) (unb 22 262143) rfl rfl hT (anyM hM (by kernel_rfl)) hE rfl (Ke rfl hE rfl rfl rfl) (fun w=>KJ hE rfl) (fun a hE=>?_)
        have hE:=hE.reb 44 (decide (Xx17 > 1)) true hb_59 rfl
        replace hE:=hE.cut (l':=[(0,.pointer x0),(4,.int .i64 Xx17),(41,.bool false),(44,.bool true)]) (.cons rfl (.cons rfl (.cons rfl (.cons rfl Subs.nil))))
        refine KF (i:=18) (v:=.int .i64 Xx17) (unb 22 524287) rfl rfl hT (anyM hM (by kernel_rfl)) hE rfl (Ke rfl hE rfl rfl rfl) (fun w=>KJ hE rfl) (fun a hE=>?_)
        refine KF (i:=19) (v:=.bool (decide (Xx17 < 7))) (unb 22 1048575) rfl rfl hT (anyM hM (by kernel_rfl)) hE rfl (Ke rfl hE rfl rfl rfl) (fun w=>Zd hE rfl rfl ZV KB7) (fun a hE=>?_)
        refine KF (i:=20) (v:=.bool (decide (Xx17 < 7))) (unb 22 2097151) rfl rfl hT (anyM hM (by kernel_rfl)) hE rfl (Ke rfl hE rfl rfl rfl) (fun w=>Uo hE rfl rfl) (fun a hE=>?_)
        refine KF (i:=21) (v:=.bool (decide (Xx17 < 7))) (unb 22 4194303) rfl rfl hT (anyM hM (by kernel_rfl)) hE rfl (KA rfl) (fun w=>Jv hE rfl rfl) (fun a hE=>?_)
        refine Nq hT (KEB hM (by kernel_rfl)) ?_
        exact ⟨decide (Xx17 < 7),hE.cut (.cons rfl (.cons rfl (.cons rfl Subs.nil))),hR,H⟩
       ·replace H:=M.ite_f hb_59 H
        refine zd (rops:=zx) (by kernel_rfl) ?_
        have hT:Tab zx _ _ _:=qJ KG6 rfl (by kernel_rfl)
        have hM:=TabM.of KEO
        refine YL (m:=22) (fun w:World=>(fun h:Heap=>(KO h ((Xx53).add 1)=some (.int .i64 Xx55))∧(KO h ((Xx54).add 0)=some (.string Xx56))) w.heap) [9,10,11,12,13,14,15,16,17,18,19,20,21] (unb 22 0) mo hR (by kernel_rfl) (by kernel_rfl) (fun w' e=>by rw [e]; exact ⟨qXx55,qXx56⟩) (fun w hh hR hs=>?_)
        replace H:=M.at hh H; clear hh
        refine KF (i:=0) (v:=.pointer x0) (unb 22 1) rfl rfl hT (anyM hM (by kernel_rfl)) hE rfl (KA rfl) (fun w=>KJ hE rfl) (fun a hE=>?_)
        refine KF (i:=1) (v:=.pointer (some Xx53)) (unb 22 3) rfl rfl hT (anyM hM (by kernel_rfl)) hE rfl (KA rfl) (fun w=>KV hE (J7 rfl (congrArg Value.pointer qXx53))) (fun a hE=>?_)
        refine KF (i:=2) (v:=.pointer (some ((Xx53).add 1))) (unb 22 7) rfl rfl hT (anyM hM (by kernel_rfl)) hE rfl (KA rfl) (fun w=>KM hE rfl Zi) (fun a hE=>?_)
        refine KF (i:=4) (v:=.pointer x0) (unb 22 23) rfl rfl hT (anyM hM (by kernel_rfl)) hE rfl (KA rfl) (fun w=>KJ hE rfl) (fun a hE=>?_)
        refine KF (i:=5) (v:=.pointer (some Xx54)) (unb 22 55) rfl rfl hT (anyM hM (by kernel_rfl)) hE rfl (KA rfl) (fun w=>KV hE (J7 rfl (congrArg Value.pointer qXx54))) (fun a hE=>?_)
        refine KF (i:=6) (v:=.pointer (some ((Xx54).add 0))) (unb 22 119) rfl rfl hT (anyM hM (by kernel_rfl)) hE rfl (KA rfl) (fun w=>KM hE rfl Xy) (fun a hE=>?_)
        refine U8 (i:=3) (v:=.int .i64 Xx55) (unb 22 127) rfl rfl hT (Xh hM (by kernel_rfl)) hE rfl (KA rfl) hs (fun w s=>Zk hE rfl sc3 s.1) (fun a hE=>?_)
        refine U8 (i:=7) (v:=.string Xx56) (unb 22 255) rfl rfl hT (Xh hM (by kernel_rfl)) hE rfl (KA rfl) hs (fun w s=>Zk hE rfl sc9 s.2) (fun a hE=>?_)
        refine KF (i:=8) (v:=.int .i64 (Xx56.size:Int)) (unb 22 511) rfl rfl hT (anyM hM (by kernel_rfl)) hE rfl (KA rfl) (fun w=>qI hE rfl un9) (fun a hE=>?_)
        refine KF (i:=9) (v:=.bool (decide (Xx55 ≥ (Xx56.size:Int)))) (unb 22 1023) rfl rfl hT (anyM hM (by kernel_rfl)) hE rfl (KA rfl) (fun w=>Zd hE rfl rfl ZV KEc) (fun a hE=>?_)
        refine KF (i:=10) (v:=.bool (decide (Xx55 ≥ (Xx56.size:Int)))) (unb 22 2047) rfl rfl hT (anyM hM (by kernel_rfl)) hE rfl (KA rfl) (fun w=>KJ hE rfl) (fun a hE=>?_)
        have hE:=hE.reb 37 (decide (Xx55 ≥ (Xx56.size:Int))) false hb_57 rfl
        replace hE:=hE.cut (l':=[(0,.pointer x0),(4,.int .i64 Xx17),(37,.bool false)]) (.cons rfl (.cons rfl (.cons rfl Subs.nil)))
        refine KF (i:=11) (v:=.int .i64 Xx17) (unb 22 4095) rfl rfl hT (anyM hM (by kernel_rfl)) hE rfl (Ke rfl hE rfl rfl rfl) (fun w=>KJ hE rfl) (fun a hE=>?_)
        refine KF (i:=12) (v:=.bool (decide (Xx17 < 0))) (unb 22 8191) rfl rfl hT (anyM hM (by kernel_rfl)) hE rfl (Ke rfl hE rfl rfl rfl) (fun w=>Zd hE rfl rfl ZV KB7) (fun a hE=>?_)
        refine KF (i:=13) (v:=.bool (decide (Xx17 < 0))) (unb 22 16383) rfl rfl hT (anyM hM (by kernel_rfl)) hE rfl (KA rfl) (fun w=>Jv hE rfl rfl) (fun a hE=>?_)
        refine KF (i:=14) (v:=.bool (decide (Xx17 < 0))) (unb 22 32767) rfl rfl hT (anyM hM (by kernel_rfl)) hE rfl (KA rfl) (fun w=>KJ hE rfl) (fun a hE=>?_)
        have hE:=hE.reb 41 (decide (Xx17 < 0)) false hb_58 rfl
        replace hE:=hE.cut (l':=[(0,.pointer x0),(4,.int .i64 Xx17),(41,.bool false)]) (.cons rfl (.cons rfl (.cons rfl Subs.nil)))
        refine KF (i:=15) (v:=.int .i64 Xx17) (unb 22 65535) rfl rfl hT (anyM hM (by kernel_rfl)) hE rfl (Ke rfl hE rfl rfl rfl) (fun w=>KJ hE rfl) (fun a hE=>?_)
        refine KF (i:=16) (v:=.bool (decide (Xx17 > 1))) (unb 22 131071) rfl rfl hT (anyM hM (by kernel_rfl)) hE rfl (Ke rfl hE rfl rfl rfl) (fun w=>Zd hE rfl rfl ZV KIf) (fun a hE=>?_)
        refine KF (i:=17) (v:=.bool (decide (Xx17 > 1))) (unb 22 262143) rfl rfl hT (anyM hM (by kernel_rfl)) hE rfl (Ke rfl hE rfl rfl rfl) (fun w=>KJ hE rfl) (fun a hE=>?_)
        have hE:=hE.reb 44 (decide (Xx17 > 1)) false hb_59 rfl
        replace hE:=hE.cut (l':=[(0,.pointer x0),(4,.int .i64 Xx17),(41,.bool false),(44,.bool false)]) (.cons rfl (.cons rfl (.cons rfl (.cons rfl Subs.nil))))
        refine KGX (i:=18) (unb 22 524287) rfl rfl hT (anyM hM (by kernel_rfl)) (Uw rfl hE rfl rfl rfl) (fun a ea=>?_)
        have hE:=Env.put_some hE rfl ea; clear ea
        refine KGX (i:=19) (unb 22 1048575) rfl rfl hT (anyM hM (by kernel_rfl)) (Uw rfl hE rfl rfl rfl) (fun a ea=>?_)
        have hE:=Env.put_some hE rfl ea; clear ea
        refine KF (i:=20) (v:=.bool false) (unb 22 2097151) rfl rfl hT (anyM hM (by kernel_rfl)) hE rfl (Ke rfl hE rfl rfl rfl) (fun w=>Jv hE rfl rfl) (fun a hE=>?_)
        refine KF (i:=21) (v:=.bool false) (unb 22 4194303) rfl rfl hT (anyM hM (by kernel_rfl)) hE rfl (KA rfl) (fun w=>Jv hE rfl rfl) (fun a hE=>?_)
        refine Nq hT (KEB hM (by kernel_rfl)) ?_
        exact ⟨false,hE.cut (.cons rfl (.cons rfl (.cons rfl Subs.nil))),hR,H⟩
end Gx
namespace Gx
open Go
set_option linter.unusedVariables false
set_option maxRecDepth 100000
def Jp (self1:(Sl)→M (Value ⊕ (ByteArray))) (C24:Sl) (Xx22:Int):M (Value ⊕ (ByteArray)):=do
 let Xx25←bdL KY 1 #[.int .u8 Xx22]
 let Xx26←apL KY 1 1 (#[.int .u8 0]:Array Value) C24 Xx25
 self1 Xx26
def UY (self1:(Sl)→M (Value ⊕ (ByteArray))) (C14:Option Addr) (C15:Sl) (C16:Int):M (Value ⊕ (ByteArray)):=do
 let Xx18←nilP C14
 let Xx19←ldI .i64 ((Xx18).add 1)
 let Xx20←nilP C14
 stV ((Xx20).add 1) (.int .i64 (IntKind.wrap .i64 (Xx19+1)))
 M.ite (C16 == 92) (do
  thr (UK C14) fun Xx28=>do
   Jp self1 C15 Xx28
  ) (do
  Jp self1 C15 C16
  )
def VW (C7:Option Addr) (self1:(Sl)→M (Value ⊕ (ByteArray))):(Sl)→M (Value ⊕ (ByteArray)):=fun s=>match s with
 | Xx6=>do
  let Xx11←Kv C7
  M.ite (Xx11 != 39) (do
   let Xx13←Kv C7
   let Xx30←M.ite (decide (Xx13 < 32)) (do
    M.pure true
    ) (do
    M.pure (decide (Xx13 > 126))
    )
   M.ite Xx30 (do
    thr (K9 C7) fun Xx31=>do
     UY self1 C7 Xx6 Xx13
    ) (do
    UY self1 C7 Xx6 Xx13
    )
   ) (do
   let Xx33←nilP C7
   let Xx34←ldI .i64 ((Xx33).add 1)
   let Xx35←nilP C7
   stV ((Xx35).add 1) (.int .i64 (IntKind.wrap .i64 (Xx34+1)))
   let Xx38←b2s Xx6
   M.pure (.inr Xx38)
   )
def Vf (x0:Option Addr):M (Value ⊕ (ByteArray)):=do
 thr (ZN x0 (⟨#[39]⟩:ByteArray)) fun Xx5=>do
  M.loop (VW x0) Sl.nil
theorem KC5 (x0:Option Addr):qH Go.Proofs.Tryz.prog 173 #[.pointer x0] (fun (r:ByteArray)=>.string r) (Vf x0):=by
 refine XK [(0,.pointer x0)] Go.Proofs.Tryz.func173 rfl rfl (Nat.le_of_ble_eq_true rfl) (Yw ⟨rfl,trivial⟩) (fun w0 w Q R X a hret hthr hE hR H=>?_)
 unfold Vf at H
 refine Kc (fun K hK_1=>?_)
 refine KG ?_
 refine KH (v:=.string ByteArray.empty) rfl rfl hE rfl (Kp hE rfl) (fun a hE=>?_)
 refine Ka ?_
 refine hK_1 _ _ ?_
 refine Kc (fun K hK_2=>?_)
 refine KG ?_
 refine KH (v:=(Sl.nil:Sl).v) rfl rfl hE rfl (Kp hE rfl) (fun a hE=>?_)
 refine Ka ?_
 refine hK_2 _ _ ?_
 refine Kc (fun K hK_3=>?_)
 refine Kc (fun K hK_4=>?_)
 refine KG ?_
 refine KH (v:=.pointer x0) rfl rfl hE rfl (KJ hE rfl) (fun a hE=>?_)
 refine Jk hE hR Zh rfl (Zs x0 (⟨#[39]⟩:ByteArray)) H (fun _ _ hR HQ=>hthr _ _ hR HQ) (fun Xx5 a w ea hR H=>?_)
 have hE:=Env.put_some hE rfl ea; clear ea
 refine Ka ?_
 refine hK_4 _ _ ?_
 refine Vm ?_
 refine KEe (fun (s:Sl)=>(⟨44,[]⟩:Frm)) (fun (s:Sl)=>[(0,.pointer x0),(3,(s:Sl).v)]) H (hE.cut (.cons rfl (.cons rfl Subs.nil))) hR (fun Y self1 hY_8 Xx6 a w hE hR H=>?_)
 replace hE:Env (⟨44,[]⟩:Frm) a [(0,.pointer x0),(3,(Xx6:Sl).v)]:=hE
 replace H:(VW x0 self1 Xx6).wp w.heap Q:=H
 unfold VW at H
 refine Kc (fun K hK_9=>?_)
 refine Kc (fun K hK_10=>?_)
 refine KG ?_
 refine KH (v:=.pointer x0) rfl rfl hE rfl (KJ hE rfl) (fun a hE=>?_)
 refine Uy hE hR Kw rfl (ZB x0) (M.unbind H) (fun Xx11 a w ea hR H=>?_)
 have hE:=Env.put_some hE rfl ea; clear ea
 refine KH (v:=.bool (Xx11 != 39)) rfl rfl hE rfl (Zd hE rfl rfl ZV KFb) (fun a hE=>?_)
 refine Ka ?_
 refine hK_10 _ _ ?_
 refine Jg (Xx11 != 39) hE rfl (fun hb=>?_) (fun hb=>?_)
 ·replace H:=M.ite_t hb H
  refine Un ?_
  refine hK_9 _ _ ?_
  refine Vm ?_
  refine Kc (fun K hK_12=>?_)
  refine KG ?_
  refine KH (v:=.pointer x0) rfl rfl hE rfl (KJ hE rfl) (fun a hE=>?_)
  refine Uy hE hR Kw rfl (ZB x0) (M.unbind H) (fun Xx13 a w ea hR H=>?_)
  have hE:=Env.put_some hE rfl ea; clear ea
  refine KH (v:=.int .u8 Xx13) rfl rfl hE rfl (Kp hE rfl) (fun a hE=>?_)
  refine Ka ?_
  refine hK_12 _ _ ?_
  refine J3 (fun a w=>Env (⟨44,[]⟩:Frm) a [(0,.pointer x0),(3,(Xx6:Sl).v),(4,.int .u8 Xx13)]∧Rest w0 w∧(UY self1 x0 Xx6 Xx13).wp w.heap Q) ?_ ?_
  ·rintro a w ⟨hE,hR,H⟩
   unfold UY at H
   refine Kc (fun K hK_17=>?_)
   refine KG ?_
   refine KH (v:=.pointer x0) rfl rfl hE rfl (KJ hE rfl) (fun a hE=>?_)
   obtain ⟨Xx18,qXx18,H⟩:=H
   refine KH (v:=.pointer (some Xx18)) rfl rfl hE rfl (KV hE (J7 rfl (congrArg Value.pointer qXx18))) (fun a hE=>?_)
   refine KH (v:=.pointer (some ((Xx18).add 1))) rfl rfl hE rfl (KM hE rfl Zi) (fun a hE=>?_)
   obtain ⟨Xx19,qXx19,H⟩:=H
   refine KH (v:=.int .i64 Xx19) rfl rfl hE rfl (Zk hE rfl sc3 qXx19) (fun a hE=>?_)
   refine KH (v:=.int .i64 (IntKind.wrap .i64 (Xx19+1))) rfl rfl hE rfl (Zd hE rfl rfl ZV zO) (fun a hE=>?_)
   obtain ⟨Xx20,qXx20,H⟩:=H
   refine KH (v:=.pointer (some Xx20)) rfl rfl hE rfl (KV hE (J7 rfl (congrArg Value.pointer qXx20))) (fun a hE=>?_)
   refine KH (v:=.pointer (some ((Xx20).add 1))) rfl rfl hE rfl (KM hE rfl Zi) (fun a hE=>?_)
   obtain ⟨u_21,qu_21,H⟩:=H
   refine U0 rfl rfl hE hR (Zn hE rfl rfl sz3 qu_21) (fun a w hE hR hh=>?_)
   replace H:=M.at hh H; clear hh
   refine Ka ?_
   refine hK_17 _ _ ?_
   refine J3 (fun a w=>∃ (Xx22:Int),Env (⟨44,[]⟩:Frm) a [(0,.pointer x0),(3,(Xx6:Sl).v),(4,.int .u8 Xx22)]∧Rest w0 w∧(Jp self1 Xx6 Xx22).wp w.heap Q) ?_ ?_
   ·rintro a w ⟨Xx22,hE,hR,H⟩
    unfold Jp at H
    refine KG ?_
    refine KH (v:=(Xx6:Sl).v) rfl rfl hE rfl (KJ hE rfl) (fun a hE=>?_)
    refine KH (v:=.int .u8 Xx22) rfl rfl hE rfl (KJ hE rfl) (fun a hE=>?_)
    obtain ⟨Xx25,qXx25,H⟩:=H
    refine XM (v:=(Xx25:Sl).v) rfl rfl hE rfl hR (KAJ (cells:=#[.int .u8 Xx22]) hE rfl un35 sz5 zr5 rfl rfl qXx25) (fun a w hE hR hh=>?_)
    replace H:=M.at hh H; clear hh
    refine t_ex (fun Xx26=>(Xx26:Sl).v) rfl rfl hR (M.unbind H) (fun Q H=>KHh hE rfl rfl ap35 H) (fun Xx26 a w ea hR H=>?_)
    have hE:=Env.put_some hE rfl ea; clear ea
    refine KH (v:=(Xx26:Sl).v) rfl rfl hE rfl (Kp hE rfl) (fun a hE=>?_)
    refine Ka ?_
    exact hY_8 Xx26 _ _ (hE.cut (.cons rfl (.cons rfl Subs.nil))) hR H
   ·skip
    refine Kc (fun K hK_27=>?_)
    refine KG ?_
    refine KH (v:=.int .u8 Xx13) rfl rfl hE rfl (KJ hE rfl) (fun a hE=>?_)
    refine KH (v:=.bool (Xx13 == 92)) rfl rfl hE rfl (Zd hE rfl rfl ZV zP) (fun a hE=>?_)
    refine Ka ?_
    refine hK_27 _ _ ?_
    refine Jg (Xx13 == 92) hE rfl (fun hb=>?_) (fun hb=>?_)
    ·replace H:=M.ite_t hb H
     refine KG ?_
     refine KH (v:=.pointer x0) rfl rfl hE rfl (KJ hE rfl) (fun a hE=>?_)
     refine Jk hE hR qw rfl (za x0) H (fun _ _ hR HQ=>Xu.ne rfl (Xu.ne rfl (hthr _ _ hR HQ))) (fun Xx28 a w ea hR H=>?_)
     have hE:=Env.put_some hE rfl ea; clear ea
     refine KH (v:=.int .u8 Xx28) rfl rfl hE rfl (Kp hE rfl) (fun a hE=>?_)
     refine Ka ?_
     exact ⟨Xx28,hE.cut (.cons rfl (.cons rfl (.cons rfl Subs.nil))),hR,H⟩
    ·replace H:=M.ite_f hb H
     refine Un ?_
     exact ⟨Xx13,hE.cut (.cons rfl (.cons rfl (.cons rfl Subs.nil))),hR,H⟩
  ·skip
   refine Kc (fun K hK_29=>?_)
   refine KG ?_
   refine KH (v:=.int .u8 Xx13) rfl rfl hE rfl (KJ hE rfl) (fun a hE=>?_)
   refine KH (v:=.bool (decide (Xx13 < 32))) rfl rfl hE rfl (Zd hE rfl rfl ZV KB7) (fun a hE=>?_)
   refine KH (v:=.bool (decide (Xx13 < 32))) rfl rfl hE rfl (KJ hE rfl) (fun a hE=>?_)
   refine KHc (n:=(⟨44,[]⟩:Frm)) (w0:=w0) 3 (fun Xx30:Bool=>[(0,.pointer x0),(3,(Xx6:Sl).v),(4,.int .u8 Xx13),(17,.bool Xx30)]) (M.unbind H) (fun Kr hKr H=>?_) ?_
   ·rcases WY (decide (Xx13 < 32)) with hb | hb
    ·replace H:=M.ite_t hb H
     have hE:=hE.reb 14 (decide (Xx13 < 32)) true hb rfl
     refine zQ rfl hE rfl rfl rfl (fun a ea=>?_)
     have hE:=Env.put_some hE rfl ea; clear ea
     refine zQ rfl hE rfl rfl rfl (fun a ea=>?_)
     have hE:=Env.put_some hE rfl ea; clear ea
     refine KH rfl rfl hE rfl (Uo hE rfl rfl) (fun a hE=>?_)
     refine Ka ?_
     exact hKr _ _ _ (hE.cut (.cons rfl (.cons rfl (.cons rfl (.cons rfl Subs.nil))))) hR H
    ·replace H:=M.ite_f hb H
     have hE:=hE.reb 14 (decide (Xx13 < 32)) false hb rfl
     refine t_on rfl hE rfl rfl rfl ?_
     refine KH (v:=.int .u8 Xx13) rfl rfl hE rfl (KJ hE rfl) (fun a hE=>?_)
     refine t_on rfl hE rfl rfl rfl ?_
     refine KH (v:=.bool (decide (Xx13 > 126))) rfl rfl hE rfl (Zd hE rfl rfl ZV KIf) (fun a hE=>?_)
     refine KH rfl rfl hE rfl (Jv hE rfl rfl) (fun a hE=>?_)
     refine Ka ?_
     exact hKr _ _ _ (hE.cut (.cons rfl (.cons rfl (.cons rfl (.cons rfl Subs.nil))))) hR H
   ·intro Xx30 a w hE hR H
    refine Ka ?_
    refine hK_29 _ _ ?_
    refine Jg Xx30 hE rfl (fun hb=>?_) (fun hb=>?_)
    ·replace H:=M.ite_t hb H
     refine KG ?_
     refine KH (v:=.pointer x0) rfl rfl hE rfl (KJ hE rfl) (fun a hE=>?_)
     refine Jk hE hR ZH rfl (ZQ x0) H (fun _ _ hR HQ=>Xu.ne rfl (Xu.ne rfl (hthr _ _ hR HQ))) (fun Xx31 a w ea hR H=>?_)
     have hE:=Env.put_some hE rfl ea; clear ea
     refine Ka ?_
     exact ⟨hE.cut (.cons rfl (.cons rfl (.cons rfl Subs.nil))),hR,H⟩
    ·replace H:=M.ite_f hb H
     refine Un ?_
     exact ⟨hE.cut (.cons rfl (.cons rfl (.cons rfl Subs.nil))),hR,H⟩
 ·replace H:=M.ite_f hb H
  refine KEY ?_
  refine Xu.same ?_
  refine hK_3 _ _ ?_
  refine Kc (fun K hK_32=>?_)
  refine KG ?_
  refine KH (v:=.pointer x0) rfl rfl hE rfl (KJ hE rfl) (fun a hE=>?_)
  obtain ⟨Xx33,qXx33,H⟩:=H
  refine KH (v:=.pointer (some Xx33)) rfl rfl hE rfl (KV hE (J7 rfl (congrArg Value.pointer qXx33))) (fun a hE=>?_)
  refine KH (v:=.pointer (some ((Xx33).add 1))) rfl rfl hE rfl (KM hE rfl Zi) (fun a hE=>?_)
  obtain ⟨Xx34,qXx34,H⟩:=H
  refine KH (v:=.int .i64 Xx34) rfl rfl hE rfl (Zk hE rfl sc3 qXx34) (fun a hE=>?_)
  refine KH (v:=.int .i64 (IntKind.wrap .i64 (Xx34+1))) rfl rfl hE rfl (Zd hE rfl rfl ZV zO) (fun a hE=>?_)
  obtain ⟨Xx35,qXx35,H⟩:=H
  refine KH (v:=.pointer (some Xx35)) rfl rfl hE rfl (KV hE (J7 rfl (congrArg Value.pointer qXx35))) (fun a hE=>?_)
  refine KH (v:=.pointer (some ((Xx35).add 1))) rfl rfl hE rfl (KM hE rfl Zi) (fun a hE=>?_)
  obtain ⟨u_36,qu_36,H⟩:=H
  refine U0 rfl rfl hE hR (Zn hE rfl rfl sz3 qu_36) (fun a w hE hR hh=>?_)
  replace H:=M.at hh H; clear hh
  refine Ka ?_
  refine hK_32 _ _ ?_
  refine Kc (fun K hK_37=>?_)
  refine KG ?_
  refine KH (v:=(Xx6:Sl).v) rfl rfl hE rfl (KJ hE rfl) (fun a hE=>?_)
  obtain ⟨Xx38,qXx38,H⟩:=H
  refine KH (v:=.string Xx38) rfl rfl hE rfl (KLQ hE rfl un35 un9 un5 qXx38) (fun a hE=>?_)
  refine KH (v:=.string Xx38) rfl rfl hE rfl (Kp hE rfl) (fun a hE=>?_)
  refine Ka ?_
  refine hK_37 _ _ ?_
  refine Yv ?_
  exact hret _ _ _ Xx38 _ hE hR (Jb hE rfl (RV.tmp rfl RV.nil)) rfl H
def JV (x0:Option Addr) (x1:Int):M (Value ⊕ (Array Value)):=do
 let Xx2←mkB KB (#[.int .i64 0,.int .i64 0,.string ByteArray.empty,.slice none 0 0]:Array Value)
 let Xx4←nilP x0
 let Xx5←ldI .i64 ((Xx4).add 1)
 let Xx6←nilP x0
 stV ((Xx6).add 1) (.int .i64 (IntKind.wrap .i64 (Xx5+1)))
 thr (ZN x0 (⟨#[91]⟩:ByteArray)) fun Xx9=>do
  thr (Jo x0) fun Xx11=>do
   let Xx12←mkB KB (#[.int .i64 0,.int .i64 0,.string ByteArray.empty,.slice none 0 0]:Array Value)
   M.need ((#[.int .i64 x1,.int .i64 Xx11,.string ByteArray.empty,.slice none 0 0]:Array Value).size=4)
   stG Xx12 (#[.int .i64 x1,.int .i64 Xx11,.string ByteArray.empty,.slice none 0 0]:Array Value)
   thr (ZN x0 (⟨#[93]⟩:ByteArray)) fun Xx15=>do
    let Xx17←ldG 4 Xx12
    M.need (Xx17.size=4)
    stG Xx2 Xx17
    let Rr19←ldG 4 Xx2
    M.pure (.inr Rr19)
theorem Yu (x0:Option Addr) (x1:Int):qH Go.Proofs.Tryz.prog 175 #[.pointer x0,.int .i64 x1] (fun (r:Array Value)=>.agg r) (JV x0 x1):=by
 refine XK [(0,.pointer x0),(1,.int .i64 x1)] Go.Proofs.Tryz.func175 rfl rfl (Nat.le_of_ble_eq_true rfl) (Yw ⟨rfl,rfl,trivial⟩) (fun w0 w Q R X a hret hthr hE hR H=>?_)
 unfold JV at H
 refine Kc (fun K hK_1=>?_)
 refine KG ?_
 obtain ⟨Xx2,qXx2,H⟩:=H
 refine XM (v:=.pointer (some Xx2)) rfl rfl hE rfl hR (Vy zr24 qXx2) (fun a w hE hR hh=>?_)
 replace H:=M.at hh H; clear hh
 refine Ka ?_
 refine hK_1 _ _ ?_
 refine Kc (fun K hK_3=>?_)
 refine KG ?_
 refine KH (v:=.pointer x0) rfl rfl hE rfl (KJ hE rfl) (fun a hE=>?_)
 obtain ⟨Xx4,qXx4,H⟩:=H
 refine KH (v:=.pointer (some Xx4)) rfl rfl hE rfl (KV hE (J7 rfl (congrArg Value.pointer qXx4))) (fun a hE=>?_)
 refine KH (v:=.pointer (some ((Xx4).add 1))) rfl rfl hE rfl (KM hE rfl Zi) (fun a hE=>?_)
 obtain ⟨Xx5,qXx5,H⟩:=H
 refine KH (v:=.int .i64 Xx5) rfl rfl hE rfl (Zk hE rfl sc3 qXx5) (fun a hE=>?_)
 refine KH (v:=.int .i64 (IntKind.wrap .i64 (Xx5+1))) rfl rfl hE rfl (Zd hE rfl rfl ZV zO) (fun a hE=>?_)
 obtain ⟨Xx6,qXx6,H⟩:=H
 refine KH (v:=.pointer (some Xx6)) rfl rfl hE rfl (KV hE (J7 rfl (congrArg Value.pointer qXx6))) (fun a hE=>?_)
 refine KH (v:=.pointer (some ((Xx6).add 1))) rfl rfl hE rfl (KM hE rfl Zi) (fun a hE=>?_)
 obtain ⟨u_7,qu_7,H⟩:=H
 refine U0 rfl rfl hE hR (Zn hE rfl rfl sz3 qu_7) (fun a w hE hR hh=>?_)
 replace H:=M.at hh H; clear hh
 refine Ka ?_
 refine hK_3 _ _ ?_
 refine Kc (fun K hK_8=>?_)
 refine KG ?_
 refine KH (v:=.pointer x0) rfl rfl hE rfl (KJ hE rfl) (fun a hE=>?_)
 refine Jk hE hR Zh rfl (Zs x0 (⟨#[91]⟩:ByteArray)) H (fun _ _ hR HQ=>hthr _ _ hR HQ) (fun Xx9 a w ea hR H=>?_)
 have hE:=Env.put_some hE rfl ea; clear ea
 refine Ka ?_
 refine hK_8 _ _ ?_
 refine Kc (fun K hK_10=>?_)
 refine KG ?_
 refine KH (v:=.int .i64 x1) rfl rfl hE rfl (KJ hE rfl) (fun a hE=>?_)
 refine KH (v:=.pointer x0) rfl rfl hE rfl (KJ hE rfl) (fun a hE=>?_)
 refine Jk hE hR Yt rfl (Xb x0) H (fun _ _ hR HQ=>hthr _ _ hR HQ) (fun Xx11 a w ea hR H=>?_)
 have hE:=Env.put_some hE rfl ea; clear ea
 refine KH (v:=.agg (#[.int .i64 x1,.int .i64 Xx11,.string ByteArray.empty,.slice none 0 0]:Array Value)) rfl rfl hE rfl (zf hE rfl zr24 pl24 (by rfl)) (fun a hE=>?_)
 obtain ⟨Xx12,qXx12,H⟩:=H
 refine XM (v:=.pointer (some Xx12)) rfl rfl hE rfl hR (Vy zr24 qXx12) (fun a w hE hR hh=>?_)
 replace H:=M.at hh H; clear hh
 obtain ⟨qz,H⟩:=H
 obtain ⟨u_13,qu_13,H⟩:=H
 refine U0 rfl rfl hE hR (J4 hE rfl rfl sz24 qz qu_13) (fun a w hE hR hh=>?_)
 replace H:=M.at hh H; clear hh
 refine Ka ?_
 refine hK_10 _ _ ?_
 refine Kc (fun K hK_14=>?_)
 refine KG ?_
 refine KH (v:=.pointer x0) rfl rfl hE rfl (KJ hE rfl) (fun a hE=>?_)
 refine Jk hE hR Zh rfl (Zs x0 (⟨#[93]⟩:ByteArray)) H (fun _ _ hR HQ=>hthr _ _ hR HQ) (fun Xx15 a w ea hR H=>?_)
 have hE:=Env.put_some hE rfl ea; clear ea
 refine Ka ?_
 refine hK_14 _ _ ?_
 refine Kc (fun K hK_16=>?_)
 refine KG ?_
 obtain ⟨Xx17,qXx17,H⟩:=H
 refine KH (v:=.agg Xx17) rfl rfl hE rfl (KDG hE rfl ag24 qXx17) (fun a hE=>?_)
 obtain ⟨qz,H⟩:=H
 obtain ⟨u_18,qu_18,H⟩:=H
 refine U0 rfl rfl hE hR (J4 hE rfl rfl sz24 qz qu_18) (fun a w hE hR hh=>?_)
 replace H:=M.at hh H; clear hh
 refine Ka ?_
 refine hK_16 _ _ ?_
 refine Yv ?_
 obtain ⟨Rr19,qRr19,H⟩:=H
 exact hret _ _ _ Rr19 _ hE hR (Jb hE rfl (RV.cellG rfl ag24 qRr19 RV.nil)) rfl H
def J0 (C3:Option Addr) (C4:Int) (C5:Addr):M (Value ⊕ (Array Value)):=do
 let Xx7←Kv C3
 let Xx10←M.ite (Xx7 == 45) (do
  M.pure true
  ) (do
  let Xx11←XA Xx7
  M.pure Xx11
  )
 M.ite Xx10 (do
  thr (Jo C3) fun Xx13=>do
   let Xx14←KE1 Xx13
   M.need (Xx14.size=4)
   stG C5 Xx14
   let Rr16←ldG 4 C5
   M.pure (.inr Rr16)
  ) (do
  M.ite (Xx7 == 39) (do
   thr (Vf C3) fun Xx19=>do
    let Xx20←KE2 Xx19
    M.need (Xx20.size=4)
    stG C5 Xx20
    let Rr22←ldG 4 C5
    M.pure (.inr Rr22)
   ) (do
   M.ite (Xx7 == 116) (do
    thr (ZN C3 (⟨#[116,114,117,101]⟩:ByteArray)) fun Xx25=>do
     let Xx27←qY true
     M.need (Xx27.size=4)
     stG C5 Xx27
     let Rr29←ldG 4 C5
     M.pure (.inr Rr29)
    ) (do
    M.ite (Xx7 == 102) (do
     thr (ZN C3 (⟨#[102,97,108,115,101]⟩:ByteArray)) fun Xx32=>do
      let Xx34←qY false
      M.need (Xx34.size=4)
      stG C5 Xx34
      let Rr36←ldG 4 C5
      M.pure (.inr Rr36)
     ) (do
     M.ite (Xx7 == 118) (do
      thr (JV C3 6) fun Xx39=>do
       M.need (Xx39.size=4)
       stG C5 Xx39
       let Rr41←ldG 4 C5
       M.pure (.inr Rr41)
      ) (do
      M.ite (Xx7 == 101) (do
       thr (JV C3 7) fun Xx44=>do
        M.need (Xx44.size=4)
        stG C5 Xx44
        let Rr46←ldG 4 C5
        M.pure (.inr Rr46)
       ) (do
       M.ite (Xx7 == 91) (do
        thr (KEZ Go.Proofs.Tryz.prog X9 #[.pointer C3,.int .i64 C4,.int .u8 93,.int .i64 1] (fun r:Sl=>(r:Sl).v)) fun Xx49=>do
         M.need ((#[.int .i64 4,.int .i64 0,.string ByteArray.empty,(Xx49:Sl).v]:Array Value).size=4)
         stG C5 (#[.int .i64 4,.int .i64 0,.string ByteArray.empty,(Xx49:Sl).v]:Array Value)
         let Rr51←ldG 4 C5
         M.pure (.inr Rr51)
        ) (do
        M.ite (Xx7 == 123) (do
         thr (KEZ Go.Proofs.Tryz.prog X9 #[.pointer C3,.int .i64 C4,.int .u8 125,.int .i64 2] (fun r:Sl=>(r:Sl).v)) fun Xx54=>do
          M.need ((#[.int .i64 5,.int .i64 0,.string ByteArray.empty,(Xx54:Sl).v]:Array Value).size=4)
          stG C5 (#[.int .i64 5,.int .i64 0,.string ByteArray.empty,(Xx54:Sl).v]:Array Value)
          let Rr56←ldG 4 C5
          M.pure (.inr Rr56)
         ) (do
         thr (K9 C3) fun Xx58=>do
          M.need ((#[.int .i64 0,.int .i64 0,.string ByteArray.empty,.slice none 0 0]:Array Value).size=4)
          stG C5 (#[.int .i64 0,.int .i64 0,.string ByteArray.empty,.slice none 0 0]:Array Value)
          let Rr61←ldG 4 C5
          M.pure (.inr Rr61)
         )
        )
       )
      )
     )
    )
   )
  )
def J6 (x0:Option Addr) (x1:Int):M (Value ⊕ (Array Value)):=do
 let Xx2←mkB KB (#[.int .i64 0,.int .i64 0,.string ByteArray.empty,.slice none 0 0]:Array Value)
 M.ite (decide (x1 > 8)) (do
  thr (K9 x0) fun Xx63=>do
   J0 x0 x1 Xx2
  ) (do
  J0 x0 x1 Xx2
  )
theorem GC (x0:Option Addr) (x1:Int):qH Go.Proofs.Tryz.prog 131 #[.pointer x0,.int .i64 x1] (fun (r:Array Value)=>.agg r) (J6 x0 x1):=by
 refine XK [(0,.pointer x0),(1,.int .i64 x1)] Go.Proofs.Tryz.func131 rfl rfl (Nat.le_of_ble_eq_true rfl) (Yw ⟨rfl,rfl,trivial⟩) (fun w0 w Q R X a hret hthr hE hR H=>?_)
 unfold J6 at H
 refine Kc (fun K hK_1=>?_)
 refine KG ?_
 obtain ⟨Xx2,qXx2,H⟩:=H
 refine XM (v:=.pointer (some Xx2)) rfl rfl hE rfl hR (Vy zr24 qXx2) (fun a w hE hR hh=>?_)
 replace H:=M.at hh H; clear hh
 refine Ka ?_
 refine hK_1 _ _ ?_
 refine J3 (fun a w=>Env (⟨67,[]⟩:Frm) a [(0,.pointer x0),(1,.int .i64 x1),(4,.pointer (some Xx2))]∧Rest w0 w∧(J0 x0 x1 Xx2).wp w.heap Q) ?_ ?_
 ·rintro a w ⟨hE,hR,H⟩
  unfold J0 at H
  refine Kc (fun K hK_6=>?_)
  refine KG ?_
  refine KH (v:=.pointer x0) rfl rfl hE rfl (KJ hE rfl) (fun a hE=>?_)
  refine Uy hE hR Kw rfl (ZB x0) (M.unbind H) (fun Xx7 a w ea hR H=>?_)
  have hE:=Env.put_some hE rfl ea; clear ea
  refine KH (v:=.int .u8 Xx7) rfl rfl hE rfl (Kp hE rfl) (fun a hE=>?_)
  refine Ka ?_
  refine hK_6 _ _ ?_
  refine Kc (fun K hK_8=>?_)
  refine Vm ?_
  refine Kc (fun K hK_9=>?_)
  refine KG ?_
  refine KH (v:=.int .u8 Xx7) rfl rfl hE rfl (KJ hE rfl) (fun a hE=>?_)
  refine KH (v:=.bool (Xx7 == 45)) rfl rfl hE rfl (Zd hE rfl rfl ZV zP) (fun a hE=>?_)
  refine KH (v:=.bool (Xx7 == 45)) rfl rfl hE rfl (KJ hE rfl) (fun a hE=>?_)
  refine KHc (n:=(⟨67,[]⟩:Frm)) (w0:=w0) 3 (fun Xx10:Bool=>[(0,.pointer x0),(1,.int .i64 x1),(4,.pointer (some Xx2)),(5,.int .u8 Xx7),(18,.bool Xx10)]) (M.unbind H) (fun Kr hKr H=>?_) ?_
  ·rcases WY (Xx7 == 45) with hb | hb
   ·replace H:=M.ite_t hb H
    have hE:=hE.reb 15 (Xx7 == 45) true hb rfl
    refine zQ rfl hE rfl rfl rfl (fun a ea=>?_)
    have hE:=Env.put_some hE rfl ea; clear ea
    refine zQ rfl hE rfl rfl rfl (fun a ea=>?_)
    have hE:=Env.put_some hE rfl ea; clear ea
    refine KH rfl rfl hE rfl (Uo hE rfl rfl) (fun a hE=>?_)
    refine Ka ?_
    exact hKr _ _ _ (hE.cut (.cons rfl (.cons rfl (.cons rfl (.cons rfl (.cons rfl Subs.nil)))))) hR H
   ·replace H:=M.ite_f hb H
    have hE:=hE.reb 15 (Xx7 == 45) false hb rfl
    refine t_on rfl hE rfl rfl rfl ?_
    refine KH (v:=.int .u8 Xx7) rfl rfl hE rfl (KJ hE rfl) (fun a hE=>?_)
    refine t_on rfl hE rfl rfl rfl ?_
    refine Uy hE hR N7 rfl (zB Xx7) (M.unbind H) (fun Xx11 a w ea hR H=>?_)
    have hE:=Env.put_some hE rfl ea; clear ea
    refine KH rfl rfl hE rfl (Jv hE rfl rfl) (fun a hE=>?_)
    refine Ka ?_
    exact hKr _ _ _ (hE.cut (.cons rfl (.cons rfl (.cons rfl (.cons rfl (.cons rfl Subs.nil)))))) hR H
  ·intro Xx10 a w hE hR H
   refine KH (v:=.bool Xx10) rfl rfl hE rfl (Kp hE rfl) (fun a hE=>?_)
   refine Ka ?_
   refine hK_9 _ _ ?_
   refine Jg Xx10 hE rfl (fun hb=>?_) (fun hb=>?_)
   ·replace H:=M.ite_t hb H
    refine Kc (fun K hK_12=>?_)
    refine KG ?_
    refine KH (v:=.pointer x0) rfl rfl hE rfl (KJ hE rfl) (fun a hE=>?_)
    refine Jk hE hR Yt rfl (Xb x0) H (fun _ _ hR HQ=>Xu.ne rfl (hthr _ _ hR HQ)) (fun Xx13 a w ea hR H=>?_)
    have hE:=Env.put_some hE rfl ea; clear ea
    refine Uy hE hR KHt rfl (KIw Xx13) (M.unbind H) (fun Xx14 a w ea hR H=>?_)
    have hE:=Env.put_some hE rfl ea; clear ea
    obtain ⟨qz,H⟩:=H
    obtain ⟨u_15,qu_15,H⟩:=H
    refine U0 rfl rfl hE hR (J4 hE rfl rfl sz24 qz qu_15) (fun a w hE hR hh=>?_)
    replace H:=M.at hh H; clear hh
    refine Ka ?_
    refine hK_12 _ _ ?_
    refine Yv ?_
    obtain ⟨Rr16,qRr16,H⟩:=H
    exact hret _ _ _ Rr16 _ hE hR (Jb hE rfl (RV.cellG rfl ag24 qRr16 RV.nil)) rfl H
   ·replace H:=M.ite_f hb H
    refine Kc (fun K hK_17=>?_)
    refine KG ?_
    refine KH (v:=.int .u8 Xx7) rfl rfl hE rfl (KJ hE rfl) (fun a hE=>?_)
    refine KH (v:=.bool (Xx7 == 39)) rfl rfl hE rfl (Zd hE rfl rfl ZV zP) (fun a hE=>?_)
    refine KH (v:=.bool (Xx7 == 39)) rfl rfl hE rfl (Kp hE rfl) (fun a hE=>?_)
    refine Ka ?_
    refine hK_17 _ _ ?_
    refine Jg (Xx7 == 39) hE rfl (fun hb=>?_) (fun hb=>?_)
    ·replace H:=M.ite_t hb H
     refine Kc (fun K hK_18=>?_)
     refine KG ?_
     refine KH (v:=.pointer x0) rfl rfl hE rfl (KJ hE rfl) (fun a hE=>?_)
     refine Jk hE hR KBc rfl (KC5 x0) H (fun _ _ hR HQ=>Xu.ne rfl (hthr _ _ hR HQ)) (fun Xx19 a w ea hR H=>?_)
     have hE:=Env.put_some hE rfl ea; clear ea
     refine Uy hE hR KHu rfl (KIx Xx19) (M.unbind H) (fun Xx20 a w ea hR H=>?_)
     have hE:=Env.put_some hE rfl ea; clear ea
     obtain ⟨qz,H⟩:=H
     obtain ⟨u_21,qu_21,H⟩:=H
     refine U0 rfl rfl hE hR (J4 hE rfl rfl sz24 qz qu_21) (fun a w hE hR hh=>?_)
     replace H:=M.at hh H; clear hh
     refine Ka ?_
     refine hK_18 _ _ ?_
     refine Yv ?_
     obtain ⟨Rr22,qRr22,H⟩:=H
     exact hret _ _ _ Rr22 _ hE hR (Jb hE rfl (RV.cellG rfl ag24 qRr22 RV.nil)) rfl H
    ·replace H:=M.ite_f hb H
     refine Kc (fun K hK_23=>?_)
     refine KG ?_
     refine KH (v:=.int .u8 Xx7) rfl rfl hE rfl (KJ hE rfl) (fun a hE=>?_)
     refine KH (v:=.bool (Xx7 == 116)) rfl rfl hE rfl (Zd hE rfl rfl ZV zP) (fun a hE=>?_)
     refine KH (v:=.bool (Xx7 == 116)) rfl rfl hE rfl (Kp hE rfl) (fun a hE=>?_)
     refine Ka ?_
     refine hK_23 _ _ ?_
     refine Jg (Xx7 == 116) hE rfl (fun hb=>?_) (fun hb=>?_)
     ·replace H:=M.ite_t hb H
      refine Kc (fun K hK_24=>?_)
      refine KG ?_
      refine KH (v:=.pointer x0) rfl rfl hE rfl (KJ hE rfl) (fun a hE=>?_)
      refine Jk hE hR Zh rfl (Zs x0 (⟨#[116,114,117,101]⟩:ByteArray)) H (fun _ _ hR HQ=>Xu.ne rfl (hthr _ _ hR HQ)) (fun Xx25 a w ea hR H=>?_)
      have hE:=Env.put_some hE rfl ea; clear ea
      refine Ka ?_
      refine hK_24 _ _ ?_
      refine Kc (fun K hK_26=>?_)
      refine KG ?_
      refine Uy hE hR KCf rfl (KD6 true) (M.unbind H) (fun Xx27 a w ea hR H=>?_)
      have hE:=Env.put_some hE rfl ea; clear ea
      obtain ⟨qz,H⟩:=H
      obtain ⟨u_28,qu_28,H⟩:=H
      refine U0 rfl rfl hE hR (J4 hE rfl rfl sz24 qz qu_28) (fun a w hE hR hh=>?_)
      replace H:=M.at hh H; clear hh
      refine Ka ?_
      refine hK_26 _ _ ?_
      refine Yv ?_
      obtain ⟨Rr29,qRr29,H⟩:=H
      exact hret _ _ _ Rr29 _ hE hR (Jb hE rfl (RV.cellG rfl ag24 qRr29 RV.nil)) rfl H
     ·replace H:=M.ite_f hb H
      refine Kc (fun K hK_30=>?_)
      refine KG ?_
      refine KH (v:=.int .u8 Xx7) rfl rfl hE rfl (KJ hE rfl) (fun a hE=>?_)
      refine KH (v:=.bool (Xx7 == 102)) rfl rfl hE rfl (Zd hE rfl rfl ZV zP) (fun a hE=>?_)
      refine KH (v:=.bool (Xx7 == 102)) rfl rfl hE rfl (Kp hE rfl) (fun a hE=>?_)
      refine Ka ?_
      refine hK_30 _ _ ?_
      refine Jg (Xx7 == 102) hE rfl (fun hb=>?_) (fun hb=>?_)
      ·replace H:=M.ite_t hb H
       refine Kc (fun K hK_31=>?_)
       refine KG ?_
       refine KH (v:=.pointer x0) rfl rfl hE rfl (KJ hE rfl) (fun a hE=>?_)
       refine Jk hE hR Zh rfl (Zs x0 (⟨#[102,97,108,115,101]⟩:ByteArray)) H (fun _ _ hR HQ=>Xu.ne rfl (hthr _ _ hR HQ)) (fun Xx32 a w ea hR H=>?_)
       have hE:=Env.put_some hE rfl ea; clear ea
       refine Ka ?_
       refine hK_31 _ _ ?_
       refine Kc (fun K hK_33=>?_)
       refine KG ?_
       refine Uy hE hR KCf rfl (KD6 false) (M.unbind H) (fun Xx34 a w ea hR H=>?_)
       have hE:=Env.put_some hE rfl ea; clear ea
       obtain ⟨qz,H⟩:=H
       obtain ⟨u_35,qu_35,H⟩:=H
       refine U0 rfl rfl hE hR (J4 hE rfl rfl sz24 qz qu_35) (fun a w hE hR hh=>?_)
       replace H:=M.at hh H; clear hh
       refine Ka ?_
       refine hK_33 _ _ ?_
       refine Yv ?_
       obtain ⟨Rr36,qRr36,H⟩:=H
       exact hret _ _ _ Rr36 _ hE hR (Jb hE rfl (RV.cellG rfl ag24 qRr36 RV.nil)) rfl H
      ·replace H:=M.ite_f hb H
       refine Kc (fun K hK_37=>?_)
       refine KG ?_
       refine KH (v:=.int .u8 Xx7) rfl rfl hE rfl (KJ hE rfl) (fun a hE=>?_)
       refine KH (v:=.bool (Xx7 == 118)) rfl rfl hE rfl (Zd hE rfl rfl ZV zP) (fun a hE=>?_)
       refine KH (v:=.bool (Xx7 == 118)) rfl rfl hE rfl (Kp hE rfl) (fun a hE=>?_)
       refine Ka ?_
       refine hK_37 _ _ ?_
       refine Jg (Xx7 == 118) hE rfl (fun hb=>?_) (fun hb=>?_)
       ·replace H:=M.ite_t hb H
        refine Kc (fun K hK_38=>?_)
        refine KG ?_
        refine KH (v:=.pointer x0) rfl rfl hE rfl (KJ hE rfl) (fun a hE=>?_)
        refine Jk hE hR YT rfl (Yu x0 6) H (fun _ _ hR HQ=>Xu.ne rfl (hthr _ _ hR HQ)) (fun Xx39 a w ea hR H=>?_)
        have hE:=Env.put_some hE rfl ea; clear ea
        obtain ⟨qz,H⟩:=H
        obtain ⟨u_40,qu_40,H⟩:=H
        refine U0 rfl rfl hE hR (J4 hE rfl rfl sz24 qz qu_40) (fun a w hE hR hh=>?_)
        replace H:=M.at hh H; clear hh
        refine Ka ?_
        refine hK_38 _ _ ?_
        refine Yv ?_
        obtain ⟨Rr41,qRr41,H⟩:=H
        exact hret _ _ _ Rr41 _ hE hR (Jb hE rfl (RV.cellG rfl ag24 qRr41 RV.nil)) rfl H
       ·replace H:=M.ite_f hb H
        refine Kc (fun K hK_42=>?_)
        refine KG ?_
        refine KH (v:=.int .u8 Xx7) rfl rfl hE rfl (KJ hE rfl) (fun a hE=>?_)
        refine KH (v:=.bool (Xx7 == 101)) rfl rfl hE rfl (Zd hE rfl rfl ZV zP) (fun a hE=>?_)
        refine KH (v:=.bool (Xx7 == 101)) rfl rfl hE rfl (Kp hE rfl) (fun a hE=>?_)
        refine Ka ?_
        refine hK_42 _ _ ?_
        refine Jg (Xx7 == 101) hE rfl (fun hb=>?_) (fun hb=>?_)
        ·replace H:=M.ite_t hb H
         refine Kc (fun K hK_43=>?_)
         refine KG ?_
         refine KH (v:=.pointer x0) rfl rfl hE rfl (KJ hE rfl) (fun a hE=>?_)
         refine Jk hE hR YT rfl (Yu x0 7) H (fun _ _ hR HQ=>Xu.ne rfl (hthr _ _ hR HQ)) (fun Xx44 a w ea hR H=>?_)
         have hE:=Env.put_some hE rfl ea; clear ea
         obtain ⟨qz,H⟩:=H
         obtain ⟨u_45,qu_45,H⟩:=H
         refine U0 rfl rfl hE hR (J4 hE rfl rfl sz24 qz qu_45) (fun a w hE hR hh=>?_)
         replace H:=M.at hh H; clear hh
         refine Ka ?_
         refine hK_43 _ _ ?_
         refine Yv ?_
         obtain ⟨Rr46,qRr46,H⟩:=H
         exact hret _ _ _ Rr46 _ hE hR (Jb hE rfl (RV.cellG rfl ag24 qRr46 RV.nil)) rfl H
        ·replace H:=M.ite_f hb H
         refine Kc (fun K hK_47=>?_)
         refine KG ?_
         refine KH (v:=.int .u8 Xx7) rfl rfl hE rfl (KJ hE rfl) (fun a hE=>?_)
         refine KH (v:=.bool (Xx7 == 91)) rfl rfl hE rfl (Zd hE rfl rfl ZV zP) (fun a hE=>?_)
         refine KH (v:=.bool (Xx7 == 91)) rfl rfl hE rfl (Kp hE rfl) (fun a hE=>?_)
         refine Ka ?_
         refine hK_47 _ _ ?_
         refine Jg (Xx7 == 91) hE rfl (fun hb=>?_) (fun hb=>?_)
         ·replace H:=M.ite_t hb H
          refine Kc (fun K hK_48=>?_)
          refine KG ?_
          refine KH (v:=.pointer x0) rfl rfl hE rfl (KJ hE rfl) (fun a hE=>?_)
          refine KH (v:=.int .i64 x1) rfl rfl hE rfl (KJ hE rfl) (fun a hE=>?_)
          refine Jk hE hR GB rfl (Np) H (fun _ _ hR HQ=>Xu.ne rfl (hthr _ _ hR HQ)) (fun Xx49 a w ea hR H=>?_)
          have hE:=Env.put_some hE rfl ea; clear ea
          refine KH (v:=.agg (#[.int .i64 4,.int .i64 0,.string ByteArray.empty,(Xx49:Sl).v]:Array Value)) rfl rfl hE rfl (zf hE rfl zr24 pl24 (by rfl)) (fun a hE=>?_)
          obtain ⟨qz,H⟩:=H
          obtain ⟨u_50,qu_50,H⟩:=H
          refine U0 rfl rfl hE hR (J4 hE rfl rfl sz24 qz qu_50) (fun a w hE hR hh=>?_)
          replace H:=M.at hh H; clear hh
          refine Ka ?_
          refine hK_48 _ _ ?_
          refine Yv ?_
          obtain ⟨Rr51,qRr51,H⟩:=H
          exact hret _ _ _ Rr51 _ hE hR (Jb hE rfl (RV.cellG rfl ag24 qRr51 RV.nil)) rfl H
         ·replace H:=M.ite_f hb H
          refine Kc (fun K hK_52=>?_)
          refine KG ?_
          refine KH (v:=.int .u8 Xx7) rfl rfl hE rfl (KJ hE rfl) (fun a hE=>?_)
          refine KH (v:=.bool (Xx7 == 123)) rfl rfl hE rfl (Zd hE rfl rfl ZV zP) (fun a hE=>?_)
          refine KH (v:=.bool (Xx7 == 123)) rfl rfl hE rfl (Kp hE rfl) (fun a hE=>?_)
          refine Ka ?_
          refine hK_52 _ _ ?_
          refine Jg (Xx7 == 123) hE rfl (fun hb=>?_) (fun hb=>?_)
          ·replace H:=M.ite_t hb H
           refine Kc (fun K hK_53=>?_)
           refine KG ?_
           refine KH (v:=.pointer x0) rfl rfl hE rfl (KJ hE rfl) (fun a hE=>?_)
           refine KH (v:=.int .i64 x1) rfl rfl hE rfl (KJ hE rfl) (fun a hE=>?_)
           refine Jk hE hR GB rfl (Np) H (fun _ _ hR HQ=>Xu.ne rfl (hthr _ _ hR HQ)) (fun Xx54 a w ea hR H=>?_)
           have hE:=Env.put_some hE rfl ea; clear ea
           refine KH (v:=.agg (#[.int .i64 5,.int .i64 0,.string ByteArray.empty,(Xx54:Sl).v]:Array Value)) rfl rfl hE rfl (zf hE rfl zr24 pl24 (by rfl)) (fun a hE=>?_)
           obtain ⟨qz,H⟩:=H
           obtain ⟨u_55,qu_55,H⟩:=H
           refine U0 rfl rfl hE hR (J4 hE rfl rfl sz24 qz qu_55) (fun a w hE hR hh=>?_)
           replace H:=M.at hh H; clear hh
           refine Ka ?_
           refine hK_53 _ _ ?_
           refine Yv ?_
           obtain ⟨Rr56,qRr56,H⟩:=H
           exact hret _ _ _ Rr56 _ hE hR (Jb hE rfl (RV.cellG rfl ag24 qRr56 RV.nil)) rfl H
          ·replace H:=M.ite_f hb H
           refine Un ?_
           refine hK_8 _ _ ?_
           refine Kc (fun K hK_57=>?_)
           refine KG ?_
           refine KH (v:=.pointer x0) rfl rfl hE rfl (KJ hE rfl) (fun a hE=>?_)
           refine Jk hE hR ZH rfl (ZQ x0) H (fun _ _ hR HQ=>hthr _ _ hR HQ) (fun Xx58 a w ea hR H=>?_)
           have hE:=Env.put_some hE rfl ea; clear ea
           refine Ka ?_
           refine hK_57 _ _ ?_
           refine Kc (fun K hK_59=>?_)
           refine KG ?_
           refine KH (v:=.agg (#[.int .i64 0,.int .i64 0,.string ByteArray.empty,.slice none 0 0]:Array Value)) rfl rfl hE rfl (KJe bd24) (fun a hE=>?_)
           obtain ⟨qz,H⟩:=H
           obtain ⟨u_60,qu_60,H⟩:=H
           refine U0 rfl rfl hE hR (J4 hE rfl rfl sz24 qz qu_60) (fun a w hE hR hh=>?_)
           replace H:=M.at hh H; clear hh
           refine Ka ?_
           refine hK_59 _ _ ?_
           refine Yv ?_
           obtain ⟨Rr61,qRr61,H⟩:=H
           exact hret _ _ _ Rr61 _ hE hR (Jb hE rfl (RV.cellG rfl ag24 qRr61 RV.nil)) rfl H
 ·skip
  refine Kc (fun K hK_62=>?_)
  refine KG ?_
  refine KH (v:=.int .i64 x1) rfl rfl hE rfl (KJ hE rfl) (fun a hE=>?_)
  refine KH (v:=.bool (decide (x1 > 8))) rfl rfl hE rfl (Zd hE rfl rfl ZV KIf) (fun a hE=>?_)
  refine Ka ?_
  refine hK_62 _ _ ?_
  refine Jg (decide (x1 > 8)) hE rfl (fun hb=>?_) (fun hb=>?_)
  ·replace H:=M.ite_t hb H
   refine KG ?_
   refine KH (v:=.pointer x0) rfl rfl hE rfl (KJ hE rfl) (fun a hE=>?_)
   refine Jk hE hR ZH rfl (ZQ x0) H (fun _ _ hR HQ=>hthr _ _ hR HQ) (fun Xx63 a w ea hR H=>?_)
   have hE:=Env.put_some hE rfl ea; clear ea
   refine Ka ?_
   exact ⟨hE.cut (.cons rfl (.cons rfl (.cons rfl Subs.nil))),hR,H⟩
  ·replace H:=M.ite_f hb H
   refine Un ?_
   exact ⟨hE.cut (.cons rfl (.cons rfl (.cons rfl Subs.nil))),hR,H⟩
def Zt (C3:Value) (C4:Addr) (C5:Addr) (self1:(Int)→M (Unit)):(Int)→M (Unit):=fun s=>match s with
 | Xx2=>do
  let Xx9←ldL C4
  M.ite (decide (Xx2 < (Xx9.len:Int))) (do
   let Xx12←ldI .i64 C5
   let Xx13←ldL C4
   let Xx14←slL Xx13 Xx2 Xx13.len 4
   let Xx16←ldL C4
   let Xx17←slL3 Xx16 Xx2 (IntKind.wrap .i64 (Xx2+(iMin Xx12 (Xx14.len:Int)))) (IntKind.wrap .i64 (Xx2+(iMin Xx12 (Xx14.len:Int)))) 4
   let Xx18←V7 Go.Proofs.Tryz.prog (fun r:Bool=>.bool r) C3 [(Xx17:Sl).v]
   M.ite (!Xx18) (do
    M.pure ()
    ) (do
    let Xx19←ldI .i64 C5
    self1 (IntKind.wrap .i64 (Xx2+Xx19))
    )
   ) (do
   M.pure ()
   )
def UQ (x0:Value) (x1:Addr) (x2:Addr):M (Unit):=do
 M.loop (Zt x0 x1 x2) 0
theorem WS (x0:Value) (x1:Addr) (x2:Addr):Ki Go.Proofs.Tryz.prog 136 #[x0,.pointer (some x1),.pointer (some x2)] (fun (r:Unit)=>.tuple #[]) (UQ x0 x1 x2) :=
 KL [] [] [] [(0,.V x0),(1,.A x1),(2,.A x2)] (.q .o (.b (.l [(0,.V),(1,.A),(2,.A)] [(4,.I .i64)] (fun (t:Value × Addr × Addr)=>Zt t.1 t.2.1 t.2.2) (fun _=>.q .o (.q (.b (.q (.r [0,0,0,6,8,17,63] [0,0,0,6,8,17,32] [0,0,0,6,14,31,63] (.pu 2 (.pu 0 (.pu 1 (.pu 3 (.pu 4 (.pu 5 (.pu 6 (.st [5,6] .dn))))))))) .o)) .o))))) Go.Proofs.Tryz.func136 rfl rfl ⟨rfl,rfl,rfl,trivial⟩ rfl (by kernel_rfl) (by kernel_rfl)
def Yg (C5:Sl) (C6:Int) (self1:(Int)→M (Bool)):(Int)→M (Bool):=fun s=>match s with
 | Xx4=>do
  M.ite (decide (Xx4 < (C5.len:Int))) (do
   let Xx12←ixL C5 Xx4 4
   let Xx13←ldG 4 Xx12
   let Xx14←WP Go.Proofs.Tryz.prog Vt #[.agg Xx13,.int .i64 (IntKind.wrap .i64 (C6+1))] (fun r:Bool=>.bool r)
   M.ite (!Xx14) (do
    M.pure false
    ) (do
    self1 (IntKind.wrap .i64 (Xx4+1))
    )
   ) (do
   M.pure true
   )
def NL (x0:Sl) (x1:Int):M (Bool):=do
 M.loop (Yg x0 x1) 0
theorem KDi (x0:Sl) (x1:Int):Ki Go.Proofs.Tryz.prog 139 #[(x0:Sl).v,.int .i64 x1] (fun (r:Bool)=>.bool r) (NL x0 x1) :=
 KL [mkC Vt Nu [.G,.I .i64] [.B] (fun (t:Array Value × Int)=>WP Go.Proofs.Tryz.prog Vt #[.agg t.1,.int .i64 t.2] (fun r:Bool=>.bool r)) (fun (t:Array Value × Int)=>JN)] [] [.B] [(0,.L x0),(1,.I .i64 x1)] (.q .o (.q (.q .o (.b (.l [(0,.L),(1,.I .i64)] [(5,.I .i64)] (fun (t:Sl × Int)=>Yg t.1 t.2) (fun _=>.o)))) .o)) Go.Proofs.Tryz.func139 rfl rfl ⟨rfl,rfl,trivial⟩ rfl (by kernel_rfl) (by kernel_rfl)
def KBz (x0:Int):M (Bool):=do
 let Xx3←M.ite (decide (x0 < 48)) (do
  M.pure true
  ) (do
  M.pure (decide (x0 > 57))
  )
 M.pure Xx3
theorem KG7 (x0:Int):Ki Go.Proofs.Tryz.prog 160 #[.int .u8 x0] (fun (r:Bool)=>.bool r) (KBz x0) :=
 KL [] [] [.B] [(0,.I .u8 x0)] .o Go.Proofs.Tryz.func160 rfl rfl ⟨rfl,trivial⟩ rfl (by kernel_rfl) (by kernel_rfl)
end Gx
namespace Gx
open Go
set_option linter.unusedVariables false
set_option maxRecDepth 100000
def JW (self1:(Sl)→M (Value ⊕ (Sl))) (C29:Option Addr) (C31:Int) (Xx28:Sl):M (Value ⊕ (Sl)):=do
 let Xx34←Kv C29
 let Xx36←M.ite (Xx34 != C31) (do
  M.pure (Xx34 != 44)
  ) (do
  M.pure false
  )
 M.ite Xx36 (do
  thr (K9 C29) fun Xx37=>do
   self1 Xx28
  ) (do
  self1 Xx28
  )
def JX (self1:(Sl)→M (Value ⊕ (Sl))) (C18:Option Addr) (C19:Int) (C20:Int) (C21:Int) (C22:Sl):M (Value ⊕ (Sl)):=do
 thr (KEZ Go.Proofs.Tryz.prog WA #[.pointer C18,.int .i64 (IntKind.wrap .i64 (C19+1))] (fun r:Array Value=>.agg r)) fun Xx24=>do
  let y_26←NY 4 1 (#[.int .i64 0,.int .i64 0,.string ByteArray.empty,.slice none 0 0]:Array Value) [(0,.agg Xx24)]
  let Xx25←bdL KB 1 y_26
  let Xx27←apL KB 4 56 (#[.int .i64 0,.int .i64 0,.string ByteArray.empty,.slice none 0 0]:Array Value) C22 Xx25
  M.ite (C21 == 2) (do
   thr (ZN C18 (⟨#[58,32]⟩:ByteArray)) fun Xx40=>do
    thr (KEZ Go.Proofs.Tryz.prog WA #[.pointer C18,.int .i64 (IntKind.wrap .i64 (C19+1))] (fun r:Array Value=>.agg r)) fun Xx41=>do
     let y_43←NY 4 1 (#[.int .i64 0,.int .i64 0,.string ByteArray.empty,.slice none 0 0]:Array Value) [(0,.agg Xx41)]
     let Xx42←bdL KB 1 y_43
     let Xx44←apL KB 4 56 (#[.int .i64 0,.int .i64 0,.string ByteArray.empty,.slice none 0 0]:Array Value) Xx27 Xx42
     JW self1 C18 C20 Xx44
   ) (do
   JW self1 C18 C20 Xx27
   )
def U5 (C10:Option Addr) (C11:Int) (C12:Int) (C13:Int) (self1:(Sl)→M (Value ⊕ (Sl))):(Sl)→M (Value ⊕ (Sl)):=fun s=>match s with
 | Xx9=>do
  let Xx17←Kv C10
  M.ite (Xx17 != C12) (do
   M.ite (decide ((Xx9.len:Int) > 0)) (do
    thr (ZN C10 (⟨#[44,32]⟩:ByteArray)) fun Xx46=>do
     JX self1 C10 C11 C12 C13 Xx9
    ) (do
    JX self1 C10 C11 C12 C13 Xx9
    )
   ) (do
   let Xx48←nilP C10
   let Xx49←ldI .i64 ((Xx48).add 1)
   let Xx50←nilP C10
   stV ((Xx50).add 1) (.int .i64 (IntKind.wrap .i64 (Xx49+1)))
   M.pure (.inr Xx9)
   )
def WT (x0:Option Addr) (x1:Int) (x2:Int) (x3:Int):M (Value ⊕ (Sl)):=do
 let Xx3←nilP x0
 let Xx4←ldI .i64 ((Xx3).add 1)
 let Xx5←nilP x0
 stV ((Xx5).add 1) (.int .i64 (IntKind.wrap .i64 (Xx4+1)))
 M.loop (U5 x0 x1 x2 x3) Sl.nil
theorem NM (x0:Option Addr) (x1:Int) (x2:Int) (x3:Int):qH Go.Proofs.Tryz.prog 176 #[.pointer x0,.int .i64 x1,.int .u8 x2,.int .i64 x3] (fun (r:Sl)=>(r:Sl).v) (WT x0 x1 x2 x3):=by
 refine XK [(0,.pointer x0),(1,.int .i64 x1),(2,.int .u8 x2),(3,.int .i64 x3)] Go.Proofs.Tryz.func176 rfl rfl (Nat.le_of_ble_eq_true rfl) (Yw ⟨rfl,rfl,rfl,rfl,trivial⟩) (fun w0 w Q R X a hret hthr hE hR H=>?_)
 unfold WT at H
 refine Kc (fun K hK_1=>?_)
 refine KG ?_
 refine KH (v:=(Sl.nil:Sl).v) rfl rfl hE rfl (Kp hE rfl) (fun a hE=>?_)
 refine Ka ?_
 refine hK_1 _ _ ?_
 refine Kc (fun K hK_2=>?_)
 refine KG ?_
 refine KH (v:=.pointer x0) rfl rfl hE rfl (KJ hE rfl) (fun a hE=>?_)
 obtain ⟨Xx3,qXx3,H⟩:=H
 refine KH (v:=.pointer (some Xx3)) rfl rfl hE rfl (KV hE (J7 rfl (congrArg Value.pointer qXx3))) (fun a hE=>?_)
 refine KH (v:=.pointer (some ((Xx3).add 1))) rfl rfl hE rfl (KM hE rfl Zi) (fun a hE=>?_)
 obtain ⟨Xx4,qXx4,H⟩:=H
 refine KH (v:=.int .i64 Xx4) rfl rfl hE rfl (Zk hE rfl sc3 qXx4) (fun a hE=>?_)
 refine KH (v:=.int .i64 (IntKind.wrap .i64 (Xx4+1))) rfl rfl hE rfl (Zd hE rfl rfl ZV zO) (fun a hE=>?_)
 obtain ⟨Xx5,qXx5,H⟩:=H
 refine KH (v:=.pointer (some Xx5)) rfl rfl hE rfl (KV hE (J7 rfl (congrArg Value.pointer qXx5))) (fun a hE=>?_)
 refine KH (v:=.pointer (some ((Xx5).add 1))) rfl rfl hE rfl (KM hE rfl Zi) (fun a hE=>?_)
 obtain ⟨u_6,qu_6,H⟩:=H
 refine U0 rfl rfl hE hR (Zn hE rfl rfl sz3 qu_6) (fun a w hE hR hh=>?_)
 replace H:=M.at hh H; clear hh
 refine Ka ?_
 refine hK_2 _ _ ?_
 refine Kc (fun K hK_7=>?_)
 refine KG ?_
 refine KH (v:=(Sl.nil:Sl).v) rfl rfl hE rfl (Kp hE rfl) (fun a hE=>?_)
 refine Ka ?_
 refine hK_7 _ _ ?_
 refine Kc (fun K hK_8=>?_)
 refine Vm ?_
 refine KEe (fun (s:Sl)=>(⟨64,[]⟩:Frm)) (fun (s:Sl)=>[(0,.pointer x0),(1,.int .i64 x1),(2,.int .u8 x2),(3,.int .i64 x3),(9,(s:Sl).v)]) H (hE.cut (.cons rfl (.cons rfl (.cons rfl (.cons rfl (.cons rfl Subs.nil)))))) hR (fun Y self1 hY_14 Xx9 a w hE hR H=>?_)
 replace hE:Env (⟨64,[]⟩:Frm) a [(0,.pointer x0),(1,.int .i64 x1),(2,.int .u8 x2),(3,.int .i64 x3),(9,(Xx9:Sl).v)]:=hE
 replace H:(U5 x0 x1 x2 x3 self1 Xx9).wp w.heap Q:=H
 unfold U5 at H
 refine Kc (fun K hK_15=>?_)
 refine Kc (fun K hK_16=>?_)
 refine KG ?_
 refine KH (v:=.pointer x0) rfl rfl hE rfl (KJ hE rfl) (fun a hE=>?_)
 refine Uy hE hR Kw rfl (ZB x0) (M.unbind H) (fun Xx17 a w ea hR H=>?_)
 have hE:=Env.put_some hE rfl ea; clear ea
 refine KH (v:=.int .u8 x2) rfl rfl hE rfl (KJ hE rfl) (fun a hE=>?_)
 refine KH (v:=.bool (Xx17 != x2)) rfl rfl hE rfl (Zd hE rfl rfl ZV KFb) (fun a hE=>?_)
 refine Ka ?_
 refine hK_16 _ _ ?_
 refine Jg (Xx17 != x2) hE rfl (fun hb=>?_) (fun hb=>?_)
 ·replace H:=M.ite_t hb H
  refine Un ?_
  refine hK_15 _ _ ?_
  refine Vm ?_
  refine J3 (fun a w=>Env (⟨64,[]⟩:Frm) a [(0,.pointer x0),(1,.int .i64 x1),(2,.int .u8 x2),(3,.int .i64 x3),(9,(Xx9:Sl).v)]∧Rest w0 w∧(JX self1 x0 x1 x2 x3 Xx9).wp w.heap Q) ?_ ?_
  ·rintro a w ⟨hE,hR,H⟩
   unfold JX at H
   refine Kc (fun K hK_23=>?_)
   refine KG ?_
   refine KH (v:=(Xx9:Sl).v) rfl rfl hE rfl (KJ hE rfl) (fun a hE=>?_)
   refine KH (v:=.pointer x0) rfl rfl hE rfl (KJ hE rfl) (fun a hE=>?_)
   refine KH (v:=.int .i64 x1) rfl rfl hE rfl (KJ hE rfl) (fun a hE=>?_)
   refine KH (v:=.int .i64 (IntKind.wrap .i64 (x1+1))) rfl rfl hE rfl (Zd hE rfl rfl ZV zO) (fun a hE=>?_)
   refine Jk hE hR WD rfl (Np) H (fun _ _ hR HQ=>Xu.ne rfl (Xu.ne rfl (hthr _ _ hR HQ))) (fun Xx24 a w ea hR H=>?_)
   have hE:=Env.put_some hE rfl ea; clear ea
   obtain ⟨y_26,qy_26,H⟩:=H
   obtain ⟨Xx25,qXx25,H⟩:=H
   refine XM (v:=(Xx25:Sl).v) rfl rfl hE rfl hR (KAJ hE rfl un22 sz24 zr24 rfl qy_26 qXx25) (fun a w hE hR hh=>?_)
   replace H:=M.at hh H; clear hh
   refine t_ex (fun Xx27=>(Xx27:Sl).v) rfl rfl hR (M.unbind H) (fun Q H=>KHh hE rfl rfl ap22 H) (fun Xx27 a w ea hR H=>?_)
   have hE:=Env.put_some hE rfl ea; clear ea
   refine KH (v:=(Xx27:Sl).v) rfl rfl hE rfl (Kp hE rfl) (fun a hE=>?_)
   refine Ka ?_
   refine hK_23 _ _ ?_
   refine J3 (fun a w=>∃ (Xx28:Sl),Env (⟨64,[]⟩:Frm) a [(0,.pointer x0),(1,.int .i64 x1),(2,.int .u8 x2),(3,.int .i64 x3),(9,(Xx28:Sl).v)]∧Rest w0 w∧(JW self1 x0 x2 Xx28).wp w.heap Q) ?_ ?_
   ·rintro a w ⟨Xx28,hE,hR,H⟩
    unfold JW at H
    refine Kc (fun K hK_33=>?_)
    refine KG ?_
    refine KH (v:=.pointer x0) rfl rfl hE rfl (KJ hE rfl) (fun a hE=>?_)
    refine Uy hE hR Kw rfl (ZB x0) (M.unbind H) (fun Xx34 a w ea hR H=>?_)
    have hE:=Env.put_some hE rfl ea; clear ea
    refine KH (v:=.int .u8 Xx34) rfl rfl hE rfl (Kp hE rfl) (fun a hE=>?_)
    refine Ka ?_
    refine hK_33 _ _ ?_
    refine Kc (fun K hK_35=>?_)
    refine KG ?_
    refine KH (v:=.int .u8 Xx34) rfl rfl hE rfl (KJ hE rfl) (fun a hE=>?_)
    refine KH (v:=.int .u8 x2) rfl rfl hE rfl (KJ hE rfl) (fun a hE=>?_)
    refine KH (v:=.bool (Xx34 != x2)) rfl rfl hE rfl (Zd hE rfl rfl ZV KFb) (fun a hE=>?_)
    refine KH (v:=.bool (Xx34 != x2)) rfl rfl hE rfl (KJ hE rfl) (fun a hE=>?_)
    refine KHc (n:=(⟨64,[]⟩:Frm)) (w0:=w0) 3 (fun Xx36:Bool=>[(0,.pointer x0),(1,.int .i64 x1),(2,.int .u8 x2),(3,.int .i64 x3),(9,(Xx28:Sl).v),(53,.bool Xx36)]) (M.unbind H) (fun Kr hKr H=>?_) ?_
    ·rcases WY (Xx34 != x2) with hb | hb
     ·replace H:=M.ite_t hb H
      have hE:=hE.reb 50 (Xx34 != x2) true hb rfl
      refine t_on rfl hE rfl rfl rfl ?_
      refine KH (v:=.int .u8 Xx34) rfl rfl hE rfl (KJ hE rfl) (fun a hE=>?_)
      refine t_on rfl hE rfl rfl rfl ?_
      refine KH (v:=.bool (Xx34 != 44)) rfl rfl hE rfl (Zd hE rfl rfl ZV KFb) (fun a hE=>?_)
      refine KH rfl rfl hE rfl (Uo hE rfl rfl) (fun a hE=>?_)
      refine Ka ?_
      exact hKr _ _ _ (hE.cut (.cons rfl (.cons rfl (.cons rfl (.cons rfl (.cons rfl (.cons rfl Subs.nil))))))) hR H
     ·replace H:=M.ite_f hb H
      have hE:=hE.reb 50 (Xx34 != x2) false hb rfl
      refine zQ rfl hE rfl rfl rfl (fun a ea=>?_)
      have hE:=Env.put_some hE rfl ea; clear ea
      refine zQ rfl hE rfl rfl rfl (fun a ea=>?_)
      have hE:=Env.put_some hE rfl ea; clear ea
      refine KH rfl rfl hE rfl (Jv hE rfl rfl) (fun a hE=>?_)
      refine Ka ?_
      exact hKr _ _ _ (hE.cut (.cons rfl (.cons rfl (.cons rfl (.cons rfl (.cons rfl (.cons rfl Subs.nil))))))) hR H
    ·intro Xx36 a w hE hR H
     refine Ka ?_
     refine hK_35 _ _ ?_
     refine Jg Xx36 hE rfl (fun hb=>?_) (fun hb=>?_)
     ·replace H:=M.ite_t hb H
      refine KG ?_
      refine KH (v:=.pointer x0) rfl rfl hE rfl (KJ hE rfl) (fun a hE=>?_)
      refine Jk hE hR ZH rfl (ZQ x0) H (fun _ _ hR HQ=>Xu.ne rfl (Xu.ne rfl (hthr _ _ hR HQ))) (fun Xx37 a w ea hR H=>?_)
      have hE:=Env.put_some hE rfl ea; clear ea
      refine Ka ?_
      exact hY_14 Xx28 _ _ (hE.cut (.cons rfl (.cons rfl (.cons rfl (.cons rfl (.cons rfl Subs.nil)))))) hR H
     ·replace H:=M.ite_f hb H
      refine Un ?_
      exact hY_14 Xx28 _ _ (hE.cut (.cons rfl (.cons rfl (.cons rfl (.cons rfl (.cons rfl Subs.nil)))))) hR H
   ·skip
    refine Kc (fun K hK_38=>?_)
    refine KG ?_
    refine KH (v:=.int .i64 x3) rfl rfl hE rfl (KJ hE rfl) (fun a hE=>?_)
    refine KH (v:=.bool (x3 == 2)) rfl rfl hE rfl (Zd hE rfl rfl ZV zP) (fun a hE=>?_)
    refine Ka ?_
    refine hK_38 _ _ ?_
    refine Jg (x3 == 2) hE rfl (fun hb=>?_) (fun hb=>?_)
    ·replace H:=M.ite_t hb H
     refine Kc (fun K hK_39=>?_)
     refine KG ?_
     refine KH (v:=.pointer x0) rfl rfl hE rfl (KJ hE rfl) (fun a hE=>?_)
     refine Jk hE hR Zh rfl (Zs x0 (⟨#[58,32]⟩:ByteArray)) H (fun _ _ hR HQ=>Xu.ne rfl (Xu.ne rfl (hthr _ _ hR HQ))) (fun Xx40 a w ea hR H=>?_)
     have hE:=Env.put_some hE rfl ea; clear ea
     refine Ka ?_
     refine hK_39 _ _ ?_
     refine KG ?_
     refine KH (v:=(Xx27:Sl).v) rfl rfl hE rfl (KJ hE rfl) (fun a hE=>?_)
     refine KH (v:=.pointer x0) rfl rfl hE rfl (KJ hE rfl) (fun a hE=>?_)
     refine KH (v:=.int .i64 x1) rfl rfl hE rfl (KJ hE rfl) (fun a hE=>?_)
     refine KH (v:=.int .i64 (IntKind.wrap .i64 (x1+1))) rfl rfl hE rfl (Zd hE rfl rfl ZV zO) (fun a hE=>?_)
     refine Jk hE hR WD rfl (Np) H (fun _ _ hR HQ=>Xu.ne rfl (Xu.ne rfl (hthr _ _ hR HQ))) (fun Xx41 a w ea hR H=>?_)
     have hE:=Env.put_some hE rfl ea; clear ea
     obtain ⟨y_43,qy_43,H⟩:=H
     obtain ⟨Xx42,qXx42,H⟩:=H
     refine XM (v:=(Xx42:Sl).v) rfl rfl hE rfl hR (KAJ hE rfl un22 sz24 zr24 rfl qy_43 qXx42) (fun a w hE hR hh=>?_)
     replace H:=M.at hh H; clear hh
     refine t_ex (fun Xx44=>(Xx44:Sl).v) rfl rfl hR (M.unbind H) (fun Q H=>KHh hE rfl rfl ap22 H) (fun Xx44 a w ea hR H=>?_)
     have hE:=Env.put_some hE rfl ea; clear ea
     refine KH (v:=(Xx44:Sl).v) rfl rfl hE rfl (Kp hE rfl) (fun a hE=>?_)
     refine Ka ?_
     exact ⟨Xx44,hE.cut (.cons rfl (.cons rfl (.cons rfl (.cons rfl (.cons rfl Subs.nil))))),hR,H⟩
    ·replace H:=M.ite_f hb H
     refine Un ?_
     exact ⟨Xx27,hE.cut (.cons rfl (.cons rfl (.cons rfl (.cons rfl (.cons rfl Subs.nil))))),hR,H⟩
  ·skip
   refine Kc (fun K hK_45=>?_)
   refine KG ?_
   refine KH (v:=(Xx9:Sl).v) rfl rfl hE rfl (KJ hE rfl) (fun a hE=>?_)
   refine KH (v:=.int .i64 (Xx9.len:Int)) rfl rfl hE rfl (KK4 hE rfl 24 un22) (fun a hE=>?_)
   refine KH (v:=.bool (decide ((Xx9.len:Int) > 0))) rfl rfl hE rfl (Zd hE rfl rfl ZV KIf) (fun a hE=>?_)
   refine Ka ?_
   refine hK_45 _ _ ?_
   refine Jg (decide ((Xx9.len:Int) > 0)) hE rfl (fun hb=>?_) (fun hb=>?_)
   ·replace H:=M.ite_t hb H
    refine KG ?_
    refine KH (v:=.pointer x0) rfl rfl hE rfl (KJ hE rfl) (fun a hE=>?_)
    refine Jk hE hR Zh rfl (Zs x0 (⟨#[44,32]⟩:ByteArray)) H (fun _ _ hR HQ=>Xu.ne rfl (Xu.ne rfl (hthr _ _ hR HQ))) (fun Xx46 a w ea hR H=>?_)
    have hE:=Env.put_some hE rfl ea; clear ea
    refine Ka ?_
    exact ⟨hE.cut (.cons rfl (.cons rfl (.cons rfl (.cons rfl (.cons rfl Subs.nil))))),hR,H⟩
   ·replace H:=M.ite_f hb H
    refine Un ?_
    exact ⟨hE.cut (.cons rfl (.cons rfl (.cons rfl (.cons rfl (.cons rfl Subs.nil))))),hR,H⟩
 ·replace H:=M.ite_f hb H
  refine KEY ?_
  refine Xu.same ?_
  refine hK_8 _ _ ?_
  refine Kc (fun K hK_47=>?_)
  refine KG ?_
  refine KH (v:=.pointer x0) rfl rfl hE rfl (KJ hE rfl) (fun a hE=>?_)
  obtain ⟨Xx48,qXx48,H⟩:=H
  refine KH (v:=.pointer (some Xx48)) rfl rfl hE rfl (KV hE (J7 rfl (congrArg Value.pointer qXx48))) (fun a hE=>?_)
  refine KH (v:=.pointer (some ((Xx48).add 1))) rfl rfl hE rfl (KM hE rfl Zi) (fun a hE=>?_)
  obtain ⟨Xx49,qXx49,H⟩:=H
  refine KH (v:=.int .i64 Xx49) rfl rfl hE rfl (Zk hE rfl sc3 qXx49) (fun a hE=>?_)
  refine KH (v:=.int .i64 (IntKind.wrap .i64 (Xx49+1))) rfl rfl hE rfl (Zd hE rfl rfl ZV zO) (fun a hE=>?_)
  obtain ⟨Xx50,qXx50,H⟩:=H
  refine KH (v:=.pointer (some Xx50)) rfl rfl hE rfl (KV hE (J7 rfl (congrArg Value.pointer qXx50))) (fun a hE=>?_)
  refine KH (v:=.pointer (some ((Xx50).add 1))) rfl rfl hE rfl (KM hE rfl Zi) (fun a hE=>?_)
  obtain ⟨u_51,qu_51,H⟩:=H
  refine U0 rfl rfl hE hR (Zn hE rfl rfl sz3 qu_51) (fun a w hE hR hh=>?_)
  replace H:=M.at hh H; clear hh
  refine Ka ?_
  refine hK_47 _ _ ?_
  refine Kc (fun K hK_52=>?_)
  refine KG ?_
  refine KH (v:=(Xx9:Sl).v) rfl rfl hE rfl (KJ hE rfl) (fun a hE=>?_)
  refine KH (v:=(Xx9:Sl).v) rfl rfl hE rfl (Kp hE rfl) (fun a hE=>?_)
  refine Ka ?_
  refine hK_52 _ _ ?_
  refine Yv ?_
  exact hret _ _ _ Xx9 _ hE hR (Jb hE rfl (RV.tmp rfl RV.nil)) rfl H
def JY (self1:(ByteArray × Int)→M (ByteArray)) (C19:Int) (Xx14:ByteArray):M (ByteArray):=do
 self1 (Xx14,IntKind.wrap .i64 (C19+1))
def Wk (C7:Sl) (C8:Int) (C9:ByteArray) (C10:ByteArray) (self1:(ByteArray × Int)→M (ByteArray)):(ByteArray × Int)→M (ByteArray):=fun s=>match s with
 | (Xx5,Xx6)=>do
  M.ite (decide (Xx6 < (C7.len:Int))) (do
   let Xx21←ixL C7 Xx6 4
   let Xx22←ldG 4 Xx21
   let Xx23←WP Go.Proofs.Tryz.prog VQ #[.agg Xx22,.int .i64 (IntKind.wrap .i64 (C8+1))] (fun r:ByteArray=>.string r)
   let Xx24←sCat Xx5 Xx23
   let Xx26←M.ite (decide ((IntKind.wrap .i64 (Xx6+1)) < (C7.len:Int))) (do
    M.pure ((Int.tmod Xx6 2) == 0)
    ) (do
    M.pure false
    )
   M.ite Xx26 (do
    let Xx27←sCat Xx24 C9
    JY self1 Xx6 Xx27
    ) (do
    M.ite (decide ((IntKind.wrap .i64 (Xx6+1)) < (C7.len:Int))) (do
     let Xx29←sCat Xx24 C10
     JY self1 Xx6 Xx29
     ) (do
     JY self1 Xx6 Xx24
     )
    )
   ) (do
   M.pure Xx5
   )
def XB (x0:Sl) (x1:Int) (x2:ByteArray) (x3:ByteArray):M (ByteArray):=do
 M.loop (Wk x0 x1 x2 x3) (ByteArray.empty,0)
theorem NN (x0:Sl) (x1:Int) (x2:ByteArray) (x3:ByteArray):Ki Go.Proofs.Tryz.prog 186 #[(x0:Sl).v,.int .i64 x1,.string x2,.string x3] (fun (r:ByteArray)=>.string r) (XB x0 x1 x2 x3) :=
 KL [mkC VQ Gr [.G,.I .i64] [.S] (fun (t:Array Value × Int)=>WP Go.Proofs.Tryz.prog VQ #[.agg t.1,.int .i64 t.2] (fun r:ByteArray=>.string r)) (fun (t:Array Value × Int)=>JN)] [] [.S] [(0,.L x0),(1,.I .i64 x1),(2,.S x2),(3,.S x3)] (.q .o (.q .o (.q (.q .o (.b (.l [(0,.L),(1,.I .i64),(2,.S),(3,.S)] [(9,.S),(10,.I .i64)] (fun (t:Sl × Int × ByteArray × ByteArray)=>Wk t.1 t.2.1 t.2.2.1 t.2.2.2) (fun self1=>.q .o (.q .o (.j [(0,.L),(1,.I .i64),(2,.S),(3,.S),(10,.I .i64),(9,.S)] (fun (t:Sl × Int × ByteArray × ByteArray × Int × ByteArray)=>JY self1 t.2.2.2.2.1 t.2.2.2.2.2) .o)))))) .o))) Go.Proofs.Tryz.func186 rfl rfl ⟨rfl,rfl,rfl,rfl,trivial⟩ rfl (by kernel_rfl) (by kernel_rfl)
def Uf (C14:Option Addr) (C15:Int) (C16:ByteArray) (C17:Int) (self1:(Sl)→M (Sl)):(Sl)→M (Sl):=fun s=>match s with
 | Xx13=>do
  let Xx21←nilP C14
  let Xx22←ldI .i64 ((Xx21).add 2)
  M.ite (decide (Xx22 < 0)) (do
   let Xx24←WP Go.Proofs.Tryz.prog Zo #[.pointer C14,.int .i64 (IntKind.wrap .i64 (C15+1))] (fun r:Array Value=>.agg r)
   let y_26←NY 4 1 (#[.int .i64 0,.int .i64 0,.string ByteArray.empty,.slice none 0 0]:Array Value) [(0,.agg Xx24)]
   let Xx25←bdL KB 1 y_26
   let Xx27←apL KB 4 56 (#[.int .i64 0,.int .i64 0,.string ByteArray.empty,.slice none 0 0]:Array Value) Xx13 Xx25
   let Xx29←M.ite (sEq C16 (⟨#[44,32]⟩:ByteArray)) (do
    M.pure true
    ) (do
    M.pure ((Int.tmod (Xx27.len:Int) 2) == 0)
    )
   let Xx32←M.ite Xx29 (do
    let Xx33←KS C14
    M.pure (Xx33 == C17)
    ) (do
    M.pure false
    )
   M.ite Xx32 (do
    let Xx35←nilP C14
    let Xx36←ldI .i64 ((Xx35).add 1)
    let Xx37←nilP C14
    stV ((Xx37).add 1) (.int .i64 (IntKind.wrap .i64 (Xx36+1)))
    M.pure Xx27
    ) (do
    M.ite ((Int.tmod (Xx27.len:Int) 2) == 1) (do
     let Xx41←KQ C14 C16
     self1 Xx27
     ) (do
     let Xx42←KQ C14 (⟨#[44,32]⟩:ByteArray)
     self1 Xx27
     )
    )
   ) (do
   M.pure Sl.nil
   )
def VX (x0:Option Addr) (x1:Int) (x2:ByteArray) (x3:Int):M (Sl):=do
 let Xx5←KS x0
 M.ite (Xx5 == x3) (do
  let Xx7←nilP x0
  let Xx8←ldI .i64 ((Xx7).add 1)
  let Xx9←nilP x0
  stV ((Xx9).add 1) (.int .i64 (IntKind.wrap .i64 (Xx8+1)))
  M.pure Sl.nil
  ) (do
  M.loop (Uf x0 x1 x2 x3) Sl.nil
  )
theorem Wq (x0:Option Addr) (x1:Int) (x2:ByteArray) (x3:Int):Ki Go.Proofs.Tryz.prog 193 #[.pointer x0,.int .i64 x1,.string x2,.int .u8 x3] (fun (r:Sl)=>(r:Sl).v) (VX x0 x1 x2 x3) :=
 KL [mkC Zo WB [.P,.I .i64] [.G] (fun (t:Option Addr × Int)=>WP Go.Proofs.Tryz.prog Zo #[.pointer t.1,.int .i64 t.2] (fun r:Array Value=>.agg r)) (fun (t:Option Addr × Int)=>JN),Zg,Jx] [0,11,15,22,28,44,49,61,64] [.L] [(0,.P x0),(1,.I .i64 x1),(2,.S x2),(3,.I .u8 x3)] (.q .o (.q .o (.q .o (.q (.b (.l [(0,.P),(1,.I .i64),(2,.S),(3,.I .u8)] [(9,.L)] (fun (t:Option Addr × Int × ByteArray × Int)=>Uf t.1 t.2.1 t.2.2.1 t.2.2.2) (fun _=>.o))) .o)))) Go.Proofs.Tryz.func193 rfl rfl ⟨rfl,rfl,rfl,rfl,trivial⟩ rfl (by kernel_rfl) (by kernel_rfl)
def Vs (x0:Int):M (ByteArray):=do
 M.ite (decide (x0 < 10)) (do
  let Xx5←slS (⟨#[48,49,50,51,52,53,54,55,56,57,97,98,99,100,101,102,103,104,105,106,107,108,109,110,111,112,113,114,115,116,117,118,119,120,121,122]⟩:ByteArray) x0 (IntKind.wrap .i64 (x0+1))
  M.pure Xx5
  ) (do
  let Xx7←slS (⟨#[48,48,48,49,48,50,48,51,48,52,48,53,48,54,48,55,48,56,48,57,49,48,49,49,49,50,49,51,49,52,49,53,49,54,49,55,49,56,49,57,50,48,50,49,50,50,50,51,50,52,50,53,50,54,50,55,50,56,50,57,51,48,51,49,51,50,51,51,51,52,51,53,51,54,51,55,51,56,51,57,52,48,52,49,52,50,52,51,52,52,52,53,52,54,52,55,52,56,52,57,53,48,53,49,53,50,53,51,53,52,53,53,53,54,53,55,53,56,53,57,54,48,54,49,54,50,54,51,54,52,54,53,54,54,54,55,54,56,54,57,55,48,55,49,55,50,55,51,55,52,55,53,55,54,55,55,55,56,55,57,56,48,56,49,56,50,56,51,56,52,56,53,56,54,56,55,56,56,56,57,57,48,57,49,57,50,57,51,57,52,57,53,57,54,57,55,57,56,57,57]⟩:ByteArray) (IntKind.wrap .i64 (x0 * 2)) (IntKind.wrap .i64 ((IntKind.wrap .i64 (x0 * 2))+2))
  M.pure Xx7
  )
theorem qZ (x0:Int):Ki Go.Proofs.Tryz.prog 227 #[.int .i64 x0] (fun (r:ByteArray)=>.string r) (Vs x0) :=
 KL [] [] [.S] [(0,.I .i64 x0)] .o Go.Proofs.Tryz.func227 rfl rfl ⟨rfl,trivial⟩ rfl (by kernel_rfl) (by kernel_rfl)
noncomputable def qa:CalleeS Go.Proofs.Tryz.prog:=mkC N2 N5 [.I .i64] [.S] (fun (t:Int)=>Vs t) (fun (t:Int)=>qZ t)
def Yh (Xx6:Int) (Xx7:Int):M (Int):=do
 let Xx9←ixS (⟨#[0,1,2,2,3,3,3,3,4,4,4,4,4,4,4,4,5,5,5,5,5,5,5,5,5,5,5,5,5,5,5,5,6,6,6,6,6,6,6,6,6,6,6,6,6,6,6,6,6,6,6,6,6,6,6,6,6,6,6,6,6,6,6,6,7,7,7,7,7,7,7,7,7,7,7,7,7,7,7,7,7,7,7,7,7,7,7,7,7,7,7,7,7,7,7,7,7,7,7,7,7,7,7,7,7,7,7,7,7,7,7,7,7,7,7,7,7,7,7,7,7,7,7,7,7,7,7,7,8,8,8,8,8,8,8,8,8,8,8,8,8,8,8,8,8,8,8,8,8,8,8,8,8,8,8,8,8,8,8,8,8,8,8,8,8,8,8,8,8,8,8,8,8,8,8,8,8,8,8,8,8,8,8,8,8,8,8,8,8,8,8,8,8,8,8,8,8,8,8,8,8,8,8,8,8,8,8,8,8,8,8,8,8,8,8,8,8,8,8,8,8,8,8,8,8,8,8,8,8,8,8,8,8,8,8,8,8,8,8,8,8,8,8,8,8,8,8,8,8,8,8,8,8,8,8,8]⟩:ByteArray) (IntKind.wrap .u8 Xx6)
 M.pure (IntKind.wrap .i64 (Xx7+(IntKind.wrap .i64 Xx9)))
def Yi (Xx4:Int) (Xx5:Int):M (Int):=do
 M.ite (decide (Xx4 ≥ 256)) (do
  Yh (iShr .u64 Xx4 8) (IntKind.wrap .i64 (Xx5+8))
  ) (do
  Yh Xx4 Xx5
  )
def Yj (Xx2:Int) (Xx3:Int):M (Int):=do
 M.ite (decide (Xx2 ≥ 65536)) (do
  Yi (iShr .u64 Xx2 16) (IntKind.wrap .i64 (Xx3+16))
  ) (do
  Yi Xx2 Xx3
  )
def NO (x0:Int):M (Int):=do
 M.ite (decide (x0 ≥ 4294967296)) (do
  Yj (iShr .u64 x0 32) 32
  ) (do
  Yj x0 0
  )
theorem KDj (x0:Int):Ki Go.Proofs.Tryz.prog 217 #[.int .u64 x0] (fun (r:Int)=>.int .i64 r) (NO x0) :=
 KL [] [] [.I .i64] [(0,.I .u64 x0)] (.q .o (.q .o (.j [(0,.I .u64),(2,.I .i64)] (fun (t:Int × Int)=>Yj t.1 t.2) (.q .o (.j [(0,.I .u64),(2,.I .i64)] (fun (t:Int × Int)=>Yi t.1 t.2) (.q .o (.j [(0,.I .u64),(2,.I .i64)] (fun (t:Int × Int)=>Yh t.1 t.2) .o))))))) Go.Proofs.Tryz.func217 rfl rfl ⟨rfl,trivial⟩ rfl (by kernel_rfl) (by kernel_rfl)
noncomputable def KDk:CalleeS Go.Proofs.Tryz.prog:=mkC KCK KCV [.I .u64] [.I .i64] (fun (t:Int)=>NO t) (fun (t:Int)=>KDj t)
def Ug (x0:Int):M (Int):=do
 M.pure (iShr .i64 (IntKind.wrap .i64 (x0 * 78913)) 18)
theorem GX (x0:Int):Ki Go.Proofs.Tryz.prog 247 #[.int .i64 x0] (fun (r:Int)=>.int .i64 r) (Ug x0) :=
 KL [] [] [.I .i64] [(0,.I .i64 x0)] .o Go.Proofs.Tryz.func247 rfl rfl ⟨rfl,trivial⟩ rfl (by kernel_rfl) (by kernel_rfl)
noncomputable def GY:CalleeS Go.Proofs.Tryz.prog:=mkC Xk Xs [.I .i64] [.I .i64] (fun (t:Int)=>Ug t) (fun (t:Int)=>GX t)
def Uh (x0:Bool):M (Int):=do
 M.ite x0 (do
  M.pure 1
  ) (do
  M.pure 0
  )
theorem GZ (x0:Bool):Ki Go.Proofs.Tryz.prog 248 #[.bool x0] (fun (r:Int)=>.int .i64 r) (Uh x0) :=
 KL [] [] [.I .i64] [(0,.B x0)] .o Go.Proofs.Tryz.func248 rfl rfl ⟨rfl,trivial⟩ rfl (by kernel_rfl) (by kernel_rfl)
noncomputable def Ga:CalleeS Go.Proofs.Tryz.prog:=mkC Xj Xq [.B] [.I .i64] (fun (t:Bool)=>Uh t) (fun (t:Bool)=>GZ t)
def Ui (x0:Int):M (Int):=do
 let Xx3←NO x0
 let Xx4←Ug Xx3
 let Xx6←ixA (⟨3,0,none⟩:Addr) 20 Xx4 1
 let Xx7←ldI .u64 Xx6
 let Xx8←Uh (decide (x0 ≥ Xx7))
 M.pure (IntKind.wrap .i64 (Xx4+Xx8))
theorem Gc (x0:Int):Ki Go.Proofs.Tryz.prog 228 #[.int .u64 x0] (fun (r:Int)=>.int .i64 r) (Ui x0) :=
 KL [KDk,GY,Ga] [] [.I .i64] [(0,.I .u64 x0)] .o Go.Proofs.Tryz.func228 rfl rfl ⟨rfl,trivial⟩ rfl (by kernel_rfl) (by kernel_rfl)
noncomputable def Gd:CalleeS Go.Proofs.Tryz.prog:=mkC Xl Xt [.I .u64] [.I .i64] (fun (t:Int)=>Ui t) (fun (t:Int)=>Gc t)
def Jc (C48:Sl) (Xx46:Int) (Xx47:Int):M (Unit):=do
 M.ite (decide (Xx46 > 0)) (do
  let Xx50←ixL C48 0 1
  stV Xx50 (.int .u8 (IntKind.wrap .u8 (IntKind.wrap .u32 (48+Xx47))))
  M.pure ()
  ) (do
  M.pure ()
  )
def Jd (C45:Sl) (Xx43:Int) (Xx44:Int):M (Unit):=do
 M.ite (decide (Xx43 ≥ 2)) (do
  let Xx56←ixS (⟨#[48,48,48,49,48,50,48,51,48,52,48,53,48,54,48,55,48,56,48,57,49,48,49,49,49,50,49,51,49,52,49,53,49,54,49,55,49,56,49,57,50,48,50,49,50,50,50,51,50,52,50,53,50,54,50,55,50,56,50,57,51,48,51,49,51,50,51,51,51,52,51,53,51,54,51,55,51,56,51,57,52,48,52,49,52,50,52,51,52,52,52,53,52,54,52,55,52,56,52,57,53,48,53,49,53,50,53,51,53,52,53,53,53,54,53,55,53,56,53,57,54,48,54,49,54,50,54,51,54,52,54,53,54,54,54,55,54,56,54,57,55,48,55,49,55,50,55,51,55,52,55,53,55,54,55,55,55,56,55,57,56,48,56,49,56,50,56,51,56,52,56,53,56,54,56,55,56,56,56,57,57,48,57,49,57,50,57,51,57,52,57,53,57,54,57,55,57,56,57,57]⟩:ByteArray) (IntKind.wrap .u32 ((IntKind.wrap .u32 ((Int.tmod Xx44 100) * 2))+1))
  let Xx57←ixS (⟨#[48,48,48,49,48,50,48,51,48,52,48,53,48,54,48,55,48,56,48,57,49,48,49,49,49,50,49,51,49,52,49,53,49,54,49,55,49,56,49,57,50,48,50,49,50,50,50,51,50,52,50,53,50,54,50,55,50,56,50,57,51,48,51,49,51,50,51,51,51,52,51,53,51,54,51,55,51,56,51,57,52,48,52,49,52,50,52,51,52,52,52,53,52,54,52,55,52,56,52,57,53,48,53,49,53,50,53,51,53,52,53,53,53,54,53,55,53,56,53,57,54,48,54,49,54,50,54,51,54,52,54,53,54,54,54,55,54,56,54,57,55,48,55,49,55,50,55,51,55,52,55,53,55,54,55,55,55,56,55,57,56,48,56,49,56,50,56,51,56,52,56,53,56,54,56,55,56,56,56,57,57,48,57,49,57,50,57,51,57,52,57,53,57,54,57,55,57,56,57,57]⟩:ByteArray) (IntKind.wrap .u32 ((Int.tmod Xx44 100) * 2))
  let Xx58←ixL C45 (IntKind.wrap .i64 (Xx43 - 1)) 1
  stV Xx58 (.int .u8 Xx56)
  let Xx60←ixL C45 (IntKind.wrap .i64 (Xx43 - 2)) 1
  stV Xx60 (.int .u8 Xx57)
  Jc C45 (IntKind.wrap .i64 (Xx43 - 2)) (IntKind.wrap .u32 (Int.tdiv Xx44 100))
  ) (do
  Jc C45 Xx43 Xx44
  )
def Uz (C5:Sl) (self1:(Int × Int)→M (Unit)):(Int × Int)→M (Unit):=fun s=>match s with
 | (Xx3,Xx4)=>do
  M.ite (decide (Xx4 ≥ 8)) (do
   let Xx15←ixS (⟨#[48,48,48,49,48,50,48,51,48,52,48,53,48,54,48,55,48,56,48,57,49,48,49,49,49,50,49,51,49,52,49,53,49,54,49,55,49,56,49,57,50,48,50,49,50,50,50,51,50,52,50,53,50,54,50,55,50,56,50,57,51,48,51,49,51,50,51,51,51,52,51,53,51,54,51,55,51,56,51,57,52,48,52,49,52,50,52,51,52,52,52,53,52,54,52,55,52,56,52,57,53,48,53,49,53,50,53,51,53,52,53,53,53,54,53,55,53,56,53,57,54,48,54,49,54,50,54,51,54,52,54,53,54,54,54,55,54,56,54,57,55,48,55,49,55,50,55,51,55,52,55,53,55,54,55,55,55,56,55,57,56,48,56,49,56,50,56,51,56,52,56,53,56,54,56,55,56,56,56,57,57,48,57,49,57,50,57,51,57,52,57,53,57,54,57,55,57,56,57,57]⟩:ByteArray) (IntKind.wrap .u32 ((IntKind.wrap .u32 ((Int.tmod (Int.tmod (IntKind.wrap .u32 (Int.tmod Xx3 100000000)) 10000) 100) * 2))+1))
   let Xx16←ixS (⟨#[48,48,48,49,48,50,48,51,48,52,48,53,48,54,48,55,48,56,48,57,49,48,49,49,49,50,49,51,49,52,49,53,49,54,49,55,49,56,49,57,50,48,50,49,50,50,50,51,50,52,50,53,50,54,50,55,50,56,50,57,51,48,51,49,51,50,51,51,51,52,51,53,51,54,51,55,51,56,51,57,52,48,52,49,52,50,52,51,52,52,52,53,52,54,52,55,52,56,52,57,53,48,53,49,53,50,53,51,53,52,53,53,53,54,53,55,53,56,53,57,54,48,54,49,54,50,54,51,54,52,54,53,54,54,54,55,54,56,54,57,55,48,55,49,55,50,55,51,55,52,55,53,55,54,55,55,55,56,55,57,56,48,56,49,56,50,56,51,56,52,56,53,56,54,56,55,56,56,56,57,57,48,57,49,57,50,57,51,57,52,57,53,57,54,57,55,57,56,57,57]⟩:ByteArray) (IntKind.wrap .u32 ((Int.tmod (Int.tmod (IntKind.wrap .u32 (Int.tmod Xx3 100000000)) 10000) 100) * 2))
   let Xx17←ixL C5 (IntKind.wrap .i64 (Xx4 - 1)) 1
   stV Xx17 (.int .u8 Xx15)
   let Xx19←ixL C5 (IntKind.wrap .i64 (Xx4 - 2)) 1
   stV Xx19 (.int .u8 Xx16)
   let Xx22←ixS (⟨#[48,48,48,49,48,50,48,51,48,52,48,53,48,54,48,55,48,56,48,57,49,48,49,49,49,50,49,51,49,52,49,53,49,54,49,55,49,56,49,57,50,48,50,49,50,50,50,51,50,52,50,53,50,54,50,55,50,56,50,57,51,48,51,49,51,50,51,51,51,52,51,53,51,54,51,55,51,56,51,57,52,48,52,49,52,50,52,51,52,52,52,53,52,54,52,55,52,56,52,57,53,48,53,49,53,50,53,51,53,52,53,53,53,54,53,55,53,56,53,57,54,48,54,49,54,50,54,51,54,52,54,53,54,54,54,55,54,56,54,57,55,48,55,49,55,50,55,51,55,52,55,53,55,54,55,55,55,56,55,57,56,48,56,49,56,50,56,51,56,52,56,53,56,54,56,55,56,56,56,57,57,48,57,49,57,50,57,51,57,52,57,53,57,54,57,55,57,56,57,57]⟩:ByteArray) (IntKind.wrap .u32 ((IntKind.wrap .u32 ((IntKind.wrap .u32 (Int.tdiv (Int.tmod (IntKind.wrap .u32 (Int.tmod Xx3 100000000)) 10000) 100)) * 2))+1))
   let Xx23←ixS (⟨#[48,48,48,49,48,50,48,51,48,52,48,53,48,54,48,55,48,56,48,57,49,48,49,49,49,50,49,51,49,52,49,53,49,54,49,55,49,56,49,57,50,48,50,49,50,50,50,51,50,52,50,53,50,54,50,55,50,56,50,57,51,48,51,49,51,50,51,51,51,52,51,53,51,54,51,55,51,56,51,57,52,48,52,49,52,50,52,51,52,52,52,53,52,54,52,55,52,56,52,57,53,48,53,49,53,50,53,51,53,52,53,53,53,54,53,55,53,56,53,57,54,48,54,49,54,50,54,51,54,52,54,53,54,54,54,55,54,56,54,57,55,48,55,49,55,50,55,51,55,52,55,53,55,54,55,55,55,56,55,57,56,48,56,49,56,50,56,51,56,52,56,53,56,54,56,55,56,56,56,57,57,48,57,49,57,50,57,51,57,52,57,53,57,54,57,55,57,56,57,57]⟩:ByteArray) (IntKind.wrap .u32 ((IntKind.wrap .u32 (Int.tdiv (Int.tmod (IntKind.wrap .u32 (Int.tmod Xx3 100000000)) 10000) 100)) * 2))
   let Xx24←ixL C5 (IntKind.wrap .i64 (Xx4 - 3)) 1
   stV Xx24 (.int .u8 Xx22)
   let Xx26←ixL C5 (IntKind.wrap .i64 (Xx4 - 4)) 1
   stV Xx26 (.int .u8 Xx23)
   let Xx29←ixS (⟨#[48,48,48,49,48,50,48,51,48,52,48,53,48,54,48,55,48,56,48,57,49,48,49,49,49,50,49,51,49,52,49,53,49,54,49,55,49,56,49,57,50,48,50,49,50,50,50,51,50,52,50,53,50,54,50,55,50,56,50,57,51,48,51,49,51,50,51,51,51,52,51,53,51,54,51,55,51,56,51,57,52,48,52,49,52,50,52,51,52,52,52,53,52,54,52,55,52,56,52,57,53,48,53,49,53,50,53,51,53,52,53,53,53,54,53,55,53,56,53,57,54,48,54,49,54,50,54,51,54,52,54,53,54,54,54,55,54,56,54,57,55,48,55,49,55,50,55,51,55,52,55,53,55,54,55,55,55,56,55,57,56,48,56,49,56,50,56,51,56,52,56,53,56,54,56,55,56,56,56,57,57,48,57,49,57,50,57,51,57,52,57,53,57,54,57,55,57,56,57,57]⟩:ByteArray) (IntKind.wrap .u32 ((IntKind.wrap .u32 ((Int.tmod (IntKind.wrap .u32 (Int.tdiv (IntKind.wrap .u32 (Int.tmod Xx3 100000000)) 10000)) 100) * 2))+1))
   let Xx30←ixS (⟨#[48,48,48,49,48,50,48,51,48,52,48,53,48,54,48,55,48,56,48,57,49,48,49,49,49,50,49,51,49,52,49,53,49,54,49,55,49,56,49,57,50,48,50,49,50,50,50,51,50,52,50,53,50,54,50,55,50,56,50,57,51,48,51,49,51,50,51,51,51,52,51,53,51,54,51,55,51,56,51,57,52,48,52,49,52,50,52,51,52,52,52,53,52,54,52,55,52,56,52,57,53,48,53,49,53,50,53,51,53,52,53,53,53,54,53,55,53,56,53,57,54,48,54,49,54,50,54,51,54,52,54,53,54,54,54,55,54,56,54,57,55,48,55,49,55,50,55,51,55,52,55,53,55,54,55,55,55,56,55,57,56,48,56,49,56,50,56,51,56,52,56,53,56,54,56,55,56,56,56,57,57,48,57,49,57,50,57,51,57,52,57,53,57,54,57,55,57,56,57,57]⟩:ByteArray) (IntKind.wrap .u32 ((Int.tmod (IntKind.wrap .u32 (Int.tdiv (IntKind.wrap .u32 (Int.tmod Xx3 100000000)) 10000)) 100) * 2))
   let Xx31←ixL C5 (IntKind.wrap .i64 (Xx4 - 5)) 1
   stV Xx31 (.int .u8 Xx29)
   let Xx33←ixL C5 (IntKind.wrap .i64 (Xx4 - 6)) 1
   stV Xx33 (.int .u8 Xx30)
   let Xx36←ixS (⟨#[48,48,48,49,48,50,48,51,48,52,48,53,48,54,48,55,48,56,48,57,49,48,49,49,49,50,49,51,49,52,49,53,49,54,49,55,49,56,49,57,50,48,50,49,50,50,50,51,50,52,50,53,50,54,50,55,50,56,50,57,51,48,51,49,51,50,51,51,51,52,51,53,51,54,51,55,51,56,51,57,52,48,52,49,52,50,52,51,52,52,52,53,52,54,52,55,52,56,52,57,53,48,53,49,53,50,53,51,53,52,53,53,53,54,53,55,53,56,53,57,54,48,54,49,54,50,54,51,54,52,54,53,54,54,54,55,54,56,54,57,55,48,55,49,55,50,55,51,55,52,55,53,55,54,55,55,55,56,55,57,56,48,56,49,56,50,56,51,56,52,56,53,56,54,56,55,56,56,56,57,57,48,57,49,57,50,57,51,57,52,57,53,57,54,57,55,57,56,57,57]⟩:ByteArray) (IntKind.wrap .u32 ((IntKind.wrap .u32 ((IntKind.wrap .u32 (Int.tdiv (IntKind.wrap .u32 (Int.tdiv (IntKind.wrap .u32 (Int.tmod Xx3 100000000)) 10000)) 100)) * 2))+1))
   let Xx37←ixS (⟨#[48,48,48,49,48,50,48,51,48,52,48,53,48,54,48,55,48,56,48,57,49,48,49,49,49,50,49,51,49,52,49,53,49,54,49,55,49,56,49,57,50,48,50,49,50,50,50,51,50,52,50,53,50,54,50,55,50,56,50,57,51,48,51,49,51,50,51,51,51,52,51,53,51,54,51,55,51,56,51,57,52,48,52,49,52,50,52,51,52,52,52,53,52,54,52,55,52,56,52,57,53,48,53,49,53,50,53,51,53,52,53,53,53,54,53,55,53,56,53,57,54,48,54,49,54,50,54,51,54,52,54,53,54,54,54,55,54,56,54,57,55,48,55,49,55,50,55,51,55,52,55,53,55,54,55,55,55,56,55,57,56,48,56,49,56,50,56,51,56,52,56,53,56,54,56,55,56,56,56,57,57,48,57,49,57,50,57,51,57,52,57,53,57,54,57,55,57,56,57,57]⟩:ByteArray) (IntKind.wrap .u32 ((IntKind.wrap .u32 (Int.tdiv (IntKind.wrap .u32 (Int.tdiv (IntKind.wrap .u32 (Int.tmod Xx3 100000000)) 10000)) 100)) * 2))
   let Xx38←ixL C5 (IntKind.wrap .i64 (Xx4 - 7)) 1
   stV Xx38 (.int .u8 Xx36)
   let Xx40←ixL C5 (IntKind.wrap .i64 (Xx4 - 8)) 1
   stV Xx40 (.int .u8 Xx37)
   self1 (IntKind.wrap .u64 (Int.tdiv Xx3 100000000),IntKind.wrap .i64 (Xx4 - 8))
   ) (do
   M.ite (decide (Xx4 ≥ 4)) (do
    let Xx67←ixS (⟨#[48,48,48,49,48,50,48,51,48,52,48,53,48,54,48,55,48,56,48,57,49,48,49,49,49,50,49,51,49,52,49,53,49,54,49,55,49,56,49,57,50,48,50,49,50,50,50,51,50,52,50,53,50,54,50,55,50,56,50,57,51,48,51,49,51,50,51,51,51,52,51,53,51,54,51,55,51,56,51,57,52,48,52,49,52,50,52,51,52,52,52,53,52,54,52,55,52,56,52,57,53,48,53,49,53,50,53,51,53,52,53,53,53,54,53,55,53,56,53,57,54,48,54,49,54,50,54,51,54,52,54,53,54,54,54,55,54,56,54,57,55,48,55,49,55,50,55,51,55,52,55,53,55,54,55,55,55,56,55,57,56,48,56,49,56,50,56,51,56,52,56,53,56,54,56,55,56,56,56,57,57,48,57,49,57,50,57,51,57,52,57,53,57,54,57,55,57,56,57,57]⟩:ByteArray) (IntKind.wrap .u32 ((IntKind.wrap .u32 ((Int.tmod (Int.tmod (IntKind.wrap .u32 Xx3) 10000) 100) * 2))+1))
    let Xx68←ixS (⟨#[48,48,48,49,48,50,48,51,48,52,48,53,48,54,48,55,48,56,48,57,49,48,49,49,49,50,49,51,49,52,49,53,49,54,49,55,49,56,49,57,50,48,50,49,50,50,50,51,50,52,50,53,50,54,50,55,50,56,50,57,51,48,51,49,51,50,51,51,51,52,51,53,51,54,51,55,51,56,51,57,52,48,52,49,52,50,52,51,52,52,52,53,52,54,52,55,52,56,52,57,53,48,53,49,53,50,53,51,53,52,53,53,53,54,53,55,53,56,53,57,54,48,54,49,54,50,54,51,54,52,54,53,54,54,54,55,54,56,54,57,55,48,55,49,55,50,55,51,55,52,55,53,55,54,55,55,55,56,55,57,56,48,56,49,56,50,56,51,56,52,56,53,56,54,56,55,56,56,56,57,57,48,57,49,57,50,57,51,57,52,57,53,57,54,57,55,57,56,57,57]⟩:ByteArray) (IntKind.wrap .u32 ((Int.tmod (Int.tmod (IntKind.wrap .u32 Xx3) 10000) 100) * 2))
    let Xx69←ixL C5 (IntKind.wrap .i64 (Xx4 - 1)) 1
    stV Xx69 (.int .u8 Xx67)
    let Xx71←ixL C5 (IntKind.wrap .i64 (Xx4 - 2)) 1
    stV Xx71 (.int .u8 Xx68)
    let Xx74←ixS (⟨#[48,48,48,49,48,50,48,51,48,52,48,53,48,54,48,55,48,56,48,57,49,48,49,49,49,50,49,51,49,52,49,53,49,54,49,55,49,56,49,57,50,48,50,49,50,50,50,51,50,52,50,53,50,54,50,55,50,56,50,57,51,48,51,49,51,50,51,51,51,52,51,53,51,54,51,55,51,56,51,57,52,48,52,49,52,50,52,51,52,52,52,53,52,54,52,55,52,56,52,57,53,48,53,49,53,50,53,51,53,52,53,53,53,54,53,55,53,56,53,57,54,48,54,49,54,50,54,51,54,52,54,53,54,54,54,55,54,56,54,57,55,48,55,49,55,50,55,51,55,52,55,53,55,54,55,55,55,56,55,57,56,48,56,49,56,50,56,51,56,52,56,53,56,54,56,55,56,56,56,57,57,48,57,49,57,50,57,51,57,52,57,53,57,54,57,55,57,56,57,57]⟩:ByteArray) (IntKind.wrap .u32 ((IntKind.wrap .u32 ((IntKind.wrap .u32 (Int.tdiv (Int.tmod (IntKind.wrap .u32 Xx3) 10000) 100)) * 2))+1))
    let Xx75←ixS (⟨#[48,48,48,49,48,50,48,51,48,52,48,53,48,54,48,55,48,56,48,57,49,48,49,49,49,50,49,51,49,52,49,53,49,54,49,55,49,56,49,57,50,48,50,49,50,50,50,51,50,52,50,53,50,54,50,55,50,56,50,57,51,48,51,49,51,50,51,51,51,52,51,53,51,54,51,55,51,56,51,57,52,48,52,49,52,50,52,51,52,52,52,53,52,54,52,55,52,56,52,57,53,48,53,49,53,50,53,51,53,52,53,53,53,54,53,55,53,56,53,57,54,48,54,49,54,50,54,51,54,52,54,53,54,54,54,55,54,56,54,57,55,48,55,49,55,50,55,51,55,52,55,53,55,54,55,55,55,56,55,57,56,48,56,49,56,50,56,51,56,52,56,53,56,54,56,55,56,56,56,57,57,48,57,49,57,50,57,51,57,52,57,53,57,54,57,55,57,56,57,57]⟩:ByteArray) (IntKind.wrap .u32 ((IntKind.wrap .u32 (Int.tdiv (Int.tmod (IntKind.wrap .u32 Xx3) 10000) 100)) * 2))
    let Xx76←ixL C5 (IntKind.wrap .i64 (Xx4 - 3)) 1
    stV Xx76 (.int .u8 Xx74)
    let Xx78←ixL C5 (IntKind.wrap .i64 (Xx4 - 4)) 1
    stV Xx78 (.int .u8 Xx75)
    Jd C5 (IntKind.wrap .i64 (Xx4 - 4)) (IntKind.wrap .u32 (Int.tdiv (IntKind.wrap .u32 Xx3) 10000))
    ) (do
    Jd C5 Xx4 (IntKind.wrap .u32 Xx3)
    )
   )
def UB (x0:Sl) (x1:Int):M (Unit):=do
 M.loop (Uz x0) (x1,(x0.len:Int))
theorem XC (x0:Sl) (x1:Int):Ki Go.Proofs.Tryz.prog 229 #[(x0:Sl).v,.int .u64 x1] (fun (r:Unit)=>.tuple #[]) (UB x0 x1) :=
 KL [] [] [] [(0,.L x0),(1,.I .u64 x1)] (.q .o (.q (.b (.l [(0,.L)] [(1,.I .u64),(4,.I .i64)] (fun (t:Sl)=>Uz t) (fun _=>.q .o (.b (.q .o (.q .o (.q .o (.q .o (.q .o (.q (.r [0,0,2,0,0,16,0,64,128,0,512,455,2503,8191,16383] [0,0,2,0,0,16,0,64,128,0,512,5,2304,40,9216] [0,0,2,0,0,16,0,64,192,0,512,455,2503,8191,16383] (.pu 0 (.pu 1 (.pu 2 (.pu 3 (.pu 4 (.pu 5 (.pu 6 (.pu 7 (.pu 8 (.pu 9 (.pu 10 (.pu 11 (.st [0,1,2,3,4,5,6,7,8,9,10,11,12,13,14] (.on 12 (.pu 13 (.nx (.on 14 .dn)))))))))))))))))) (.q (.r [0,0,2,0,0,16,0,64,128,0,512,455,2503,8191,16383] [0,0,2,0,0,16,0,64,128,0,512,5,2304,40,9216] [0,0,2,0,0,16,0,64,192,0,512,455,2503,8191,16383] (.pu 0 (.pu 1 (.pu 2 (.pu 3 (.pu 4 (.pu 5 (.pu 6 (.pu 7 (.pu 8 (.pu 9 (.pu 10 (.pu 11 (.st [0,1,2,3,4,5,6,7,8,9,10,11,12,13,14] (.on 12 (.pu 13 (.nx (.on 14 .dn)))))))))))))))))) (.q (.r [0,0,2,0,0,16,0,64,128,0,512,455,2503,8191,16383] [0,0,2,0,0,16,0,64,128,0,512,5,2304,40,9216] [0,0,2,0,0,16,0,64,192,0,512,455,2503,8191,16383] (.pu 0 (.pu 1 (.pu 2 (.pu 3 (.pu 4 (.pu 5 (.pu 6 (.pu 7 (.pu 8 (.pu 9 (.pu 10 (.pu 11 (.st [0,1,2,3,4,5,6,7,8,9,10,11,12,13,14] (.on 12 (.pu 13 (.nx (.on 14 .dn)))))))))))))))))) (.q (.r [0,0,2,0,0,16,0,64,128,0,512,455,2503,8191,16383] [0,0,2,0,0,16,0,64,128,0,512,5,2304,40,9216] [0,0,2,0,0,16,0,64,192,0,512,455,2503,8191,16383] (.pu 0 (.pu 1 (.pu 2 (.pu 3 (.pu 4 (.pu 5 (.pu 6 (.pu 7 (.pu 8 (.pu 9 (.pu 10 (.pu 11 (.st [0,1,2,3,4,5,6,7,8,9,10,11,12,13,14] (.on 12 (.pu 13 (.nx (.on 14 .dn)))))))))))))))))) .o))))))))))))) (.q .o (.q (.q .o (.q (.q .o (.q .o (.q .o (.q (.r [0,0,2,0,0,16,0,64,128,0,512,455,2503,8191,16383] [0,0,2,0,0,16,0,64,128,0,512,5,2304,40,9216] [0,0,2,0,0,16,0,64,192,0,512,455,2503,8191,16383] (.pu 0 (.pu 1 (.pu 2 (.pu 3 (.pu 4 (.pu 5 (.pu 6 (.pu 7 (.pu 8 (.pu 9 (.pu 10 (.pu 11 (.st [0,1,2,3,4,5,6,7,8,9,10,11,12,13,14] (.on 12 (.pu 13 (.nx (.on 14 .dn)))))))))))))))))) (.q (.r [0,0,2,0,0,16,0,64,128,0,512,455,2503,8191,16383] [0,0,2,0,0,16,0,64,128,0,512,5,2304,40,9216] [0,0,2,0,0,16,0,64,192,0,512,455,2503,8191,16383] (.pu 0 (.pu 1 (.pu 2 (.pu 3 (.pu 4 (.pu 5 (.pu 6 (.pu 7 (.pu 8 (.pu 9 (.pu 10 (.pu 11 (.st [0,1,2,3,4,5,6,7,8,9,10,11,12,13,14] (.on 12 (.pu 13 (.nx (.on 14 .dn)))))))))))))))))) .o))))) .o)) (.j [(0,.L),(4,.I .i64),(12,.I .u32)] (fun (t:Sl × Int × Int)=>Jd t.1 t.2.1 t.2.2) (.q (.q .o (.q (.q .o (.q .o (.q (.r [0,0,2,0,0,16,0,64,128,0,512,455,2503,8191,16383] [0,0,2,0,0,16,0,64,128,0,512,5,2304,40,9216] [0,0,2,0,0,16,0,64,192,0,512,455,2503,8191,16383] (.pu 0 (.pu 1 (.pu 2 (.pu 3 (.pu 4 (.pu 5 (.pu 6 (.pu 7 (.pu 8 (.pu 9 (.pu 10 (.pu 11 (.st [0,1,2,3,4,5,6,7,8,9,10,11,12,13,14] (.on 12 (.pu 13 (.nx (.on 14 .dn)))))))))))))))))) .o))) .o)) (.j [(0,.L),(4,.I .i64),(12,.I .u32)] (fun (t:Sl × Int × Int)=>Jc t.1 t.2.1 t.2.2) .o))))))) Go.Proofs.Tryz.func229 rfl rfl ⟨rfl,rfl,trivial⟩ rfl (by kernel_rfl) (by kernel_rfl)
noncomputable def XD:CalleeS Go.Proofs.Tryz.prog:=mkC Yk Ym [.L,.I .u64] [] (fun (t:Sl × Int)=>UB t.1 t.2) (fun (t:Sl × Int)=>XC t.1 t.2)
def JC (x0:Int):M (Bool):=do
 M.pure ((iAnd .i64 x0 (IntKind.wrap .i64 (x0 - 1))) == 0)
theorem XE (x0:Int):Ki Go.Proofs.Tryz.prog 249 #[.int .i64 x0] (fun (r:Bool)=>.bool r) (JC x0) :=
 KL [] [] [.B] [(0,.I .i64 x0)] .o Go.Proofs.Tryz.func249 rfl rfl ⟨rfl,trivial⟩ rfl (by kernel_rfl) (by kernel_rfl)
noncomputable def XF:CalleeS Go.Proofs.Tryz.prog:=mkC Yl Yn [.I .i64] [.B] (fun (t:Int)=>JC t) (fun (t:Int)=>XE t)
def Jz (x0:Int):M (Int):=do
 M.ite (x0 == 0) (do
  M.pure 64
  ) (do
  let Xx6←ixA (⟨7,0,none⟩:Addr) 64 (iShr .u64 (IntKind.wrap .u64 ((iAnd .u64 x0 (IntKind.wrap .u64 (0 - x0))) * 285870213051353865)) 58) 1
  let Xx7←ldI .u8 Xx6
  M.pure (IntKind.wrap .i64 Xx7)
  )
theorem NP (x0:Int):Ki Go.Proofs.Tryz.prog 259 #[.int .u64 x0] (fun (r:Int)=>.int .i64 r) (Jz x0) :=
 KL [] [] [.I .i64] [(0,.I .u64 x0)] .o Go.Proofs.Tryz.func259 rfl rfl ⟨rfl,trivial⟩ rfl (by kernel_rfl) (by kernel_rfl)
noncomputable def NQ:CalleeS Go.Proofs.Tryz.prog:=mkC GI GP [.I .u64] [.I .i64] (fun (t:Int)=>Jz t) (fun (t:Int)=>NP t)
def UO (x0:Int):M (Int):=do
 let Xx4←Jz x0
 M.pure Xx4
theorem qF (x0:Int):Ki Go.Proofs.Tryz.prog 250 #[.int .u64 x0] (fun (r:Int)=>.int .i64 r) (UO x0) :=
 KL [NQ] [] [.I .i64] [(0,.I .u64 x0)] .o Go.Proofs.Tryz.func250 rfl rfl ⟨rfl,trivial⟩ rfl (by kernel_rfl) (by kernel_rfl)
noncomputable def qG:CalleeS Go.Proofs.Tryz.prog:=mkC NZ Nd [.I .u64] [.I .i64] (fun (t:Int)=>UO t) (fun (t:Int)=>qF t)
def Z4 (C26:Sl) (C27:Bool) (C28:Sl) (C29:ByteArray) (C30:Addr) (Xx25:Int):M (Sl × ByteArray):=do
 M.ite C27 (do
  let Xx34←slA C30 65 Xx25 65 1
  let Xx35←apL KY 1 1 (#[.int .u8 0]:Array Value) C26 Xx34
  M.pure (Xx35,C29)
  ) (do
  let Xx37←slA C30 65 Xx25 65 1
  let Xx38←b2s Xx37
  M.pure (C28,Xx38)
  )
def Z5 (C19:Sl) (C20:Bool) (C21:Bool) (C22:Sl) (C23:ByteArray) (C24:Addr) (Xx18:Int):M (Sl × ByteArray):=do
 M.ite C20 (do
  let Xx41←ixA C24 65 (IntKind.wrap .i64 (Xx18 - 1)) 1
  stV Xx41 (.int .u8 45)
  Z4 C19 C21 C22 C23 C24 (IntKind.wrap .i64 (Xx18 - 1))
  ) (do
  Z4 C19 C21 C22 C23 C24 Xx18
  )
def J1 (C52:Sl) (C53:Bool) (C54:Bool) (C55:Sl) (C56:ByteArray) (C57:Addr) (C58:Int) (C59:Int) (C60:Int) (self1:(Int × Int)→M (Sl × ByteArray)):(Int × Int)→M (Sl × ByteArray):=fun s=>match s with
 | (Xx50,Xx51)=>do
  M.ite (decide (Xx50 ≥ C59)) (do
   let Xx66←ixS (⟨#[48,49,50,51,52,53,54,55,56,57,97,98,99,100,101,102,103,104,105,106,107,108,109,110,111,112,113,114,115,116,117,118,119,120,121,122]⟩:ByteArray) (iAnd .u64 Xx50 C60)
   let Xx67←ixA C57 65 (IntKind.wrap .i64 (Xx51 - 1)) 1
   stV Xx67 (.int .u8 Xx66)
   let Xx69←pShr .u64 Xx50 C58
   self1 (Xx69,IntKind.wrap .i64 (Xx51 - 1))
   ) (do
   let Xx71←ixS (⟨#[48,49,50,51,52,53,54,55,56,57,97,98,99,100,101,102,103,104,105,106,107,108,109,110,111,112,113,114,115,116,117,118,119,120,121,122]⟩:ByteArray) Xx50
   let Xx72←ixA C57 65 (IntKind.wrap .i64 (Xx51 - 1)) 1
   stV Xx72 (.int .u8 Xx71)
   Z5 C52 C53 C54 C55 C56 C57 (IntKind.wrap .i64 (Xx51 - 1))
   )
def VO (C78:Sl) (C79:Bool) (C80:Bool) (C81:Sl) (C82:ByteArray) (C83:Addr) (C84:Int) (self2:(Int × Int)→M (Sl × ByteArray)):(Int × Int)→M (Sl × ByteArray):=fun s=>match s with
 | (Xx76,Xx77)=>do
  M.ite (decide (Xx76 ≥ C84)) (do
   let Xx90←pQuo .u64 Xx76 C84
   let Xx92←ixS (⟨#[48,49,50,51,52,53,54,55,56,57,97,98,99,100,101,102,103,104,105,106,107,108,109,110,111,112,113,114,115,116,117,118,119,120,121,122]⟩:ByteArray) (IntKind.wrap .u64 (Xx76 - (IntKind.wrap .u64 (Xx90 * C84))))
   let Xx93←ixA C83 65 (IntKind.wrap .i64 (Xx77 - 1)) 1
   stV Xx93 (.int .u8 Xx92)
   self2 (Xx90,IntKind.wrap .i64 (Xx77 - 1))
   ) (do
   let Xx96←ixS (⟨#[48,49,50,51,52,53,54,55,56,57,97,98,99,100,101,102,103,104,105,106,107,108,109,110,111,112,113,114,115,116,117,118,119,120,121,122]⟩:ByteArray) Xx76
   let Xx97←ixA C83 65 (IntKind.wrap .i64 (Xx77 - 1)) 1
   stV Xx97 (.int .u8 Xx96)
   Z5 C78 C79 C80 C81 C82 C83 (IntKind.wrap .i64 (Xx77 - 1))
   )
def Z6 (C10:Sl) (C11:Int) (C12:Bool) (C13:Bool) (C14:Sl) (C15:ByteArray) (C16:Addr) (C17:Int) (Xx9:Int):M (Sl × ByteArray):=do
 let Xx44←JC C11
 M.ite Xx44 (do
  let Xx46←UO (IntKind.wrap .u64 C11)
  M.loop (J1 C10 C12 C13 C14 C15 C16 (IntKind.wrap .u64 Xx46) (IntKind.wrap .u64 C11) (IntKind.wrap .u64 ((IntKind.wrap .u64 C11) - 1))) (Xx9,C17)
  ) (do
  M.loop (VO C10 C12 C13 C14 C15 C16 (IntKind.wrap .u64 C11)) (Xx9,C17)
  )
def JR (x0:Sl) (x1:Int) (x2:Int) (x3:Bool) (x4:Bool):M (Sl × ByteArray):=do
 let Xx4←M.ite (decide (x2 < 2)) (do
  M.pure true
  ) (do
  M.pure (x2 == 10)
  )
 let Xx5←M.ite Xx4 (do
  M.pure true
  ) (do
  M.pure (decide (x2 > 36))
  )
 M.ite Xx5 (do
  M.fail
  ) (do
  let Xx7←mkB Y0 (Array.replicate 65 (.int .u8 0):Array Value)
  M.ite x3 (do
   Z6 x0 x2 x3 x4 Sl.nil ByteArray.empty Xx7 65 (IntKind.wrap .u64 (0 - x1))
   ) (do
   Z6 x0 x2 x3 x4 Sl.nil ByteArray.empty Xx7 65 x1
   )
  )
theorem X7 (x0:Sl) (x1:Int) (x2:Int) (x3:Bool) (x4:Bool):Ki Go.Proofs.Tryz.prog 230 #[(x0:Sl).v,.int .u64 x1,.int .i64 x2,.bool x3,.bool x4] (fun (r:Sl × ByteArray)=>.tuple #[(r.1:Sl).v,.string r.2]) (JR x0 x1 x2 x3 x4) :=
 KL [XF,qG] [] [.L,.S] [(0,.L x0),(1,.I .u64 x1),(2,.I .i64 x2),(3,.B x3),(4,.B x4)] (.q .o (.q .o (.q .o (.q .o (.q .o (.j [(0,.L),(2,.I .i64),(3,.B),(4,.B),(10,.L),(11,.S),(12,.A),(13,.I .i64),(1,.I .u64)] (fun (t:Sl × Int × Bool × Bool × Sl × ByteArray × Addr × Int × Int)=>Z6 t.1 t.2.1 t.2.2.1 t.2.2.2.1 t.2.2.2.2.1 t.2.2.2.2.2.1 t.2.2.2.2.2.2.1 t.2.2.2.2.2.2.2.1 t.2.2.2.2.2.2.2.2) (.q (.q .o (.q (.q .o (.q .o (.q .o (.q (.b (.l [(0,.L),(3,.B),(4,.B),(10,.L),(11,.S),(12,.A),(14,.I .u64),(15,.I .u64),(16,.I .u64)] [(1,.I .u64),(13,.I .i64)] (fun (t:Sl × Bool × Bool × Sl × ByteArray × Addr × Int × Int × Int)=>J1 t.1 t.2.1 t.2.2.1 t.2.2.2.1 t.2.2.2.2.1 t.2.2.2.2.2.1 t.2.2.2.2.2.2.1 t.2.2.2.2.2.2.2.1 t.2.2.2.2.2.2.2.2) (fun _=>.o))) .o)))) (.q .o (.q (.b (.l [(0,.L),(3,.B),(4,.B),(10,.L),(11,.S),(12,.A),(17,.I .u64)] [(1,.I .u64),(13,.I .i64)] (fun (t:Sl × Bool × Bool × Sl × ByteArray × Addr × Int)=>VO t.1 t.2.1 t.2.2.1 t.2.2.2.1 t.2.2.2.2.1 t.2.2.2.2.2.1 t.2.2.2.2.2.2) (fun _=>.o))) .o)))) (.j [(0,.L),(3,.B),(4,.B),(10,.L),(11,.S),(12,.A),(13,.I .i64)] (fun (t:Sl × Bool × Bool × Sl × ByteArray × Addr × Int)=>Z5 t.1 t.2.1 t.2.2.1 t.2.2.2.1 t.2.2.2.2.1 t.2.2.2.2.2.1 t.2.2.2.2.2.2) (.q .o (.j [(0,.L),(4,.B),(10,.L),(11,.S),(12,.A),(13,.I .i64)] (fun (t:Sl × Bool × Sl × ByteArray × Addr × Int)=>Z4 t.1 t.2.1 t.2.2.1 t.2.2.2.1 t.2.2.2.2.1 t.2.2.2.2.2) .o)))))))))) Go.Proofs.Tryz.func230 rfl rfl ⟨rfl,rfl,rfl,rfl,rfl,trivial⟩ rfl (by kernel_rfl) (by kernel_rfl)
noncomputable def X8:CalleeS Go.Proofs.Tryz.prog:=mkC XQ XS [.L,.I .u64,.I .i64,.B,.B] [.L,.S] (fun (t:Sl × Int × Int × Bool × Bool)=>JR t.1 t.2.1 t.2.2.1 t.2.2.2.1 t.2.2.2.2) (fun (t:Sl × Int × Int × Bool × Bool)=>X7 t.1 t.2.1 t.2.2.1 t.2.2.2.1 t.2.2.2.2)
end Gx
namespace Gx
open Go
set_option linter.unusedVariables false
set_option maxRecDepth 100000
def UC (C13:Int) (C14:Addr) (Xx12:Int):M (ByteArray):=do
 let Xx16←Ui Xx12
 let Xx18←slA C14 24 1 (IntKind.wrap .i64 (1+Xx16)) 1
 let Xx19←UB Xx18 Xx12
 M.ite (decide (C13 < 0)) (do
  let Xx23←ixA C14 24 0 1
  stV Xx23 (.int .u8 45)
  let Xx26←slA C14 24 0 (IntKind.wrap .i64 (1+Xx16)) 1
  let Xx27←b2s Xx26
  M.pure Xx27
  ) (do
  let Xx29←slA C14 24 1 (IntKind.wrap .i64 (1+Xx16)) 1
  let Xx30←b2s Xx29
  M.pure Xx30
  )
def Uj (x0:Int) (x1:Int):M (ByteArray):=do
 M.ite (x1 == 10) (do
  let Xx6←M.ite (decide (0≤x0)) (do
   M.pure (decide (x0 < 100))
   ) (do
   M.pure false
   )
  M.ite Xx6 (do
   let Xx8←Vs x0
   M.pure Xx8
   ) (do
   let Xx10←mkB KIs (Array.replicate 24 (.int .u8 0):Array Value)
   M.ite (decide (x0 < 0)) (do
    UC x0 Xx10 (IntKind.wrap .u64 (0 - (IntKind.wrap .u64 x0)))
    ) (do
    UC x0 Xx10 (IntKind.wrap .u64 x0)
    )
   )
  ) (do
  let Xx33←JR Sl.nil (IntKind.wrap .u64 x0) x1 (decide (x0 < 0)) false
  M.pure Xx33.2
  )
theorem Ge (x0:Int) (x1:Int):Ki Go.Proofs.Tryz.prog 198 #[.int .i64 x0,.int .i64 x1] (fun (r:ByteArray)=>.string r) (Uj x0 x1) :=
 KL [qa,Gd,XD,X8] [] [.S] [(0,.I .i64 x0),(1,.I .i64 x1)] (.q .o (.q (.q .o (.q (.q .o (.q .o (.q .o (.q .o (.j [(0,.I .i64),(5,.A),(6,.I .u64)] (fun (t:Int × Addr × Int)=>UC t.1 t.2.1 t.2.2) .o))))) .o)) .o)) Go.Proofs.Tryz.func198 rfl rfl ⟨rfl,rfl,trivial⟩ rfl (by kernel_rfl) (by kernel_rfl)
end Gx
namespace Gx
open Go Go.Proofs Go.Shelf Go.Sort Go.RowKit
set_option maxRecDepth 100000
def KE6:Go.Shelf.Ren:=⟨fun | 6=>120 | 14=>166 | 15=>167 | 20=>208 | 21=>209 | 22=>210 | 23=>211 | 24=>212 | 25=>213 | 26=>214 | 27=>215 | 28=>216 | 29=>217 | 46=>237 | 47=>238 | 48=>239 | 49=>240 | 50=>241 | 57=>257 | n=>n,fun | 0=>0 | 3=>3 | 4=>4 | 5=>5 | 9=>9 | 22=>22 | 24=>24 | 25=>25 | 39=>184 | 45=>208 | 46=>209 | 50=>176 | 53=>215 | 55=>154 | 66=>231 | 70=>235 | 76=>252 | 77=>253 | n=>n,fun | n=>n⟩
theorem KE7:Go.Proofs.SlLaysF0.n6 Tryz.prog KE6 where
 mixed:=by kernel_rfl
 f6:=⟨"slices.SortFunc[[]ramble/api.Value,ramble/api.Value]",by decide,Tryz.func120.trans (congrArg some (by kernel_rfl))⟩
 f14:=⟨"slices.pdqsortCmpFunc[ramble/api.Value]",by decide,Tryz.func166.trans (congrArg some (by kernel_rfl))⟩
 f15:=Tryz.func167.trans (congrArg some (by kernel_rfl))
 f20:=⟨"slices.insertionSortCmpFunc[ramble/api.Value]",by decide,Tryz.func208.trans (congrArg some (by kernel_rfl))⟩
 f21:=⟨"slices.heapSortCmpFunc[ramble/api.Value]",by decide,Tryz.func209.trans (congrArg some (by kernel_rfl))⟩
 f22:=⟨"slices.breakPatternsCmpFunc[ramble/api.Value]",by decide,Tryz.func210.trans (congrArg some (by kernel_rfl))⟩
 f23:=⟨"slices.choosePivotCmpFunc[ramble/api.Value]",by decide,Tryz.func211.trans (congrArg some (by kernel_rfl))⟩
 f24:=⟨"slices.reverseRangeCmpFunc[ramble/api.Value]",by decide,Tryz.func212.trans (congrArg some (by kernel_rfl))⟩
 f25:=⟨"slices.partialInsertionSortCmpFunc[ramble/api.Value]",by decide,Tryz.func213.trans (congrArg some (by kernel_rfl))⟩
 f26:=⟨"slices.partitionEqualCmpFunc[ramble/api.Value]",by decide,Tryz.func214.trans (congrArg some (by kernel_rfl))⟩
 f27:=⟨"slices.partitionCmpFunc[ramble/api.Value]",by decide,Tryz.func215.trans (congrArg some (by kernel_rfl))⟩
 f28:=Tryz.func216.trans (congrArg some (by kernel_rfl))
 f29:=Tryz.func217.trans (congrArg some (by kernel_rfl))
 f46:=⟨"slices.siftDownCmpFunc[ramble/api.Value]",by decide,Tryz.func237.trans (congrArg some (by kernel_rfl))⟩
 f47:=Tryz.func238.trans (congrArg some (by kernel_rfl))
 f48:=Tryz.func239.trans (congrArg some (by kernel_rfl))
 f49:=⟨"slices.medianAdjacentCmpFunc[ramble/api.Value]",by decide,Tryz.func240.trans (congrArg some (by kernel_rfl))⟩
 f50:=⟨"slices.medianCmpFunc[ramble/api.Value]",by decide,Tryz.func241.trans (congrArg some (by kernel_rfl))⟩
 f57:=⟨"slices.order2CmpFunc[ramble/api.Value]",by decide,Tryz.func257.trans (congrArg some (by kernel_rfl))⟩
 t0:=Tryz.underlying0
 a0:=Tryz.isAgg0
 z0:=Tryz.sizeOf0
 v0:=Tryz.zeroValue0
 t3:=Tryz.underlying3
 a3:=Tryz.isAgg3
 z3:=Tryz.sizeOf3
 v3:=Tryz.zeroValue3
 t4:=Tryz.underlying4
 a4:=Tryz.isAgg4
 z4:=Tryz.sizeOf4
 v4:=Tryz.zeroValue4
 t5:=Tryz.underlying5
 a5:=Tryz.isAgg5
 z5:=Tryz.sizeOf5
 v5:=Tryz.zeroValue5
 t9:=Tryz.underlying9
 a9:=Tryz.isAgg9
 z9:=Tryz.sizeOf9
 v9:=Tryz.zeroValue9
 t22:=Tryz.underlying22
 a22:=Tryz.isAgg22
 z22:=Tryz.sizeOf22
 v22:=Tryz.zeroValue22
 t25:=Tryz.underlying25
 a25:=Tryz.isAgg25
 z25:=Tryz.sizeOf25
 v25:=Tryz.zeroValue25
 t39:=Tryz.underlying184
 a39:=Tryz.isAgg184
 z39:=Tryz.sizeOf184
 v39:=Tryz.zeroValue184
 t45:=Tryz.underlying208
 a45:=Tryz.isAgg208
 z45:=Tryz.sizeOf208
 v45:=Tryz.zeroValue208
 t46:=Tryz.underlying209
 a46:=Tryz.isAgg209
 z46:=Tryz.sizeOf209
 v46:=Tryz.zeroValue209
 t50:=Tryz.underlying176
 a50:=Tryz.isAgg176
 z50:=Tryz.sizeOf176
 v50:=Tryz.zeroValue176
 t53:=Tryz.underlying215
 a53:=Tryz.isAgg215
 z53:=Tryz.sizeOf215
 v53:=Tryz.zeroValue215
 t55:=Tryz.underlying154
 a55:=Tryz.isAgg154
 z55:=Tryz.sizeOf154
 v55:=Tryz.zeroValue154
 t66:=Tryz.underlying231
 a66:=Tryz.isAgg231
 z66:=Tryz.sizeOf231
 v66:=Tryz.zeroValue231
 t70:=Tryz.underlying235
 a70:=Tryz.isAgg235
 z70:=Tryz.sizeOf235
 v70:=Tryz.zeroValue235
 t76:=Tryz.underlying252
 a76:=Tryz.isAgg252
 z76:=Tryz.sizeOf252
 v76:=Tryz.zeroValue252
 t77:=Tryz.underlying253
 a77:=Tryz.isAgg253
 z77:=Tryz.sizeOf253
 v77:=Tryz.zeroValue253
end Gx
