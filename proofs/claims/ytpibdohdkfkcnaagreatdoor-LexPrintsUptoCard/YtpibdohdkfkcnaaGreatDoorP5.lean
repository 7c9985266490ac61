/- Printed by program: Go functions as Lean programs, each tied to its code. No condition. -/
import Derived.Test.YtpibdohdkfkcnaaGreatDoorP0
import Derived.Test.YtpibdohdkfkcnaaGreatDoorP1
import Derived.Test.YtpibdohdkfkcnaaGreatDoorP2
import Derived.Test.YtpibdohdkfkcnaaGreatDoorP3
import Derived.Test.YtpibdohdkfkcnaaGreatDoorP4
set_option linter.unusedVariables false
set_option linter.unusedSimpArgs false
namespace Gx
open Go
set_option linter.unusedVariables false
set_option maxRecDepth 100000
def Zn (C28:Option Addr) (C29:Int) (C30:Int):M (Value ⊕ (Int)):=do
 let Xx32←nilP C28
 let Xx33←ldI .i64 ((Xx32).add 1)
 let Xx34←nilP C28
 stV ((Xx34).add 1) (.int .i64 (IntKind.wrap .i64 (Xx33+1)))
 M.pure (.inr (IntKind.wrap .u8 (iOr .i64 (iShl .i64 C29 4) C30)))
def Kj (C38:Option Addr) (C39:Int) (C40:Int) (Xx37:Bool):M (Value ⊕ (Int)):=do
 M.ite Xx37 (do
  thr (Kl C38) fun Xx41=>do
   Zn C38 C39 C40
  ) (do
  Zn C38 C39 C40
  )
noncomputable def Y0:Array Oper:=KGs Go.Proofs.Tryz.f254 11
def KFZ:List (List Nat):=[[],[0],[1],[2],[],[4],[5],[6],[7],[3,8],[9],[10],[11,10],[10,12],[13,10],[14],[15,14],[16,14,14],[17],[18,17],[17,19,14],[14,20]]
def KFa:List (List Nat):=[[],[0],[1],[2],[],[4],[5],[6],[7],[3,8],[9],[10],[10,11],[10,12],[13],[14],[14,15],[14,16],[17],[17,18],[14,17,19],[14,20]]
def KFb:List (List Nat):=[[],[0],[0,1],[0,1,2],[],[4],[4,5],[4,5,6],[4,5,6,7],[0,1,2,3,4,5,6,7,8],[0,1,2,3,4,5,6,7,8,9],[0,1,2,3,4,5,6,7,8,9,10],[0,1,2,3,4,5,6,7,8,9,10,11],[0,1,2,3,4,5,6,7,8,9,10,11,12],[0,1,2,3,4,5,6,7,8,9,10,11,12,13],[0,1,2,3,4,5,6,7,8,9,10,11,12,13,14],[0,1,2,3,4,5,6,7,8,9,10,11,12,13,14,15],[0,1,2,3,4,5,6,7,8,9,10,11,12,13,14,15,16],[0,1,2,3,4,5,6,7,8,9,10,11,12,13,14,15,16,17],[0,1,2,3,4,5,6,7,8,9,10,11,12,13,14,15,16,17,18],[0,1,2,3,4,5,6,7,8,9,10,11,12,13,14,15,16,17,18,19],[0,1,2,3,4,5,6,7,8,9,10,11,12,13,14,15,16,17,18,19,20]]
theorem KAQ:KBW Go.Proofs.Tryz.f254 11 KFZ KFa KFb=true:=by kernel_rfl
theorem qw:KDR 22 KFZ KFa KFb [0,1,2,4,0,16,32,64,128,264,512,1024,3072,5120,9216,16384,49152,81920,131072,393216,671744,1064960] [0,1,2,4,0,16,32,64,128,264,512,1024,3072,5120,8192,16384,49152,81920,131072,393216,671744,1064960] [0,1,3,7,0,16,48,112,240,511,1023,2047,4095,8191,16383,32767,65535,131071,262143,524287,1048575,2097151]=true:=by kernel_rfl
def Zo (C18:Option Addr) (C19:Int):M (Value ⊕ (Int)):=do
 let Xx21←nilP C18
 let Xx22←ldI .i64 ((Xx21).add 1)
 let Xx23←nilP C18
 stV ((Xx23).add 1) (.int .i64 (IntKind.wrap .i64 (Xx22+1)))
 let Xx26←Kg C18
 let Xx27←Zc (⟨#[48,49,50,51,52,53,54,55,56,57,97,98,99,100,101,102]⟩:ByteArray) Xx26
 let Xx42←nilP C18
 let Xx43←nilP C18
 let Xx44←ldI .i64 ((Xx42).add 1)
 let Xx45←ldS ((Xx43).add 0)
 M.ite (decide (Xx44 ≥ (Xx45.size:Int))) (do
  Kj C18 C19 Xx27 true
  ) (do
  M.ite (decide (Xx27 < 0)) (do
   Kj C18 C19 Xx27 true
   ) (do
   M.ite (C19 == 7) (do
    Kj C18 C19 Xx27 (decide (Xx27 < 15))
    ) (do
    Kj C18 C19 Xx27 false
    )
   )
  )
def Kk (C50:Option Addr) (C51:Int) (Xx49:Bool):M (Value ⊕ (Int)):=do
 M.ite Xx49 (do
  thr (Kl C50) fun Xx52=>do
   Zo C50 C51
  ) (do
  Zo C50 C51
  )
noncomputable def GT:Array Oper:=KGs Go.Proofs.Tryz.f254 7
def KHX:List (List Nat):=[[],[0],[1],[2],[],[4],[5],[6],[7],[3,8],[9],[10],[11,10],[10,12],[13,10],[14],[15,14],[16,14,14],[17],[18,17],[17,19,14],[14,20]]
def KHY:List (List Nat):=[[],[0],[1],[2],[],[4],[5],[6],[7],[3,8],[9],[10],[10,11],[10,12],[13],[14],[14,15],[14,16],[17],[17,18],[14,17,19],[14,20]]
def KHZ:List (List Nat):=[[],[0],[0,1],[0,1,2],[],[4],[4,5],[4,5,6],[4,5,6,7],[0,1,2,3,4,5,6,7,8],[0,1,2,3,4,5,6,7,8,9],[0,1,2,3,4,5,6,7,8,9,10],[0,1,2,3,4,5,6,7,8,9,10,11],[0,1,2,3,4,5,6,7,8,9,10,11,12],[0,1,2,3,4,5,6,7,8,9,10,11,12,13],[0,1,2,3,4,5,6,7,8,9,10,11,12,13,14],[0,1,2,3,4,5,6,7,8,9,10,11,12,13,14,15],[0,1,2,3,4,5,6,7,8,9,10,11,12,13,14,15,16],[0,1,2,3,4,5,6,7,8,9,10,11,12,13,14,15,16,17],[0,1,2,3,4,5,6,7,8,9,10,11,12,13,14,15,16,17,18],[0,1,2,3,4,5,6,7,8,9,10,11,12,13,14,15,16,17,18,19],[0,1,2,3,4,5,6,7,8,9,10,11,12,13,14,15,16,17,18,19,20]]
theorem KCt:KBW Go.Proofs.Tryz.f254 7 KHX KHY KHZ=true:=by kernel_rfl
theorem KAR:KDR 22 KHX KHY KHZ [0,1,2,4,0,16,32,64,128,264,512,1024,3072,5120,9216,16384,49152,81920,131072,393216,671744,1064960] [0,1,2,4,0,16,32,64,128,264,512,1024,3072,5120,8192,16384,49152,81920,131072,393216,671744,1064960] [0,1,3,7,0,16,48,112,240,511,1023,2047,4095,8191,16383,32767,65535,131071,262143,524287,1048575,2097151]=true:=by kernel_rfl
def JT (x0:Option Addr):M (Value ⊕ (Int)):=do
 let Xx4←Kg x0
 let Xx6←M.ite (Xx4 == 39) (do
  M.pure true
  ) (do
  M.pure (Xx4 == 92)
  )
 M.ite Xx6 (do
  let Xx8←nilP x0
  let Xx9←ldI .i64 ((Xx8).add 1)
  let Xx10←nilP x0
  stV ((Xx10).add 1) (.int .i64 (IntKind.wrap .i64 (Xx9+1)))
  M.pure (.inr Xx4)
  ) (do
  thr (Kv x0 (⟨#[120]⟩:ByteArray)) fun Xx14=>do
   let Xx16←Kg x0
   let Xx17←Zc (⟨#[48,49,50,51,52,53,54,55,56,57,97,98,99,100,101,102]⟩:ByteArray) Xx16
   let Xx53←nilP x0
   let Xx54←nilP x0
   let Xx55←ldI .i64 ((Xx53).add 1)
   let Xx56←ldS ((Xx54).add 0)
   M.ite (decide (Xx55 ≥ (Xx56.size:Int))) (do
    Kk x0 Xx17 true
    ) (do
    M.ite (decide (Xx17 < 0)) (do
     Kk x0 Xx17 true
     ) (do
     M.ite (decide (Xx17 > 1)) (do
      Kk x0 Xx17 (decide (Xx17 < 7))
      ) (do
      Kk x0 Xx17 false
      )
     )
    )
  )
theorem X6 (x0:Option Addr):XF Go.Proofs.Tryz.prog 254 #[.pointer x0] (fun (r:Int)=>.int .u8 r) (JT x0):=by
 refine WE [(0,.pointer x0)] Go.Proofs.Tryz.func254 rfl rfl (Nat.le_of_ble_eq_true rfl) (Vs ⟨rfl,trivial⟩) (fun w0 w Q R X a hret hthr hE hR H=>?_)
 unfold JT at H
 refine KY (fun K hK_1=>?_)
 refine KF ?_
 refine KC (v:=.int .u8 0) rfl rfl hE rfl (Kc hE rfl) (fun a hE=>?_)
 refine KX ?_
 refine hK_1 _ _ ?_
 refine KY (fun K hK_2=>?_)
 refine KY (fun K hK_3=>?_)
 refine KF ?_
 refine KC (v:=.pointer x0) rfl rfl hE rfl (KG hE rfl) (fun a hE=>?_)
 refine UN hE hR Kh rfl (Ko x0) (M.unbind H) (fun Xx4 a w ea hR H=>?_)
 have hE:=Env.put_some hE rfl ea; clear ea
 refine KC (v:=.int .u8 Xx4) rfl rfl hE rfl (Kc hE rfl) (fun a hE=>?_)
 refine KX ?_
 refine hK_3 _ _ ?_
 refine KY (fun K hK_5=>?_)
 refine KF ?_
 refine KC (v:=.int .u8 Xx4) rfl rfl hE rfl (KG hE rfl) (fun a hE=>?_)
 refine KC (v:=.bool (Xx4 == 39)) rfl rfl hE rfl (ZH hE rfl rfl K9 XG) (fun a hE=>?_)
 refine KC (v:=.bool (Xx4 == 39)) rfl rfl hE rfl (KG hE rfl) (fun a hE=>?_)
 refine KDO (n:=(⟨97,[]⟩:Frm)) (w0:=w0) 3 (fun Xx6:Bool=>[(0,.pointer x0),(3,.int .u8 Xx4),(13,.bool Xx6)]) (M.unbind H) (fun Kr hKr H=>?_) ?_
 ·rcases Uw (Xx4 == 39) with hb | hb
  ·replace H:=M.ite_t hb H
   have hE:=hE.reb 10 (Xx4 == 39) true hb rfl
   refine Xx rfl hE rfl rfl rfl (fun a ea=>?_)
   have hE:=Env.put_some hE rfl ea; clear ea
   refine Xx rfl hE rfl rfl rfl (fun a ea=>?_)
   have hE:=Env.put_some hE rfl ea; clear ea
   refine KC rfl rfl hE rfl (Jn hE rfl rfl) (fun a hE=>?_)
   refine KX ?_
   exact hKr _ _ _ (hE.cut (.cons rfl (.cons rfl (.cons rfl Subs.nil)))) hR H
  ·replace H:=M.ite_f hb H
   have hE:=hE.reb 10 (Xx4 == 39) false hb rfl
   refine t_on rfl hE rfl rfl rfl ?_
   refine KC (v:=.int .u8 Xx4) rfl rfl hE rfl (KG hE rfl) (fun a hE=>?_)
   refine t_on rfl hE rfl rfl rfl ?_
   refine KC (v:=.bool (Xx4 == 92)) rfl rfl hE rfl (ZH hE rfl rfl K9 XG) (fun a hE=>?_)
   refine KC rfl rfl hE rfl (Z8 hE rfl rfl) (fun a hE=>?_)
   refine KX ?_
   exact hKr _ _ _ (hE.cut (.cons rfl (.cons rfl (.cons rfl Subs.nil)))) hR H
 ·intro Xx6 a w hE hR H
  refine KX ?_
  refine hK_5 _ _ ?_
  refine JB Xx6 hE rfl (fun hb=>?_) (fun hb=>?_)
  ·replace H:=M.ite_t hb H
   refine KY (fun K hK_7=>?_)
   refine KF ?_
   refine KC (v:=.pointer x0) rfl rfl hE rfl (KG hE rfl) (fun a hE=>?_)
   obtain ⟨Xx8,qXx8,H⟩:=H
   refine KC (v:=.pointer (some Xx8)) rfl rfl hE rfl (KL hE (Zv rfl (congrArg Value.pointer qXx8))) (fun a hE=>?_)
   refine KC (v:=.pointer (some ((Xx8).add 1))) rfl rfl hE rfl (KH hE rfl ZI) (fun a hE=>?_)
   obtain ⟨Xx9,qXx9,H⟩:=H
   refine KC (v:=.int .i64 Xx9) rfl rfl hE rfl (ZE hE rfl sc3 qXx9) (fun a hE=>?_)
   refine KC (v:=.int .i64 (IntKind.wrap .i64 (Xx9+1))) rfl rfl hE rfl (ZH hE rfl rfl K9 X8) (fun a hE=>?_)
   obtain ⟨Xx10,qXx10,H⟩:=H
   refine KC (v:=.pointer (some Xx10)) rfl rfl hE rfl (KL hE (Zv rfl (congrArg Value.pointer qXx10))) (fun a hE=>?_)
   refine KC (v:=.pointer (some ((Xx10).add 1))) rfl rfl hE rfl (KH hE rfl ZI) (fun a hE=>?_)
   obtain ⟨u_11,qu_11,H⟩:=H
   refine Uc rfl rfl hE hR (Zb hE rfl rfl sz3 qu_11) (fun a w hE hR hh=>?_)
   replace H:=M.at hh H; clear hh
   refine KX ?_
   refine hK_7 _ _ ?_
   refine KY (fun K hK_12=>?_)
   refine KF ?_
   refine KC (v:=.int .u8 Xx4) rfl rfl hE rfl (KG hE rfl) (fun a hE=>?_)
   refine KC (v:=.int .u8 Xx4) rfl rfl hE rfl (Kc hE rfl) (fun a hE=>?_)
   refine KX ?_
   refine hK_12 _ _ ?_
   refine WD ?_
   exact hret _ _ _ Xx4 _ hE hR (Zu hE rfl (RV.tmp rfl RV.nil)) rfl H
  ·replace H:=M.ite_f hb H
   refine J2 ?_
   refine hK_2 _ _ ?_
   refine KY (fun K hK_13=>?_)
   refine KF ?_
   refine KC (v:=.pointer x0) rfl rfl hE rfl (KG hE rfl) (fun a hE=>?_)
   refine Z0 hE hR ZF rfl (ZL x0 (⟨#[120]⟩:ByteArray)) H (fun _ _ hR HQ=>hthr _ _ hR HQ) (fun Xx14 a w ea hR H=>?_)
   have hE:=Env.put_some hE rfl ea; clear ea
   refine KX ?_
   refine hK_13 _ _ ?_
   refine KY (fun K hK_15=>?_)
   refine KF ?_
   refine KC (v:=.pointer x0) rfl rfl hE rfl (KG hE rfl) (fun a hE=>?_)
   refine UN hE hR Kh rfl (Ko x0) (M.unbind H) (fun Xx16 a w ea hR H=>?_)
   have hE:=Env.put_some hE rfl ea; clear ea
   refine UN hE hR Uz rfl (VD (⟨#[48,49,50,51,52,53,54,55,56,57,97,98,99,100,101,102]⟩:ByteArray) Xx16) (M.unbind H) (fun Xx17 a w ea hR H=>?_)
   have hE:=Env.put_some hE rfl ea; clear ea
   refine KC (v:=.int .i64 Xx17) rfl rfl hE rfl (Kc hE rfl) (fun a hE=>?_)
   refine KX ?_
   refine hK_15 _ _ ?_
   refine JG (fun a w=>Env (⟨97,[]⟩:Frm) a [(0,.pointer x0),(4,.int .i64 Xx17)]∧Rest w0 w∧(Zo x0 Xx17).wp w.heap Q) ?_ ?_
   ·rintro a w ⟨hE,hR,H⟩
    unfold Zo at H
    refine KY (fun K hK_20=>?_)
    refine KF ?_
    refine KC (v:=.pointer x0) rfl rfl hE rfl (KG hE rfl) (fun a hE=>?_)
    obtain ⟨Xx21,qXx21,H⟩:=H
    refine KC (v:=.pointer (some Xx21)) rfl rfl hE rfl (KL hE (Zv rfl (congrArg Value.pointer qXx21))) (fun a hE=>?_)
    refine KC (v:=.pointer (some ((Xx21).add 1))) rfl rfl hE rfl (KH hE rfl ZI) (fun a hE=>?_)
    obtain ⟨Xx22,qXx22,H⟩:=H
    refine KC (v:=.int .i64 Xx22) rfl rfl hE rfl (ZE hE rfl sc3 qXx22) (fun a hE=>?_)
    refine KC (v:=.int .i64 (IntKind.wrap .i64 (Xx22+1))) rfl rfl hE rfl (ZH hE rfl rfl K9 X8) (fun a hE=>?_)
    obtain ⟨Xx23,qXx23,H⟩:=H
    refine KC (v:=.pointer (some Xx23)) rfl rfl hE rfl (KL hE (Zv rfl (congrArg Value.pointer qXx23))) (fun a hE=>?_)
    refine KC (v:=.pointer (some ((Xx23).add 1))) rfl rfl hE rfl (KH hE rfl ZI) (fun a hE=>?_)
    obtain ⟨u_24,qu_24,H⟩:=H
    refine Uc rfl rfl hE hR (Zb hE rfl rfl sz3 qu_24) (fun a w hE hR hh=>?_)
    replace H:=M.at hh H; clear hh
    refine KX ?_
    refine hK_20 _ _ ?_
    refine KY (fun K hK_25=>?_)
    refine KF ?_
    refine KC (v:=.pointer x0) rfl rfl hE rfl (KG hE rfl) (fun a hE=>?_)
    refine UN hE hR Kh rfl (Ko x0) (M.unbind H) (fun Xx26 a w ea hR H=>?_)
    have hE:=Env.put_some hE rfl ea; clear ea
    refine UN hE hR Uz rfl (VD (⟨#[48,49,50,51,52,53,54,55,56,57,97,98,99,100,101,102]⟩:ByteArray) Xx26) (M.unbind H) (fun Xx27 a w ea hR H=>?_)
    have hE:=Env.put_some hE rfl ea; clear ea
    refine KC (v:=.int .i64 Xx27) rfl rfl hE rfl (Kc hE rfl) (fun a hE=>?_)
    refine KX ?_
    refine hK_25 _ _ ?_
    refine JG (fun a w=>Env (⟨97,[]⟩:Frm) a [(0,.pointer x0),(4,.int .i64 Xx17),(5,.int .i64 Xx27)]∧Rest w0 w∧(Zn x0 Xx17 Xx27).wp w.heap Q) ?_ ?_
    ·rintro a w ⟨hE,hR,H⟩
     unfold Zn at H
     refine KY (fun K hK_31=>?_)
     refine KF ?_
     refine KC (v:=.pointer x0) rfl rfl hE rfl (KG hE rfl) (fun a hE=>?_)
     obtain ⟨Xx32,qXx32,H⟩:=H
     refine KC (v:=.pointer (some Xx32)) rfl rfl hE rfl (KL hE (Zv rfl (congrArg Value.pointer qXx32))) (fun a hE=>?_)
     refine KC (v:=.pointer (some ((Xx32).add 1))) rfl rfl hE rfl (KH hE rfl ZI) (fun a hE=>?_)
     obtain ⟨Xx33,qXx33,H⟩:=H
     refine KC (v:=.int .i64 Xx33) rfl rfl hE rfl (ZE hE rfl sc3 qXx33) (fun a hE=>?_)
     refine KC (v:=.int .i64 (IntKind.wrap .i64 (Xx33+1))) rfl rfl hE rfl (ZH hE rfl rfl K9 X8) (fun a hE=>?_)
     obtain ⟨Xx34,qXx34,H⟩:=H
     refine KC (v:=.pointer (some Xx34)) rfl rfl hE rfl (KL hE (Zv rfl (congrArg Value.pointer qXx34))) (fun a hE=>?_)
     refine KC (v:=.pointer (some ((Xx34).add 1))) rfl rfl hE rfl (KH hE rfl ZI) (fun a hE=>?_)
     obtain ⟨u_35,qu_35,H⟩:=H
     refine Uc rfl rfl hE hR (Zb hE rfl rfl sz3 qu_35) (fun a w hE hR hh=>?_)
     replace H:=M.at hh H; clear hh
     refine KX ?_
     refine hK_31 _ _ ?_
     refine KY (fun K hK_36=>?_)
     refine KF ?_
     refine KC (v:=.int .i64 Xx17) rfl rfl hE rfl (KG hE rfl) (fun a hE=>?_)
     refine KC (v:=.int .i64 (iShl .i64 Xx17 4)) rfl rfl hE rfl (ZH hE rfl rfl K9 (KKA ⟨by decide,rfl⟩)) (fun a hE=>?_)
     refine KC (v:=.int .i64 Xx27) rfl rfl hE rfl (KG hE rfl) (fun a hE=>?_)
     refine KC (v:=.int .i64 (iOr .i64 (iShl .i64 Xx17 4) Xx27)) rfl rfl hE rfl (ZH hE rfl rfl K9 b_or) (fun a hE=>?_)
     refine KC (v:=.int .u8 (IntKind.wrap .u8 (iOr .i64 (iShl .i64 Xx17 4) Xx27))) rfl rfl hE rfl (KGk hE rfl un3 un5) (fun a hE=>?_)
     refine KC (v:=.int .u8 (IntKind.wrap .u8 (iOr .i64 (iShl .i64 Xx17 4) Xx27))) rfl rfl hE rfl (Kc hE rfl) (fun a hE=>?_)
     refine KX ?_
     refine hK_36 _ _ ?_
     refine WD ?_
     exact hret _ _ _ (IntKind.wrap .u8 (iOr .i64 (iShl .i64 Xx17 4) Xx27)) _ hE hR (Zu hE rfl (RV.tmp rfl RV.nil)) rfl H
    ·skip
     refine JG (fun a w=>∃ (Xx37:Bool),Env (⟨97,[]⟩:Frm) a [(0,.pointer x0),(4,.int .i64 Xx17),(5,.int .i64 Xx27),(82,.bool Xx37)]∧Rest w0 w∧(Kj x0 Xx17 Xx27 Xx37).wp w.heap Q) ?_ ?_
     ·rintro a w ⟨Xx37,hE,hR,H⟩
      unfold Kj at H
      refine JB Xx37 hE rfl (fun hb=>?_) (fun hb=>?_)
      ·replace H:=M.ite_t hb H
       refine KF ?_
       refine KC (v:=.pointer x0) rfl rfl hE rfl (KG hE rfl) (fun a hE=>?_)
       refine Z0 hE hR Ku rfl (Kw x0) H (fun _ _ hR HQ=>hthr _ _ hR HQ) (fun Xx41 a w ea hR H=>?_)
       have hE:=Env.put_some hE rfl ea; clear ea
       refine KX ?_
       exact ⟨hE.cut (.cons rfl (.cons rfl (.cons rfl Subs.nil))),hR,H⟩
      ·replace H:=M.ite_f hb H
       refine J2 ?_
       exact ⟨hE.cut (.cons rfl (.cons rfl (.cons rfl Subs.nil))),hR,H⟩
     ·skip
      obtain ⟨Xx42,qXx42,H⟩:=H
      obtain ⟨Xx43,qXx43,H⟩:=H
      obtain ⟨Xx44,qXx44,H⟩:=H
      obtain ⟨Xx45,qXx45,H⟩:=H
      rcases Uw (decide (Xx44 ≥ (Xx45.size:Int))) with hb_46 | hb_46
      ·replace H:=M.ite_t hb_46 H
       refine Xt (rops:=Y0) (by kernel_rfl) ?_
       have hT:Tab Y0 _ _ _:=YV KAQ rfl (by kernel_rfl)
       have hM:=TabM.of qw
       refine Ux (m:=22) (fun w:World=>(fun h:Heap=>(KO h ((Xx42).add 1)=some (.int .i64 Xx44))∧(KO h ((Xx43).add 0)=some (.string Xx45))) w.heap) [9,10,11,12,13,14,15,16,17,18,19,20,21] (unb 22 0) mo hR (by kernel_rfl) (by kernel_rfl) (fun w' e=>by rw [e]; exact ⟨qXx44,qXx45⟩) (fun w hh hR hs=>?_)
       replace H:=M.at hh H; clear hh
       refine KB (i:=0) (v:=.pointer x0) (unb 22 1) rfl rfl hT (anyM hM (by kernel_rfl)) hE rfl (KA rfl) (fun w=>KG hE rfl) (fun a hE=>?_)
       refine KB (i:=1) (v:=.pointer (some Xx42)) (unb 22 3) rfl rfl hT (anyM hM (by kernel_rfl)) hE rfl (KA rfl) (fun w=>KL hE (Zv rfl (congrArg Value.pointer qXx42))) (fun a hE=>?_)
       refine KB (i:=2) (v:=.pointer (some ((Xx42).add 1))) (unb 22 7) rfl rfl hT (anyM hM (by kernel_rfl)) hE rfl (KA rfl) (fun w=>KH hE rfl ZI) (fun a hE=>?_)
       refine KB (i:=4) (v:=.pointer x0) (unb 22 23) rfl rfl hT (anyM hM (by kernel_rfl)) hE rfl (KA rfl) (fun w=>KG hE rfl) (fun a hE=>?_)
       refine KB (i:=5) (v:=.pointer (some Xx43)) (unb 22 55) rfl rfl hT (anyM hM (by kernel_rfl)) hE rfl (KA rfl) (fun w=>KL hE (Zv rfl (congrArg Value.pointer qXx43))) (fun a hE=>?_)
       refine KB (i:=6) (v:=.pointer (some ((Xx43).add 0))) (unb 22 119) rfl rfl hT (anyM hM (by kernel_rfl)) hE rfl (KA rfl) (fun w=>KH hE rfl Wk) (fun a hE=>?_)
       refine Jo (i:=3) (v:=.int .i64 Xx44) (unb 22 127) rfl rfl hT (Vt hM (by kernel_rfl)) hE rfl (KA rfl) hs (fun w s=>ZE hE rfl sc3 s.1) (fun a hE=>?_)
       refine Jo (i:=7) (v:=.string Xx45) (unb 22 255) rfl rfl hT (Vt hM (by kernel_rfl)) hE rfl (KA rfl) hs (fun w s=>ZE hE rfl sc9 s.2) (fun a hE=>?_)
       refine KB (i:=8) (v:=.int .i64 (Xx45.size:Int)) (unb 22 511) rfl rfl hT (anyM hM (by kernel_rfl)) hE rfl (KA rfl) (fun w=>YT hE rfl un9) (fun a hE=>?_)
       refine KB (i:=9) (v:=.bool (decide (Xx44 ≥ (Xx45.size:Int)))) (unb 22 1023) rfl rfl hT (anyM hM (by kernel_rfl)) hE rfl (KA rfl) (fun w=>ZH hE rfl rfl K9 KAZ) (fun a hE=>?_)
       refine KB (i:=10) (v:=.bool (decide (Xx44 ≥ (Xx45.size:Int)))) (unb 22 2047) rfl rfl hT (anyM hM (by kernel_rfl)) hE rfl (KA rfl) (fun w=>KG hE rfl) (fun a hE=>?_)
       have hE:=hE.reb 71 (decide (Xx44 ≥ (Xx45.size:Int))) true hb_46 rfl
       replace hE:=hE.cut (l':=[(0,.pointer x0),(4,.int .i64 Xx17),(5,.int .i64 Xx27),(71,.bool true)]) (.cons rfl (.cons rfl (.cons rfl (.cons rfl Subs.nil))))
       refine KCH (i:=11) (unb 22 4095) rfl rfl hT (anyM hM (by kernel_rfl)) (Jv rfl hE rfl rfl rfl) (fun a ea=>?_)
       have hE:=Env.put_some hE rfl ea; clear ea
       refine KCH (i:=12) (unb 22 8191) rfl rfl hT (anyM hM (by kernel_rfl)) (Jv rfl hE rfl rfl rfl) (fun a ea=>?_)
       have hE:=Env.put_some hE rfl ea; clear ea
       refine KB (i:=13) (v:=.bool true) (unb 22 16383) rfl rfl hT (anyM hM (by kernel_rfl)) hE rfl (KA rfl) (fun w=>Jn hE rfl rfl) (fun a hE=>?_)
       refine KB (i:=14) (v:=.bool true) (unb 22 32767) rfl rfl hT (anyM hM (by kernel_rfl)) hE rfl (KA rfl) (fun w=>KG hE rfl) (fun a hE=>?_)
       refine qE [(15,some 76),(16,some 77),(17,some 78),(18,some 79),(19,some 80),(20,some 81)] 1 hT hM hE (by kernel_rfl) (m':=2097151) (by kernel_rfl) (fun a hE=>?_)
       refine KB (i:=21) (v:=.bool true) (unb 22 4194303) rfl rfl hT (anyM hM (by kernel_rfl)) hE rfl (KA rfl) (fun w=>Jn hE rfl rfl) (fun a hE=>?_)
       refine Wp hT (zK hM (by kernel_rfl)) ?_
       exact ⟨true,hE.cut (.cons rfl (.cons rfl (.cons rfl (.cons rfl Subs.nil)))),hR,H⟩
      ·replace H:=M.ite_f hb_46 H
       rcases Uw (decide (Xx27 < 0)) with hb_47 | hb_47
       ·replace H:=M.ite_t hb_47 H
        refine Xt (rops:=Y0) (by kernel_rfl) ?_
        have hT:Tab Y0 _ _ _:=YV KAQ rfl (by kernel_rfl)
        have hM:=TabM.of qw
        refine Ux (m:=22) (fun w:World=>(fun h:Heap=>(KO h ((Xx42).add 1)=some (.int .i64 Xx44))∧(KO h ((Xx43).add 0)=some (.string Xx45))) w.heap) [9,10,11,12,13,14,15,16,17,18,19,20,21] (unb 22 0) mo hR (by kernel_rfl) (by kernel_rfl) (fun w' e=>by rw [e]; exact ⟨qXx44,qXx45⟩) (fun w hh hR hs=>?_)
        replace H:=M.at hh H; clear hh
        refine KB (i:=0) (v:=.pointer x0) (unb 22 1) rfl rfl hT (anyM hM (by kernel_rfl)) hE rfl (KA rfl) (fun w=>KG hE rfl) (fun a hE=>?_)
        refine KB (i:=1) (v:=.pointer (some Xx42)) (unb 22 3) rfl rfl hT (anyM hM (by kernel_rfl)) hE rfl (KA rfl) (fun w=>KL hE (Zv rfl (congrArg Value.pointer qXx42))) (fun a hE=>?_)
        refine KB (i:=2) (v:=.pointer (some ((Xx42).add 1))) (unb 22 7) rfl rfl hT (anyM hM (by kernel_rfl)) hE rfl (KA rfl) (fun w=>KH hE rfl ZI) (fun a hE=>?_)
        refine KB (i:=4) (v:=.pointer x0) (unb 22 23) rfl rfl hT (anyM hM (by kernel_rfl)) hE rfl (KA rfl) (fun w=>KG hE rfl) (fun a hE=>?_)
        refine KB (i:=5) (v:=.pointer (some Xx43)) (unb 22 55) rfl rfl hT (anyM hM (by kernel_rfl)) hE rfl (KA rfl) (fun w=>KL hE (Zv rfl (congrArg Value.pointer qXx43))) (fun a hE=>?_)
        refine KB (i:=6) (v:=.pointer (some ((Xx43).add 0))) (unb 22 119) rfl rfl hT (anyM hM (by kernel_rfl)) hE rfl (KA rfl) (fun w=>KH hE rfl Wk) (fun a hE=>?_)
        refine Jo (i:=3) (v:=.int .i64 Xx44) (unb 22 127) rfl rfl hT (Vt hM (by kernel_rfl)) hE rfl (KA rfl) hs (fun w s=>ZE hE rfl sc3 s.1) (fun a hE=>?_)
        refine Jo (i:=7) (v:=.string Xx45) (unb 22 255) rfl rfl hT (Vt hM (by kernel_rfl)) hE rfl (KA rfl) hs (fun w s=>ZE hE rfl sc9 s.2) (fun a hE=>?_)
        refine KB (i:=8) (v:=.int .i64 (Xx45.size:Int)) (unb 22 511) rfl rfl hT (anyM hM (by kernel_rfl)) hE rfl (KA rfl) (fun w=>YT hE rfl un9) (fun a hE=>?_)
        refine KB (i:=9) (v:=.bool (decide (Xx44 ≥ (Xx45.size:Int)))) (unb 22 1023) rfl rfl hT (anyM hM (by kernel_rfl)) hE rfl (KA rfl) (fun w=>ZH hE rfl rfl K9 KAZ) (fun a hE=>?_)
        refine KB (i:=10) (v:=.bool (decide (Xx44 ≥ (Xx45.size:Int)))) (unb 22 2047) rfl rfl hT (anyM hM (by kernel_rfl)) hE rfl (KA rfl) (fun w=>KG hE rfl) (fun a hE=>?_)
        have hE:=hE.reb 71 (decide (Xx44 ≥ (Xx45.size:Int))) false hb_46 rfl
        replace hE:=hE.cut (l':=[(0,.pointer x0),(4,.int .i64 Xx17),(5,.int .i64 Xx27),(71,.bool false)]) (.cons rfl (.cons rfl (.cons rfl (.cons rfl Subs.nil))))
        refine KB (i:=11) (v:=.int .i64 Xx27) (unb 22 4095) rfl rfl hT (anyM hM (by kernel_rfl)) hE rfl (KV rfl hE rfl rfl rfl) (fun w=>KG hE rfl) (fun a hE=>?_)
        refine KB (i:=12) (v:=.bool (decide (Xx27 < 0))) (unb 22 8191) rfl rfl hT (anyM hM (by kernel_rfl)) hE rfl (KV rfl hE rfl rfl rfl) (fun w=>ZH hE rfl rfl K9 KAF) (fun a hE=>?_)
        refine KB (i:=13) (v:=.bool (decide (Xx27 < 0))) (unb 22 16383) rfl rfl hT (anyM hM (by kernel_rfl)) hE rfl (KA rfl) (fun w=>Z8 hE rfl rfl) (fun a hE=>?_)
        refine KB (i:=14) (v:=.bool (decide (Xx27 < 0))) (unb 22 32767) rfl rfl hT (anyM hM (by kernel_rfl)) hE rfl (KA rfl) (fun w=>KG hE rfl) (fun a hE=>?_)
        have hE:=hE.reb 75 (decide (Xx27 < 0)) true hb_47 rfl
        replace hE:=hE.cut (l':=[(0,.pointer x0),(4,.int .i64 Xx17),(5,.int .i64 Xx27),(75,.bool true)]) (.cons rfl (.cons rfl (.cons rfl (.cons rfl Subs.nil))))
        refine qE [(15,some 76),(16,some 77),(17,some 78),(18,some 79),(19,some 80),(20,some 81)] 1 hT hM hE (by kernel_rfl) (m':=2097151) (by kernel_rfl) (fun a hE=>?_)
        refine KB (i:=21) (v:=.bool true) (unb 22 4194303) rfl rfl hT (anyM hM (by kernel_rfl)) hE rfl (KA rfl) (fun w=>Jn hE rfl rfl) (fun a hE=>?_)
        refine Wp hT (zK hM (by kernel_rfl)) ?_
        exact ⟨true,hE.cut (.cons rfl (.cons rfl (.cons rfl (.cons rfl Subs.nil)))),hR,H⟩
       ·replace H:=M.ite_f hb_47 H
        rcases Uw (Xx17 == 7) with hb_48 | hb_48
        ·replace H:=M.ite_t hb_48 H
         refine Xt (rops:=Y0) (by kernel_rfl) ?_
         have hT:Tab Y0 _ _ _:=YV KAQ rfl (by kernel_rfl)
         have hM:=TabM.of qw
         refine Ux (m:=22) (fun w:World=>(fun h:Heap=>(KO h ((Xx42).add 1)=some (.int .i64 Xx44))∧(KO h ((Xx43).add 0)=some (.string Xx45))) w.heap) [9,10,11,12,13,14,15,16,17,18,19,20,21] (unb 22 0) mo hR (by kernel_rfl) (by kernel_rfl) (fun w' e=>by rw [e]; exact ⟨qXx44,qXx45⟩) (fun w hh hR hs=>?_)
         replace H:=M.at hh H; clear hh
         refine KB (i:=0) (v:=.pointer x0) (unb 22 1) rfl rfl hT (anyM hM (by kernel_rfl)) hE rfl (KA rfl) (fun w=>KG hE rfl) (fun a hE=>?_)
         refine KB (i:=1) (v:=.pointer (some Xx42)) (unb 22 3) rfl rfl hT (anyM hM (by kernel_rfl)) hE rfl (KA rfl) (fun w=>KL hE (Zv rfl (congrArg Value.pointer qXx42))) (fun a hE=>?_)
         refine KB (i:=2) (v:=.pointer (some ((Xx42).add 1))) (unb 22 7) rfl rfl hT (anyM hM (by kernel_rfl)) hE rfl (KA rfl) (fun w=>KH hE rfl ZI) (fun a hE=>?_)
         refine KB (i:=4) (v:=.pointer x0) (unb 22 23) rfl rfl hT (anyM hM (by kernel_rfl)) hE rfl (KA rfl) (fun w=>KG hE rfl) (fun a hE=>?_)
         refine KB (i:=5) (v:=.pointer (some Xx43)) (unb 22 55) rfl rfl hT (anyM hM (by kernel_rfl)) hE rfl (KA rfl) (fun w=>KL hE (Zv rfl (congrArg Value.pointer qXx43))) (fun a hE=>?_)
         refine KB (i:=6) (v:=.pointer (some ((Xx43).add 0))) (unb 22 119) rfl rfl hT (anyM hM (by kernel_rfl)) hE rfl (KA rfl) (fun w=>KH hE rfl Wk) (fun a hE=>?_)
         refine Jo (i:=3) (v:=.int .i64 Xx44) (unb 22 127) rfl rfl hT (Vt hM (by kernel_rfl)) hE rfl (KA rfl) hs (fun w s=>ZE hE rfl sc3 s.1) (fun a hE=>?_)
         refine Jo (i:=7) (v:=.string Xx45) (unb 22 255) rfl rfl hT (Vt hM (by kernel_rfl)) hE rfl (KA rfl) hs (fun w s=>ZE hE rfl sc9 s.2) (fun a hE=>?_)
         refine KB (i:=8) (v:=.int .i64 (Xx45.size:Int)) (unb 22 511) rfl rfl hT (anyM hM (by kernel_rfl)) hE rfl (KA rfl) (fun w=>YT hE rfl un9) (fun a hE=>?_)
         refine KB (i:=9) (v:=.bool (decide (Xx44 ≥ (Xx45.size:Int)))) (unb 22 1023) rfl rfl hT (anyM hM (by kernel_rfl)) hE rfl (KA rfl) (fun w=>ZH hE rfl rfl K9 KAZ) (fun a hE=>?_)
         refine KB (i:=10) (v:=.bool (decide (Xx44 ≥ (Xx45.size:Int)))) (unb 22 2047) rfl rfl hT (anyM hM (by kernel_rfl)) hE rfl (KA rfl) (fun w=>KG hE rfl) (fun a hE=>?_)
         have hE:=hE.reb 71 (decide (Xx44 ≥ (Xx45.size:Int))) false hb_46 rfl
         replace hE:=hE.cut (l':=[(0,.pointer x0),(4,.int .i64 Xx17),(5,.int .i64 Xx27),(71,.bool false)]) (.cons rfl (.cons rfl (.cons rfl (.cons rfl Subs.nil))))
         refine KB (i:=11) (v:=.int .i64 Xx27) (unb 22 4095) rfl rfl hT (anyM hM (by kernel_rfl)) hE rfl (KV rfl hE rfl rfl rfl) (fun w=>KG hE rfl) (fun a hE=>?_)
         refine KB (i:=12) (v:=.bool (decide (Xx27 < 0))) (unb 22 8191) rfl rfl hT (anyM hM (by kernel_rfl)) hE rfl (KV rfl hE rfl rfl rfl) (fun w=>ZH hE rfl rfl K9 KAF) (fun a hE=>?_)
         refine KB (i:=13) (v:=.bool (decide (Xx27 < 0))) (unb 22 16383) rfl rfl hT (anyM hM (by kernel_rfl)) hE rfl (KA rfl) (fun w=>Z8 hE rfl rfl) (fun a hE=>?_)
         refine KB (i:=14) (v:=.bool (decide (Xx27 < 0))) (unb 22 32767) rfl rfl hT (anyM hM (by kernel_rfl)) hE rfl (KA rfl) (fun w=>KG hE rfl) (fun a hE=>?_)
         have hE:=hE.reb 75 (decide (Xx27 < 0)) false hb_47 rfl
         replace hE:=hE.cut (l':=[(0,.pointer x0),(4,.int .i64 Xx17),(5,.int .i64 Xx27),(75,.bool false)]) (.cons rfl (.cons rfl (.cons rfl (.cons rfl Subs.nil))))
         refine KB (i:=15) (v:=.int .i64 Xx17) (unb 22 65535) rfl rfl hT (anyM hM (by kernel_rfl)) hE rfl (KV rfl hE rfl rfl rfl) (fun w=>KG hE rfl) (fun a hE=>?_)
         refine KB (i:=16) (v:=.bool (Xx17 == 7)) (unb 22 131071) rfl rfl hT (anyM hM (by kernel_rfl)) hE rfl (KV rfl hE rfl rfl rfl) (fun w=>ZH hE rfl rfl K9 XG) (fun a hE=>?_)
         refine KB (i:=17) (v:=.bool (Xx17 == 7)) (unb 22 262143) rfl rfl hT (anyM hM (by kernel_rfl)) hE rfl (KV rfl hE rfl rfl rfl) (fun w=>KG hE rfl) (fun a hE=>?_)
         have hE:=hE.reb 78 (Xx17 == 7) true hb_48 rfl
         replace hE:=hE.cut (l':=[(0,.pointer x0),(4,.int .i64 Xx17),(5,.int .i64 Xx27),(75,.bool false),(78,.bool true)]) (.cons rfl (.cons rfl (.cons rfl (.cons rfl (.cons rfl Subs.nil)))))
         refine KB (i:=18) (v:=.int .i64 Xx27) (unb 22 524287) rfl rfl hT (anyM hM (by kernel_rfl)) hE rfl (KV rfl hE rfl rfl rfl) (fun w=>KG hE rfl) (fun a hE=>?_)
         refine KB (i:=19) (v:=.bool (decide (Xx27 < 15))) (unb 22 1048575) rfl rfl hT (anyM hM (by kernel_rfl)) hE rfl (KV rfl hE rfl rfl rfl) (fun w=>ZH hE rfl rfl K9 KAF) (fun a hE=>?_)
         refine KB (i:=20) (v:=.bool (decide (Xx27 < 15))) (unb 22 2097151) rfl rfl hT (anyM hM (by kernel_rfl)) hE rfl (KV rfl hE rfl rfl rfl) (fun w=>Jn hE rfl rfl) (fun a hE=>?_)
         refine KB (i:=21) (v:=.bool (decide (Xx27 < 15))) (unb 22 4194303) rfl rfl hT (anyM hM (by kernel_rfl)) hE rfl (KA rfl) (fun w=>Z8 hE rfl rfl) (fun a hE=>?_)
         refine Wp hT (zK hM (by kernel_rfl)) ?_
         exact ⟨decide (Xx27 < 15),hE.cut (.cons rfl (.cons rfl (.cons rfl (.cons rfl Subs.nil)))),hR,H⟩
        ·replace H:=M.ite_f hb_48 H
         refine Xt (rops:=Y0) (by kernel_rfl) ?_
         have hT:Tab Y0 _ _ _:=YV KAQ rfl (by kernel_rfl)
         have hM:=TabM.of qw
         refine Ux (m:=22) (fun w:World=>(fun h:Heap=>(KO h ((Xx42).add 1)=some (.int .i64 Xx44))∧(KO h ((Xx43).add 0)=some (.string Xx45))) w.heap) [9,10,11,12,13,14,15,16,17,18,19,20,21] (unb 22 0) mo hR (by kernel_rfl) (by kernel_rfl) (fun w' e=>by rw [e]; exact ⟨qXx44,qXx45⟩) (fun w hh hR hs=>?_)
         replace H:=M.at hh H; clear hh
         refine KB (i:=0) (v:=.pointer x0) (unb 22 1) rfl rfl hT (anyM hM (by kernel_rfl)) hE rfl (KA rfl) (fun w=>KG hE rfl) (fun a hE=>?_)
         refine KB (i:=1) (v:=.pointer (some Xx42)) (unb 22 3) rfl rfl hT (anyM hM (by kernel_rfl)) hE rfl (KA rfl) (fun w=>KL hE (Zv rfl (congrArg Value.pointer qXx42))) (fun a hE=>?_)
         refine KB (i:=2) (v:=.pointer (some ((Xx42).add 1))) (unb 22 7) rfl rfl hT (anyM hM (by kernel_rfl)) hE rfl (KA rfl) (fun w=>KH hE rfl ZI) (fun a hE=>?_)
         refine KB (i:=4) (v:=.pointer x0) (unb 22 23) rfl rfl hT (anyM hM (by kernel_rfl)) hE rfl (KA rfl) (fun w=>KG hE rfl) (fun a hE=>?_)
         refine KB (i:=5) (v:=.pointer (some Xx43)) (unb 22 55) rfl rfl hT (anyM hM (by kernel_rfl)) hE rfl (KA rfl) (fun w=>KL hE (Zv rfl (congrArg Value.pointer qXx43))) (fun a hE=>?_)
         refine KB (i:=6) (v:=.pointer (some ((Xx43).add 0))) (unb 22 119) rfl rfl hT (anyM hM (by kernel_rfl)) hE rfl (KA rfl) (fun w=>KH hE rfl Wk) (fun a hE=>?_)
         refine Jo (i:=3) (v:=.int .i64 Xx44) (unb 22 127) rfl rfl hT (Vt hM (by kernel_rfl)) hE rfl (KA rfl) hs (fun w s=>ZE hE rfl sc3 s.1) (fun a hE=>?_)
         refine Jo (i:=7) (v:=.string Xx45) (unb 22 255) rfl rfl hT (Vt hM (by kernel_rfl)) hE rfl (KA rfl) hs (fun w s=>ZE hE rfl sc9 s.2) (fun a hE=>?_)
         refine KB (i:=8) (v:=.int .i64 (Xx45.size:Int)) (unb 22 511) rfl rfl hT (anyM hM (by kernel_rfl)) hE rfl (KA rfl) (fun w=>YT hE rfl un9) (fun a hE=>?_)
         refine KB (i:=9) (v:=.bool (decide (Xx44 ≥ (Xx45.size:Int)))) (unb 22 1023) rfl rfl hT (anyM hM (by kernel_rfl)) hE rfl (KA rfl) (fun w=>ZH hE rfl rfl K9 KAZ) (fun a hE=>?_)
         refine KB (i:=10) (v:=.bool (decide (Xx44 ≥ (Xx45.size:Int)))) (unb 22 2047) rfl rfl hT (anyM hM (by kernel_rfl)) hE rfl (KA rfl) (fun w=>KG hE rfl) (fun a hE=>?_)
         have hE:=hE.reb 71 (decide (Xx44 ≥ (Xx45.size:Int))) false hb_46 rfl
         replace hE:=hE.cut (l':=[(0,.pointer x0),(4,.int .i64 Xx17),(5,.int .i64 Xx27),(71,.bool false)]) (.cons rfl (.cons rfl (.cons rfl (.cons rfl Subs.nil))))
         refine KB (i:=11) (v:=.int .i64 Xx27) (unb 22 4095) rfl rfl hT (anyM hM (by kernel_rfl)) hE rfl (KV rfl hE rfl rfl rfl) (fun w=>KG hE rfl) (fun a hE=>?_)
         refine KB (i:=12) (v:=.bool (decide (Xx27 < 0))) (unb 22 8191) rfl rfl hT (anyM hM (by kernel_rfl)) hE rfl (KV rfl hE rfl rfl rfl) (fun w=>ZH hE rfl rfl K9 KAF) (fun a hE=>?_)
         refine KB (i:=13) (v:=.bool (decide (Xx27 < 0))) (unb 22 16383) rfl rfl hT (anyM hM (by kernel_rfl)) hE rfl (KA rfl) (fun w=>Z8 hE rfl rfl) (fun a hE=>?_)
         refine KB (i:=14) (v:=.bool (decide (Xx27 < 0))) (unb 22 32767) rfl rfl hT (anyM hM (by kernel_rfl)) hE rfl (KA rfl) (fun w=>KG hE rfl) (fun a hE=>?_)
         have hE:=hE.reb 75 (decide (Xx27 < 0)) false hb_47 rfl
         replace hE:=hE.cut (l':=[(0,.pointer x0),(4,.int .i64 Xx17),(5,.int .i64 Xx27),(75,.bool false)]) (.cons rfl (.cons rfl (.cons rfl (.cons rfl Subs.nil))))
         refine KB (i:=15) (v:=.int .i64 Xx17) (unb 22 65535) rfl rfl hT (anyM hM (by kernel_rfl)) hE rfl (KV rfl hE rfl rfl rfl) (fun w=>KG hE rfl) (fun a hE=>?_)
         refine KB (i:=16) (v:=.bool (Xx17 == 7)) (unb 22 131071) rfl rfl hT (anyM hM (by kernel_rfl)) hE rfl (KV rfl hE rfl rfl rfl) (fun w=>ZH hE rfl rfl K9 XG) (fun a hE=>?_)
         refine KB (i:=17) (v:=.bool (Xx17 == 7)) (unb 22 262143) rfl rfl hT (anyM hM (by kernel_rfl)) hE rfl (KV rfl hE rfl rfl rfl) (fun w=>KG hE rfl) (fun a hE=>?_)
         have hE:=hE.reb 78 (Xx17 == 7) false hb_48 rfl
         replace hE:=hE.cut (l':=[(0,.pointer x0),(4,.int .i64 Xx17),(5,.int .i64 Xx27),(75,.bool false),(78,.bool false)]) (.cons rfl (.cons rfl (.cons rfl (.cons rfl (.cons rfl Subs.nil)))))
         refine KCH (i:=18) (unb 22 524287) rfl rfl hT (anyM hM (by kernel_rfl)) (Jv rfl hE rfl rfl rfl) (fun a ea=>?_)
         have hE:=Env.put_some hE rfl ea; clear ea
         refine KCH (i:=19) (unb 22 1048575) rfl rfl hT (anyM hM (by kernel_rfl)) (Jv rfl hE rfl rfl rfl) (fun a ea=>?_)
         have hE:=Env.put_some hE rfl ea; clear ea
         refine KB (i:=20) (v:=.bool false) (unb 22 2097151) rfl rfl hT (anyM hM (by kernel_rfl)) hE rfl (KV rfl hE rfl rfl rfl) (fun w=>Z8 hE rfl rfl) (fun a hE=>?_)
         refine KB (i:=21) (v:=.bool false) (unb 22 4194303) rfl rfl hT (anyM hM (by kernel_rfl)) hE rfl (KA rfl) (fun w=>Z8 hE rfl rfl) (fun a hE=>?_)
         refine Wp hT (zK hM (by kernel_rfl)) ?_
         exact ⟨false,hE.cut (.cons rfl (.cons rfl (.cons rfl (.cons rfl Subs.nil)))),hR,H⟩
   ·skip
    refine JG (fun a w=>∃ (Xx49:Bool),Env (⟨97,[]⟩:Frm) a [(0,.pointer x0),(4,.int .i64 Xx17),(48,.bool Xx49)]∧Rest w0 w∧(Kk x0 Xx17 Xx49).wp w.heap Q) ?_ ?_
    ·rintro a w ⟨Xx49,hE,hR,H⟩
     unfold Kk at H
     refine JB Xx49 hE rfl (fun hb=>?_) (fun hb=>?_)
     ·replace H:=M.ite_t hb H
      refine KF ?_
      refine KC (v:=.pointer x0) rfl rfl hE rfl (KG hE rfl) (fun a hE=>?_)
      refine Z0 hE hR Ku rfl (Kw x0) H (fun _ _ hR HQ=>hthr _ _ hR HQ) (fun Xx52 a w ea hR H=>?_)
      have hE:=Env.put_some hE rfl ea; clear ea
      refine KX ?_
      exact ⟨hE.cut (.cons rfl (.cons rfl Subs.nil)),hR,H⟩
     ·replace H:=M.ite_f hb H
      refine J2 ?_
      exact ⟨hE.cut (.cons rfl (.cons rfl Subs.nil)),hR,H⟩
    ·skip
     obtain ⟨Xx53,qXx53,H⟩:=H
     obtain ⟨Xx54,qXx54,H⟩:=H
     obtain ⟨Xx55,qXx55,H⟩:=H
     obtain ⟨Xx56,qXx56,H⟩:=H
     rcases Uw (decide (Xx55 ≥ (Xx56.size:Int))) with hb_57 | hb_57
     ·replace H:=M.ite_t hb_57 H
      refine Xt (rops:=GT) (by kernel_rfl) ?_
      have hT:Tab GT _ _ _:=YV KCt rfl (by kernel_rfl)
      have hM:=TabM.of KAR
      refine Ux (m:=22) (fun w:World=>(fun h:Heap=>(KO h ((Xx53).add 1)=some (.int .i64 Xx55))∧(KO h ((Xx54).add 0)=some (.string Xx56))) w.heap) [9,10,11,12,13,14,15,16,17,18,19,20,21] (unb 22 0) mo hR (by kernel_rfl) (by kernel_rfl) (fun w' e=>by rw [e]; exact ⟨qXx55,qXx56⟩) (fun w hh hR hs=>?_)
      replace H:=M.at hh H; clear hh
      refine KB (i:=0) (v:=.pointer x0) (unb 22 1) rfl rfl hT (anyM hM (by kernel_rfl)) hE rfl (KA rfl) (fun w=>KG hE rfl) (fun a hE=>?_)
      refine KB (i:=1) (v:=.pointer (some Xx53)) (unb 22 3) rfl rfl hT (anyM hM (by kernel_rfl)) hE rfl (KA rfl) (fun w=>KL hE (Zv rfl (congrArg Value.pointer qXx53))) (fun a hE=>?_)
      refine KB (i:=2) (v:=.pointer (some ((Xx53).add 1))) (unb 22 7) rfl rfl hT (anyM hM (by kernel_rfl)) hE rfl (KA rfl) (fun w=>KH hE rfl ZI) (fun a hE=>?_)
      refine KB (i:=4) (v:=.pointer x0) (unb 22 23) rfl rfl hT (anyM hM (by kernel_rfl)) hE rfl (KA rfl) (fun w=>KG hE rfl) (fun a hE=>?_)
      refine KB (i:=5) (v:=.pointer (some Xx54)) (unb 22 55) rfl rfl hT (anyM hM (by kernel_rfl)) hE rfl (KA rfl) (fun w=>KL hE (Zv rfl (congrArg Value.pointer qXx54))) (fun a hE=>?_)
      refine KB (i:=6) (v:=.pointer (some ((Xx54).add 0))) (unb 22 119) rfl rfl hT (anyM hM (by kernel_rfl)) hE rfl (KA rfl) (fun w=>KH hE rfl Wk) (fun a hE=>?_)
      refine Jo (i:=3) (v:=.int .i64 Xx55) (unb 22 127) rfl rfl hT (Vt hM (by kernel_rfl)) hE rfl (KA rfl) hs (fun w s=>ZE hE rfl sc3 s.1) (fun a hE=>?_)
      refine Jo (i:=7) (v:=.string Xx56) (unb 22 255) rfl rfl hT (Vt hM (by kernel_rfl)) hE rfl (KA rfl) hs (fun w s=>ZE hE rfl sc9 s.2) (fun a hE=>?_)
      refine KB (i:=8) (v:=.int .i64 (Xx56.size:Int)) (unb 22 511) rfl rfl hT (anyM hM (by kernel_rfl)) hE rfl (KA rfl) (fun w=>YT hE rfl un9) (fun a hE=>?_)
      refine KB (i:=9) (v:=.bool (decide (Xx55 ≥ (Xx56.size:Int)))) (unb 22 1023) rfl rfl hT (anyM hM (by kernel_rfl)) hE rfl (KA rfl) (fun w=>ZH hE rfl rfl K9 KAZ) (fun a hE=>?_)
      refine KB (i:=10) (v:=.bool (decide (Xx55 ≥ (Xx56.size:Int)))) (unb 22 2047) rfl rfl hT (anyM hM (by kernel_rfl)) hE rfl (KA rfl) (fun w=>KG hE rfl) (fun a hE=>?_)
      have hE:=hE.reb 37 (decide (Xx55 ≥ (Xx56.size:Int))) true hb_57 rfl
      replace hE:=hE.cut (l':=[(0,.pointer x0),(4,.int .i64 Xx17),(37,.bool true)]) (.cons rfl (.cons rfl (.cons rfl Subs.nil)))
      refine KCH (i:=11) (unb 22 4095) rfl rfl hT (anyM hM (by kernel_rfl)) (Jv rfl hE rfl rfl rfl) (fun a ea=>?_)
      have hE:=Env.put_some hE rfl ea; clear ea
      refine KCH (i:=12) (unb 22 8191) rfl rfl hT (anyM hM (by kernel_rfl)) (Jv rfl hE rfl rfl rfl) (fun a ea=>?_)
      have hE:=Env.put_some hE rfl ea; clear ea
      refine KB (i:=13) (v:=.bool true) (unb 22 16383) rfl rfl hT (anyM hM (by kernel_rfl)) hE rfl (KA rfl) (fun w=>Jn hE rfl rfl) (fun a hE=>?_)
      refine KB (i:=14) (v:=.bool true) (unb 22 32767) rfl rfl hT (anyM hM (by kernel_rfl)) hE rfl (KA rfl) (fun w=>KG hE rfl) (fun a hE=>?_)
      refine qE [(15,some 42),(16,some 43),(17,some 44),(18,some 45),(19,some 46),(20,some 47)] 1 hT hM hE (by kernel_rfl) (m':=2097151) (by kernel_rfl) (fun a hE=>?_)
      refine KB (i:=21) (v:=.bool true) (unb 22 4194303) rfl rfl hT (anyM hM (by kernel_rfl)) hE rfl (KA rfl) (fun w=>Jn hE rfl rfl) (fun a hE=>?_)
      refine Wp hT (zK hM (by kernel_rfl)) ?_
      exact ⟨true,hE.cut (.cons rfl (.cons rfl (.cons rfl Subs.nil))),hR,H⟩
     ·replace H:=M.ite_f hb_57 H
      rcases Uw (decide (Xx17 < 0)) with hb_58 | hb_58
      ·replace H:=M.ite_t hb_58 H
       refine Xt (rops:=GT) (by kernel_rfl) ?_
       have hT:Tab GT _ _ _:=YV KCt rfl (by kernel_rfl)
       have hM:=TabM.of KAR
       refine Ux (m:=22) (fun w:World=>(fun h:Heap=>(KO h ((Xx53).add 1)=some (.int .i64 Xx55))∧(KO h ((Xx54).add 0)=some (.string Xx56))) w.heap) [9,10,11,12,13,14,15,16,17,18,19,20,21] (unb 22 0) mo hR (by kernel_rfl) (by kernel_rfl) (fun w' e=>by rw [e]; exact ⟨qXx55,qXx56⟩) (fun w hh hR hs=>?_)
       replace H:=M.at hh H; clear hh
       refine KB (i:=0) (v:=.pointer x0) (unb 22 1) rfl rfl hT (anyM hM (by kernel_rfl)) hE rfl (KA rfl) (fun w=>KG hE rfl) (fun a hE=>?_)
       refine KB (i:=1) (v:=.pointer (some Xx53)) (unb 22 3) rfl rfl hT (anyM hM (by kernel_rfl)) hE rfl (KA rfl) (fun w=>KL hE (Zv rfl (congrArg Value.pointer qXx53))) (fun a hE=>?_)
       refine KB (i:=2) (v:=.pointer (some ((Xx53).add 1))) (unb 22 7) rfl rfl hT (anyM hM (by kernel_rfl)) hE rfl (KA rfl) (fun w=>KH hE rfl ZI) (fun a hE=>?_)
       refine KB (i:=4) (v:=.pointer x0) (unb 22 23) rfl rfl hT (anyM hM (by kernel_rfl)) hE rfl (KA rfl) (fun w=>KG hE rfl) (fun a hE=>?_)
       refine KB (i:=5) (v:=.pointer (some Xx54)) (unb 22 55) rfl rfl hT (anyM hM (by kernel_rfl)) hE rfl (KA rfl) (fun w=>KL hE (Zv rfl (congrArg Value.pointer qXx54))) (fun a hE=>?_)
       refine KB (i:=6) (v:=.pointer (some ((Xx54).add 0))) (unb 22 119) rfl rfl hT (anyM hM (by kernel_rfl)) hE rfl (KA rfl) (fun w=>KH hE rfl Wk) (fun a hE=>?_)
       refine Jo (i:=3) (v:=.int .i64 Xx55) (unb 22 127) rfl rfl hT (Vt hM (by kernel_rfl)) hE rfl (KA rfl) hs (fun w s=>ZE hE rfl sc3 s.1) (fun a hE=>?_)
       refine Jo (i:=7) (v:=.string Xx56) (unb 22 255) rfl rfl hT (Vt hM (by kernel_rfl)) hE rfl (KA rfl) hs (fun w s=>ZE hE rfl sc9 s.2) (fun a hE=>?_)
       refine KB (i:=8) (v:=.int .i64 (Xx56.size:Int)) (unb 22 511) rfl rfl hT (anyM hM (by kernel_rfl)) hE rfl (KA rfl) (fun w=>YT hE rfl un9) (fun a hE=>?_)
       refine KB (i:=9) (v:=.bool (decide (Xx55 ≥ (Xx56.size:Int)))) (unb 22 1023) rfl rfl hT (anyM hM (by kernel_rfl)) hE rfl (KA rfl) (fun w=>ZH hE rfl rfl K9 KAZ) (fun a hE=>?_)
       refine KB (i:=10) (v:=.bool (decide (Xx55 ≥ (Xx56.size:Int)))) (unb 22 2047) rfl rfl hT (anyM hM (by kernel_rfl)) hE rfl (KA rfl) (fun w=>KG hE rfl) (fun a hE=>?_)
       have hE:=hE.reb 37 (decide (Xx55 ≥ (Xx56.size:Int))) false hb_57 rfl
       replace hE:=hE.cut (l':=[(0,.pointer x0),(4,.int .i64 Xx17),(37,.bool false)]) (.cons rfl (.cons rfl (.cons rfl Subs.nil)))
       refine KB (i:=11) (v:=.int .i64 Xx17) (unb 22 4095) rfl rfl hT (anyM hM (by kernel_rfl)) hE rfl (KV rfl hE rfl rfl rfl) (fun w=>KG hE rfl) (fun a hE=>?_)
       refine KB (i:=12) (v:=.bool (decide (Xx17 < 0))) (unb 22 8191) rfl rfl hT (anyM hM (by kernel_rfl)) hE rfl (KV rfl hE rfl rfl rfl) (fun w=>ZH hE rfl rfl K9 KAF) (fun a hE=>?_)
       refine KB (i:=13) (v:=.bool (decide (Xx17 < 0))) (unb 22 16383) rfl rfl hT (anyM hM (by kernel_rfl)) hE rfl (KA rfl) (fun w=>Z8 hE rfl rfl) (fun a hE=>?_)
       refine KB (i:=14) (v:=.bool (decide (Xx17 < 0))) (unb 22 32767) rfl rfl hT (anyM hM (by kernel_rfl)) hE rfl (KA rfl) (fun w=>KG hE rfl) (fun a hE=>?_)
       have hE:=hE.reb 41 (decide (Xx17 < 0)) true hb_58 rfl
       replace hE:=hE.cut (l':=[(0,.pointer x0),(4,.int .i64 Xx17),(41,.bool true)]) (.cons rfl (.cons rfl (.cons rfl Subs.nil)))
       refine qE [(15,some 42),(16,some 43),(17,some 44),(18,some 45),(19,some 46),(20,some 47)] 1 hT hM hE (by kernel_rfl) (m':=2097151) (by kernel_rfl) (fun a hE=>?_)
       refine KB (i:=21) (v:=.bool true) (unb 22 4194303) rfl rfl hT (anyM hM (by kernel_rfl)) hE rfl (KA rfl) (fun w=>Jn hE rfl rfl) (fun a hE=>?_)
       refine Wp hT (zK hM (by kernel_rfl)) ?_
       exact ⟨true,hE.cut (.cons rfl (.cons rfl (.cons rfl Subs.nil))),hR,H⟩
      ·replace H:=M.ite_f hb_58 H
       rcases Uw (decide (Xx17 > 1)) with hb_59 | hb_59
       ·replace H:=M.ite_t hb_59 H
        refine Xt (rops:=GT) (by kernel_rfl) ?_
        have hT:Tab GT _ _ _:=YV KCt rfl (by kernel_rfl)
        have hM:=TabM.of KAR
        refine Ux (m:=22) (fun w:World=>(fun h:Heap=>(KO h ((Xx53).add 1)=some (.int .i64 Xx55))∧(KO h ((Xx54).add 0)=some (.string Xx56))) w.heap) [9,10,11,12,13,14,15,16,17,18,19,20,21] (unb 22 0) mo hR (by kernel_rfl) (by kernel_rfl) (fun w' e=>by rw [e]; exact ⟨qXx55,qXx56⟩) (fun w hh hR hs=>?_)
        replace H:=M.at hh H; clear hh
        refine KB (i:=0) (v:=.pointer x0) (unb 22 1) rfl rfl hT (anyM hM (by kernel_rfl)) hE rfl (KA rfl) (fun w=>KG hE rfl) (fun a hE=>?_)
        refine KB (i:=1) (v:=.pointer (some Xx53)) (unb 22 3) rfl rfl hT (anyM hM (by kernel_rfl)) hE rfl (KA rfl) (fun w=>KL hE (Zv rfl (congrArg Value.pointer qXx53))) (fun a hE=>?_)
        refine KB (i:=2) (v:=.pointer (some ((Xx53).add 1))) (unb 22 7) rfl rfl hT (anyM hM (by kernel_rfl)) hE rfl (KA rfl) (fun w=>KH hE rfl ZI) (fun a hE=>?_)
        refine KB (i:=4) (v:=.pointer x0) (unb 22 23) rfl rfl hT (anyM hM (by kernel_rfl)) hE rfl (KA rfl) (fun w=>KG hE rfl) (fun a hE=>?_)
        refine KB (i:=5) (v:=.pointer (some Xx54)) (unb 22 55) rfl rfl hT (anyM hM (by kernel_rfl)) hE rfl (KA rfl) (fun w=>KL hE (Zv rfl (congrArg Value.pointer qXx54))) (fun a hE=>?_)
        refine KB (i:=6) (v:=.pointer (some ((Xx54).add 0))) (unb 22 119) rfl rfl hT (anyM hM (by kernel_rfl)) hE rfl (KA rfl) (fun w=>KH hE rfl Wk) (fun a hE=>?_)
        refine Jo (i:=3) (v:=.int .i64 Xx55) (unb 22 127) rfl rfl hT (Vt hM (by kernel_rfl)) hE rfl (KA rfl) hs (fun w s=>ZE hE rfl sc3 s.1) (fun a hE=>?_)
        refine Jo (i:=7) (v:=.string Xx56) (unb 22 255) rfl rfl hT (Vt hM (by kernel_rfl)) hE rfl (KA rfl) hs (fun w s=>ZE hE rfl sc9 s.2) (fun a hE=>?_)
        refine KB (i:=8) (v:=.int .i64 (Xx56.size:Int)) (unb 22 511) rfl rfl hT (anyM hM (by kernel_rfl)) hE rfl (KA rfl) (fun w=>YT hE rfl un9) (fun a hE=>?_)
        refine KB (i:=9) (v:=.bool (decide (Xx55 ≥ (Xx56.size:Int)))) (unb 22 1023) rfl rfl hT (anyM hM (by kernel_rfl)) hE rfl (KA rfl) (fun w=>ZH hE rfl rfl K9 KAZ) (fun a hE=>?_)
        refine KB (i:=10) (v:=.bool (decide (Xx55 ≥ (Xx56.size:Int)))) (unb 22 2047) rfl rfl hT (anyM hM (by kernel_rfl)) hE rfl (KA rfl) (fun w=>KG hE rfl) (fun a hE=>?_)
        have hE:=hE.reb 37 (decide (Xx55 ≥ (Xx56.size:Int))) false hb_57 rfl
        replace hE:=hE.cut (l':=[(0,.pointer x0),(4,.int .i64 Xx17),(37,.bool false)]) (.cons rfl (.cons rfl (.cons rfl Subs.nil)))
        refine KB (i:=11) (v:=.int .i64 Xx17) (unb 22 4095) rfl rfl hT (anyM hM (by kernel_rfl)) hE rfl (KV rfl hE rfl rfl rfl) (fun w=>KG hE rfl) (fun a hE=>?_)
        refine KB (i:=12) (v:=.bool (decide (Xx17 < 0))) (unb 22 8191) rfl rfl hT (anyM hM (by kernel_rfl)) hE rfl (KV rfl hE rfl rfl rfl) (fun w=>ZH hE rfl rfl K9 KAF) (fun a hE=>?_)
        refine KB (i:=13) (v:=.bool (decide (Xx17 < 0))) (unb 22 16383) rfl rfl hT (anyM hM (by kernel_rfl)) hE rfl (KA rfl) (fun w=>Z8 hE rfl rfl) (fun a hE=>?_)
        refine KB (i:=14) (v:=.bool (decide (Xx17 < 0))) (unb 22 32767) rfl rfl hT (anyM hM (by kernel_rfl)) hE rfl (KA rfl) (fun w=>KG hE rfl) (fun a hE=>?_)
        have hE:=hE.reb 41 (decide (Xx17 < 0)) false hb_58 rfl
        replace hE:=hE.cut (l':=[(0,.pointer x0),(4,.int .i64 Xx17),(41,.bool false)]) (.cons rfl (.cons rfl (.cons rfl Subs.nil)))
        refine KB (i:=15) (v:=.int .i64 Xx17) (unb 22 65535) rfl rfl hT (anyM hM (by kernel_rfl)) hE rfl (KV rfl hE rfl rfl rfl) (fun w=>KG hE rfl) (fun a hE=>?_)
        refine KB (i:=16) (v:=.bool (decide (Xx17 > 1))) (unb 22 131071) rfl rfl hT (anyM hM (by kernel_rfl)) hE rfl (KV rfl hE rfl rfl rfl) (fun w=>ZH hE rfl rfl K9 KDN) (fun a hE=>?_)
        refine KB (i:=17) (v:=.bool (decide (Xx17 > 1))) (unb 22 262143) rfl rfl hT (anyM hM (by kernel_rfl)) hE rfl (KV rfl hE rfl rfl rfl) (fun w=>KG hE rfl) (fun a hE=>?_)
        have hE:=hE.reb 44 (decide (Xx17 > 1)) true hb_59 rfl
        replace hE:=hE.cut (l':=[(0,.pointer x0),(4,.int .i64 Xx17),(41,.bool false),(44,.bool true)]) (.cons rfl (.cons rfl (.cons rfl (.cons rfl Subs.nil))))
        refine KB (i:=18) (v:=.int .i64 Xx17) (unb 22 524287) rfl rfl hT (anyM hM (by kernel_rfl)) hE rfl (KV rfl hE rfl rfl rfl) (fun w=>KG hE rfl) (fun a hE=>?_)
        refine KB (i:=19) (v:=.bool (decide (Xx17 < 7))) (unb 22 1048575) rfl rfl hT (anyM hM (by kernel_rfl)) hE rfl (KV rfl hE rfl rfl rfl) (fun w=>ZH hE rfl rfl K9 KAF) (fun a hE=>?_)
        refine KB (i:=20) (v:=.bool (decide (Xx17 < 7))) (unb 22 2097151) rfl rfl hT (anyM hM (by kernel_rfl)) hE rfl (KV rfl hE rfl rfl rfl) (fun w=>Jn hE rfl rfl) (fun a hE=>?_)
        refine KB (i:=21) (v:=.bool (decide (Xx17 < 7))) (unb 22 4194303) rfl rfl hT (anyM hM (by kernel_rfl)) hE rfl (KA rfl) (fun w=>Z8 hE rfl rfl) (fun a hE=>?_)
        refine Wp hT (zK hM (by kernel_rfl)) ?_
        exact ⟨decide (Xx17 < 7),hE.cut (.cons rfl (.cons rfl (.cons rfl Subs.nil))),hR,H⟩
       ·replace H:=M.ite_f hb_59 H
        refine Xt (rops:=GT) (by kernel_rfl) ?_
        have hT:Tab GT _ _ _:=YV KCt rfl (by kernel_rfl)
        have hM:=TabM.of KAR
        refine Ux (m:=22) (fun w:World=>(fun h:Heap=>(KO h ((Xx53).add 1)=some (.int .i64 Xx55))∧(KO h ((Xx54).add 0)=some (.string Xx56))) w.heap) [9,10,11,12,13,14,15,16,17,18,19,20,21] (unb 22 0) mo hR (by kernel_rfl) (by kernel_rfl) (fun w' e=>by rw [e]; exact ⟨qXx55,qXx56⟩) (fun w hh hR hs=>?_)
        replace H:=M.at hh H; clear hh
        refine KB (i:=0) (v:=.pointer x0) (unb 22 1) rfl rfl hT (anyM hM (by kernel_rfl)) hE rfl (KA rfl) (fun w=>KG hE rfl) (fun a hE=>?_)
        refine KB (i:=1) (v:=.pointer (some Xx53)) (unb 22 3) rfl rfl hT (anyM hM (by kernel_rfl)) hE rfl (KA rfl) (fun w=>KL hE (Zv rfl (congrArg Value.pointer qXx53))) (fun a hE=>?_)
        refine KB (i:=2) (v:=.pointer (some ((Xx53).add 1))) (unb 22 7) rfl rfl hT (anyM hM (by kernel_rfl)) hE rfl (KA rfl) (fun w=>KH hE rfl ZI) (fun a hE=>?_)
        refine KB (i:=4) (v:=.pointer x0) (unb 22 23) rfl rfl hT (anyM hM (by kernel_rfl)) hE rfl (KA rfl) (fun w=>KG hE rfl) (fun a hE=>?_)
        refine KB (i:=5) (v:=.pointer (some Xx54)) (unb 22 55) rfl rfl hT (anyM hM (by kernel_rfl)) hE rfl (KA rfl) (fun w=>KL hE (Zv rfl (congrArg Value.pointer qXx54))) (fun a hE=>?_)
        refine KB (i:=6) (v:=.pointer (some ((Xx54).add 0))) (unb 22 119) rfl rfl hT (anyM hM (by kernel_rfl)) hE rfl (KA rfl) (fun w=>KH hE rfl Wk) (fun a hE=>?_)
        refine Jo (i:=3) (v:=.int .i64 Xx55) (unb 22 127) rfl rfl hT (Vt hM (by kernel_rfl)) hE rfl (KA rfl) hs (fun w s=>ZE hE rfl sc3 s.1) (fun a hE=>?_)
        refine Jo (i:=7) (v:=.string Xx56) (unb 22 255) rfl rfl hT (Vt hM (by kernel_rfl)) hE rfl (KA rfl) hs (fun w s=>ZE hE rfl sc9 s.2) (fun a hE=>?_)
        refine KB (i:=8) (v:=.int .i64 (Xx56.size:Int)) (unb 22 511) rfl rfl hT (anyM hM (by kernel_rfl)) hE rfl (KA rfl) (fun w=>YT hE rfl un9) (fun a hE=>?_)
        refine KB (i:=9) (v:=.bool (decide (Xx55 ≥ (Xx56.size:Int)))) (unb 22 1023) rfl rfl hT (anyM hM (by kernel_rfl)) hE rfl (KA rfl) (fun w=>ZH hE rfl rfl K9 KAZ) (fun a hE=>?_)
        refine KB (i:=10) (v:=.bool (decide (Xx55 ≥ (Xx56.size:Int)))) (unb 22 2047) rfl rfl hT (anyM hM (by kernel_rfl)) hE rfl (KA rfl) (fun w=>KG hE rfl) (fun a hE=>?_)
        have hE:=hE.reb 37 (decide (Xx55 ≥ (Xx56.size:Int))) false hb_57 rfl
        replace hE:=hE.cut (l':=[(0,.pointer x0),(4,.int .i64 Xx17),(37,.bool false)]) (.cons rfl (.cons rfl (.cons rfl Subs.nil)))
        refine KB (i:=11) (v:=.int .i64 Xx17) (unb 22 4095) rfl rfl hT (anyM hM (by kernel_rfl)) hE rfl (KV rfl hE rfl rfl rfl) (fun w=>KG hE rfl) (fun a hE=>?_)
        refine KB (i:=12) (v:=.bool (decide (Xx17 < 0))) (unb 22 8191) rfl rfl hT (anyM hM (by kernel_rfl)) hE rfl (KV rfl hE rfl rfl rfl) (fun w=>ZH hE rfl rfl K9 KAF) (fun a hE=>?_)
        refine KB (i:=13) (v:=.bool (decide (Xx17 < 0))) (unb 22 16383) rfl rfl hT (anyM hM (by kernel_rfl)) hE rfl (KA rfl) (fun w=>Z8 hE rfl rfl) (fun a hE=>?_)
        refine KB (i:=14) (v:=.bool (decide (Xx17 < 0))) (unb 22 32767) rfl rfl hT (anyM hM (by kernel_rfl)) hE rfl (KA rfl) (fun w=>KG hE rfl) (fun a hE=>?_)
        have hE:=hE.reb 41 (decide (Xx17 < 0)) false hb_58 rfl
        replace hE:=hE.cut (l':=[(0,.pointer x0),(4,.int .i64 Xx17),(41,.bool false)]) (.cons rfl (.cons rfl (.cons rfl Subs.nil)))
        refine KB (i:=15) (v:=.int .i64 Xx17) (unb 22 65535) rfl rfl hT (anyM hM (by kernel_rfl)) hE rfl (KV rfl hE rfl rfl rfl) (fun w=>KG hE rfl) (fun a hE=>?_)
        refine KB (i:=16) (v:=.bool (decide (Xx17 > 1))) (unb 22 131071) rfl rfl hT (anyM hM (by kernel_rfl)) hE rfl (KV rfl hE rfl rfl rfl) (fun w=>ZH hE rfl rfl K9 KDN) (fun a hE=>?_)
        refine KB (i:=17) (v:=.bool (decide (Xx17 > 1))) (unb 22 262143) rfl rfl hT (anyM hM (by kernel_rfl)) hE rfl (KV rfl hE rfl rfl rfl) (fun w=>KG hE rfl) (fun a hE=>?_)
        have hE:=hE.reb 44 (decide (Xx17 > 1)) false hb_59 rfl
        replace hE:=hE.cut (l':=[(0,.pointer x0),(4,.int .i64 Xx17),(41,.bool false),(44,.bool false)]) (.cons rfl (.cons rfl (.cons rfl (.cons rfl Subs.nil))))
        refine KCH (i:=18) (unb 22 524287) rfl rfl hT (anyM hM (by kernel_rfl)) (Jv rfl hE rfl rfl rfl) (fun a ea=>?_)
        have hE:=Env.put_some hE rfl ea; clear ea
        refine KCH (i:=19) (unb 22 1048575) rfl rfl hT (anyM hM (by kernel_rfl)) (Jv rfl hE rfl rfl rfl) (fun a ea=>?_)
        have hE:=Env.put_some hE rfl ea; clear ea
        refine KB (i:=20) (v:=.bool false) (unb 22 2097151) rfl rfl hT (anyM hM (by kernel_rfl)) hE rfl (KV rfl hE rfl rfl rfl) (fun w=>Z8 hE rfl rfl) (fun a hE=>?_)
        refine KB (i:=21) (v:=.bool false) (unb 22 4194303) rfl rfl hT (anyM hM (by kernel_rfl)) hE rfl (KA rfl) (fun w=>Z8 hE rfl rfl) (fun a hE=>?_)
        refine Wp hT (zK hM (by kernel_rfl)) ?_
        exact ⟨false,hE.cut (.cons rfl (.cons rfl (.cons rfl Subs.nil))),hR,H⟩
end Gx
namespace Gx
open Go
set_option linter.unusedVariables false
set_option maxRecDepth 100000
def Z3 (self1:(Sl)→M (Value ⊕ (ByteArray))) (C24:Sl) (Xx22:Int):M (Value ⊕ (ByteArray)):=do
 let Xx25←bdL KU 1 #[.int .u8 Xx22]
 let Xx26←apL KU 1 1 (#[.int .u8 0]:Array Value) C24 Xx25
 self1 Xx26
def Jb (self1:(Sl)→M (Value ⊕ (ByteArray))) (C14:Option Addr) (C15:Sl) (C16:Int):M (Value ⊕ (ByteArray)):=do
 let Xx18←nilP C14
 let Xx19←ldI .i64 ((Xx18).add 1)
 let Xx20←nilP C14
 stV ((Xx20).add 1) (.int .i64 (IntKind.wrap .i64 (Xx19+1)))
 M.ite (C16 == 92) (do
  thr (JT C14) fun Xx28=>do
   Z3 self1 C15 Xx28
  ) (do
  Z3 self1 C15 C16
  )
def UL (C7:Option Addr) (self1:(Sl)→M (Value ⊕ (ByteArray))):(Sl)→M (Value ⊕ (ByteArray)):=fun s=>match s with
 | Xx6=>do
  let Xx11←Kg C7
  M.ite (Xx11 != 39) (do
   let Xx13←Kg C7
   let Xx30←M.ite (decide (Xx13 < 32)) (do
    M.pure true
    ) (do
    M.pure (decide (Xx13 > 126))
    )
   M.ite Xx30 (do
    thr (Kl C7) fun Xx31=>do
     Jb self1 C7 Xx6 Xx13
    ) (do
    Jb self1 C7 Xx6 Xx13
    )
   ) (do
   let Xx33←nilP C7
   let Xx34←ldI .i64 ((Xx33).add 1)
   let Xx35←nilP C7
   stV ((Xx35).add 1) (.int .i64 (IntKind.wrap .i64 (Xx34+1)))
   let Xx38←b2s Xx6
   M.pure (.inr Xx38)
   )
def UR (x0:Option Addr):M (Value ⊕ (ByteArray)):=do
 thr (Kv x0 (⟨#[39]⟩:ByteArray)) fun Xx5=>do
  M.loop (UL x0) Sl.nil
theorem qy (x0:Option Addr):XF Go.Proofs.Tryz.prog 243 #[.pointer x0] (fun (r:ByteArray)=>.string r) (UR x0):=by
 refine WE [(0,.pointer x0)] Go.Proofs.Tryz.func243 rfl rfl (Nat.le_of_ble_eq_true rfl) (Vs ⟨rfl,trivial⟩) (fun w0 w Q R X a hret hthr hE hR H=>?_)
 unfold UR at H
 refine KY (fun K hK_1=>?_)
 refine KF ?_
 refine KC (v:=.string ByteArray.empty) rfl rfl hE rfl (Kc hE rfl) (fun a hE=>?_)
 refine KX ?_
 refine hK_1 _ _ ?_
 refine KY (fun K hK_2=>?_)
 refine KF ?_
 refine KC (v:=(Sl.nil:Sl).v) rfl rfl hE rfl (Kc hE rfl) (fun a hE=>?_)
 refine KX ?_
 refine hK_2 _ _ ?_
 refine KY (fun K hK_3=>?_)
 refine KY (fun K hK_4=>?_)
 refine KF ?_
 refine KC (v:=.pointer x0) rfl rfl hE rfl (KG hE rfl) (fun a hE=>?_)
 refine Z0 hE hR ZF rfl (ZL x0 (⟨#[39]⟩:ByteArray)) H (fun _ _ hR HQ=>hthr _ _ hR HQ) (fun Xx5 a w ea hR H=>?_)
 have hE:=Env.put_some hE rfl ea; clear ea
 refine KX ?_
 refine hK_4 _ _ ?_
 refine WY ?_
 refine KDP (fun (s:Sl)=>(⟨44,[]⟩:Frm)) (fun (s:Sl)=>[(0,.pointer x0),(3,(s:Sl).v)]) H (hE.cut (.cons rfl (.cons rfl Subs.nil))) hR (fun Y self1 hY_8 Xx6 a w hE hR H=>?_)
 replace hE:Env (⟨44,[]⟩:Frm) a [(0,.pointer x0),(3,(Xx6:Sl).v)]:=hE
 replace H:(UL x0 self1 Xx6).wp w.heap Q:=H
 unfold UL at H
 refine KY (fun K hK_9=>?_)
 refine KY (fun K hK_10=>?_)
 refine KF ?_
 refine KC (v:=.pointer x0) rfl rfl hE rfl (KG hE rfl) (fun a hE=>?_)
 refine UN hE hR Kh rfl (Ko x0) (M.unbind H) (fun Xx11 a w ea hR H=>?_)
 have hE:=Env.put_some hE rfl ea; clear ea
 refine KC (v:=.bool (Xx11 != 39)) rfl rfl hE rfl (ZH hE rfl rfl K9 KDM) (fun a hE=>?_)
 refine KX ?_
 refine hK_10 _ _ ?_
 refine JB (Xx11 != 39) hE rfl (fun hb=>?_) (fun hb=>?_)
 ·replace H:=M.ite_t hb H
  refine J2 ?_
  refine hK_9 _ _ ?_
  refine WY ?_
  refine KY (fun K hK_12=>?_)
  refine KF ?_
  refine KC (v:=.pointer x0) rfl rfl hE rfl (KG hE rfl) (fun a hE=>?_)
  refine UN hE hR Kh rfl (Ko x0) (M.unbind H) (fun Xx13 a w ea hR H=>?_)
  have hE:=Env.put_some hE rfl ea; clear ea
  refine KC (v:=.int .u8 Xx13) rfl rfl hE rfl (Kc hE rfl) (fun a hE=>?_)
  refine KX ?_
  refine hK_12 _ _ ?_
  refine JG (fun a w=>Env (⟨44,[]⟩:Frm) a [(0,.pointer x0),(3,(Xx6:Sl).v),(4,.int .u8 Xx13)]∧Rest w0 w∧(Jb self1 x0 Xx6 Xx13).wp w.heap Q) ?_ ?_
  ·rintro a w ⟨hE,hR,H⟩
   unfold Jb at H
   refine KY (fun K hK_17=>?_)
   refine KF ?_
   refine KC (v:=.pointer x0) rfl rfl hE rfl (KG hE rfl) (fun a hE=>?_)
   obtain ⟨Xx18,qXx18,H⟩:=H
   refine KC (v:=.pointer (some Xx18)) rfl rfl hE rfl (KL hE (Zv rfl (congrArg Value.pointer qXx18))) (fun a hE=>?_)
   refine KC (v:=.pointer (some ((Xx18).add 1))) rfl rfl hE rfl (KH hE rfl ZI) (fun a hE=>?_)
   obtain ⟨Xx19,qXx19,H⟩:=H
   refine KC (v:=.int .i64 Xx19) rfl rfl hE rfl (ZE hE rfl sc3 qXx19) (fun a hE=>?_)
   refine KC (v:=.int .i64 (IntKind.wrap .i64 (Xx19+1))) rfl rfl hE rfl (ZH hE rfl rfl K9 X8) (fun a hE=>?_)
   obtain ⟨Xx20,qXx20,H⟩:=H
   refine KC (v:=.pointer (some Xx20)) rfl rfl hE rfl (KL hE (Zv rfl (congrArg Value.pointer qXx20))) (fun a hE=>?_)
   refine KC (v:=.pointer (some ((Xx20).add 1))) rfl rfl hE rfl (KH hE rfl ZI) (fun a hE=>?_)
   obtain ⟨u_21,qu_21,H⟩:=H
   refine Uc rfl rfl hE hR (Zb hE rfl rfl sz3 qu_21) (fun a w hE hR hh=>?_)
   replace H:=M.at hh H; clear hh
   refine KX ?_
   refine hK_17 _ _ ?_
   refine JG (fun a w=>∃ (Xx22:Int),Env (⟨44,[]⟩:Frm) a [(0,.pointer x0),(3,(Xx6:Sl).v),(4,.int .u8 Xx22)]∧Rest w0 w∧(Z3 self1 Xx6 Xx22).wp w.heap Q) ?_ ?_
   ·rintro a w ⟨Xx22,hE,hR,H⟩
    unfold Z3 at H
    refine KF ?_
    refine KC (v:=(Xx6:Sl).v) rfl rfl hE rfl (KG hE rfl) (fun a hE=>?_)
    refine KC (v:=.int .u8 Xx22) rfl rfl hE rfl (KG hE rfl) (fun a hE=>?_)
    obtain ⟨Xx25,qXx25,H⟩:=H
    refine YU (v:=(Xx25:Sl).v) rfl rfl hE rfl hR (GX (cells:=#[.int .u8 Xx22]) hE rfl un44 sz5 zr5 rfl rfl qXx25) (fun a w hE hR hh=>?_)
    replace H:=M.at hh H; clear hh
    refine t_ex (fun Xx26=>(Xx26:Sl).v) rfl rfl hR (M.unbind H) (fun Q H=>KDT hE rfl rfl ap44 H) (fun Xx26 a w ea hR H=>?_)
    have hE:=Env.put_some hE rfl ea; clear ea
    refine KC (v:=(Xx26:Sl).v) rfl rfl hE rfl (Kc hE rfl) (fun a hE=>?_)
    refine KX ?_
    exact hY_8 Xx26 _ _ (hE.cut (.cons rfl (.cons rfl Subs.nil))) hR H
   ·skip
    refine KY (fun K hK_27=>?_)
    refine KF ?_
    refine KC (v:=.int .u8 Xx13) rfl rfl hE rfl (KG hE rfl) (fun a hE=>?_)
    refine KC (v:=.bool (Xx13 == 92)) rfl rfl hE rfl (ZH hE rfl rfl K9 XG) (fun a hE=>?_)
    refine KX ?_
    refine hK_27 _ _ ?_
    refine JB (Xx13 == 92) hE rfl (fun hb=>?_) (fun hb=>?_)
    ·replace H:=M.ite_t hb H
     refine KF ?_
     refine KC (v:=.pointer x0) rfl rfl hE rfl (KG hE rfl) (fun a hE=>?_)
     refine Z0 hE hR Xh rfl (X6 x0) H (fun _ _ hR HQ=>Xu.ne rfl (Xu.ne rfl (hthr _ _ hR HQ))) (fun Xx28 a w ea hR H=>?_)
     have hE:=Env.put_some hE rfl ea; clear ea
     refine KC (v:=.int .u8 Xx28) rfl rfl hE rfl (Kc hE rfl) (fun a hE=>?_)
     refine KX ?_
     exact ⟨Xx28,hE.cut (.cons rfl (.cons rfl (.cons rfl Subs.nil))),hR,H⟩
    ·replace H:=M.ite_f hb H
     refine J2 ?_
     exact ⟨Xx13,hE.cut (.cons rfl (.cons rfl (.cons rfl Subs.nil))),hR,H⟩
  ·skip
   refine KY (fun K hK_29=>?_)
   refine KF ?_
   refine KC (v:=.int .u8 Xx13) rfl rfl hE rfl (KG hE rfl) (fun a hE=>?_)
   refine KC (v:=.bool (decide (Xx13 < 32))) rfl rfl hE rfl (ZH hE rfl rfl K9 KAF) (fun a hE=>?_)
   refine KC (v:=.bool (decide (Xx13 < 32))) rfl rfl hE rfl (KG hE rfl) (fun a hE=>?_)
   refine KDO (n:=(⟨44,[]⟩:Frm)) (w0:=w0) 3 (fun Xx30:Bool=>[(0,.pointer x0),(3,(Xx6:Sl).v),(4,.int .u8 Xx13),(17,.bool Xx30)]) (M.unbind H) (fun Kr hKr H=>?_) ?_
   ·rcases Uw (decide (Xx13 < 32)) with hb | hb
    ·replace H:=M.ite_t hb H
     have hE:=hE.reb 14 (decide (Xx13 < 32)) true hb rfl
     refine Xx rfl hE rfl rfl rfl (fun a ea=>?_)
     have hE:=Env.put_some hE rfl ea; clear ea
     refine Xx rfl hE rfl rfl rfl (fun a ea=>?_)
     have hE:=Env.put_some hE rfl ea; clear ea
     refine KC rfl rfl hE rfl (Jn hE rfl rfl) (fun a hE=>?_)
     refine KX ?_
     exact hKr _ _ _ (hE.cut (.cons rfl (.cons rfl (.cons rfl (.cons rfl Subs.nil))))) hR H
    ·replace H:=M.ite_f hb H
     have hE:=hE.reb 14 (decide (Xx13 < 32)) false hb rfl
     refine t_on rfl hE rfl rfl rfl ?_
     refine KC (v:=.int .u8 Xx13) rfl rfl hE rfl (KG hE rfl) (fun a hE=>?_)
     refine t_on rfl hE rfl rfl rfl ?_
     refine KC (v:=.bool (decide (Xx13 > 126))) rfl rfl hE rfl (ZH hE rfl rfl K9 KDN) (fun a hE=>?_)
     refine KC rfl rfl hE rfl (Z8 hE rfl rfl) (fun a hE=>?_)
     refine KX ?_
     exact hKr _ _ _ (hE.cut (.cons rfl (.cons rfl (.cons rfl (.cons rfl Subs.nil))))) hR H
   ·intro Xx30 a w hE hR H
    refine KX ?_
    refine hK_29 _ _ ?_
    refine JB Xx30 hE rfl (fun hb=>?_) (fun hb=>?_)
    ·replace H:=M.ite_t hb H
     refine KF ?_
     refine KC (v:=.pointer x0) rfl rfl hE rfl (KG hE rfl) (fun a hE=>?_)
     refine Z0 hE hR Ku rfl (Kw x0) H (fun _ _ hR HQ=>Xu.ne rfl (Xu.ne rfl (hthr _ _ hR HQ))) (fun Xx31 a w ea hR H=>?_)
     have hE:=Env.put_some hE rfl ea; clear ea
     refine KX ?_
     exact ⟨hE.cut (.cons rfl (.cons rfl (.cons rfl Subs.nil))),hR,H⟩
    ·replace H:=M.ite_f hb H
     refine J2 ?_
     exact ⟨hE.cut (.cons rfl (.cons rfl (.cons rfl Subs.nil))),hR,H⟩
 ·replace H:=M.ite_f hb H
  refine KDI ?_
  refine Xu.same ?_
  refine hK_3 _ _ ?_
  refine KY (fun K hK_32=>?_)
  refine KF ?_
  refine KC (v:=.pointer x0) rfl rfl hE rfl (KG hE rfl) (fun a hE=>?_)
  obtain ⟨Xx33,qXx33,H⟩:=H
  refine KC (v:=.pointer (some Xx33)) rfl rfl hE rfl (KL hE (Zv rfl (congrArg Value.pointer qXx33))) (fun a hE=>?_)
  refine KC (v:=.pointer (some ((Xx33).add 1))) rfl rfl hE rfl (KH hE rfl ZI) (fun a hE=>?_)
  obtain ⟨Xx34,qXx34,H⟩:=H
  refine KC (v:=.int .i64 Xx34) rfl rfl hE rfl (ZE hE rfl sc3 qXx34) (fun a hE=>?_)
  refine KC (v:=.int .i64 (IntKind.wrap .i64 (Xx34+1))) rfl rfl hE rfl (ZH hE rfl rfl K9 X8) (fun a hE=>?_)
  obtain ⟨Xx35,qXx35,H⟩:=H
  refine KC (v:=.pointer (some Xx35)) rfl rfl hE rfl (KL hE (Zv rfl (congrArg Value.pointer qXx35))) (fun a hE=>?_)
  refine KC (v:=.pointer (some ((Xx35).add 1))) rfl rfl hE rfl (KH hE rfl ZI) (fun a hE=>?_)
  obtain ⟨u_36,qu_36,H⟩:=H
  refine Uc rfl rfl hE hR (Zb hE rfl rfl sz3 qu_36) (fun a w hE hR hh=>?_)
  replace H:=M.at hh H; clear hh
  refine KX ?_
  refine hK_32 _ _ ?_
  refine KY (fun K hK_37=>?_)
  refine KF ?_
  refine KC (v:=(Xx6:Sl).v) rfl rfl hE rfl (KG hE rfl) (fun a hE=>?_)
  obtain ⟨Xx38,qXx38,H⟩:=H
  refine KC (v:=.string Xx38) rfl rfl hE rfl (KG5 hE rfl un44 un9 un5 qXx38) (fun a hE=>?_)
  refine KC (v:=.string Xx38) rfl rfl hE rfl (Kc hE rfl) (fun a hE=>?_)
  refine KX ?_
  refine hK_37 _ _ ?_
  refine WD ?_
  exact hret _ _ _ Xx38 _ hE hR (Zu hE rfl (RV.tmp rfl RV.nil)) rfl H
def Zr (x0:Option Addr) (x1:Int):M (Value ⊕ (Array Value)):=do
 let Xx2←mkB KI (#[.int .i64 0,.int .i64 0,.string ByteArray.empty,.slice none 0 0]:Array Value)
 let Xx4←nilP x0
 let Xx5←ldI .i64 ((Xx4).add 1)
 let Xx6←nilP x0
 stV ((Xx6).add 1) (.int .i64 (IntKind.wrap .i64 (Xx5+1)))
 thr (Kv x0 (⟨#[91]⟩:ByteArray)) fun Xx9=>do
  thr (Z2 x0) fun Xx11=>do
   let Xx12←mkB KI (#[.int .i64 0,.int .i64 0,.string ByteArray.empty,.slice none 0 0]:Array Value)
   M.need ((#[.int .i64 x1,.int .i64 Xx11,.string ByteArray.empty,.slice none 0 0]:Array Value).size=4)
   stG Xx12 (#[.int .i64 x1,.int .i64 Xx11,.string ByteArray.empty,.slice none 0 0]:Array Value)
   thr (Kv x0 (⟨#[93]⟩:ByteArray)) fun Xx15=>do
    let Xx17←ldG 4 Xx12
    M.need (Xx17.size=4)
    stG Xx2 Xx17
    let Rr19←ldG 4 Xx2
    M.pure (.inr Rr19)
theorem Vq (x0:Option Addr) (x1:Int):XF Go.Proofs.Tryz.prog 245 #[.pointer x0,.int .i64 x1] (fun (r:Array Value)=>.agg r) (Zr x0 x1):=by
 refine WE [(0,.pointer x0),(1,.int .i64 x1)] Go.Proofs.Tryz.func245 rfl rfl (Nat.le_of_ble_eq_true rfl) (Vs ⟨rfl,rfl,trivial⟩) (fun w0 w Q R X a hret hthr hE hR H=>?_)
 unfold Zr at H
 refine KY (fun K hK_1=>?_)
 refine KF ?_
 obtain ⟨Xx2,qXx2,H⟩:=H
 refine YU (v:=.pointer (some Xx2)) rfl rfl hE rfl hR (Uv zr54 qXx2) (fun a w hE hR hh=>?_)
 replace H:=M.at hh H; clear hh
 refine KX ?_
 refine hK_1 _ _ ?_
 refine KY (fun K hK_3=>?_)
 refine KF ?_
 refine KC (v:=.pointer x0) rfl rfl hE rfl (KG hE rfl) (fun a hE=>?_)
 obtain ⟨Xx4,qXx4,H⟩:=H
 refine KC (v:=.pointer (some Xx4)) rfl rfl hE rfl (KL hE (Zv rfl (congrArg Value.pointer qXx4))) (fun a hE=>?_)
 refine KC (v:=.pointer (some ((Xx4).add 1))) rfl rfl hE rfl (KH hE rfl ZI) (fun a hE=>?_)
 obtain ⟨Xx5,qXx5,H⟩:=H
 refine KC (v:=.int .i64 Xx5) rfl rfl hE rfl (ZE hE rfl sc3 qXx5) (fun a hE=>?_)
 refine KC (v:=.int .i64 (IntKind.wrap .i64 (Xx5+1))) rfl rfl hE rfl (ZH hE rfl rfl K9 X8) (fun a hE=>?_)
 obtain ⟨Xx6,qXx6,H⟩:=H
 refine KC (v:=.pointer (some Xx6)) rfl rfl hE rfl (KL hE (Zv rfl (congrArg Value.pointer qXx6))) (fun a hE=>?_)
 refine KC (v:=.pointer (some ((Xx6).add 1))) rfl rfl hE rfl (KH hE rfl ZI) (fun a hE=>?_)
 obtain ⟨u_7,qu_7,H⟩:=H
 refine Uc rfl rfl hE hR (Zb hE rfl rfl sz3 qu_7) (fun a w hE hR hh=>?_)
 replace H:=M.at hh H; clear hh
 refine KX ?_
 refine hK_3 _ _ ?_
 refine KY (fun K hK_8=>?_)
 refine KF ?_
 refine KC (v:=.pointer x0) rfl rfl hE rfl (KG hE rfl) (fun a hE=>?_)
 refine Z0 hE hR ZF rfl (ZL x0 (⟨#[91]⟩:ByteArray)) H (fun _ _ hR HQ=>hthr _ _ hR HQ) (fun Xx9 a w ea hR H=>?_)
 have hE:=Env.put_some hE rfl ea; clear ea
 refine KX ?_
 refine hK_8 _ _ ?_
 refine KY (fun K hK_10=>?_)
 refine KF ?_
 refine KC (v:=.int .i64 x1) rfl rfl hE rfl (KG hE rfl) (fun a hE=>?_)
 refine KC (v:=.pointer x0) rfl rfl hE rfl (KG hE rfl) (fun a hE=>?_)
 refine Z0 hE hR Vp rfl (WR x0) H (fun _ _ hR HQ=>hthr _ _ hR HQ) (fun Xx11 a w ea hR H=>?_)
 have hE:=Env.put_some hE rfl ea; clear ea
 refine KC (v:=.agg (#[.int .i64 x1,.int .i64 Xx11,.string ByteArray.empty,.slice none 0 0]:Array Value)) rfl rfl hE rfl (XW hE rfl zr54 pl54 (by rfl)) (fun a hE=>?_)
 obtain ⟨Xx12,qXx12,H⟩:=H
 refine YU (v:=.pointer (some Xx12)) rfl rfl hE rfl hR (Uv zr54 qXx12) (fun a w hE hR hh=>?_)
 replace H:=M.at hh H; clear hh
 obtain ⟨qz,H⟩:=H
 obtain ⟨u_13,qu_13,H⟩:=H
 refine Uc rfl rfl hE hR (Z9 hE rfl rfl sz54 qz qu_13) (fun a w hE hR hh=>?_)
 replace H:=M.at hh H; clear hh
 refine KX ?_
 refine hK_10 _ _ ?_
 refine KY (fun K hK_14=>?_)
 refine KF ?_
 refine KC (v:=.pointer x0) rfl rfl hE rfl (KG hE rfl) (fun a hE=>?_)
 refine Z0 hE hR ZF rfl (ZL x0 (⟨#[93]⟩:ByteArray)) H (fun _ _ hR HQ=>hthr _ _ hR HQ) (fun Xx15 a w ea hR H=>?_)
 have hE:=Env.put_some hE rfl ea; clear ea
 refine KX ?_
 refine hK_14 _ _ ?_
 refine KY (fun K hK_16=>?_)
 refine KF ?_
 obtain ⟨Xx17,qXx17,H⟩:=H
 refine KC (v:=.agg Xx17) rfl rfl hE rfl (zJ hE rfl ag54 qXx17) (fun a hE=>?_)
 obtain ⟨qz,H⟩:=H
 obtain ⟨u_18,qu_18,H⟩:=H
 refine Uc rfl rfl hE hR (Z9 hE rfl rfl sz54 qz qu_18) (fun a w hE hR hh=>?_)
 replace H:=M.at hh H; clear hh
 refine KX ?_
 refine hK_16 _ _ ?_
 refine WD ?_
 obtain ⟨Rr19,qRr19,H⟩:=H
 exact hret _ _ _ Rr19 _ hE hR (Zu hE rfl (RV.cellG rfl ag54 qRr19 RV.nil)) rfl H
def JF (C3:Option Addr) (C4:Int) (C5:Addr):M (Value ⊕ (Array Value)):=do
 let Xx7←Kg C3
 let Xx10←M.ite (Xx7 == 45) (do
  M.pure true
  ) (do
  let Xx11←WB Xx7
  M.pure Xx11
  )
 M.ite Xx10 (do
  thr (Z2 C3) fun Xx13=>do
   let Xx14←GM Xx13
   M.need (Xx14.size=4)
   stG C5 Xx14
   let Rr16←ldG 4 C5
   M.pure (.inr Rr16)
  ) (do
  M.ite (Xx7 == 39) (do
   thr (UR C3) fun Xx19=>do
    let Xx20←GN Xx19
    M.need (Xx20.size=4)
    stG C5 Xx20
    let Rr22←ldG 4 C5
    M.pure (.inr Rr22)
   ) (do
   M.ite (Xx7 == 116) (do
    thr (Kv C3 (⟨#[116,114,117,101]⟩:ByteArray)) fun Xx25=>do
     let Xx27←XQ true
     M.need (Xx27.size=4)
     stG C5 Xx27
     let Rr29←ldG 4 C5
     M.pure (.inr Rr29)
    ) (do
    M.ite (Xx7 == 102) (do
     thr (Kv C3 (⟨#[102,97,108,115,101]⟩:ByteArray)) fun Xx32=>do
      let Xx34←XQ false
      M.need (Xx34.size=4)
      stG C5 Xx34
      let Rr36←ldG 4 C5
      M.pure (.inr Rr36)
     ) (do
     M.ite (Xx7 == 118) (do
      thr (Zr C3 6) fun Xx39=>do
       M.need (Xx39.size=4)
       stG C5 Xx39
       let Rr41←ldG 4 C5
       M.pure (.inr Rr41)
      ) (do
      M.ite (Xx7 == 101) (do
       thr (Zr C3 7) fun Xx44=>do
        M.need (Xx44.size=4)
        stG C5 Xx44
        let Rr46←ldG 4 C5
        M.pure (.inr Rr46)
       ) (do
       M.ite (Xx7 == 91) (do
        thr (KAV Go.Proofs.Tryz.prog Wr #[.pointer C3,.int .i64 C4,.int .u8 93,.int .i64 1] (fun r:Sl=>(r:Sl).v)) fun Xx49=>do
         M.need ((#[.int .i64 4,.int .i64 0,.string ByteArray.empty,(Xx49:Sl).v]:Array Value).size=4)
         stG C5 (#[.int .i64 4,.int .i64 0,.string ByteArray.empty,(Xx49:Sl).v]:Array Value)
         let Rr51←ldG 4 C5
         M.pure (.inr Rr51)
        ) (do
        M.ite (Xx7 == 123) (do
         thr (KAV Go.Proofs.Tryz.prog Wr #[.pointer C3,.int .i64 C4,.int .u8 125,.int .i64 2] (fun r:Sl=>(r:Sl).v)) fun Xx54=>do
          M.need ((#[.int .i64 5,.int .i64 0,.string ByteArray.empty,(Xx54:Sl).v]:Array Value).size=4)
          stG C5 (#[.int .i64 5,.int .i64 0,.string ByteArray.empty,(Xx54:Sl).v]:Array Value)
          let Rr56←ldG 4 C5
          M.pure (.inr Rr56)
         ) (do
         thr (Kl C3) fun Xx58=>do
          M.need ((#[.int .i64 0,.int .i64 0,.string ByteArray.empty,.slice none 0 0]:Array Value).size=4)
          stG C5 (#[.int .i64 0,.int .i64 0,.string ByteArray.empty,.slice none 0 0]:Array Value)
          let Rr61←ldG 4 C5
          M.pure (.inr Rr61)
         )
        )
       )
      )
     )
    )
   )
  )
def JI (x0:Option Addr) (x1:Int):M (Value ⊕ (Array Value)):=do
 let Xx2←mkB KI (#[.int .i64 0,.int .i64 0,.string ByteArray.empty,.slice none 0 0]:Array Value)
 M.ite (decide (x1 > 8)) (do
  thr (Kl x0) fun Xx63=>do
   JF x0 x1 Xx2
  ) (do
  JF x0 x1 Xx2
  )
theorem Wu (x0:Option Addr) (x1:Int):XF Go.Proofs.Tryz.prog 227 #[.pointer x0,.int .i64 x1] (fun (r:Array Value)=>.agg r) (JI x0 x1):=by
 refine WE [(0,.pointer x0),(1,.int .i64 x1)] Go.Proofs.Tryz.func227 rfl rfl (Nat.le_of_ble_eq_true rfl) (Vs ⟨rfl,rfl,trivial⟩) (fun w0 w Q R X a hret hthr hE hR H=>?_)
 unfold JI at H
 refine KY (fun K hK_1=>?_)
 refine KF ?_
 obtain ⟨Xx2,qXx2,H⟩:=H
 refine YU (v:=.pointer (some Xx2)) rfl rfl hE rfl hR (Uv zr54 qXx2) (fun a w hE hR hh=>?_)
 replace H:=M.at hh H; clear hh
 refine KX ?_
 refine hK_1 _ _ ?_
 refine JG (fun a w=>Env (⟨67,[]⟩:Frm) a [(0,.pointer x0),(1,.int .i64 x1),(4,.pointer (some Xx2))]∧Rest w0 w∧(JF x0 x1 Xx2).wp w.heap Q) ?_ ?_
 ·rintro a w ⟨hE,hR,H⟩
  unfold JF at H
  refine KY (fun K hK_6=>?_)
  refine KF ?_
  refine KC (v:=.pointer x0) rfl rfl hE rfl (KG hE rfl) (fun a hE=>?_)
  refine UN hE hR Kh rfl (Ko x0) (M.unbind H) (fun Xx7 a w ea hR H=>?_)
  have hE:=Env.put_some hE rfl ea; clear ea
  refine KC (v:=.int .u8 Xx7) rfl rfl hE rfl (Kc hE rfl) (fun a hE=>?_)
  refine KX ?_
  refine hK_6 _ _ ?_
  refine KY (fun K hK_8=>?_)
  refine WY ?_
  refine KY (fun K hK_9=>?_)
  refine KF ?_
  refine KC (v:=.int .u8 Xx7) rfl rfl hE rfl (KG hE rfl) (fun a hE=>?_)
  refine KC (v:=.bool (Xx7 == 45)) rfl rfl hE rfl (ZH hE rfl rfl K9 XG) (fun a hE=>?_)
  refine KC (v:=.bool (Xx7 == 45)) rfl rfl hE rfl (KG hE rfl) (fun a hE=>?_)
  refine KDO (n:=(⟨67,[]⟩:Frm)) (w0:=w0) 3 (fun Xx10:Bool=>[(0,.pointer x0),(1,.int .i64 x1),(4,.pointer (some Xx2)),(5,.int .u8 Xx7),(18,.bool Xx10)]) (M.unbind H) (fun Kr hKr H=>?_) ?_
  ·rcases Uw (Xx7 == 45) with hb | hb
   ·replace H:=M.ite_t hb H
    have hE:=hE.reb 15 (Xx7 == 45) true hb rfl
    refine Xx rfl hE rfl rfl rfl (fun a ea=>?_)
    have hE:=Env.put_some hE rfl ea; clear ea
    refine Xx rfl hE rfl rfl rfl (fun a ea=>?_)
    have hE:=Env.put_some hE rfl ea; clear ea
    refine KC rfl rfl hE rfl (Jn hE rfl rfl) (fun a hE=>?_)
    refine KX ?_
    exact hKr _ _ _ (hE.cut (.cons rfl (.cons rfl (.cons rfl (.cons rfl (.cons rfl Subs.nil)))))) hR H
   ·replace H:=M.ite_f hb H
    have hE:=hE.reb 15 (Xx7 == 45) false hb rfl
    refine t_on rfl hE rfl rfl rfl ?_
    refine KC (v:=.int .u8 Xx7) rfl rfl hE rfl (KG hE rfl) (fun a hE=>?_)
    refine t_on rfl hE rfl rfl rfl ?_
    refine UN hE hR Y8 rfl (Xn Xx7) (M.unbind H) (fun Xx11 a w ea hR H=>?_)
    have hE:=Env.put_some hE rfl ea; clear ea
    refine KC rfl rfl hE rfl (Z8 hE rfl rfl) (fun a hE=>?_)
    refine KX ?_
    exact hKr _ _ _ (hE.cut (.cons rfl (.cons rfl (.cons rfl (.cons rfl (.cons rfl Subs.nil)))))) hR H
  ·intro Xx10 a w hE hR H
   refine KC (v:=.bool Xx10) rfl rfl hE rfl (Kc hE rfl) (fun a hE=>?_)
   refine KX ?_
   refine hK_9 _ _ ?_
   refine JB Xx10 hE rfl (fun hb=>?_) (fun hb=>?_)
   ·replace H:=M.ite_t hb H
    refine KY (fun K hK_12=>?_)
    refine KF ?_
    refine KC (v:=.pointer x0) rfl rfl hE rfl (KG hE rfl) (fun a hE=>?_)
    refine Z0 hE hR Vp rfl (WR x0) H (fun _ _ hR HQ=>Xu.ne rfl (hthr _ _ hR HQ)) (fun Xx13 a w ea hR H=>?_)
    have hE:=Env.put_some hE rfl ea; clear ea
    refine UN hE hR z6 rfl (KAv Xx13) (M.unbind H) (fun Xx14 a w ea hR H=>?_)
    have hE:=Env.put_some hE rfl ea; clear ea
    obtain ⟨qz,H⟩:=H
    obtain ⟨u_15,qu_15,H⟩:=H
    refine Uc rfl rfl hE hR (Z9 hE rfl rfl sz54 qz qu_15) (fun a w hE hR hh=>?_)
    replace H:=M.at hh H; clear hh
    refine KX ?_
    refine hK_12 _ _ ?_
    refine WD ?_
    obtain ⟨Rr16,qRr16,H⟩:=H
    exact hret _ _ _ Rr16 _ hE hR (Zu hE rfl (RV.cellG rfl ag54 qRr16 RV.nil)) rfl H
   ·replace H:=M.ite_f hb H
    refine KY (fun K hK_17=>?_)
    refine KF ?_
    refine KC (v:=.int .u8 Xx7) rfl rfl hE rfl (KG hE rfl) (fun a hE=>?_)
    refine KC (v:=.bool (Xx7 == 39)) rfl rfl hE rfl (ZH hE rfl rfl K9 XG) (fun a hE=>?_)
    refine KC (v:=.bool (Xx7 == 39)) rfl rfl hE rfl (Kc hE rfl) (fun a hE=>?_)
    refine KX ?_
    refine hK_17 _ _ ?_
    refine JB (Xx7 == 39) hE rfl (fun hb=>?_) (fun hb=>?_)
    ·replace H:=M.ite_t hb H
     refine KY (fun K hK_18=>?_)
     refine KF ?_
     refine KC (v:=.pointer x0) rfl rfl hE rfl (KG hE rfl) (fun a hE=>?_)
     refine Z0 hE hR Nl rfl (qy x0) H (fun _ _ hR HQ=>Xu.ne rfl (hthr _ _ hR HQ)) (fun Xx19 a w ea hR H=>?_)
     have hE:=Env.put_some hE rfl ea; clear ea
     refine UN hE hR z7 rfl (KAw Xx19) (M.unbind H) (fun Xx20 a w ea hR H=>?_)
     have hE:=Env.put_some hE rfl ea; clear ea
     obtain ⟨qz,H⟩:=H
     obtain ⟨u_21,qu_21,H⟩:=H
     refine Uc rfl rfl hE hR (Z9 hE rfl rfl sz54 qz qu_21) (fun a w hE hR hh=>?_)
     replace H:=M.at hh H; clear hh
     refine KX ?_
     refine hK_18 _ _ ?_
     refine WD ?_
     obtain ⟨Rr22,qRr22,H⟩:=H
     exact hret _ _ _ Rr22 _ hE hR (Zu hE rfl (RV.cellG rfl ag54 qRr22 RV.nil)) rfl H
    ·replace H:=M.ite_f hb H
     refine KY (fun K hK_23=>?_)
     refine KF ?_
     refine KC (v:=.int .u8 Xx7) rfl rfl hE rfl (KG hE rfl) (fun a hE=>?_)
     refine KC (v:=.bool (Xx7 == 116)) rfl rfl hE rfl (ZH hE rfl rfl K9 XG) (fun a hE=>?_)
     refine KC (v:=.bool (Xx7 == 116)) rfl rfl hE rfl (Kc hE rfl) (fun a hE=>?_)
     refine KX ?_
     refine hK_23 _ _ ?_
     refine JB (Xx7 == 116) hE rfl (fun hb=>?_) (fun hb=>?_)
     ·replace H:=M.ite_t hb H
      refine KY (fun K hK_24=>?_)
      refine KF ?_
      refine KC (v:=.pointer x0) rfl rfl hE rfl (KG hE rfl) (fun a hE=>?_)
      refine Z0 hE hR ZF rfl (ZL x0 (⟨#[116,114,117,101]⟩:ByteArray)) H (fun _ _ hR HQ=>Xu.ne rfl (hthr _ _ hR HQ)) (fun Xx25 a w ea hR H=>?_)
      have hE:=Env.put_some hE rfl ea; clear ea
      refine KX ?_
      refine hK_24 _ _ ?_
      refine KY (fun K hK_26=>?_)
      refine KF ?_
      refine UN hE hR qZ rfl (KAB true) (M.unbind H) (fun Xx27 a w ea hR H=>?_)
      have hE:=Env.put_some hE rfl ea; clear ea
      obtain ⟨qz,H⟩:=H
      obtain ⟨u_28,qu_28,H⟩:=H
      refine Uc rfl rfl hE hR (Z9 hE rfl rfl sz54 qz qu_28) (fun a w hE hR hh=>?_)
      replace H:=M.at hh H; clear hh
      refine KX ?_
      refine hK_26 _ _ ?_
      refine WD ?_
      obtain ⟨Rr29,qRr29,H⟩:=H
      exact hret _ _ _ Rr29 _ hE hR (Zu hE rfl (RV.cellG rfl ag54 qRr29 RV.nil)) rfl H
     ·replace H:=M.ite_f hb H
      refine KY (fun K hK_30=>?_)
      refine KF ?_
      refine KC (v:=.int .u8 Xx7) rfl rfl hE rfl (KG hE rfl) (fun a hE=>?_)
      refine KC (v:=.bool (Xx7 == 102)) rfl rfl hE rfl (ZH hE rfl rfl K9 XG) (fun a hE=>?_)
      refine KC (v:=.bool (Xx7 == 102)) rfl rfl hE rfl (Kc hE rfl) (fun a hE=>?_)
      refine KX ?_
      refine hK_30 _ _ ?_
      refine JB (Xx7 == 102) hE rfl (fun hb=>?_) (fun hb=>?_)
      ·replace H:=M.ite_t hb H
       refine KY (fun K hK_31=>?_)
       refine KF ?_
       refine KC (v:=.pointer x0) rfl rfl hE rfl (KG hE rfl) (fun a hE=>?_)
       refine Z0 hE hR ZF rfl (ZL x0 (⟨#[102,97,108,115,101]⟩:ByteArray)) H (fun _ _ hR HQ=>Xu.ne rfl (hthr _ _ hR HQ)) (fun Xx32 a w ea hR H=>?_)
       have hE:=Env.put_some hE rfl ea; clear ea
       refine KX ?_
       refine hK_31 _ _ ?_
       refine KY (fun K hK_33=>?_)
       refine KF ?_
       refine UN hE hR qZ rfl (KAB false) (M.unbind H) (fun Xx34 a w ea hR H=>?_)
       have hE:=Env.put_some hE rfl ea; clear ea
       obtain ⟨qz,H⟩:=H
       obtain ⟨u_35,qu_35,H⟩:=H
       refine Uc rfl rfl hE hR (Z9 hE rfl rfl sz54 qz qu_35) (fun a w hE hR hh=>?_)
       replace H:=M.at hh H; clear hh
       refine KX ?_
       refine hK_33 _ _ ?_
       refine WD ?_
       obtain ⟨Rr36,qRr36,H⟩:=H
       exact hret _ _ _ Rr36 _ hE hR (Zu hE rfl (RV.cellG rfl ag54 qRr36 RV.nil)) rfl H
      ·replace H:=M.ite_f hb H
       refine KY (fun K hK_37=>?_)
       refine KF ?_
       refine KC (v:=.int .u8 Xx7) rfl rfl hE rfl (KG hE rfl) (fun a hE=>?_)
       refine KC (v:=.bool (Xx7 == 118)) rfl rfl hE rfl (ZH hE rfl rfl K9 XG) (fun a hE=>?_)
       refine KC (v:=.bool (Xx7 == 118)) rfl rfl hE rfl (Kc hE rfl) (fun a hE=>?_)
       refine KX ?_
       refine hK_37 _ _ ?_
       refine JB (Xx7 == 118) hE rfl (fun hb=>?_) (fun hb=>?_)
       ·replace H:=M.ite_t hb H
        refine KY (fun K hK_38=>?_)
        refine KF ?_
        refine KC (v:=.pointer x0) rfl rfl hE rfl (KG hE rfl) (fun a hE=>?_)
        refine Z0 hE hR VP rfl (Vq x0 6) H (fun _ _ hR HQ=>Xu.ne rfl (hthr _ _ hR HQ)) (fun Xx39 a w ea hR H=>?_)
        have hE:=Env.put_some hE rfl ea; clear ea
        obtain ⟨qz,H⟩:=H
        obtain ⟨u_40,qu_40,H⟩:=H
        refine Uc rfl rfl hE hR (Z9 hE rfl rfl sz54 qz qu_40) (fun a w hE hR hh=>?_)
        replace H:=M.at hh H; clear hh
        refine KX ?_
        refine hK_38 _ _ ?_
        refine WD ?_
        obtain ⟨Rr41,qRr41,H⟩:=H
        exact hret _ _ _ Rr41 _ hE hR (Zu hE rfl (RV.cellG rfl ag54 qRr41 RV.nil)) rfl H
       ·replace H:=M.ite_f hb H
        refine KY (fun K hK_42=>?_)
        refine KF ?_
        refine KC (v:=.int .u8 Xx7) rfl rfl hE rfl (KG hE rfl) (fun a hE=>?_)
        refine KC (v:=.bool (Xx7 == 101)) rfl rfl hE rfl (ZH hE rfl rfl K9 XG) (fun a hE=>?_)
        refine KC (v:=.bool (Xx7 == 101)) rfl rfl hE rfl (Kc hE rfl) (fun a hE=>?_)
        refine KX ?_
        refine hK_42 _ _ ?_
        refine JB (Xx7 == 101) hE rfl (fun hb=>?_) (fun hb=>?_)
        ·replace H:=M.ite_t hb H
         refine KY (fun K hK_43=>?_)
         refine KF ?_
         refine KC (v:=.pointer x0) rfl rfl hE rfl (KG hE rfl) (fun a hE=>?_)
         refine Z0 hE hR VP rfl (Vq x0 7) H (fun _ _ hR HQ=>Xu.ne rfl (hthr _ _ hR HQ)) (fun Xx44 a w ea hR H=>?_)
         have hE:=Env.put_some hE rfl ea; clear ea
         obtain ⟨qz,H⟩:=H
         obtain ⟨u_45,qu_45,H⟩:=H
         refine Uc rfl rfl hE hR (Z9 hE rfl rfl sz54 qz qu_45) (fun a w hE hR hh=>?_)
         replace H:=M.at hh H; clear hh
         refine KX ?_
         refine hK_43 _ _ ?_
         refine WD ?_
         obtain ⟨Rr46,qRr46,H⟩:=H
         exact hret _ _ _ Rr46 _ hE hR (Zu hE rfl (RV.cellG rfl ag54 qRr46 RV.nil)) rfl H
        ·replace H:=M.ite_f hb H
         refine KY (fun K hK_47=>?_)
         refine KF ?_
         refine KC (v:=.int .u8 Xx7) rfl rfl hE rfl (KG hE rfl) (fun a hE=>?_)
         refine KC (v:=.bool (Xx7 == 91)) rfl rfl hE rfl (ZH hE rfl rfl K9 XG) (fun a hE=>?_)
         refine KC (v:=.bool (Xx7 == 91)) rfl rfl hE rfl (Kc hE rfl) (fun a hE=>?_)
         refine KX ?_
         refine hK_47 _ _ ?_
         refine JB (Xx7 == 91) hE rfl (fun hb=>?_) (fun hb=>?_)
         ·replace H:=M.ite_t hb H
          refine KY (fun K hK_48=>?_)
          refine KF ?_
          refine KC (v:=.pointer x0) rfl rfl hE rfl (KG hE rfl) (fun a hE=>?_)
          refine KC (v:=.int .i64 x1) rfl rfl hE rfl (KG hE rfl) (fun a hE=>?_)
          refine Z0 hE hR Ws rfl (Yu) H (fun _ _ hR HQ=>Xu.ne rfl (hthr _ _ hR HQ)) (fun Xx49 a w ea hR H=>?_)
          have hE:=Env.put_some hE rfl ea; clear ea
          refine KC (v:=.agg (#[.int .i64 4,.int .i64 0,.string ByteArray.empty,(Xx49:Sl).v]:Array Value)) rfl rfl hE rfl (XW hE rfl zr54 pl54 (by rfl)) (fun a hE=>?_)
          obtain ⟨qz,H⟩:=H
          obtain ⟨u_50,qu_50,H⟩:=H
          refine Uc rfl rfl hE hR (Z9 hE rfl rfl sz54 qz qu_50) (fun a w hE hR hh=>?_)
          replace H:=M.at hh H; clear hh
          refine KX ?_
          refine hK_48 _ _ ?_
          refine WD ?_
          obtain ⟨Rr51,qRr51,H⟩:=H
          exact hret _ _ _ Rr51 _ hE hR (Zu hE rfl (RV.cellG rfl ag54 qRr51 RV.nil)) rfl H
         ·replace H:=M.ite_f hb H
          refine KY (fun K hK_52=>?_)
          refine KF ?_
          refine KC (v:=.int .u8 Xx7) rfl rfl hE rfl (KG hE rfl) (fun a hE=>?_)
          refine KC (v:=.bool (Xx7 == 123)) rfl rfl hE rfl (ZH hE rfl rfl K9 XG) (fun a hE=>?_)
          refine KC (v:=.bool (Xx7 == 123)) rfl rfl hE rfl (Kc hE rfl) (fun a hE=>?_)
          refine KX ?_
          refine hK_52 _ _ ?_
          refine JB (Xx7 == 123) hE rfl (fun hb=>?_) (fun hb=>?_)
          ·replace H:=M.ite_t hb H
           refine KY (fun K hK_53=>?_)
           refine KF ?_
           refine KC (v:=.pointer x0) rfl rfl hE rfl (KG hE rfl) (fun a hE=>?_)
           refine KC (v:=.int .i64 x1) rfl rfl hE rfl (KG hE rfl) (fun a hE=>?_)
           refine Z0 hE hR Ws rfl (Yu) H (fun _ _ hR HQ=>Xu.ne rfl (hthr _ _ hR HQ)) (fun Xx54 a w ea hR H=>?_)
           have hE:=Env.put_some hE rfl ea; clear ea
           refine KC (v:=.agg (#[.int .i64 5,.int .i64 0,.string ByteArray.empty,(Xx54:Sl).v]:Array Value)) rfl rfl hE rfl (XW hE rfl zr54 pl54 (by rfl)) (fun a hE=>?_)
           obtain ⟨qz,H⟩:=H
           obtain ⟨u_55,qu_55,H⟩:=H
           refine Uc rfl rfl hE hR (Z9 hE rfl rfl sz54 qz qu_55) (fun a w hE hR hh=>?_)
           replace H:=M.at hh H; clear hh
           refine KX ?_
           refine hK_53 _ _ ?_
           refine WD ?_
           obtain ⟨Rr56,qRr56,H⟩:=H
           exact hret _ _ _ Rr56 _ hE hR (Zu hE rfl (RV.cellG rfl ag54 qRr56 RV.nil)) rfl H
          ·replace H:=M.ite_f hb H
           refine J2 ?_
           refine hK_8 _ _ ?_
           refine KY (fun K hK_57=>?_)
           refine KF ?_
           refine KC (v:=.pointer x0) rfl rfl hE rfl (KG hE rfl) (fun a hE=>?_)
           refine Z0 hE hR Ku rfl (Kw x0) H (fun _ _ hR HQ=>hthr _ _ hR HQ) (fun Xx58 a w ea hR H=>?_)
           have hE:=Env.put_some hE rfl ea; clear ea
           refine KX ?_
           refine hK_57 _ _ ?_
           refine KY (fun K hK_59=>?_)
           refine KF ?_
           refine KC (v:=.agg (#[.int .i64 0,.int .i64 0,.string ByteArray.empty,.slice none 0 0]:Array Value)) rfl rfl hE rfl (KAO bd54) (fun a hE=>?_)
           obtain ⟨qz,H⟩:=H
           obtain ⟨u_60,qu_60,H⟩:=H
           refine Uc rfl rfl hE hR (Z9 hE rfl rfl sz54 qz qu_60) (fun a w hE hR hh=>?_)
           replace H:=M.at hh H; clear hh
           refine KX ?_
           refine hK_59 _ _ ?_
           refine WD ?_
           obtain ⟨Rr61,qRr61,H⟩:=H
           exact hret _ _ _ Rr61 _ hE hR (Zu hE rfl (RV.cellG rfl ag54 qRr61 RV.nil)) rfl H
 ·skip
  refine KY (fun K hK_62=>?_)
  refine KF ?_
  refine KC (v:=.int .i64 x1) rfl rfl hE rfl (KG hE rfl) (fun a hE=>?_)
  refine KC (v:=.bool (decide (x1 > 8))) rfl rfl hE rfl (ZH hE rfl rfl K9 KDN) (fun a hE=>?_)
  refine KX ?_
  refine hK_62 _ _ ?_
  refine JB (decide (x1 > 8)) hE rfl (fun hb=>?_) (fun hb=>?_)
  ·replace H:=M.ite_t hb H
   refine KF ?_
   refine KC (v:=.pointer x0) rfl rfl hE rfl (KG hE rfl) (fun a hE=>?_)
   refine Z0 hE hR Ku rfl (Kw x0) H (fun _ _ hR HQ=>hthr _ _ hR HQ) (fun Xx63 a w ea hR H=>?_)
   have hE:=Env.put_some hE rfl ea; clear ea
   refine KX ?_
   exact ⟨hE.cut (.cons rfl (.cons rfl (.cons rfl Subs.nil))),hR,H⟩
  ·replace H:=M.ite_f hb H
   refine J2 ?_
   exact ⟨hE.cut (.cons rfl (.cons rfl (.cons rfl Subs.nil))),hR,H⟩
def Zs (self1:(Sl)→M (Value ⊕ (Sl))) (C29:Option Addr) (C31:Int) (Xx28:Sl):M (Value ⊕ (Sl)):=do
 let Xx34←Kg C29
 let Xx36←M.ite (Xx34 != C31) (do
  M.pure (Xx34 != 44)
  ) (do
  M.pure false
  )
 M.ite Xx36 (do
  thr (Kl C29) fun Xx37=>do
   self1 Xx28
  ) (do
  self1 Xx28
  )
def Zt (self1:(Sl)→M (Value ⊕ (Sl))) (C18:Option Addr) (C19:Int) (C20:Int) (C21:Int) (C22:Sl):M (Value ⊕ (Sl)):=do
 thr (KAV Go.Proofs.Tryz.prog Ui #[.pointer C18,.int .i64 (IntKind.wrap .i64 (C19+1))] (fun r:Array Value=>.agg r)) fun Xx24=>do
  let y_26←KCM 4 1 (#[.int .i64 0,.int .i64 0,.string ByteArray.empty,.slice none 0 0]:Array Value) [(0,.agg Xx24)]
  let Xx25←bdL KI 1 y_26
  let Xx27←apL KI 4 56 (#[.int .i64 0,.int .i64 0,.string ByteArray.empty,.slice none 0 0]:Array Value) C22 Xx25
  M.ite (C21 == 2) (do
   thr (Kv C18 (⟨#[58,32]⟩:ByteArray)) fun Xx40=>do
    thr (KAV Go.Proofs.Tryz.prog Ui #[.pointer C18,.int .i64 (IntKind.wrap .i64 (C19+1))] (fun r:Array Value=>.agg r)) fun Xx41=>do
     let y_43←KCM 4 1 (#[.int .i64 0,.int .i64 0,.string ByteArray.empty,.slice none 0 0]:Array Value) [(0,.agg Xx41)]
     let Xx42←bdL KI 1 y_43
     let Xx44←apL KI 4 56 (#[.int .i64 0,.int .i64 0,.string ByteArray.empty,.slice none 0 0]:Array Value) Xx27 Xx42
     Zs self1 C18 C20 Xx44
   ) (do
   Zs self1 C18 C20 Xx27
   )
def J1 (C10:Option Addr) (C11:Int) (C12:Int) (C13:Int) (self1:(Sl)→M (Value ⊕ (Sl))):(Sl)→M (Value ⊕ (Sl)):=fun s=>match s with
 | Xx9=>do
  let Xx17←Kg C10
  M.ite (Xx17 != C12) (do
   M.ite (decide ((Xx9.len:Int) > 0)) (do
    thr (Kv C10 (⟨#[44,32]⟩:ByteArray)) fun Xx46=>do
     Zt self1 C10 C11 C12 C13 Xx9
    ) (do
    Zt self1 C10 C11 C12 C13 Xx9
    )
   ) (do
   let Xx48←nilP C10
   let Xx49←ldI .i64 ((Xx48).add 1)
   let Xx50←nilP C10
   stV ((Xx50).add 1) (.int .i64 (IntKind.wrap .i64 (Xx49+1)))
   M.pure (.inr Xx9)
   )
def Ut (x0:Option Addr) (x1:Int) (x2:Int) (x3:Int):M (Value ⊕ (Sl)):=do
 let Xx3←nilP x0
 let Xx4←ldI .i64 ((Xx3).add 1)
 let Xx5←nilP x0
 stV ((Xx5).add 1) (.int .i64 (IntKind.wrap .i64 (Xx4+1)))
 M.loop (J1 x0 x1 x2 x3) Sl.nil
theorem Yn (x0:Option Addr) (x1:Int) (x2:Int) (x3:Int):XF Go.Proofs.Tryz.prog 246 #[.pointer x0,.int .i64 x1,.int .u8 x2,.int .i64 x3] (fun (r:Sl)=>(r:Sl).v) (Ut x0 x1 x2 x3):=by
 refine WE [(0,.pointer x0),(1,.int .i64 x1),(2,.int .u8 x2),(3,.int .i64 x3)] Go.Proofs.Tryz.func246 rfl rfl (Nat.le_of_ble_eq_true rfl) (Vs ⟨rfl,rfl,rfl,rfl,trivial⟩) (fun w0 w Q R X a hret hthr hE hR H=>?_)
 unfold Ut at H
 refine KY (fun K hK_1=>?_)
 refine KF ?_
 refine KC (v:=(Sl.nil:Sl).v) rfl rfl hE rfl (Kc hE rfl) (fun a hE=>?_)
 refine KX ?_
 refine hK_1 _ _ ?_
 refine KY (fun K hK_2=>?_)
 refine KF ?_
 refine KC (v:=.pointer x0) rfl rfl hE rfl (KG hE rfl) (fun a hE=>?_)
 obtain ⟨Xx3,qXx3,H⟩:=H
 refine KC (v:=.pointer (some Xx3)) rfl rfl hE rfl (KL hE (Zv rfl (congrArg Value.pointer qXx3))) (fun a hE=>?_)
 refine KC (v:=.pointer (some ((Xx3).add 1))) rfl rfl hE rfl (KH hE rfl ZI) (fun a hE=>?_)
 obtain ⟨Xx4,qXx4,H⟩:=H
 refine KC (v:=.int .i64 Xx4) rfl rfl hE rfl (ZE hE rfl sc3 qXx4) (fun a hE=>?_)
 refine KC (v:=.int .i64 (IntKind.wrap .i64 (Xx4+1))) rfl rfl hE rfl (ZH hE rfl rfl K9 X8) (fun a hE=>?_)
 obtain ⟨Xx5,qXx5,H⟩:=H
 refine KC (v:=.pointer (some Xx5)) rfl rfl hE rfl (KL hE (Zv rfl (congrArg Value.pointer qXx5))) (fun a hE=>?_)
 refine KC (v:=.pointer (some ((Xx5).add 1))) rfl rfl hE rfl (KH hE rfl ZI) (fun a hE=>?_)
 obtain ⟨u_6,qu_6,H⟩:=H
 refine Uc rfl rfl hE hR (Zb hE rfl rfl sz3 qu_6) (fun a w hE hR hh=>?_)
 replace H:=M.at hh H; clear hh
 refine KX ?_
 refine hK_2 _ _ ?_
 refine KY (fun K hK_7=>?_)
 refine KF ?_
 refine KC (v:=(Sl.nil:Sl).v) rfl rfl hE rfl (Kc hE rfl) (fun a hE=>?_)
 refine KX ?_
 refine hK_7 _ _ ?_
 refine KY (fun K hK_8=>?_)
 refine WY ?_
 refine KDP (fun (s:Sl)=>(⟨64,[]⟩:Frm)) (fun (s:Sl)=>[(0,.pointer x0),(1,.int .i64 x1),(2,.int .u8 x2),(3,.int .i64 x3),(9,(s:Sl).v)]) H (hE.cut (.cons rfl (.cons rfl (.cons rfl (.cons rfl (.cons rfl Subs.nil)))))) hR (fun Y self1 hY_14 Xx9 a w hE hR H=>?_)
 replace hE:Env (⟨64,[]⟩:Frm) a [(0,.pointer x0),(1,.int .i64 x1),(2,.int .u8 x2),(3,.int .i64 x3),(9,(Xx9:Sl).v)]:=hE
 replace H:(J1 x0 x1 x2 x3 self1 Xx9).wp w.heap Q:=H
 unfold J1 at H
 refine KY (fun K hK_15=>?_)
 refine KY (fun K hK_16=>?_)
 refine KF ?_
 refine KC (v:=.pointer x0) rfl rfl hE rfl (KG hE rfl) (fun a hE=>?_)
 refine UN hE hR Kh rfl (Ko x0) (M.unbind H) (fun Xx17 a w ea hR H=>?_)
 have hE:=Env.put_some hE rfl ea; clear ea
 refine KC (v:=.int .u8 x2) rfl rfl hE rfl (KG hE rfl) (fun a hE=>?_)
 refine KC (v:=.bool (Xx17 != x2)) rfl rfl hE rfl (ZH hE rfl rfl K9 KDM) (fun a hE=>?_)
 refine KX ?_
 refine hK_16 _ _ ?_
 refine JB (Xx17 != x2) hE rfl (fun hb=>?_) (fun hb=>?_)
 ·replace H:=M.ite_t hb H
  refine J2 ?_
  refine hK_15 _ _ ?_
  refine WY ?_
  refine JG (fun a w=>Env (⟨64,[]⟩:Frm) a [(0,.pointer x0),(1,.int .i64 x1),(2,.int .u8 x2),(3,.int .i64 x3),(9,(Xx9:Sl).v)]∧Rest w0 w∧(Zt self1 x0 x1 x2 x3 Xx9).wp w.heap Q) ?_ ?_
  ·rintro a w ⟨hE,hR,H⟩
   unfold Zt at H
   refine KY (fun K hK_23=>?_)
   refine KF ?_
   refine KC (v:=(Xx9:Sl).v) rfl rfl hE rfl (KG hE rfl) (fun a hE=>?_)
   refine KC (v:=.pointer x0) rfl rfl hE rfl (KG hE rfl) (fun a hE=>?_)
   refine KC (v:=.int .i64 x1) rfl rfl hE rfl (KG hE rfl) (fun a hE=>?_)
   refine KC (v:=.int .i64 (IntKind.wrap .i64 (x1+1))) rfl rfl hE rfl (ZH hE rfl rfl K9 X8) (fun a hE=>?_)
   refine Z0 hE hR Uj rfl (Yu) H (fun _ _ hR HQ=>Xu.ne rfl (Xu.ne rfl (hthr _ _ hR HQ))) (fun Xx24 a w ea hR H=>?_)
   have hE:=Env.put_some hE rfl ea; clear ea
   obtain ⟨y_26,qy_26,H⟩:=H
   obtain ⟨Xx25,qXx25,H⟩:=H
   refine YU (v:=(Xx25:Sl).v) rfl rfl hE rfl hR (GX hE rfl un52 sz54 zr54 rfl qy_26 qXx25) (fun a w hE hR hh=>?_)
   replace H:=M.at hh H; clear hh
   refine t_ex (fun Xx27=>(Xx27:Sl).v) rfl rfl hR (M.unbind H) (fun Q H=>KDT hE rfl rfl ap52 H) (fun Xx27 a w ea hR H=>?_)
   have hE:=Env.put_some hE rfl ea; clear ea
   refine KC (v:=(Xx27:Sl).v) rfl rfl hE rfl (Kc hE rfl) (fun a hE=>?_)
   refine KX ?_
   refine hK_23 _ _ ?_
   refine JG (fun a w=>∃ (Xx28:Sl),Env (⟨64,[]⟩:Frm) a [(0,.pointer x0),(1,.int .i64 x1),(2,.int .u8 x2),(3,.int .i64 x3),(9,(Xx28:Sl).v)]∧Rest w0 w∧(Zs self1 x0 x2 Xx28).wp w.heap Q) ?_ ?_
   ·rintro a w ⟨Xx28,hE,hR,H⟩
    unfold Zs at H
    refine KY (fun K hK_33=>?_)
    refine KF ?_
    refine KC (v:=.pointer x0) rfl rfl hE rfl (KG hE rfl) (fun a hE=>?_)
    refine UN hE hR Kh rfl (Ko x0) (M.unbind H) (fun Xx34 a w ea hR H=>?_)
    have hE:=Env.put_some hE rfl ea; clear ea
    refine KC (v:=.int .u8 Xx34) rfl rfl hE rfl (Kc hE rfl) (fun a hE=>?_)
    refine KX ?_
    refine hK_33 _ _ ?_
    refine KY (fun K hK_35=>?_)
    refine KF ?_
    refine KC (v:=.int .u8 Xx34) rfl rfl hE rfl (KG hE rfl) (fun a hE=>?_)
    refine KC (v:=.int .u8 x2) rfl rfl hE rfl (KG hE rfl) (fun a hE=>?_)
    refine KC (v:=.bool (Xx34 != x2)) rfl rfl hE rfl (ZH hE rfl rfl K9 KDM) (fun a hE=>?_)
    refine KC (v:=.bool (Xx34 != x2)) rfl rfl hE rfl (KG hE rfl) (fun a hE=>?_)
    refine KDO (n:=(⟨64,[]⟩:Frm)) (w0:=w0) 3 (fun Xx36:Bool=>[(0,.pointer x0),(1,.int .i64 x1),(2,.int .u8 x2),(3,.int .i64 x3),(9,(Xx28:Sl).v),(53,.bool Xx36)]) (M.unbind H) (fun Kr hKr H=>?_) ?_
    ·rcases Uw (Xx34 != x2) with hb | hb
     ·replace H:=M.ite_t hb H
      have hE:=hE.reb 50 (Xx34 != x2) true hb rfl
      refine t_on rfl hE rfl rfl rfl ?_
      refine KC (v:=.int .u8 Xx34) rfl rfl hE rfl (KG hE rfl) (fun a hE=>?_)
      refine t_on rfl hE rfl rfl rfl ?_
      refine KC (v:=.bool (Xx34 != 44)) rfl rfl hE rfl (ZH hE rfl rfl K9 KDM) (fun a hE=>?_)
      refine KC rfl rfl hE rfl (Jn hE rfl rfl) (fun a hE=>?_)
      refine KX ?_
      exact hKr _ _ _ (hE.cut (.cons rfl (.cons rfl (.cons rfl (.cons rfl (.cons rfl (.cons rfl Subs.nil))))))) hR H
     ·replace H:=M.ite_f hb H
      have hE:=hE.reb 50 (Xx34 != x2) false hb rfl
      refine Xx rfl hE rfl rfl rfl (fun a ea=>?_)
      have hE:=Env.put_some hE rfl ea; clear ea
      refine Xx rfl hE rfl rfl rfl (fun a ea=>?_)
      have hE:=Env.put_some hE rfl ea; clear ea
      refine KC rfl rfl hE rfl (Z8 hE rfl rfl) (fun a hE=>?_)
      refine KX ?_
      exact hKr _ _ _ (hE.cut (.cons rfl (.cons rfl (.cons rfl (.cons rfl (.cons rfl (.cons rfl Subs.nil))))))) hR H
    ·intro Xx36 a w hE hR H
     refine KX ?_
     refine hK_35 _ _ ?_
     refine JB Xx36 hE rfl (fun hb=>?_) (fun hb=>?_)
     ·replace H:=M.ite_t hb H
      refine KF ?_
      refine KC (v:=.pointer x0) rfl rfl hE rfl (KG hE rfl) (fun a hE=>?_)
      refine Z0 hE hR Ku rfl (Kw x0) H (fun _ _ hR HQ=>Xu.ne rfl (Xu.ne rfl (hthr _ _ hR HQ))) (fun Xx37 a w ea hR H=>?_)
      have hE:=Env.put_some hE rfl ea; clear ea
      refine KX ?_
      exact hY_14 Xx28 _ _ (hE.cut (.cons rfl (.cons rfl (.cons rfl (.cons rfl (.cons rfl Subs.nil)))))) hR H
     ·replace H:=M.ite_f hb H
      refine J2 ?_
      exact hY_14 Xx28 _ _ (hE.cut (.cons rfl (.cons rfl (.cons rfl (.cons rfl (.cons rfl Subs.nil)))))) hR H
   ·skip
    refine KY (fun K hK_38=>?_)
    refine KF ?_
    refine KC (v:=.int .i64 x3) rfl rfl hE rfl (KG hE rfl) (fun a hE=>?_)
    refine KC (v:=.bool (x3 == 2)) rfl rfl hE rfl (ZH hE rfl rfl K9 XG) (fun a hE=>?_)
    refine KX ?_
    refine hK_38 _ _ ?_
    refine JB (x3 == 2) hE rfl (fun hb=>?_) (fun hb=>?_)
    ·replace H:=M.ite_t hb H
     refine KY (fun K hK_39=>?_)
     refine KF ?_
     refine KC (v:=.pointer x0) rfl rfl hE rfl (KG hE rfl) (fun a hE=>?_)
     refine Z0 hE hR ZF rfl (ZL x0 (⟨#[58,32]⟩:ByteArray)) H (fun _ _ hR HQ=>Xu.ne rfl (Xu.ne rfl (hthr _ _ hR HQ))) (fun Xx40 a w ea hR H=>?_)
     have hE:=Env.put_some hE rfl ea; clear ea
     refine KX ?_
     refine hK_39 _ _ ?_
     refine KF ?_
     refine KC (v:=(Xx27:Sl).v) rfl rfl hE rfl (KG hE rfl) (fun a hE=>?_)
     refine KC (v:=.pointer x0) rfl rfl hE rfl (KG hE rfl) (fun a hE=>?_)
     refine KC (v:=.int .i64 x1) rfl rfl hE rfl (KG hE rfl) (fun a hE=>?_)
     refine KC (v:=.int .i64 (IntKind.wrap .i64 (x1+1))) rfl rfl hE rfl (ZH hE rfl rfl K9 X8) (fun a hE=>?_)
     refine Z0 hE hR Uj rfl (Yu) H (fun _ _ hR HQ=>Xu.ne rfl (Xu.ne rfl (hthr _ _ hR HQ))) (fun Xx41 a w ea hR H=>?_)
     have hE:=Env.put_some hE rfl ea; clear ea
     obtain ⟨y_43,qy_43,H⟩:=H
     obtain ⟨Xx42,qXx42,H⟩:=H
     refine YU (v:=(Xx42:Sl).v) rfl rfl hE rfl hR (GX hE rfl un52 sz54 zr54 rfl qy_43 qXx42) (fun a w hE hR hh=>?_)
     replace H:=M.at hh H; clear hh
     refine t_ex (fun Xx44=>(Xx44:Sl).v) rfl rfl hR (M.unbind H) (fun Q H=>KDT hE rfl rfl ap52 H) (fun Xx44 a w ea hR H=>?_)
     have hE:=Env.put_some hE rfl ea; clear ea
     refine KC (v:=(Xx44:Sl).v) rfl rfl hE rfl (Kc hE rfl) (fun a hE=>?_)
     refine KX ?_
     exact ⟨Xx44,hE.cut (.cons rfl (.cons rfl (.cons rfl (.cons rfl (.cons rfl Subs.nil))))),hR,H⟩
    ·replace H:=M.ite_f hb H
     refine J2 ?_
     exact ⟨Xx27,hE.cut (.cons rfl (.cons rfl (.cons rfl (.cons rfl (.cons rfl Subs.nil))))),hR,H⟩
  ·skip
   refine KY (fun K hK_45=>?_)
   refine KF ?_
   refine KC (v:=(Xx9:Sl).v) rfl rfl hE rfl (KG hE rfl) (fun a hE=>?_)
   refine KC (v:=.int .i64 (Xx9.len:Int)) rfl rfl hE rfl (KJ9 hE rfl 54 un52) (fun a hE=>?_)
   refine KC (v:=.bool (decide ((Xx9.len:Int) > 0))) rfl rfl hE rfl (ZH hE rfl rfl K9 KDN) (fun a hE=>?_)
   refine KX ?_
   refine hK_45 _ _ ?_
   refine JB (decide ((Xx9.len:Int) > 0)) hE rfl (fun hb=>?_) (fun hb=>?_)
   ·replace H:=M.ite_t hb H
    refine KF ?_
    refine KC (v:=.pointer x0) rfl rfl hE rfl (KG hE rfl) (fun a hE=>?_)
    refine Z0 hE hR ZF rfl (ZL x0 (⟨#[44,32]⟩:ByteArray)) H (fun _ _ hR HQ=>Xu.ne rfl (Xu.ne rfl (hthr _ _ hR HQ))) (fun Xx46 a w ea hR H=>?_)
    have hE:=Env.put_some hE rfl ea; clear ea
    refine KX ?_
    exact ⟨hE.cut (.cons rfl (.cons rfl (.cons rfl (.cons rfl (.cons rfl Subs.nil))))),hR,H⟩
   ·replace H:=M.ite_f hb H
    refine J2 ?_
    exact ⟨hE.cut (.cons rfl (.cons rfl (.cons rfl (.cons rfl (.cons rfl Subs.nil))))),hR,H⟩
 ·replace H:=M.ite_f hb H
  refine KDI ?_
  refine Xu.same ?_
  refine hK_8 _ _ ?_
  refine KY (fun K hK_47=>?_)
  refine KF ?_
  refine KC (v:=.pointer x0) rfl rfl hE rfl (KG hE rfl) (fun a hE=>?_)
  obtain ⟨Xx48,qXx48,H⟩:=H
  refine KC (v:=.pointer (some Xx48)) rfl rfl hE rfl (KL hE (Zv rfl (congrArg Value.pointer qXx48))) (fun a hE=>?_)
  refine KC (v:=.pointer (some ((Xx48).add 1))) rfl rfl hE rfl (KH hE rfl ZI) (fun a hE=>?_)
  obtain ⟨Xx49,qXx49,H⟩:=H
  refine KC (v:=.int .i64 Xx49) rfl rfl hE rfl (ZE hE rfl sc3 qXx49) (fun a hE=>?_)
  refine KC (v:=.int .i64 (IntKind.wrap .i64 (Xx49+1))) rfl rfl hE rfl (ZH hE rfl rfl K9 X8) (fun a hE=>?_)
  obtain ⟨Xx50,qXx50,H⟩:=H
  refine KC (v:=.pointer (some Xx50)) rfl rfl hE rfl (KL hE (Zv rfl (congrArg Value.pointer qXx50))) (fun a hE=>?_)
  refine KC (v:=.pointer (some ((Xx50).add 1))) rfl rfl hE rfl (KH hE rfl ZI) (fun a hE=>?_)
  obtain ⟨u_51,qu_51,H⟩:=H
  refine Uc rfl rfl hE hR (Zb hE rfl rfl sz3 qu_51) (fun a w hE hR hh=>?_)
  replace H:=M.at hh H; clear hh
  refine KX ?_
  refine hK_47 _ _ ?_
  refine KY (fun K hK_52=>?_)
  refine KF ?_
  refine KC (v:=(Xx9:Sl).v) rfl rfl hE rfl (KG hE rfl) (fun a hE=>?_)
  refine KC (v:=(Xx9:Sl).v) rfl rfl hE rfl (Kc hE rfl) (fun a hE=>?_)
  refine KX ?_
  refine hK_52 _ _ ?_
  refine WD ?_
  exact hret _ _ _ Xx9 _ hE hR (Zu hE rfl (RV.tmp rfl RV.nil)) rfl H
def Z4 (C5:Sl) (C6:Value) (C7:Int) (self1:(Int)→M (Int)):(Int)→M (Int):=fun s=>match s with
 | Xx4=>do
  M.ite (decide (Xx4 < C7)) (do
   let Xx14←ixL C5 Xx4 1
   let Xx15←ldI .u8 Xx14
   let Xx16←Yq Go.Proofs.Tryz.prog (fun r:Bool=>.bool r) C6 [.int .u8 Xx15]
   M.ite Xx16 (do
    M.pure Xx4
    ) (do
    self1 (IntKind.wrap .i64 (Xx4+1))
    )
   ) (do
   M.pure (-1)
   )
def Zf (x0:Sl) (x1:Value):M (Int):=do
 M.loop (Z4 x0 x1 (x0.len:Int)) 0
theorem WS (x0:Sl) (x1:Value):Kn Go.Proofs.Tryz.prog 261 #[(x0:Sl).v,x1] (fun (r:Int)=>.int .i64 r) (Zf x0 x1) :=
 KN [] [] [.I .i64] [(0,.L x0),(1,.V x1)] (.q .o (.q (.q .o (.b (.l [(0,.L),(1,.V),(7,.I .i64)] [(8,.I .i64)] (fun (t:Sl × Value × Int)=>Z4 t.1 t.2.1 t.2.2) (fun _=>.o)))) .o)) Go.Proofs.Tryz.func261 rfl rfl ⟨rfl,rfl,trivial⟩ rfl (by kernel_rfl) (by kernel_rfl)
noncomputable def WT:CalleeS Go.Proofs.Tryz.prog:=mkC Vw Vy [.L,.V] [.I .i64] (fun (t:Sl × Value)=>Zf t.1 t.2) (fun (t:Sl × Value)=>WS t.1 t.2)
end Gx
namespace Gx
open Go
set_option linter.unusedVariables false
set_option maxRecDepth 100000
def K0 (x0:Sl) (x1:Value):M (Bool):=do
 let Xx3←Zf x0 x1
 M.pure (decide (Xx3 ≥ 0))
theorem Vc (x0:Sl) (x1:Value):Kn Go.Proofs.Tryz.prog 257 #[(x0:Sl).v,x1] (fun (r:Bool)=>.bool r) (K0 x0 x1) :=
 KN [WT] [] [.B] [(0,.L x0),(1,.V x1)] .o Go.Proofs.Tryz.func257 rfl rfl ⟨rfl,rfl,trivial⟩ rfl (by kernel_rfl) (by kernel_rfl)
noncomputable def Vd:CalleeS Go.Proofs.Tryz.prog:=mkC VI VJ [.L,.V] [.B] (fun (t:Sl × Value)=>K0 t.1 t.2) (fun (t:Sl × Value)=>Vc t.1 t.2)
def ZO (x0:ByteArray):M (ByteArray):=do
 M.ite ((x0.size:Int) == 0) (do
  M.pure ByteArray.empty
  ) (do
  let Xx6←mkS KU 1 1 (#[.int .u8 0]:Array Value) (x0.size:Int) (x0.size:Int)
  let Xx8←cpSt Xx6 x0
  let Xx10←ixL Xx6 0 1
  let Xx11←uStr KU (some Xx10) (Xx6.len:Int)
  M.pure Xx11
  )
theorem YM (x0:ByteArray):Kn Go.Proofs.Tryz.prog 271 #[.string x0] (fun (r:ByteArray)=>.string r) (ZO x0) :=
 KN [] [] [.S] [(0,.S x0)] .o Go.Proofs.Tryz.func271 rfl rfl ⟨rfl,trivial⟩ rfl (by kernel_rfl) (by kernel_rfl)
noncomputable def YN:CalleeS Go.Proofs.Tryz.prog:=mkC Wd Wj [.S] [.S] (fun (t:ByteArray)=>ZO t) (fun (t:ByteArray)=>YM t)
def Js (x0:ByteArray) (x1:ByteArray):M (Option Addr):=do
 let Xx3←ldV (⟨7,0,none⟩:Addr)
 let Xx4←ZO x1
 chk (fun h:Heap=>(KO h (⟨7,0,none⟩:Addr)=some (Xx3)))
 let Xx5←KLj [(0,1),(1,1),(2,1)] (#[.string ByteArray.empty,.string ByteArray.empty,.nilIface]:Array Value) [(0,.string x0),(1,.string Xx4),(2,Xx3)]
 let Xx6←mkB Na Xx5
 M.pure (some Xx6)
theorem NE (x0:ByteArray) (x1:ByteArray):Kn Go.Proofs.Tryz.prog 266 #[.string x0,.string x1] (fun (r:Option Addr)=>.pointer r) (Js x0 x1) :=
 KN [YN] [4] [.P] [(0,.S x0),(1,.S x1)] (.q .o (.q (.r [0,0,2,0,13,16,63] [0,0,2,0,13,16,32] [0,0,2,0,15,31,63] (.pu 0 (.pu 1 (.pu 3 (.st [4,5,6] (.on 2 (.pu 4 (.nx (.on 5 (.pu 6 (.nx .dn))))))))))) .o)) Go.Proofs.Tryz.func266 rfl rfl ⟨rfl,rfl,trivial⟩ rfl (by kernel_rfl) (by kernel_rfl)
noncomputable def NF:CalleeS Go.Proofs.Tryz.prog:=mkC GG GJ [.S,.S] [.P] (fun (t:ByteArray × ByteArray)=>Js t.1 t.2) (fun (t:ByteArray × ByteArray)=>NE t.1 t.2)
def Uq (x0:ByteArray) (x1:ByteArray) (x2:Int) (x3:Int) (x4:Value):M (Value):=do
 let Xx5←eqII Ki x4 (Value.iface Ki (.int .i64 2))
 M.ite Xx5 (do
  let Xx7←U9 x0 x1
  M.pure (Value.iface Jp (.pointer Xx7))
  ) (do
  let Xx9←eqII Ki x4 (Value.iface Ki (.int .i64 1))
  M.ite Xx9 (do
   let Xx11←Js x0 x1
   M.pure (Value.iface Jp (.pointer Xx11))
   ) (do
   let Xx13←eqII Ki x4 (Value.iface Ki (.int .i64 3))
   M.ite Xx13 (do
    let Xx15←Vz x0 x1 x2
    M.pure (Value.iface Jp (.pointer Xx15))
    ) (do
    let Xx17←eqII Ki x4 (Value.iface Ki (.int .i64 4))
    M.ite Xx17 (do
     let Xx19←U0 x0 x1 x3
     M.pure (Value.iface Jp (.pointer Xx19))
     ) (do
     M.pure x4
     )
    )
   )
  )
theorem zh (x0:ByteArray) (x1:ByteArray) (x2:Int) (x3:Int) (x4:Value):Kn Go.Proofs.Tryz.prog 263 #[.string x0,.string x1,.int .i64 x2,.int .i64 x3,x4] (fun (r:Value)=>r) (Uq x0 x1 x2 x3 x4) :=
 KN [mkC Xy Xz [.S,.S] [.P] (fun (t:ByteArray × ByteArray)=>U9 t.1 t.2) (fun (t:ByteArray × ByteArray)=>GK t.1 t.2),NF,mkC Gp G9 [.S,.S,.I .i64] [.P] (fun (t:ByteArray × ByteArray × Int)=>Vz t.1 t.2.1 t.2.2) (fun (t:ByteArray × ByteArray × Int)=>Nm t.1 t.2.1 t.2.2),mkC Xb Xe [.S,.S,.I .i64] [.P] (fun (t:ByteArray × ByteArray × Int)=>U0 t.1 t.2.1 t.2.2) (fun (t:ByteArray × ByteArray × Int)=>X1 t.1 t.2.1 t.2.2)] [17,24,32,40] [.V] [(0,.S x0),(1,.S x1),(2,.I .i64 x2),(3,.I .i64 x3),(4,.V x4)] .o Go.Proofs.Tryz.func263 rfl rfl ⟨rfl,rfl,rfl,rfl,rfl,trivial⟩ rfl (by kernel_rfl) (by kernel_rfl)
noncomputable def zi:CalleeS Go.Proofs.Tryz.prog:=mkC qP qX [.S,.S,.I .i64,.I .i64,.V] [.V] (fun (t:ByteArray × ByteArray × Int × Int × Value)=>Uq t.1 t.2.1 t.2.2.1 t.2.2.2.1 t.2.2.2.2) (fun (t:ByteArray × ByteArray × Int × Int × Value)=>zh t.1 t.2.1 t.2.2.1 t.2.2.2.1 t.2.2.2.2)
def US (x0:ByteArray) (x1:Int) (x2:Int):M (Int × Value):=do
 let Xx3←Jw x0 x1 x2
 let Xx6←isNI Xx3.2
 M.ite (!Xx6) (do
  let Xx8←Uq (⟨#[80,97,114,115,101,73,110,116]⟩:ByteArray) x0 x1 x2 Xx3.2
  M.pure (Xx3.1,Xx8)
  ) (do
  M.pure (Xx3.1,Value.nilIface)
  )
theorem q5 (x0:ByteArray) (x1:Int) (x2:Int):Kn Go.Proofs.Tryz.prog 259 #[.string x0,.int .i64 x1,.int .i64 x2] (fun (r:Int × Value)=>.tuple #[.int .i64 r.1,r.2]) (US x0 x1 x2) :=
 KN [mkC Wy YB [.S,.I .i64,.I .i64] [.I .i64,.V] (fun (t:ByteArray × Int × Int)=>Jw t.1 t.2.1 t.2.2) (fun (t:ByteArray × Int × Int)=>YY t.1 t.2.1 t.2.2),zi] [] [.I .i64,.V] [(0,.S x0),(1,.I .i64 x1),(2,.I .i64 x2)] .o Go.Proofs.Tryz.func259 rfl rfl ⟨rfl,rfl,rfl,trivial⟩ rfl (by kernel_rfl) (by kernel_rfl)
noncomputable def q7:CalleeS Go.Proofs.Tryz.prog:=mkC NZ Nk [.S,.I .i64,.I .i64] [.I .i64,.V] (fun (t:ByteArray × Int × Int)=>US t.1 t.2.1 t.2.2) (fun (t:ByteArray × Int × Int)=>q5 t.1 t.2.1 t.2.2)
def Gd (x0:Int) (x1:Bool):M (Int × Int):=do
 M.ite (!x1) (do
  M.pure (0,7)
  ) (do
  M.pure (x0,0)
  )
theorem KGL (x0:Int) (x1:Bool):Kn Go.Proofs.Tryz.prog 260 #[.int .i64 x0,.bool x1] (fun (r:Int × Int)=>.tuple #[.int .i64 r.1,.int .i64 r.2]) (Gd x0 x1) :=
 KN [] [] [.I .i64,.I .i64] [(0,.I .i64 x0),(1,.B x1)] .o Go.Proofs.Tryz.func260 rfl rfl ⟨rfl,rfl,trivial⟩ rfl (by kernel_rfl) (by kernel_rfl)
noncomputable def KGM:CalleeS Go.Proofs.Tryz.prog:=mkC KEg KEk [.I .i64,.B] [.I .i64,.I .i64] (fun (t:Int × Bool)=>Gd t.1 t.2) (fun (t:Int × Bool)=>KGL t.1 t.2)
def WU (C4:ByteArray) (Xx3:ByteArray):M (Int × Int):=do
 let Xx7←M.ite (sEq Xx3 ByteArray.empty) (do
  M.pure true
  ) (do
  let Xx8←s2b KU Xx3
  let Xx9←K0 Xx8 (Value.func (.func KBZ) #[] #[])
  M.pure Xx9
  )
 let Xx10←M.ite Xx7 (do
  M.pure true
  ) (do
  let Xx11←ixS Xx3 0
  let Xx12←M.ite (Xx11 == 48) (do
   M.pure (!(sEq C4 (⟨#[48]⟩:ByteArray)))
   ) (do
   M.pure false
   )
  M.pure Xx12
  )
 M.ite Xx10 (do
  M.pure (0,10)
  ) (do
  let Xx15←US C4 10 64
  let Xx17←isNI Xx15.2
  let Xx18←Gd Xx15.1 Xx17
  M.pure (Xx18.1,Xx18.2)
  )
def KA3 (x0:ByteArray):M (Int × Int):=do
 let Xx20←M.ite (!(sEq x0 ByteArray.empty)) (do
  let Xx21←ixS x0 0
  M.pure (Xx21 == 45)
  ) (do
  M.pure false
  )
 M.ite Xx20 (do
  let Xx22←slS x0 1 x0.size
  WU x0 Xx22
  ) (do
  WU x0 x0
  )
theorem KEs (x0:ByteArray):Kn Go.Proofs.Tryz.prog 253 #[.string x0] (fun (r:Int × Int)=>.tuple #[.int .i64 r.1,.int .i64 r.2]) (KA3 x0) :=
 KN [Vd,q7,KGM] [] [.I .i64,.I .i64] [(0,.S x0)] (.q .o (.q .o (.q .o (.j [(0,.S),(4,.S)] (fun (t:ByteArray × ByteArray)=>WU t.1 t.2) .o)))) Go.Proofs.Tryz.func253 rfl rfl ⟨rfl,trivial⟩ rfl (by kernel_rfl) (by kernel_rfl)
def N0 (x0:Int):M (Bool):=do
 let Xx3←M.ite (decide (x0 < 48)) (do
  M.pure true
  ) (do
  M.pure (decide (x0 > 57))
  )
 M.pure Xx3
theorem KCu (x0:Int):Kn Go.Proofs.Tryz.prog 258 #[.int .u8 x0] (fun (r:Bool)=>.bool r) (N0 x0) :=
 KN [] [] [.B] [(0,.I .u8 x0)] .o Go.Proofs.Tryz.func258 rfl rfl ⟨rfl,trivial⟩ rfl (by kernel_rfl) (by kernel_rfl)
end Gx
