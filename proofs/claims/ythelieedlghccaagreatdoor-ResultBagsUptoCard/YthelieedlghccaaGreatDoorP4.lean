/- Printed by program: Go functions as Lean programs, each tied to its code. No condition. -/
import Derived.Test.YthelieedlghccaaGreatDoorP0
import Derived.Test.YthelieedlghccaaGreatDoorP1
import Derived.Test.YthelieedlghccaaGreatDoorP2
import Derived.Test.YthelieedlghccaaGreatDoorP3
set_option linter.unusedVariables false
set_option linter.unusedSimpArgs false
namespace Gx
open Go
set_option linter.unusedVariables false
set_option maxRecDepth 100000
def Kn (C56:Option Addr) (C57:Addr) (C58:Addr):M (Array Value):=do
 let Xx60←KQ C56 (⟨#[93]⟩:ByteArray)
 let Xx62←ldG 4 C58
 M.need (Xx62.size=4)
 stG C57 Xx62
 let Rr64←ldG 4 C57
 M.pure Rr64
def Zl (x0:Option Addr) (x1:Int):M (Array Value):=do
 let Xx2←mkB KB (#[.int .i64 0,.int .i64 0,.string ByteArray.empty,.slice none 0 0]:Array Value)
 M.ite (decide (x1 ≥ 8)) (do
  let Xx6←nilP x0
  let Xx7←ldI .i64 ((Xx6).add 1)
  let Xx8←KR x0 Xx7
  M.need ((#[.int .i64 0,.int .i64 0,.string ByteArray.empty,.slice none 0 0]:Array Value).size=4)
  stG Xx2 (#[.int .i64 0,.int .i64 0,.string ByteArray.empty,.slice none 0 0]:Array Value)
  let Rr11←ldG 4 Xx2
  M.pure Rr11
  ) (do
  let Xx14←KS x0
  let Xx16←M.ite (Xx14 == 45) (do
   M.pure true
   ) (do
   let Xx17←Zv Xx14
   M.pure Xx17
   )
  M.ite Xx16 (do
   let Xx19←ZF x0 true
   let Xx20←Z9 Xx19
   M.need (Xx20.size=4)
   stG Xx2 Xx20
   let Rr22←ldG 4 Xx2
   M.pure Rr22
   ) (do
   M.ite (Xx14 == 39) (do
    let Xx25←Ji x0
    let Xx26←JA Xx25
    M.need (Xx26.size=4)
    stG Xx2 Xx26
    let Rr28←ldG 4 Xx2
    M.pure Rr28
    ) (do
    M.ite (Xx14 == 116) (do
     let Xx31←KQ x0 (⟨#[116,114,117,101]⟩:ByteArray)
     let Xx33←Um true
     M.need (Xx33.size=4)
     stG Xx2 Xx33
     let Rr35←ldG 4 Xx2
     M.pure Rr35
     ) (do
     M.ite (Xx14 == 102) (do
      let Xx38←KQ x0 (⟨#[102,97,108,115,101]⟩:ByteArray)
      let Xx40←Um false
      M.need (Xx40.size=4)
      stG Xx2 Xx40
      let Rr42←ldG 4 Xx2
      M.pure Rr42
      ) (do
      let Xx44←M.ite (Xx14 == 118) (do
       M.pure true
       ) (do
       M.pure (Xx14 == 101)
       )
      M.ite Xx44 (do
       let Xx46←nilP x0
       let Xx47←ldI .i64 ((Xx46).add 1)
       let Xx48←nilP x0
       stV ((Xx48).add 1) (.int .i64 (IntKind.wrap .i64 (Xx47+1)))
       let Xx51←KQ x0 (⟨#[91]⟩:ByteArray)
       let Xx53←ZF x0 true
       let Xx54←mkB KB (#[.int .i64 0,.int .i64 0,.string ByteArray.empty,.slice none 0 0]:Array Value)
       M.need ((#[.int .i64 7,.int .i64 Xx53,.string ByteArray.empty,.slice none 0 0]:Array Value).size=4)
       stG Xx54 (#[.int .i64 7,.int .i64 Xx53,.string ByteArray.empty,.slice none 0 0]:Array Value)
       M.ite (Xx14 == 118) (do
        stV ((Xx54).add 0) (.int .i64 6)
        Kn x0 Xx2 Xx54
        ) (do
        Kn x0 Xx2 Xx54
        )
       ) (do
       M.ite (Xx14 == 91) (do
        let Xx69←nilP x0
        let Xx70←ldI .i64 ((Xx69).add 1)
        let Xx71←nilP x0
        stV ((Xx71).add 1) (.int .i64 (IntKind.wrap .i64 (Xx70+1)))
        let Xx74←WP Go.Proofs.Tryz.prog Je #[.pointer x0,.int .i64 x1,.string (⟨#[44,32]⟩:ByteArray),.int .u8 93] (fun r:Sl=>(r:Sl).v)
        M.need ((#[.int .i64 4,.int .i64 0,.string ByteArray.empty,(Xx74:Sl).v]:Array Value).size=4)
        stG Xx2 (#[.int .i64 4,.int .i64 0,.string ByteArray.empty,(Xx74:Sl).v]:Array Value)
        let Rr76←ldG 4 Xx2
        M.pure Rr76
        ) (do
        M.ite (Xx14 == 123) (do
         let Xx79←nilP x0
         let Xx80←ldI .i64 ((Xx79).add 1)
         let Xx81←nilP x0
         stV ((Xx81).add 1) (.int .i64 (IntKind.wrap .i64 (Xx80+1)))
         let Xx84←WP Go.Proofs.Tryz.prog Je #[.pointer x0,.int .i64 x1,.string (⟨#[58,32]⟩:ByteArray),.int .u8 125] (fun r:Sl=>(r:Sl).v)
         M.need ((#[.int .i64 5,.int .i64 0,.string ByteArray.empty,(Xx84:Sl).v]:Array Value).size=4)
         stG Xx2 (#[.int .i64 5,.int .i64 0,.string ByteArray.empty,(Xx84:Sl).v]:Array Value)
         let Rr86←ldG 4 Xx2
         M.pure Rr86
         ) (do
         let Xx88←nilP x0
         let Xx89←ldI .i64 ((Xx88).add 1)
         let Xx90←KR x0 Xx89
         M.need ((#[.int .i64 0,.int .i64 0,.string ByteArray.empty,.slice none 0 0]:Array Value).size=4)
         stG Xx2 (#[.int .i64 0,.int .i64 0,.string ByteArray.empty,.slice none 0 0]:Array Value)
         let Rr93←ldG 4 Xx2
         M.pure Rr93
         )
        )
       )
      )
     )
    )
   )
  )
theorem WW (x0:Option Addr) (x1:Int):Ki Go.Proofs.Tryz.prog 153 #[.pointer x0,.int .i64 x1] (fun (r:Array Value)=>.agg r) (Zl x0 x1) :=
 KL [Zf,Zg,YB,NG,qU,Jx,mkC Je Ni [.P,.I .i64,.S,.I .u8] [.L] (fun (t:Option Addr × Int × ByteArray × Int)=>WP Go.Proofs.Tryz.prog Je #[.pointer t.1,.int .i64 t.2.1,.string t.2.2.1,.int .u8 t.2.2.2] (fun r:Sl=>(r:Sl).v)) (fun (t:Option Addr × Int × ByteArray × Int)=>JN),qR,qS,KCt] [0,9,10,16,25,31,37,43,53,60,62,68,74,81,88,95,99,100] [.G] [(0,.P x0),(1,.I .i64 x1)] (.q .o (.q .o (.q (.q .o (.b (.q .o (.q .o (.q .o (.q .o (.q .o (.q .o (.q .o (.q .o (.q .o (.q (.q .o (.q .o (.q .o (.q .o (.j [(0,.P),(4,.A),(6,.A)] (fun (t:Option Addr × Addr × Addr)=>Kn t.1 t.2.1 t.2.2) .o))))) .o)))))))))))) .o))) Go.Proofs.Tryz.func153 rfl rfl ⟨rfl,rfl,trivial⟩ rfl (by kernel_rfl) (by kernel_rfl)
noncomputable def Nk:CalleeS Go.Proofs.Tryz.prog:=mkC Zo WB [.P,.I .i64] [.G] (fun (t:Option Addr × Int)=>Zl t.1 t.2) (fun (t:Option Addr × Int)=>WW t.1 t.2)
def JT (C9:Addr) (C10:Option Addr) (C11:Addr):M (Array Value × Int × Int):=do
 let Xx14←nilP C10
 let Xx15←ldI .i64 ((Xx14).add 2)
 M.ite (decide (Xx15 ≥ 0)) (do
  let Xx17←nilP C10
  let Xx18←ldI .i64 ((Xx17).add 2)
  M.need ((#[.int .i64 0,.int .i64 0,.string ByteArray.empty,.slice none 0 0]:Array Value).size=4)
  stG C9 (#[.int .i64 0,.int .i64 0,.string ByteArray.empty,.slice none 0 0]:Array Value)
  chk (fun h:Heap=>(KO h ((Xx17).add 2)=some (.int .i64 Xx18)))
  let Rr20←ldG 4 C9
  M.pure (Rr20,Xx18,22)
  ) (do
  let Xx23←ldG 4 C11
  let Xx24←UR Xx23
  M.ite (Xx24 != 0) (do
   M.need ((#[.int .i64 0,.int .i64 0,.string ByteArray.empty,.slice none 0 0]:Array Value).size=4)
   stG C9 (#[.int .i64 0,.int .i64 0,.string ByteArray.empty,.slice none 0 0]:Array Value)
   let Rr27←ldG 4 C9
   M.pure (Rr27,0,20)
   ) (do
   let Xx29←ldG 4 C11
   M.need (Xx29.size=4)
   stG C9 Xx29
   let Rr31←ldG 4 C9
   M.pure (Rr31,0,0)
   )
  )
def VF (x0:ByteArray):M (Array Value × Int × Int):=do
 let Xx2←mkB KB (#[.int .i64 0,.int .i64 0,.string ByteArray.empty,.slice none 0 0]:Array Value)
 let Xx4←mkB Za (#[.string x0,.int .i64 0,.int .i64 (-1)]:Array Value)
 let Xx6←Zl (some Xx4) 0
 let Xx7←mkB KB (#[.int .i64 0,.int .i64 0,.string ByteArray.empty,.slice none 0 0]:Array Value)
 M.need (Xx6.size=4)
 stG Xx7 Xx6
 let Xx33←nilP (some Xx4)
 let Xx34←ldI .i64 ((Xx33).add 2)
 let Xx35←M.ite (decide (Xx34 < 0)) (do
  let Xx36←nilP (some Xx4)
  let Xx37←ldI .i64 ((Xx36).add 1)
  M.pure (decide (Xx37 < (x0.size:Int)))
  ) (do
  M.pure false
  )
 M.ite Xx35 (do
  let Xx38←nilP (some Xx4)
  let Xx39←ldI .i64 ((Xx38).add 1)
  let Xx40←KR (some Xx4) Xx39
  JT Xx2 (some Xx4) Xx7
  ) (do
  JT Xx2 (some Xx4) Xx7
  )
theorem KBr (x0:ByteArray):Ki Go.Proofs.Tryz.prog 103 #[.string x0] (fun (r:Array Value × Int × Int)=>.tuple #[.agg r.1,.int .i64 r.2.1,.int .i64 r.2.2]) (VF x0) :=
 KL [Nk,Zf,ND] [5,10,12,18,26,27,32,38] [.G,.I .i64,.I .i64] [(0,.S x0)] (.q .o (.q .o (.q .o (.q .o (.j [(2,.A),(5,.P),(6,.A)] (fun (t:Addr × Option Addr × Addr)=>JT t.1 t.2.1 t.2.2) (.q (.q .o (.q (.q (.r [0,0,2,4,8,1,63,127] [0,0,2,4,8,1,16,0] [0,0,2,6,14,1,63,127] (.pu 0 (.pu 1 (.pu 2 (.pu 3 (.pu 4 (.st [6,7] (.on 5 (.pu 6 (.pu 7 (.nx .dn))))))))))) .o) .o)) .o)))))) Go.Proofs.Tryz.func103 rfl rfl ⟨rfl,trivial⟩ rfl (by kernel_rfl) (by kernel_rfl)
noncomputable def KBs:CalleeS Go.Proofs.Tryz.prog:=mkC KAX KAl [.S] [.G,.I .i64,.I .i64] (fun (t:ByteArray)=>VF t) (fun (t:ByteArray)=>KBr t)
def Vb (x0:ByteArray):M (Bool):=do
 let Xx3←M.ite (sEq x0 ByteArray.empty) (do
  M.pure true
  ) (do
  let Xx4←ixS x0 (IntKind.wrap .i64 ((x0.size:Int) - 1))
  M.pure (Xx4 == 10)
  )
 M.pure Xx3
theorem KCu (x0:ByteArray):Ki Go.Proofs.Tryz.prog 104 #[.string x0] (fun (r:Bool)=>.bool r) (Vb x0) :=
 KL [] [] [.B] [(0,.S x0)] .o Go.Proofs.Tryz.func104 rfl rfl ⟨rfl,trivial⟩ rfl (by kernel_rfl) (by kernel_rfl)
noncomputable def KCv:CalleeS Go.Proofs.Tryz.prog:=mkC KBQ KBa [.S] [.B] (fun (t:ByteArray)=>Vb t) (fun (t:ByteArray)=>KCu t)
def JJ (x0:Sl) (x1:Int):M (Value):=do
 let Xx2←mkB VA #[(x0:Sl).v]
 let Xx3←mkB VY #[.int .i64 x1]
 let Xx6←ldI .i64 Xx3
 M.ite (decide (Xx6 < 1)) (do
  M.fail
  ) (do
  M.pure (Value.func (.func Zp) #[] #[.pointer (some Xx2),.pointer (some Xx3)])
  )
theorem Wn (x0:Sl) (x1:Int):Ki Go.Proofs.Tryz.prog 78 #[(x0:Sl).v,.int .i64 x1] (fun (r:Value)=>r) (JJ x0 x1) :=
 KL [] [] [.V] [(0,.L x0),(1,.I .i64 x1)] .o Go.Proofs.Tryz.func78 rfl rfl ⟨rfl,rfl,trivial⟩ rfl (by kernel_rfl) (by kernel_rfl)
def ZC (self2:(Int × Int)→M (Sl)) (C36:Int) (Xx32:Int):M (Sl):=do
 self2 (Xx32,IntKind.wrap .i64 (C36+1))
def Zb (C26:Sl) (C27:Value) (C28:Sl) (self2:(Int × Int)→M (Sl)):(Int × Int)→M (Sl):=fun s=>match s with
 | (Xx24,Xx25)=>do
  M.ite (decide (Xx25 < (C28.len:Int))) (do
   let Xx38←ixL C28 Xx25 4
   let Xx39←ixL C28 (IntKind.wrap .i64 (Xx25 - 1)) 4
   let Xx40←ldG 4 Xx38
   let Xx41←ldG 4 Xx39
   let Xx42←KLX Go.Proofs.Tryz.prog (fun r:Bool=>.bool r) C27 [.agg Xx40,.agg Xx41]
   M.ite (!Xx42) (do
    let Xx44←ixL C28 Xx25 4
    let Xx45←ldG 4 Xx44
    let Xx46←ixL C26 Xx24 4
    M.need (Xx45.size=4)
    stG Xx46 Xx45
    ZC self2 Xx25 (IntKind.wrap .i64 (Xx24+1))
    ) (do
    ZC self2 Xx25 Xx24
    )
   ) (do
   let Xx49←slL C26 Xx24 C26.len 4
   let u_50←clL (#[.int .i64 0,.int .i64 0,.string ByteArray.empty,.slice none 0 0]:Array Value) Xx49
   let Xx52←slL C26 0 Xx24 4
   M.pure Xx52
   )
def Zc (C8:Sl) (C9:Value) (self1:(Int)→M (Sl)):(Int)→M (Sl):=fun s=>match s with
 | Xx7=>do
  M.ite (decide (Xx7 < (C8.len:Int))) (do
   let Xx15←ixL C8 Xx7 4
   let Xx16←ixL C8 (IntKind.wrap .i64 (Xx7 - 1)) 4
   let Xx17←ldG 4 Xx15
   let Xx18←ldG 4 Xx16
   let Xx19←KLX Go.Proofs.Tryz.prog (fun r:Bool=>.bool r) C9 [.agg Xx17,.agg Xx18]
   M.ite Xx19 (do
    let Xx21←slL C8 Xx7 C8.len 4
    M.loop (Zb C8 C9 Xx21) (Xx7,1)
    ) (do
    self1 (IntKind.wrap .i64 (Xx7+1))
    )
   ) (do
   M.pure C8
   )
def ZL (x0:Sl) (x1:Value):M (Sl):=do
 M.ite (decide ((x0.len:Int) < 2)) (do
  M.pure x0
  ) (do
  M.loop (Zc x0 x1) 1
  )
theorem Vc (x0:Sl) (x1:Value):Ki Go.Proofs.Tryz.prog 121 #[(x0:Sl).v,x1] (fun (r:Sl)=>(r:Sl).v) (ZL x0 x1) :=
 KL [] [] [.L] [(0,.L x0),(1,.V x1)] (.q .o (.q .o (.q (.q .o (.b (.l [(0,.L),(1,.V)] [(5,.I .i64)] (fun (t:Sl × Value)=>Zc t.1 t.2) (fun _=>.q .o (.q (.b (.q (.r [0,0,0,6,8,0,0,64,160,256,529] [0,0,0,6,8,0,0,64,160,256,529] [0,0,0,6,14,0,0,64,224,480,1023] (.pu 0 (.pu 1 (.pu 2 (.pu 3 (.pu 5 (.pu 6 (.pu 7 (.pu 8 (.pu 4 (.pu 9 (.st [10] (.on 10 .dn))))))))))))) (.q (.q .o (.q (.q .o (.b (.l [(0,.L),(1,.V),(6,.L)] [(5,.I .i64),(7,.I .i64)] (fun (t:Sl × Value × Sl)=>Zb t.1 t.2.1 t.2.2) (fun self2=>.q .o (.q (.b (.q (.r [0,0,0,6,8,0,0,64,160,256,529,1024] [0,0,0,6,8,0,0,64,160,256,529,1024] [0,0,0,6,14,0,0,64,224,480,1023,2047] (.pu 0 (.pu 1 (.pu 2 (.pu 3 (.pu 5 (.pu 6 (.pu 7 (.pu 8 (.pu 4 (.pu 9 (.st [10,11] (.on 10 (.pu 11 (.nx .dn))))))))))))))) .o)) (.j [(0,.L),(1,.V),(6,.L),(7,.I .i64),(5,.I .i64)] (fun (t:Sl × Value × Sl × Int × Int)=>ZC self2 t.2.2.2.1 t.2.2.2.2) .o)))))) .o)) .o))) .o))))) .o))) Go.Proofs.Tryz.func121 rfl rfl ⟨rfl,rfl,trivial⟩ rfl (by kernel_rfl) (by kernel_rfl)
theorem KPM:KHe Go.Proofs.Tryz.f65 14 [[],[],[1],[2],[0],[],[0,5,0,1,2,3,4,5],[6,4,0,1,2,3,4,5,6],[7,3,6,0,1,2,3,4,5,6],[6,6,0,1,2,3,4,5,6]] [[],[],[1],[2],[0],[],[0,5],[4,6],[3,7],[6]] [[],[],[1],[1,2],[0],[],[0,1,2,3,4,5],[0,1,2,3,4,5,6],[0,1,2,3,4,5,6,7],[0,1,2,3,4,5,6]]=true:=by kernel_rfl
def WL (C45:Addr) (C46:Addr) (C47:Addr) (lp2:Nat):(Sl)→M Nat:=fun x=>match x with
 | Xx48=>do
  let _←beg lp2
  let Xx51←ixL Xx48 0 4
  let Xx52←ldI .i64 ((Xx51).add 0)
  M.ite (Xx52 != 2) (do
   stV C45 (.string ByteArray.empty)
   stV C46 (.int .i64 21)
   M.pure 1
   ) (do
   let Xx56←ixL Xx48 0 4
   let Xx57←ldL C47
   let Xx58←ldG 4 Xx56
   let y_60←NY 4 1 (#[.int .i64 0,.int .i64 0,.string ByteArray.empty,.slice none 0 0]:Array Value) [(0,.agg (#[.int .i64 0,.int .i64 0,.string ByteArray.empty,.slice none 0 0]:Array Value))]
   let Xx59←bdL KB 1 y_60
   chk (fun h:Heap=>(KO h C47=some ((Xx57:Sl).v))∧(Xx58.size=4∧∀ i,i < 4→KO h (Addr.add Xx56 i)=Xx58[i]?))
   let Xx61←apL KB 4 56 (#[.int .i64 0,.int .i64 0,.string ByteArray.empty,.slice none 0 0]:Array Value) Xx57 Xx59
   let Xx62←ixL Xx61 (Xx57.len:Int) 4
   let y_67←do
    M.both (do
     M.need (Xx58.size=4)
     stG Xx62 Xx58
     stV C47 ((Xx61:Sl).v)
     M.pure ()
     ) (do
     stV C47 ((Xx61:Sl).v)
     M.need (Xx58.size=4)
     stG Xx62 Xx58
     M.pure ()
     )
   M.pure 0
   )
def YZ (cm_86:List Nat) (C87:Addr) (C88:Addr) (C89:Addr) (C90:Value) (C91:Sl) (C92:Int) (self3:(Int)→M (ByteArray × Int)):(Int)→M (ByteArray × Int):=fun s=>match s with
 | Xx85=>do
  M.ite (decide (Xx85 < C92)) (do
   let Xx98←ixL C91 Xx85 4
   let Xx99←ldG 4 Xx98
   let Xx100←mkB KB (#[.int .i64 0,.int .i64 0,.string ByteArray.empty,.slice none 0 0]:Array Value)
   M.need (Xx99.size=4)
   stG Xx100 Xx99
   let Xx102←V7 Go.Proofs.Tryz.prog (fun r:Unit=>.tuple #[]) C90 [(Value.func (.func WQ) #[] #[.pointer (some Xx100)])]
   self3 (IntKind.wrap .i64 (Xx85+1))
   ) (do
   let Xx104←ZG (some C89)
   stV C87 (.string Xx104)
   stV C88 (.int .i64 0)
   let _←shut cm_86
   let Rr107←ldS C87
   let Rr108←ldI .i64 C88
   M.pure (Rr107,Rr108)
   )
def Ya (C19:Sl) (C20:Addr) (C21:Addr) (C22:Addr) (C23:Sl) (C24:Int) (self1:(List Nat × Int)→M (ByteArray × Int)):(List Nat × Int)→M (ByteArray × Int):=fun s=>match s with
 | (xm_17,Xx18)=>do
  M.ite (decide (Xx18 < C24)) (do
   let Xx30←ixL C23 Xx18 4
   let Xx31←ldG 4 Xx30
   let Xx32←mkB KB (#[.int .i64 0,.int .i64 0,.string ByteArray.empty,.slice none 0 0]:Array Value)
   M.need (Xx31.size=4)
   stG Xx32 Xx31
   let Xx36←ldI .i64 ((Xx32).add 0)
   M.ite (Xx36 != 5) (do
    stV C20 (.string ByteArray.empty)
    stV C21 (.int .i64 21)
    let _←shut xm_17
    let Rr40←ldS C20
    let Rr41←ldI .i64 C21
    M.pure (Rr40,Rr41)
    ) (do
    let Xx43←ldL ((Xx32).add 3)
    let Xx44←JJ Xx43 2
    let j_68←rgF Go.Proofs.Tryz.prog (fun x:Sl=>[(x:Sl).v]) [.ret] (WL C20 C21 C22) Xx44
    M.ite (decide (j_68.1=1)) (do
     let _←shut (j_68.2::xm_17)
     let Rr69←ldS C20
     let Rr70←ldI .i64 C21
     M.pure (Rr69,Rr70)
     ) (do
     self1 ((j_68.2::xm_17),IntKind.wrap .i64 (Xx18+1))
     )
    )
   ) (do
   let Xx72←ldL C22
   let Xx73←WP Go.Proofs.Tryz.prog Jt #[(Xx72:Sl).v,(Value.func (.func JB) #[] #[])] (fun r:Unit=>.tuple #[])
   let Xx75←ldL C22
   let Xx76←ZL Xx75 (Value.func (.func YP) #[] #[])
   stV C22 ((Xx76:Sl).v)
   let Xx79←mkB ZZ (#[.pointer none,.slice none 0 0]:Array Value)
   let Xx82←V7 Go.Proofs.Tryz.prog (fun r:Unit=>.tuple #[]) (Value.func (.func Zu) #[] #[.pointer (some C22),.pointer (some Xx79)]) [(Value.func (.func GL) #[] #[])]
   M.loop (YZ xm_17 C20 C21 Xx79 (Value.func (.func Zu) #[] #[.pointer (some C22),.pointer (some Xx79)]) C19 (C19.len:Int)) 0
   )
def YI (x0:Sl):M (ByteArray × Int):=do
 let Xx2←mkB JD (#[.string ByteArray.empty]:Array Value)
 let Xx3←mkB UP (#[.int .i64 0]:Array Value)
 let Xx6←YH x0
 M.ite (Xx6 != 0) (do
  stV Xx2 (.string ByteArray.empty)
  stV Xx3 (.int .i64 Xx6)
  let _←shut ([])
  let Rr11←ldS Xx2
  let Rr12←ldI .i64 Xx3
  M.pure (Rr11,Rr12)
  ) (do
  let Xx14←mkB VA (#[.slice none 0 0]:Array Value)
  M.loop (Ya x0 Xx2 Xx3 Xx14 x0 (x0.len:Int)) ([],0)
  )
theorem KF0 (x0:Sl):Ki Go.Proofs.Tryz.prog 65 #[(x0:Sl).v] (fun (r:ByteArray × Int)=>.tuple #[.string r.1,.int .i64 r.2]) (YI x0):=by
 refine KHk [(0,(x0:Sl).v)] Go.Proofs.Tryz.func65 rfl rfl (Nat.le_of_ble_eq_true rfl) (Yw ⟨rfl,trivial⟩) (fun w0 w Q R a hret hE hR H=>?_)
 unfold YI at H
 refine Kc (fun K hK_1=>?_)
 refine KG ?_
 obtain ⟨Xx2,qXx2,H⟩:=H
 refine XM (v:=.pointer (some Xx2)) rfl rfl hE rfl hR (Vy zr9 qXx2) (fun a w hE hR hh=>?_)
 replace H:=M.at hh H; clear hh
 obtain ⟨Xx3,qXx3,H⟩:=H
 refine XM (v:=.pointer (some Xx3)) rfl rfl hE rfl hR (Vy zr29 qXx3) (fun a w hE hR hh=>?_)
 replace H:=M.at hh H; clear hh
 refine Ka ?_
 refine hK_1 _ _ ?_
 refine Kc (fun K hK_4=>?_)
 refine Kc (fun K hK_5=>?_)
 refine KG ?_
 refine KH (v:=(x0:Sl).v) rfl rfl hE rfl (KJ hE rfl) (fun a hE=>?_)
 refine Uy hE hR zn rfl (KA9 x0) (M.unbind H) (fun Xx6 a w ea hR H=>?_)
 have hE:=Env.put_some hE rfl ea; clear ea
 refine KH (v:=.int .i64 Xx6) rfl rfl hE rfl (Kp hE rfl) (fun a hE=>?_)
 refine Ka ?_
 refine hK_5 _ _ ?_
 refine Kc (fun K hK_7=>?_)
 refine KG ?_
 refine KH (v:=.int .i64 Xx6) rfl rfl hE rfl (KJ hE rfl) (fun a hE=>?_)
 refine KH (v:=.bool (Xx6 != 0)) rfl rfl hE rfl (Zd hE rfl rfl ZV KFb) (fun a hE=>?_)
 refine Ka ?_
 refine hK_7 _ _ ?_
 refine Jg (Xx6 != 0) hE rfl (fun hb=>?_) (fun hb=>?_)
 ·replace H:=M.ite_t hb H
  refine Kc (fun K hK_8=>?_)
  refine KG ?_
  refine KH (v:=.int .i64 Xx6) rfl rfl hE rfl (KJ hE rfl) (fun a hE=>?_)
  obtain ⟨u_9,qu_9,H⟩:=H
  refine U0 rfl rfl hE hR (Zn hE rfl rfl sz9 qu_9) (fun a w hE hR hh=>?_)
  replace H:=M.at hh H; clear hh
  obtain ⟨u_10,qu_10,H⟩:=H
  refine U0 rfl rfl hE hR (Zn hE rfl rfl sz29 qu_10) (fun a w hE hR hh=>?_)
  replace H:=M.at hh H; clear hh
  refine Ka ?_
  refine hK_8 _ _ ?_
  refine Yv ?_
  refine hret _ _ _ _ _ hE hR (M.unbind H) (fun w hR H=>?_)
  obtain ⟨Rr11,qRr11,H⟩:=H
  obtain ⟨Rr12,qRr12,H⟩:=H
  exact ⟨(Rr11,Rr12),_,Jb hE rfl (RV.cell rfl sc9 qRr11 (RV.cell rfl sc29 qRr12 RV.nil)),rfl,H⟩
 ·replace H:=M.ite_f hb H
  refine Un ?_
  refine hK_4 _ _ ?_
  refine Kc (fun K hK_13=>?_)
  refine KG ?_
  obtain ⟨Xx14,qXx14,H⟩:=H
  refine XM (v:=.pointer (some Xx14)) rfl rfl hE rfl hR (Vy zr22 qXx14) (fun a w hE hR hh=>?_)
  replace H:=M.at hh H; clear hh
  refine Ka ?_
  refine hK_13 _ _ ?_
  refine Kc (fun K hK_15=>?_)
  refine Kc (fun K hK_16=>?_)
  refine KG ?_
  refine KH (v:=(x0:Sl).v) rfl rfl hE rfl (KJ hE rfl) (fun a hE=>?_)
  refine KH (v:=.int .i64 (x0.len:Int)) rfl rfl hE rfl (KK4 hE rfl 24 un22) (fun a hE=>?_)
  refine KH (v:=.int .i64 0) rfl rfl hE rfl (KJ hE rfl) (fun a hE=>?_)
  refine Ka ?_
  refine hK_16 _ _ ?_
  refine Vm ?_
  refine KEe (fun (s:List Nat × Int)=>(⟨63,s.1⟩:Frm)) (fun (s:List Nat × Int)=>[(0,(x0:Sl).v),(2,.pointer (some Xx2)),(3,.pointer (some Xx3)),(5,.pointer (some Xx14)),(18,(x0:Sl).v),(19,.int .i64 (x0.len:Int)),(20,.int .i64 s.2)]) H (hE.cut (.cons rfl (.cons rfl (.cons rfl (.cons rfl (.cons rfl (.cons rfl (.cons rfl Subs.nil)))))))) hR (fun Y self1 hY_25 s a w hE hR H=>?_)
  rcases s with ⟨xm_17,Xx18⟩
  replace hE:Env (⟨63,xm_17⟩:Frm) a [(0,(x0:Sl).v),(2,.pointer (some Xx2)),(3,.pointer (some Xx3)),(5,.pointer (some Xx14)),(18,(x0:Sl).v),(19,.int .i64 (x0.len:Int)),(20,.int .i64 Xx18)]:=hE
  replace H:(Ya x0 Xx2 Xx3 Xx14 x0 (x0.len:Int) self1 (xm_17,Xx18)).wp w.heap Q:=H
  unfold Ya at H
  refine Kc (fun K hK_26=>?_)
  refine KG ?_
  refine KH (v:=.bool (decide (Xx18 < (x0.len:Int)))) rfl rfl hE rfl (Zd hE rfl rfl ZV KB7) (fun a hE=>?_)
  refine Ka ?_
  refine hK_26 _ _ ?_
  refine Kc (fun K hK_27=>?_)
  refine Jg (decide (Xx18 < (x0.len:Int))) hE rfl (fun hb=>?_) (fun hb=>?_)
  ·replace H:=M.ite_t hb H
   refine Un ?_
   refine hK_27 _ _ ?_
   refine Kc (fun K hK_28=>?_)
   refine Vm ?_
   refine Kc (fun K hK_29=>?_)
   refine KG ?_
   obtain ⟨Xx30,qXx30,H⟩:=H
   refine KH (v:=.pointer (some Xx30)) rfl rfl hE rfl (YE hE rfl rfl un22 sz24 qXx30) (fun a hE=>?_)
   obtain ⟨Xx31,qXx31,H⟩:=H
   refine KH (v:=.agg Xx31) rfl rfl hE rfl (KDG hE rfl ag24 qXx31) (fun a hE=>?_)
   obtain ⟨Xx32,qXx32,H⟩:=H
   refine XM (v:=.pointer (some Xx32)) rfl rfl hE rfl hR (Vy zr24 qXx32) (fun a w hE hR hh=>?_)
   replace H:=M.at hh H; clear hh
   obtain ⟨qz,H⟩:=H
   obtain ⟨u_33,qu_33,H⟩:=H
   refine U0 rfl rfl hE hR (J4 hE rfl rfl sz24 qz qu_33) (fun a w hE hR hh=>?_)
   replace H:=M.at hh H; clear hh
   refine Ka ?_
   refine hK_29 _ _ ?_
   refine Kc (fun K hK_34=>?_)
   refine Kc (fun K hK_35=>?_)
   refine KG ?_
   refine KH (v:=.pointer (some ((Xx32).add 0))) rfl rfl hE rfl (KM hE rfl KOV) (fun a hE=>?_)
   obtain ⟨Xx36,qXx36,H⟩:=H
   refine KH (v:=.int .i64 Xx36) rfl rfl hE rfl (Zk hE rfl sc3 qXx36) (fun a hE=>?_)
   refine KH (v:=.bool (Xx36 != 5)) rfl rfl hE rfl (Zd hE rfl rfl ZV KFb) (fun a hE=>?_)
   refine Ka ?_
   refine hK_35 _ _ ?_
   refine Jg (Xx36 != 5) hE rfl (fun hb=>?_) (fun hb=>?_)
   ·replace H:=M.ite_t hb H
    refine Kc (fun K hK_37=>?_)
    refine KG ?_
    obtain ⟨u_38,qu_38,H⟩:=H
    refine U0 rfl rfl hE hR (Zn hE rfl rfl sz9 qu_38) (fun a w hE hR hh=>?_)
    replace H:=M.at hh H; clear hh
    obtain ⟨u_39,qu_39,H⟩:=H
    refine U0 rfl rfl hE hR (Zn hE rfl rfl sz29 qu_39) (fun a w hE hR hh=>?_)
    replace H:=M.at hh H; clear hh
    refine Ka ?_
    refine hK_37 _ _ ?_
    refine Yv ?_
    refine hret _ _ _ _ _ hE hR (M.unbind H) (fun w hR H=>?_)
    obtain ⟨Rr40,qRr40,H⟩:=H
    obtain ⟨Rr41,qRr41,H⟩:=H
    exact ⟨(Rr40,Rr41),_,Jb hE rfl (RV.cell rfl sc9 qRr40 (RV.cell rfl sc29 qRr41 RV.nil)),rfl,H⟩
   ·replace H:=M.ite_f hb H
    refine Un ?_
    refine hK_34 _ _ ?_
    refine Kc (fun K hK_42=>?_)
    refine KG ?_
    refine KH (v:=.pointer (some ((Xx32).add 3))) rfl rfl hE rfl (KM hE rfl KQm) (fun a hE=>?_)
    obtain ⟨Xx43,qXx43,H⟩:=H
    refine KH (v:=(Xx43:Sl).v) rfl rfl hE rfl (Zk hE rfl sc22 qXx43) (fun a hE=>?_)
    refine Uy hE hR Wa rfl (Wn Xx43 2) (M.unbind H) (fun Xx44 a w ea hR H=>?_)
    have hE:=Env.put_some hE rfl ea; clear ea
    refine Ka ?_
    refine hK_42 _ _ ?_
    refine Vm ?_
    refine KJh (js:=[.ret]) (enc:=(fun x:Sl=>[(x:Sl).v])) (Y:=(WL Xx2 Xx3 Xx14)) hE hR rfl (fun x=>rfl) rfl (M.unbind H) (fun lp2 Xx48 Q w0 Rr hfin a w hE hR H=>?_) (fun j_68 a w hE hR H=>?_)
    ·skip
     replace hE:Env (⟨63,[]⟩:Frm) a [(2,.pointer (some Xx2)),(3,.pointer (some Xx3)),(5,.pointer (some Xx14)),(30,(Xx48:Sl).v)]:=Env.cut hE (.cons rfl (.cons rfl (.cons rfl (.cons rfl Subs.nil))))
     replace H:(WL Xx2 Xx3 Xx14 lp2 Xx48).wp w.heap Q:=H
     unfold WL at H
     refine KG ?_
     refine KH (v:=(Xx48:Sl).v) rfl rfl hE rfl (Kp hE rfl) (fun a hE=>?_)
     refine Ka ?_
     refine KQK hR H (fun w hR H=>?_)
     refine Vm ?_
     refine Kc (fun K hK_49=>?_)
     refine Kc (fun K hK_50=>?_)
     refine KG ?_
     refine KH (v:=(Xx48:Sl).v) rfl rfl hE rfl (KJ hE rfl) (fun a hE=>?_)
     obtain ⟨Xx51,qXx51,H⟩:=H
     refine KH (v:=.pointer (some Xx51)) rfl rfl hE rfl (YE hE rfl rfl un22 sz24 qXx51) (fun a hE=>?_)
     refine KH (v:=.pointer (some ((Xx51).add 0))) rfl rfl hE rfl (KM hE rfl KOV) (fun a hE=>?_)
     obtain ⟨Xx52,qXx52,H⟩:=H
     refine KH (v:=.int .i64 Xx52) rfl rfl hE rfl (Zk hE rfl sc3 qXx52) (fun a hE=>?_)
     refine KH (v:=.bool (Xx52 != 2)) rfl rfl hE rfl (Zd hE rfl rfl ZV KFb) (fun a hE=>?_)
     refine Ka ?_
     refine hK_50 _ _ ?_
     refine Jg (Xx52 != 2) hE rfl (fun hb=>?_) (fun hb=>?_)
     ·replace H:=M.ite_t hb H
      refine Kc (fun K hK_53=>?_)
      refine KG ?_
      obtain ⟨u_54,qu_54,H⟩:=H
      refine U0 rfl rfl hE hR (Zn hE rfl rfl sz9 qu_54) (fun a w hE hR hh=>?_)
      replace H:=M.at hh H; clear hh
      obtain ⟨u_55,qu_55,H⟩:=H
      refine U0 rfl rfl hE hR (Zn hE rfl rfl sz29 qu_55) (fun a w hE hR hh=>?_)
      replace H:=M.at hh H; clear hh
      refine Ka ?_
      refine hK_53 _ _ ?_
      refine Yv ?_
      exact ⟨0,rfl,hfin 1 _ _ hR H⟩
     ·replace H:=M.ite_f hb H
      refine Un ?_
      refine hK_49 _ _ ?_
      obtain ⟨Xx56,qXx56,H⟩:=H
      obtain ⟨Xx57,qXx57,H⟩:=H
      obtain ⟨Xx58,qXx58,H⟩:=H
      have hT:=qJ KPM rfl rfl
      refine YL (fun w:World=>(fun h:Heap=>(KO h Xx14=some ((Xx57:Sl).v))∧(Xx58.size=4∧∀ i,i < 4→KO h (Addr.add Xx56 i)=Xx58[i]?)) w.heap) [6,7,8,9] #[false,false,false,false,false,false,false,false,false,false] mo hR rfl rfl (fun w' e=>by rw [e]; exact ⟨qXx57,qXx58⟩) (fun w hh hR hs=>?_)
      replace H:=M.at hh H; clear hh
      refine KF (i:=1) (v:=(Xx48:Sl).v) #[false,true,false,false,false,false,false,false,false,false] rfl rfl hT (by kernel_rfl) hE rfl (KA rfl) (fun w=>KJ hE rfl) (fun a hE=>?_)
      refine KF (i:=2) (v:=.pointer (some Xx56)) #[false,true,true,false,false,false,false,false,false,false] rfl rfl hT (by kernel_rfl) hE rfl (KA rfl) (fun w=>YE hE rfl rfl un22 sz24 qXx56) (fun a hE=>?_)
      refine U8 (i:=0) (v:=(Xx57:Sl).v) #[true,true,true,false,false,false,false,false,false,false] rfl rfl hT (by kernel_rfl) hE rfl (KA rfl) hs (fun w s=>Zk hE rfl sc22 s.1) (fun a hE=>?_)
      refine KF (i:=4) (v:=.int .i64 (Xx57.len:Int)) #[true,true,true,false,true,false,false,false,false,false] rfl rfl hT (by kernel_rfl) hE rfl (KA rfl) (fun w=>KK4 hE rfl 24 un22) (fun a hE=>?_)
      refine U8 (i:=3) (v:=.agg Xx58) #[true,true,true,true,true,false,false,false,false,false] rfl rfl hT (by kernel_rfl) hE rfl (KA rfl) hs (fun w s=>KDG hE rfl ag24 s.2) (fun a hE=>?_)
      obtain ⟨y_60,qy_60,H⟩:=H
      obtain ⟨Xx59,qXx59,H⟩:=H
      obtain ⟨_,sA,H⟩:=H
      refine KPz (i:=5) (v:=(Xx59:Sl).v) #[true,true,true,true,true,true,false,false,false,false] rfl rfl hT (by kernel_rfl) rfl hE hR rfl (KA rfl) (KAJ hE rfl un22 sz24 zr24 rfl qy_60 qXx59)  (fun w' e=>by rw [e]; exact sA) (fun a w hE hR hh hs=>?_)
      replace H:=M.at hh H; clear hh
      refine KRP (i:=6) (fun Xx61=>(Xx61:Sl).v) #[true,true,true,true,true,true,true,false,false,false] rfl rfl hT (by kernel_rfl) rfl hR (KA rfl) (M.unbind H) (fun Q H=>KHh hE rfl rfl ap22 H) (fun Xx61 a w ea hR H=>?_)
      have hE:=Env.put_some hE rfl ea; clear ea
      obtain ⟨Xx62,qXx62,H⟩:=H
      refine KF (i:=7) (v:=.pointer (some Xx62)) #[true,true,true,true,true,true,true,true,false,false] rfl rfl hT (by kernel_rfl) hE rfl (KA rfl) (fun w=>YE hE rfl rfl un22 sz24 qXx62) (fun a hE=>?_)
      refine KJY (fun w:World=>(fun h:Heap=>True) w.heap) [8,9] (by kernel_rfl) ?_
      have hs:(fun h:Heap=>True) w.heap:=trivial
      refine KPx (n:=(⟨63,[]⟩:Frm)) (w0:=w0) (fun y_67:Unit=>[(2,.pointer (some Xx2)),(3,.pointer (some Xx3)),(5,.pointer (some Xx14)),(30,(Xx48:Sl).v),(8,(Xx48:Sl).v),(31,(Xx48:Sl).v),(32,.pointer (some Xx51)),(33,.pointer (some ((Xx51).add 0))),(34,.int .i64 Xx52),(35,.bool (Xx52 != 2)),(37,(Xx48:Sl).v),(38,.pointer (some Xx56)),(36,(Xx57:Sl).v),(40,.int .i64 (Xx57.len:Int)),(39,.agg Xx58),(41,(Xx59:Sl).v),(42,(Xx61:Sl).v),(43,.pointer (some Xx62))]) 0 #[true,true,true,true,true,true,true,true,true,true] (M.unbind H) ?_ ?_
      ·intro y_67 a w hE hR H
       refine Nq hT (by kernel_rfl) ?_
       exact hfin 0 _ _ hR H
      ·intro hj H
       refine KPy [8,9] hT (by kernel_rfl) rfl (fun i hi=>?_)
       simp only [List.mem_cons,List.not_mem_nil,or_false] at hi
       rcases hi with rfl | rfl
       ·replace H:=H.1
        obtain ⟨qz,H⟩:=H
        obtain ⟨u_63,qu_63,H⟩:=H
        refine KQR (S:=fun w:World=>(fun h:Heap=>True) w.heap) (i:=8) #[true,true,true,true,true,true,true,true,true,false] rfl rfl (by kernel_rfl) hE hR (KA rfl) (J4 hE rfl rfl sz24 qz qu_63)  (fun _ _=>trivial) (fun a w hE hR hh hs=>?_)
        replace H:=M.at hh H; clear hh
        obtain ⟨u_64,qu_64,H⟩:=H
        refine KJZ (i:=9) #[true,true,true,true,true,true,true,true,true,true] rfl rfl hT (by kernel_rfl) rfl hE hR (KA rfl) (Zn hE rfl rfl sz22 qu_64)  (fun a w hE hR hh=>?_)
        replace H:=M.at hh H; clear hh
        exact hj () _ _ (hE.cut (.cons rfl (.cons rfl (.cons rfl (.cons rfl (.cons rfl (.cons rfl (.cons rfl (.cons rfl (.cons rfl (.cons rfl (.cons rfl (.cons rfl (.cons rfl (.cons rfl (.cons rfl (.cons rfl (.cons rfl (.cons rfl Subs.nil))))))))))))))))))) hR H
       ·replace H:=H.2
        obtain ⟨u_65,qu_65,H⟩:=H
        refine KQR (S:=fun w:World=>(fun h:Heap=>True) w.heap) (i:=9) #[true,true,true,true,true,true,true,true,false,true] rfl rfl (by kernel_rfl) hE hR (KA rfl) (Zn hE rfl rfl sz22 qu_65)  (fun _ _=>trivial) (fun a w hE hR hh hs=>?_)
        replace H:=M.at hh H; clear hh
        obtain ⟨qz,H⟩:=H
        obtain ⟨u_66,qu_66,H⟩:=H
        refine KJZ (i:=8) #[true,true,true,true,true,true,true,true,true,true] rfl rfl hT (by kernel_rfl) rfl hE hR (KA rfl) (J4 hE rfl rfl sz24 qz qu_66)  (fun a w hE hR hh=>?_)
        replace H:=M.at hh H; clear hh
        exact hj () _ _ (hE.cut (.cons rfl (.cons rfl (.cons rfl (.cons rfl (.cons rfl (.cons rfl (.cons rfl (.cons rfl (.cons rfl (.cons rfl (.cons rfl (.cons rfl (.cons rfl (.cons rfl (.cons rfl (.cons rfl (.cons rfl (.cons rfl Subs.nil))))))))))))))))))) hR H
    ·skip
     replace hE:Env (⟨63,(j_68.2::xm_17)⟩:Frm) a [(0,(x0:Sl).v),(2,.pointer (some Xx2)),(3,.pointer (some Xx3)),(5,.pointer (some Xx14)),(18,(x0:Sl).v),(19,.int .i64 (x0.len:Int)),(20,.int .i64 Xx18)]:=Env.cut hE (.cons rfl (.cons rfl (.cons rfl (.cons rfl (.cons rfl (.cons rfl (.cons rfl Subs.nil)))))))
     refine KJg (fun hj=>?_) (fun hj=>?_)
     ·replace H:=M.ite_t (decide_eq_true hj) H
      refine Yv ?_
      refine hret _ _ _ _ _ hE hR (M.unbind H) (fun w hR H=>?_)
      obtain ⟨Rr69,qRr69,H⟩:=H
      obtain ⟨Rr70,qRr70,H⟩:=H
      exact ⟨(Rr69,Rr70),_,Jb hE rfl (RV.cell rfl sc9 qRr69 (RV.cell rfl sc29 qRr70 RV.nil)),rfl,H⟩
     ·replace H:=M.ite_f (decide_eq_false hj) H
      refine KLT ?_
      refine hK_28 _ _ ?_
      refine KG ?_
      refine KH (v:=.int .i64 (IntKind.wrap .i64 (Xx18+1))) rfl rfl hE rfl (Zd hE rfl rfl ZV zO) (fun a hE=>?_)
      refine KH (v:=.int .i64 (IntKind.wrap .i64 (Xx18+1))) rfl rfl hE rfl (KJ hE rfl) (fun a hE=>?_)
      refine Ka ?_
      exact hY_25 ((j_68.2::xm_17),IntKind.wrap .i64 (Xx18+1)) _ _ (hE.cut (.cons rfl (.cons rfl (.cons rfl (.cons rfl (.cons rfl (.cons rfl (.cons rfl Subs.nil)))))))) hR H
  ·replace H:=M.ite_f hb H
   refine KEY ?_
   refine Xu.same ?_
   refine hK_15 _ _ ?_
   refine Kc (fun K hK_71=>?_)
   refine KG ?_
   obtain ⟨Xx72,qXx72,H⟩:=H
   refine KH (v:=(Xx72:Sl).v) rfl rfl hE rfl (Zk hE rfl sc22 qXx72) (fun a hE=>?_)
   refine Uy hE hR Vv rfl (JN) (M.unbind H) (fun Xx73 a w ea hR H=>?_)
   have hE:=Env.put_some hE rfl ea; clear ea
   refine Ka ?_
   refine hK_71 _ _ ?_
   refine Kc (fun K hK_74=>?_)
   refine KG ?_
   obtain ⟨Xx75,qXx75,H⟩:=H
   refine KH (v:=(Xx75:Sl).v) rfl rfl hE rfl (Zk hE rfl sc22 qXx75) (fun a hE=>?_)
   refine Uy hE hR VR rfl (Vc Xx75 (Value.func (.func YP) #[] #[])) (M.unbind H) (fun Xx76 a w ea hR H=>?_)
   have hE:=Env.put_some hE rfl ea; clear ea
   obtain ⟨u_77,qu_77,H⟩:=H
   refine U0 rfl rfl hE hR (Zn hE rfl rfl sz22 qu_77) (fun a w hE hR hh=>?_)
   replace H:=M.at hh H; clear hh
   refine Ka ?_
   refine hK_74 _ _ ?_
   refine Kc (fun K hK_78=>?_)
   refine KG ?_
   obtain ⟨Xx79,qXx79,H⟩:=H
   refine XM (v:=.pointer (some Xx79)) rfl rfl hE rfl hR (Vy KRl qXx79) (fun a w hE hR hh=>?_)
   replace H:=M.at hh H; clear hh
   refine Ka ?_
   refine hK_78 _ _ ?_
   refine Kc (fun K hK_80=>?_)
   refine KG ?_
   refine KH (v:=(Value.func (.func Zu) #[] #[.pointer (some Xx14),.pointer (some Xx79)])) rfl rfl hE rfl (KAK hE rfl) (fun a hE=>?_)
   refine KH (v:=(Value.func (.func Zu) #[] #[.pointer (some Xx14),.pointer (some Xx79)])) rfl rfl hE rfl (Kp hE rfl) (fun a hE=>?_)
   refine Ka ?_
   refine hK_80 _ _ ?_
   refine Kc (fun K hK_81=>?_)
   refine KG ?_
   refine KH (v:=(Value.func (.func Zu) #[] #[.pointer (some Xx14),.pointer (some Xx79)])) rfl rfl hE rfl (KJ hE rfl) (fun a hE=>?_)
   refine KGc hE hR rfl rfl (M.unbind H) (fun Xx82 a w ea hR H=>?_)
   have hE:=Env.put_some hE rfl ea; clear ea
   refine Ka ?_
   refine hK_81 _ _ ?_
   refine Kc (fun K hK_83=>?_)
   refine Kc (fun K hK_84=>?_)
   refine KG ?_
   refine KH (v:=(x0:Sl).v) rfl rfl hE rfl (KJ hE rfl) (fun a hE=>?_)
   refine KH (v:=.int .i64 (x0.len:Int)) rfl rfl hE rfl (KK4 hE rfl 24 un22) (fun a hE=>?_)
   refine KH (v:=.int .i64 0) rfl rfl hE rfl (KJ hE rfl) (fun a hE=>?_)
   refine Ka ?_
   refine hK_84 _ _ ?_
   refine Vm ?_
   refine KEe (fun (s:Int)=>(⟨63,xm_17⟩:Frm)) (fun (s:Int)=>[(2,.pointer (some Xx2)),(3,.pointer (some Xx3)),(9,.pointer (some Xx79)),(10,(Value.func (.func Zu) #[] #[.pointer (some Xx14),.pointer (some Xx79)])),(52,(x0:Sl).v),(53,.int .i64 (x0.len:Int)),(54,.int .i64 s)]) H (hE.cut (.cons rfl (.cons rfl (.cons rfl (.cons rfl (.cons rfl (.cons rfl (.cons rfl Subs.nil)))))))) hR (fun Y self3 hY_93 Xx85 a w hE hR H=>?_)
   replace hE:Env (⟨63,xm_17⟩:Frm) a [(2,.pointer (some Xx2)),(3,.pointer (some Xx3)),(9,.pointer (some Xx79)),(10,(Value.func (.func Zu) #[] #[.pointer (some Xx14),.pointer (some Xx79)])),(52,(x0:Sl).v),(53,.int .i64 (x0.len:Int)),(54,.int .i64 Xx85)]:=hE
   replace H:(YZ xm_17 Xx2 Xx3 Xx79 (Value.func (.func Zu) #[] #[.pointer (some Xx14),.pointer (some Xx79)]) x0 (x0.len:Int) self3 Xx85).wp w.heap Q:=H
   unfold YZ at H
   refine Kc (fun K hK_94=>?_)
   refine KG ?_
   refine KH (v:=.bool (decide (Xx85 < (x0.len:Int)))) rfl rfl hE rfl (Zd hE rfl rfl ZV KB7) (fun a hE=>?_)
   refine Ka ?_
   refine hK_94 _ _ ?_
   refine Kc (fun K hK_95=>?_)
   refine Jg (decide (Xx85 < (x0.len:Int))) hE rfl (fun hb=>?_) (fun hb=>?_)
   ·replace H:=M.ite_t hb H
    refine Un ?_
    refine hK_95 _ _ ?_
    refine Kc (fun K hK_96=>?_)
    refine Vm ?_
    refine Kc (fun K hK_97=>?_)
    refine KG ?_
    obtain ⟨Xx98,qXx98,H⟩:=H
    refine KH (v:=.pointer (some Xx98)) rfl rfl hE rfl (YE hE rfl rfl un22 sz24 qXx98) (fun a hE=>?_)
    obtain ⟨Xx99,qXx99,H⟩:=H
    refine KH (v:=.agg Xx99) rfl rfl hE rfl (KDG hE rfl ag24 qXx99) (fun a hE=>?_)
    obtain ⟨Xx100,qXx100,H⟩:=H
    refine XM (v:=.pointer (some Xx100)) rfl rfl hE rfl hR (Vy zr24 qXx100) (fun a w hE hR hh=>?_)
    replace H:=M.at hh H; clear hh
    obtain ⟨qz,H⟩:=H
    obtain ⟨u_101,qu_101,H⟩:=H
    refine U0 rfl rfl hE hR (J4 hE rfl rfl sz24 qz qu_101) (fun a w hE hR hh=>?_)
    replace H:=M.at hh H; clear hh
    refine Ka ?_
    refine hK_97 _ _ ?_
    refine KG ?_
    refine KH (v:=(Value.func (.func Zu) #[] #[.pointer (some Xx14),.pointer (some Xx79)])) rfl rfl hE rfl (KJ hE rfl) (fun a hE=>?_)
    refine KH (v:=(Value.func (.func WQ) #[] #[.pointer (some Xx100)])) rfl rfl hE rfl (KAK hE rfl) (fun a hE=>?_)
    refine KGc hE hR rfl rfl (M.unbind H) (fun Xx102 a w ea hR H=>?_)
    have hE:=Env.put_some hE rfl ea; clear ea
    refine Ka ?_
    refine hK_96 _ _ ?_
    refine KG ?_
    refine KH (v:=.int .i64 (IntKind.wrap .i64 (Xx85+1))) rfl rfl hE rfl (Zd hE rfl rfl ZV zO) (fun a hE=>?_)
    refine KH (v:=.int .i64 (IntKind.wrap .i64 (Xx85+1))) rfl rfl hE rfl (KJ hE rfl) (fun a hE=>?_)
    refine Ka ?_
    exact hY_93 (IntKind.wrap .i64 (Xx85+1)) _ _ (hE.cut (.cons rfl (.cons rfl (.cons rfl (.cons rfl (.cons rfl (.cons rfl (.cons rfl Subs.nil)))))))) hR H
   ·replace H:=M.ite_f hb H
    refine KEY ?_
    refine Xu.same ?_
    refine hK_83 _ _ ?_
    refine Kc (fun K hK_103=>?_)
    refine KG ?_
    refine Uy hE hR Wm rfl (YG (some Xx79)) (M.unbind H) (fun Xx104 a w ea hR H=>?_)
    have hE:=Env.put_some hE rfl ea; clear ea
    obtain ⟨u_105,qu_105,H⟩:=H
    refine U0 rfl rfl hE hR (Zn hE rfl rfl sz9 qu_105) (fun a w hE hR hh=>?_)
    replace H:=M.at hh H; clear hh
    obtain ⟨u_106,qu_106,H⟩:=H
    refine U0 rfl rfl hE hR (Zn hE rfl rfl sz29 qu_106) (fun a w hE hR hh=>?_)
    replace H:=M.at hh H; clear hh
    refine Ka ?_
    refine hK_103 _ _ ?_
    refine Yv ?_
    refine hret _ _ _ _ _ hE hR (M.unbind H) (fun w hR H=>?_)
    obtain ⟨Rr107,qRr107,H⟩:=H
    obtain ⟨Rr108,qRr108,H⟩:=H
    exact ⟨(Rr107,Rr108),_,Jb hE rfl (RV.cell rfl sc9 qRr107 (RV.cell rfl sc29 qRr108 RV.nil)),rfl,H⟩
noncomputable def KF1:CalleeS Go.Proofs.Tryz.prog:=mkC KEp KEu [.L] [.S,.I .i64] (fun (t:Sl)=>YI t) (fun (t:Sl)=>KF0 t)
def Jm :M (Bool):=do
 let Xx3←JA (⟨#[120]⟩:ByteArray)
 let Xx4←Z9 1
 let y_6←NY 4 2 (#[.int .i64 0,.int .i64 0,.string ByteArray.empty,.slice none 0 0]:Array Value) [(0,.agg Xx3),(1,.agg Xx4)]
 let Xx5←bdL KB 2 y_6
 let Xx7←mkB KB (#[.int .i64 0,.int .i64 0,.string ByteArray.empty,.slice none 0 0]:Array Value)
 M.need ((#[.int .i64 5,.int .i64 0,.string ByteArray.empty,(Xx5:Sl).v]:Array Value).size=4)
 stG Xx7 (#[.int .i64 5,.int .i64 0,.string ByteArray.empty,(Xx5:Sl).v]:Array Value)
 let Xx10←JA (⟨#[121]⟩:ByteArray)
 let Xx11←Z9 2
 let y_13←NY 4 2 (#[.int .i64 0,.int .i64 0,.string ByteArray.empty,.slice none 0 0]:Array Value) [(0,.agg Xx10),(1,.agg Xx11)]
 let Xx12←bdL KB 2 y_13
 let Xx14←mkB KB (#[.int .i64 0,.int .i64 0,.string ByteArray.empty,.slice none 0 0]:Array Value)
 M.need ((#[.int .i64 5,.int .i64 0,.string ByteArray.empty,(Xx12:Sl).v]:Array Value).size=4)
 stG Xx14 (#[.int .i64 5,.int .i64 0,.string ByteArray.empty,(Xx12:Sl).v]:Array Value)
 let Xx17←ldG 4 Xx7
 let Xx18←ldG 4 Xx14
 let y_20←NY 4 2 (#[.int .i64 0,.int .i64 0,.string ByteArray.empty,.slice none 0 0]:Array Value) [(0,.agg Xx17),(1,.agg Xx18)]
 let Xx19←bdL KB 2 y_20
 let Xx21←YI Xx19
 let Xx23←Z9 1
 let Xx24←JA (⟨#[97]⟩:ByteArray)
 let y_26←NY 4 2 (#[.int .i64 0,.int .i64 0,.string ByteArray.empty,.slice none 0 0]:Array Value) [(0,.agg Xx23),(1,.agg Xx24)]
 let Xx25←bdL KB 2 y_26
 let Xx27←Y4 Xx25
 let Xx29←M.ite (sEq Xx21.1 (⟨#[39,120,39,32,124,32,39,121,39,10,49,32,124,32,45,10,45,32,124,32,50,10]⟩:ByteArray)) (do
  M.pure (Xx21.2 == 0)
  ) (do
  M.pure false
  )
 let Xx30←M.ite Xx29 (do
  M.pure (sEq Xx27.1 (⟨#[49,10,39,97,39,10]⟩:ByteArray))
  ) (do
  M.pure false
  )
 let Xx31←M.ite Xx30 (do
  M.pure (Xx27.2 == 0)
  ) (do
  M.pure false
  )
 M.pure Xx31
theorem KBt :Ki Go.Proofs.Tryz.prog 53 #[] (fun (r:Bool)=>.bool r) (Jm ) :=
 KL [qR,qS,KGx,KF1] [] [.B] [] .o Go.Proofs.Tryz.func53 rfl rfl trivial rfl (by kernel_rfl) (by kernel_rfl)
noncomputable def KBu:CalleeS Go.Proofs.Tryz.prog:=mkC KAU KAi [] [.B] (fun (t:Unit)=>Jm) (fun (t:Unit)=>KBt)
def Vd (x0:Array Value) (x1:Array Value):M (Bool):=do
 let Xx2←mkB KB x0
 let Xx3←mkB KB x1
 let Xx5←ldG 4 Xx2
 let Xx6←ldG 4 Xx3
 let Xx7←Zr Xx5 Xx6
 M.pure (Xx7 == 0)
theorem KCw (x0:Array Value) (x1:Array Value):Ki Go.Proofs.Tryz.prog 19 #[.agg x0,.agg x1] (fun (r:Bool)=>.bool r) (Vd x0 x1) :=
 KL [WJ] [] [.B] [(0,.G x0),(1,.G x1)] .o Go.Proofs.Tryz.func19 rfl rfl ⟨rfl,rfl,trivial⟩ rfl (by kernel_rfl) (by kernel_rfl)
noncomputable def KCx:CalleeS Go.Proofs.Tryz.prog:=mkC KBM KBW [.G,.G] [.B] (fun (t:Array Value × Array Value)=>Vd t.1 t.2) (fun (t:Array Value × Array Value)=>KCw t.1 t.2)
end Gx
namespace Gx
open Go
set_option linter.unusedVariables false
set_option maxRecDepth 100000
def VG (self1:(Int × Int)→M (Int)) (C31:Int) (C32:Addr) (C35:Int) (Xx29:Bool):M (Int):=do
 M.ite Xx29 (do
  M.pure 210
  ) (do
  let Xx37←ldI .i64 ((C32).add 4)
  self1 (IntKind.wrap .i64 (C31 - Xx37),IntKind.wrap .i64 (C35+1))
  )
def Y6 (C7:Sl) (C8:Sl) (C9:Int) (self1:(Int × Int)→M (Int)):(Int × Int)→M (Int):=fun s=>match s with
 | (Xx5,Xx6)=>do
  M.ite (decide (Xx6 < C9)) (do
   let Xx15←ixL C8 Xx6 5
   let Xx16←ldG 5 Xx15
   let Xx17←mkB JZ (#[.int .i64 0,.int .i64 0,.string ByteArray.empty,.slice none 0 0,.int .i64 0]:Array Value)
   M.need (Xx16.size=5)
   stG Xx17 Xx16
   let Xx21←ldI .i64 ((Xx17).add 4)
   let Xx22←M.ite (decide (Xx21 < 1)) (do
    M.pure true
    ) (do
    let Xx23←ldI .i64 ((Xx17).add 4)
    M.pure (decide (Xx23 > Xx5))
    )
   M.ite Xx22 (do
    M.pure 210
    ) (do
    let Xx26←ldG 4 ((Xx17).add 0)
    let Xx27←W8 Xx26
    M.ite (Xx27 != 0) (do
     M.pure 210
     ) (do
     M.ite (decide (Xx6 > 0)) (do
      let Xx39←ixL C7 (IntKind.wrap .i64 (Xx6 - 1)) 5
      let Xx40←ldG 4 ((Xx39).add 0)
      let Xx41←ldG 4 ((Xx17).add 0)
      let Xx42←Ur Xx40 Xx41
      VG self1 Xx5 Xx17 Xx6 (decide (Xx42 ≥ 0))
      ) (do
      VG self1 Xx5 Xx17 Xx6 false
      )
     )
    )
   ) (do
   M.pure 0
   )
def Vk (x0:Sl):M (Int):=do
 M.loop (Y6 x0 x0 (x0.len:Int)) (9007199254740992,0)
theorem KEG (x0:Sl):Ki Go.Proofs.Tryz.prog 108 #[(x0:Sl).v] (fun (r:Int)=>.int .i64 r) (Vk x0) :=
 KL [NA,q8] [] [.I .i64] [(0,.L x0)] (.q .o (.q .o (.q (.q .o (.b (.l [(0,.L),(6,.L),(7,.I .i64)] [(3,.I .i64),(8,.I .i64)] (fun (t:Sl × Sl × Int)=>Y6 t.1 t.2.1 t.2.2) (fun self1=>.q .o (.q .o (.q (.b (.q .o (.q (.b (.q .o (.q .o (.q .o (.q .o (.q (.r [0,1,2,4,4,20,44,68,132,4,516,1284,2052,4100,10240] [0,1,2,4,4,20,44,68,132,4,516,1284,2052,4100,8192] [0,1,3,7,7,23,63,127,255,7,519,2047,4095,8191,16383] (.pu 0 (.pu 1 (.pu 2 (.g 2 (.pu 3 (.pu 4 (.pu 5 (.pu 6 (.pu 7 (.pu 9 (.pu 8 (.pu 10 (.st [11,12,13,14] (.on 11 (.pu 12 (.pu 13 (.pu 14 (.nx .dn)))))))))))))) (.of 3 (.of 4 (.of 5 (.of 6 (.of 7 (.of 8 (.of 9 (.of 10 (.of 11 (.of 12 (.pu 13 (.pu 14 (.st [0,1,2,3,4,5,6,7,8,9,10,11,12,13,14] .dn)))))))))))))))))) (.j [(0,.L),(3,.I .i64),(5,.A),(6,.L),(7,.I .i64),(8,.I .i64),(28,.B)] (fun (t:Sl × Int × Addr × Sl × Int × Int × Bool)=>VG self1 t.2.1 t.2.2.1 t.2.2.2.2.2.1 t.2.2.2.2.2.2) .o))))))) .o))) .o)))))) .o))) Go.Proofs.Tryz.func108 rfl rfl ⟨rfl,trivial⟩ rfl (by kernel_rfl) (by kernel_rfl)
noncomputable def zL:CalleeS Go.Proofs.Tryz.prog:=mkC KDL KDM [.L] [.I .i64] (fun (t:Sl)=>Vk t) (fun (t:Sl)=>KEG t)
def q9 (C12:Addr) (C13:Sl) (C14:Int) (self1:(Int)→M (ByteArray × Int)):(Int)→M (ByteArray × Int):=fun s=>match s with
 | Xx11=>do
  M.ite (decide (Xx11 < C14)) (do
   let Xx20←ixL C13 Xx11 5
   let Xx21←ldG 5 Xx20
   let Xx22←mkB JZ (#[.int .i64 0,.int .i64 0,.string ByteArray.empty,.slice none 0 0,.int .i64 0]:Array Value)
   M.need (Xx21.size=5)
   stG Xx22 Xx21
   let Xx24←ldI .i64 ((Xx22).add 4)
   let Xx25←ldG 4 ((Xx22).add 0)
   let Xx26←Nv Xx24
   chk (fun h:Heap=>(KO h ((Xx22).add 4)=some (.int .i64 Xx24))∧(Xx25.size=4∧∀ i,i < 4→KO h (Addr.add ((Xx22).add 0) i)=Xx25[i]?))
   let Xx27←sCat Xx26 (⟨#[32]⟩:ByteArray)
   let Xx28←Y3 Xx25
   let Xx29←sCat Xx27 Xx28
   let Xx30←sCat Xx29 (⟨#[10]⟩:ByteArray)
   let Xx31←KW (some C12) Xx30
   self1 (IntKind.wrap .i64 (Xx11+1))
   ) (do
   let Xx33←ZG (some C12)
   M.pure (Xx33,0)
   )
def qV (x0:Sl):M (ByteArray × Int):=do
 let Xx4←Vk x0
 M.ite (Xx4 != 0) (do
  M.pure (ByteArray.empty,Xx4)
  ) (do
  let Xx8←mkB ZZ (#[.pointer none,.slice none 0 0]:Array Value)
  M.loop (q9 Xx8 x0 (x0.len:Int)) 0
  )
theorem KHz (x0:Sl):Ki Go.Proofs.Tryz.prog 56 #[(x0:Sl).v] (fun (r:ByteArray × Int)=>.tuple #[.string r.1,.int .i64 r.2]) (qV x0) :=
 KL [zL,KGE,zq,Ze,J5] [] [.S,.I .i64] [(0,.L x0)] (.q .o (.q .o (.q .o (.q (.q .o (.b (.l [(5,.A),(13,.L),(14,.I .i64)] [(15,.I .i64)] (fun (t:Addr × Sl × Int)=>q9 t.1 t.2.1 t.2.2) (fun _=>.q .o (.q .o (.q (.b (.q .o (.r [0,1,2,4,0,16,36,72,128,320] [0,1,2,4,0,16,32,72,128,256] [0,1,3,7,0,16,55,127,255,511] (.pu 0 (.pu 4 (.pu 1 (.pu 5 (.st [6,7,8,9] (.on 2 (.pu 3 (.nx (.on 6 (.pu 7 (.pu 8 (.nx (.on 9 .dn)))))))))))))))) .o)))))) .o)))) Go.Proofs.Tryz.func56 rfl rfl ⟨rfl,trivial⟩ rfl (by kernel_rfl) (by kernel_rfl)
noncomputable def KH0:CalleeS Go.Proofs.Tryz.prog:=mkC KGl KGn [.L] [.S,.I .i64] (fun (t:Sl)=>qV t) (fun (t:Sl)=>KHz t)
def ZI (self1:(Int × Int)→M (Int)) (C14:Sl) (C15:Int) (C16:Int) (Xx13:Bool):M (Int):=do
 M.ite Xx13 (do
  M.pure 210
  ) (do
  let Xx18←ixL C14 C16 5
  let Xx19←ldI .i64 ((Xx18).add 4)
  self1 (IntKind.wrap .i64 (C15 - Xx19),IntKind.wrap .i64 (C16+1))
  )
def Wi (C7:Sl) (self1:(Int × Int)→M (Int)):(Int × Int)→M (Int):=fun s=>match s with
 | (Xx5,Xx6)=>do
  M.ite (decide (Xx6 < (C7.len:Int))) (do
   let Xx20←ixL C7 Xx6 5
   let Xx21←ldI .i64 ((Xx20).add 4)
   M.ite (decide (Xx21 < 1)) (do
    ZI self1 C7 Xx5 Xx6 true
    ) (do
    let Xx23←ixL C7 Xx6 5
    let Xx24←ldI .i64 ((Xx23).add 4)
    M.ite (decide (Xx24 > Xx5)) (do
     ZI self1 C7 Xx5 Xx6 true
     ) (do
     let Xx26←ixL C7 Xx6 5
     let Xx27←ldG 4 ((Xx26).add 0)
     let Xx28←UR Xx27
     M.ite (Xx28 != 0) (do
      ZI self1 C7 Xx5 Xx6 true
      ) (do
      M.ite (decide (Xx6 > 0)) (do
       let Xx31←ixL C7 (IntKind.wrap .i64 (Xx6 - 1)) 5
       let Xx32←ixL C7 Xx6 5
       let Xx33←ldG 4 ((Xx31).add 0)
       let Xx34←ldG 4 ((Xx32).add 0)
       let Xx35←Zr Xx33 Xx34
       ZI self1 C7 Xx5 Xx6 (decide (Xx35 ≥ 0))
       ) (do
       ZI self1 C7 Xx5 Xx6 false
       )
      )
     )
    )
   ) (do
   M.pure 0
   )
def US (x0:Sl):M (Int):=do
 M.loop (Wi x0) (9007199254740992,0)
theorem KBv (x0:Sl):Ki Go.Proofs.Tryz.prog 110 #[(x0:Sl).v] (fun (r:Int)=>.int .i64 r) (US x0) :=
 KL [ND,WJ] [] [.I .i64] [(0,.L x0)] (.q .o (.q .o (.q (.q .o (.b (.l [(0,.L)] [(3,.I .i64),(4,.I .i64)] (fun (t:Sl)=>Wi t) (fun self1=>.q .o (.q (.b (.q (.q (.r [0,0,3,4,8,16,32,64,64,448,576,1088,64,6208,8256,16448,32768,32768,229376,294912,557056,1081344,2129920,4227072,10485760,16777216,50331648,83886080,134217728,134217728,671088640,1476395008,2281701376,4429185024,134217728,134217728,51673825280,68853694464,137573171200,283602059264,549890031616,1099662622720,2199040032768] [0,0,3,4,8,16,32,64,64,448,576,1088,64,6208,8256,16384,32768,32768,229376,294912,557056,1081344,2129920,4227072,8388608,16777216,50331648,83886080,134217728,134217728,671088640,1476395008,2281701376,4429185024,134217728,134217728,51673825280,68853694464,137573171200,283602059264,549890031616,1099662622720,2199040032768] [0,0,3,7,15,31,63,127,127,511,1023,2047,127,8191,16383,32767,65535,65535,262143,524287,1048575,2097151,4194303,8388607,16777215,33554431,67108863,134217727,268435455,268435455,805306367,2147483647,4294967295,8589934591,268435455,268435455,51808043007,120527519743,257966473215,549755813887,1099511627775,2199023255551,4398046511103] (.pu 0 (.pu 1 (.pu 2 (.pu 3 (.pu 4 (.pu 5 (.pu 6 (.g 6 (.of 7 (.of 8 (.of 9 (.of 10 (.of 11 (.of 12 (.of 13 (.pu 14 (.pu 15 (.of 16 (.of 17 (.of 18 (.of 19 (.of 20 (.of 21 (.of 22 (.pu 23 (.pu 24 (.of 25 (.of 26 (.of 27 (.of 28 (.of 29 (.of 30 (.of 31 (.of 32 (.of 33 (.of 34 (.of 35 (.of 36 (.of 37 (.of 38 (.of 39 (.of 40 (.of 41 (.pu 42 (.st [5,6,7,8,9,10,11,12,13,14,15,16,17,18,19,20,21,22,23,24,25,26,27,28,29,30,31,32,33,34,35,36,37,38,39,40,41,42] .dn))))))))))))))))))))))))))))))))))))) (.pu 7 (.pu 8 (.pu 9 (.pu 10 (.pu 12 (.pu 11 (.pu 13 (.pu 14 (.pu 15 (.g 15 (.of 16 (.of 17 (.of 18 (.of 19 (.of 20 (.of 21 (.of 22 (.pu 23 (.pu 24 (.of 25 (.of 26 (.of 27 (.of 28 (.of 29 (.of 30 (.of 31 (.of 32 (.of 33 (.of 34 (.of 35 (.of 36 (.of 37 (.of 38 (.of 39 (.of 40 (.of 41 (.pu 42 (.st [13,14,15,16,17,18,19,20,21,22,23,24,25,26,27,28,29,30,31,32,33,34,35,36,37,38,39,40,41,42] .dn)))))))))))))))))))))))))))) (.pu 16 (.pu 17 (.pu 18 (.pu 19 (.pu 20 (.st [21,22,23,24,25,26,27,28,29,30,31,32,33,34,35,36,37,38,39,40,41,42] (.on 21 (.pu 22 (.pu 23 (.pu 24 (.g 24 (.of 25 (.of 26 (.of 27 (.of 28 (.of 29 (.of 30 (.of 31 (.of 32 (.of 33 (.of 34 (.of 35 (.of 36 (.of 37 (.of 38 (.of 39 (.of 40 (.of 41 (.pu 42 (.nx .dn))))))))))))))))))) (.pu 25 (.pu 26 (.pu 27 (.g 27 (.pu 28 (.pu 29 (.pu 30 (.pu 31 (.pu 32 (.pu 34 (.pu 35 (.pu 36 (.pu 37 (.pu 33 (.pu 38 (.st [39,40,41,42] (.on 39 (.pu 40 (.pu 41 (.pu 42 (.nx .dn))))))))))))))))) (.of 28 (.of 29 (.of 30 (.of 31 (.of 32 (.of 33 (.of 34 (.of 35 (.of 36 (.of 37 (.of 38 (.of 39 (.of 40 (.pu 41 (.pu 42 (.nx .dn)))))))))))))))))))))))))))))))))))))))))))))))))) (.j [(0,.L),(3,.I .i64),(4,.I .i64),(53,.B)] (fun (t:Sl × Int × Int × Bool)=>ZI self1 t.1 t.2.1 t.2.2.1 t.2.2.2) .o)) .o)) .o))))) .o))) Go.Proofs.Tryz.func110 rfl rfl ⟨rfl,trivial⟩ rfl (by kernel_rfl) (by kernel_rfl)
noncomputable def NH:CalleeS Go.Proofs.Tryz.prog:=mkC KAb KAq [.L] [.I .i64] (fun (t:Sl)=>US t) (fun (t:Sl)=>KBv t)
def Yc (C12:Sl) (self1:(ByteArray × Int)→M (ByteArray × Int)):(ByteArray × Int)→M (ByteArray × Int):=fun s=>match s with
 | (Xx10,Xx11)=>do
  M.ite (decide (Xx11 < (C12.len:Int))) (do
   let Xx17←ixL C12 Xx11 5
   let Xx18←ixL C12 Xx11 5
   let Xx19←ldI .i64 ((Xx17).add 4)
   let Xx20←ldG 4 ((Xx18).add 0)
   let Xx21←Ja Xx19
   chk (fun h:Heap=>(KO h ((Xx17).add 4)=some (.int .i64 Xx19))∧(Xx20.size=4∧∀ i,i < 4→KO h (Addr.add ((Xx18).add 0) i)=Xx20[i]?))
   let Xx22←sCat Xx21 (⟨#[32]⟩:ByteArray)
   let Xx23←Va Xx20
   let Xx24←sCat Xx22 Xx23
   let Xx25←sCat Xx24 (⟨#[10]⟩:ByteArray)
   let Xx26←sCat Xx10 Xx25
   self1 (Xx26,IntKind.wrap .i64 (Xx11+1))
   ) (do
   M.pure (Xx10,0)
   )
def WM (x0:Sl):M (ByteArray × Int):=do
 let Xx4←US x0
 M.ite (Xx4 != 0) (do
  M.pure (ByteArray.empty,Xx4)
  ) (do
  M.loop (Yc x0) (ByteArray.empty,0)
  )
theorem KDc (x0:Sl):Ki Go.Proofs.Tryz.prog 57 #[(x0:Sl).v] (fun (r:ByteArray × Int)=>.tuple #[.string r.1,.int .i64 r.2]) (WM x0) :=
 KL [NH,Nw,KCr] [] [.S,.I .i64] [(0,.L x0)] (.q .o (.q .o (.q .o (.q (.q .o (.b (.l [(0,.L)] [(5,.S),(6,.I .i64)] (fun (t:Sl)=>Yc t) (fun _=>.q .o (.q (.b (.r [0,0,0,6,8,16,32,64,0,0,768,1024,2048,4160,8320,16384,32769,131071] [0,0,0,6,8,16,32,64,0,0,768,1024,2048,4096,8320,16384,32769,65537] [0,0,0,6,14,30,62,126,0,0,768,1792,3840,8062,16382,32766,65535,131071] (.pu 0 (.pu 1 (.pu 2 (.pu 3 (.pu 4 (.pu 8 (.pu 9 (.pu 10 (.pu 11 (.pu 5 (.pu 12 (.st [13,14,15,16,17] (.on 6 (.pu 7 (.nx (.on 13 (.pu 14 (.pu 15 (.pu 16 (.pu 17 (.nx .dn))))))))))))))))))))))) .o))))) .o)))) Go.Proofs.Tryz.func57 rfl rfl ⟨rfl,trivial⟩ rfl (by kernel_rfl) (by kernel_rfl)
noncomputable def KDd:CalleeS Go.Proofs.Tryz.prog:=mkC KCP KCb [.L] [.S,.I .i64] (fun (t:Sl)=>WM t) (fun (t:Sl)=>KDc t)
def VH (x0:ByteArray):M (Sl × Int × Int):=do
 let Xx3←mkB Gl (#[.slice none 0 0]:Array Value)
 let Xx5←Y5 x0 (Value.func (.func KAe) #[] #[.pointer (some Xx3)])
 M.ite (Xx5.2 != 0) (do
  M.pure (Sl.nil,Xx5.1,Xx5.2)
  ) (do
  let Xx10←ldL Xx3
  M.pure (Xx10,0,0)
  )
theorem KDe (x0:ByteArray):Ki Go.Proofs.Tryz.prog 58 #[.string x0] (fun (r:Sl × Int × Int)=>.tuple #[(r.1:Sl).v,.int .i64 r.2.1,.int .i64 r.2.2]) (VH x0) :=
 KL [KGz] [] [.L,.I .i64,.I .i64] [(0,.S x0)] .o Go.Proofs.Tryz.func58 rfl rfl ⟨rfl,trivial⟩ rfl (by kernel_rfl) (by kernel_rfl)
noncomputable def KDf:CalleeS Go.Proofs.Tryz.prog:=mkC KCQ KCc [.S] [.L,.I .i64,.I .i64] (fun (t:ByteArray)=>VH t) (fun (t:ByteArray)=>KDe t)
def Wj (C5:ByteArray) (self1:(Int)→M (Int)):(Int)→M (Int):=fun s=>match s with
 | Xx4=>do
  M.ite (decide (Xx4 < (C5.size:Int))) (do
   let Xx11←ixS C5 Xx4
   M.ite (Xx11 == 32) (do
    M.pure Xx4
    ) (do
    self1 (IntKind.wrap .i64 (Xx4+1))
    )
   ) (do
   M.pure (-1)
   )
def VI (x0:ByteArray):M (Int):=do
 M.loop (Wj x0) 0
theorem KBw (x0:ByteArray):Ki Go.Proofs.Tryz.prog 115 #[.string x0] (fun (r:Int)=>.int .i64 r) (VI x0) :=
 KL [] [] [.I .i64] [(0,.S x0)] (.q .o (.q (.q .o (.b (.l [(0,.S)] [(3,.I .i64)] (fun (t:ByteArray)=>Wj t) (fun _=>.o)))) .o)) Go.Proofs.Tryz.func115 rfl rfl ⟨rfl,trivial⟩ rfl (by kernel_rfl) (by kernel_rfl)
noncomputable def KBx:CalleeS Go.Proofs.Tryz.prog:=mkC KAd KAs [.S] [.I .i64] (fun (t:ByteArray)=>VI t) (fun (t:ByteArray)=>KBw t)
def VU (C9:ByteArray) (C10:Sl) (self1:(Sl × Int)→M (Sl × Int × Int)):(Sl × Int)→M (Sl × Int × Int):=fun s=>match s with
 | (Xx7,Xx8)=>do
  M.ite (decide (Xx8 < (C10.len:Int))) (do
   let Xx16←ixL C10 Xx8 1
   let Xx17←ldS Xx16
   let Xx18←VI Xx17
   M.ite (decide (Xx18 < 0)) (do
    M.pure (Sl.nil,IntKind.wrap .i64 (Xx8+1),230)
    ) (do
    let Xx23←ixL C10 Xx8 1
    let Xx24←ldS Xx23
    let Xx25←slS Xx24 0 Xx18
    let Xx26←Jl Xx25
    let Xx28←ixL C10 Xx8 1
    let Xx29←ldS Xx28
    let Xx30←slS Xx29 (IntKind.wrap .i64 (Xx18+1)) Xx29.size
    let Xx31←VF Xx30
    let Xx32←mkB KB (#[.int .i64 0,.int .i64 0,.string ByteArray.empty,.slice none 0 0]:Array Value)
    M.need (Xx31.1.size=4)
    stG Xx32 Xx31.1
    let Xx36←M.ite (Xx26.2 != 0) (do
     M.pure true
     ) (do
     M.pure (Xx31.2.2 != 0)
     )
    let Xx37←M.ite Xx36 (do
     M.pure true
     ) (do
     M.pure (decide (Xx26.1 < 1))
     )
    let Xx38←M.ite Xx37 (do
     M.pure true
     ) (do
     let Xx39←M.ite (Xx8 == (IntKind.wrap .i64 ((C10.len:Int) - 1))) (do
      let Xx40←Vb C9
      M.pure (!Xx40)
      ) (do
      M.pure false
      )
     M.pure Xx39
     )
    M.ite Xx38 (do
     M.pure (Sl.nil,IntKind.wrap .i64 (Xx8+1),230)
     ) (do
     let Xx43←ldG 4 Xx32
     let Xx44←KLP [(0,4),(4,1)] (#[.int .i64 0,.int .i64 0,.string ByteArray.empty,.slice none 0 0,.int .i64 0]:Array Value) [(0,.agg Xx43),(1,.int .i64 Xx26.1)]
     let y_46←NY 5 1 (#[.int .i64 0,.int .i64 0,.string ByteArray.empty,.slice none 0 0,.int .i64 0]:Array Value) [(0,.agg Xx44)]
     let Xx45←bdL JZ 1 y_46
     let Xx47←apL JZ 5 64 (#[.int .i64 0,.int .i64 0,.string ByteArray.empty,.slice none 0 0,.int .i64 0]:Array Value) Xx7 Xx45
     let Xx49←US Xx47
     M.ite (Xx49 != 0) (do
      M.pure (Sl.nil,IntKind.wrap .i64 (Xx8+1),230)
      ) (do
      self1 (Xx47,IntKind.wrap .i64 (Xx8+1))
      )
     )
    )
   ) (do
   M.pure (Xx7,0,0)
   )
def JU (x0:ByteArray):M (Sl × Int × Int):=do
 let Xx4←VE x0
 M.loop (VU x0 Xx4) (Sl.nil,0)
theorem zY (x0:ByteArray):Ki Go.Proofs.Tryz.prog 59 #[.string x0] (fun (r:Sl × Int × Int)=>.tuple #[(r.1:Sl).v,.int .i64 r.2.1,.int .i64 r.2.2]) (JU x0) :=
 KL [KBo,KBs,KCv,NH,KBx,NE] [] [.L,.I .i64,.I .i64] [(0,.S x0)] (.q .o (.q .o (.q .o (.q (.q .o (.b (.l [(0,.S),(6,.L)] [(5,.L),(7,.I .i64)] (fun (t:ByteArray × Sl)=>VU t.1 t.2) (fun _=>.o)))) .o)))) Go.Proofs.Tryz.func59 rfl rfl ⟨rfl,trivial⟩ rfl (by kernel_rfl) (by kernel_rfl)
noncomputable def zZ:CalleeS Go.Proofs.Tryz.prog:=mkC qm qq [.S] [.L,.I .i64,.I .i64] (fun (t:ByteArray)=>JU t) (fun (t:ByteArray)=>zY t)
def VV (self1:(Int)→M (Bool)) (C17:Int) (Xx14:Bool):M (Bool):=do
 M.ite Xx14 (do
  M.pure false
  ) (do
  self1 (IntKind.wrap .i64 (C17+1))
  )
def YC (C8:Sl) (C9:Sl) (self1:(Int)→M (Bool)):(Int)→M (Bool):=fun s=>match s with
 | Xx7=>do
  M.ite (decide (Xx7 < (C8.len:Int))) (do
   let Xx19←ixL C8 Xx7 5
   let Xx20←ixL C9 Xx7 5
   let Xx21←ldI .i64 ((Xx19).add 4)
   let Xx22←ldI .i64 ((Xx20).add 4)
   M.ite (Xx21 != Xx22) (do
    VV self1 Xx7 true
    ) (do
    let Xx24←ixL C8 Xx7 5
    let Xx25←ixL C9 Xx7 5
    let Xx26←ldG 4 ((Xx24).add 0)
    let Xx27←ldG 4 ((Xx25).add 0)
    let Xx28←Vd Xx26 Xx27
    VV self1 Xx7 (!Xx28)
    )
   ) (do
   M.pure true
   )
def UA (x0:Sl) (x1:Sl):M (Bool):=do
 M.ite ((x0.len:Int) != (x1.len:Int)) (do
  M.pure false
  ) (do
  M.loop (YC x0 x1) 0
  )
theorem KCy (x0:Sl) (x1:Sl):Ki Go.Proofs.Tryz.prog 60 #[(x0:Sl).v,(x1:Sl).v] (fun (r:Bool)=>.bool r) (UA x0 x1) :=
 KL [KCx] [] [.B] [(0,.L x0),(1,.L x1)] (.q .o (.q .o (.q (.q .o (.b (.l [(0,.L),(1,.L)] [(5,.I .i64)] (fun (t:Sl × Sl)=>YC t.1 t.2) (fun self1=>.q .o (.q (.b (.q (.r [0,0,3,4,8,0,0,96,128,256,528,1024,2048,2048,14336,18432,34816,2048,2048,395264,526336,1050624,2164736,4196352,8390656] [0,0,3,4,8,0,0,96,128,256,528,1024,2048,2048,14336,18432,34816,2048,2048,395264,526336,1050624,2164736,4196352,8390656] [0,0,3,7,15,0,0,96,224,480,1023,2047,4095,4095,16383,32767,65535,4095,4095,397311,921599,1970175,4194303,8388607,16777215] (.pu 0 (.pu 1 (.pu 2 (.pu 3 (.pu 5 (.pu 6 (.pu 7 (.pu 8 (.pu 4 (.pu 9 (.pu 10 (.pu 11 (.g 11 (.of 12 (.of 13 (.of 14 (.of 15 (.of 16 (.of 17 (.of 18 (.of 19 (.of 20 (.of 21 (.of 22 (.of 23 (.pu 24 (.st [10,11,12,13,14,15,16,17,18,19,20,21,22,23,24] .dn)))))))))))))) (.pu 12 (.pu 13 (.pu 14 (.pu 15 (.pu 17 (.pu 18 (.pu 19 (.pu 20 (.pu 16 (.pu 21 (.st [22,23,24] (.on 22 (.pu 23 (.pu 24 (.nx .dn))))))))))))))))))))))))))))) (.j [(0,.L),(1,.L),(5,.I .i64),(41,.B)] (fun (t:Sl × Sl × Int × Bool)=>VV self1 t.2.2.1 t.2.2.2) .o))) .o))))) .o))) Go.Proofs.Tryz.func60 rfl rfl ⟨rfl,rfl,trivial⟩ rfl (by kernel_rfl) (by kernel_rfl)
noncomputable def KCz:CalleeS Go.Proofs.Tryz.prog:=mkC KBP KBZ [.L,.L] [.B] (fun (t:Sl × Sl)=>UA t.1 t.2) (fun (t:Sl × Sl)=>KCy t.1 t.2)
def Vr (x0:Sl) (x1:ByteArray):M (Bool):=do
 let Xx4←M.ite (decide ((x0.len:Int) > 100)) (do
  M.pure true
  ) (do
  let Xx5←qy x1 (⟨#[10]⟩:ByteArray)
  M.pure (decide (Xx5 > 200))
  )
 M.ite Xx4 (do
  M.pure true
  ) (do
  let Xx8←qV x0
  let Xx10←WM x0
  let Xx12←VH x1
  let Xx14←JU x1
  let Xx16←Jm
  let Xx17←M.ite Xx16 (do
   M.pure (sEq Xx8.1 Xx10.1)
   ) (do
   M.pure false
   )
  let Xx18←M.ite Xx17 (do
   M.pure (Xx8.2 == Xx10.2)
   ) (do
   M.pure false
   )
  let Xx19←M.ite Xx18 (do
   let Xx20←UA Xx12.1 Xx14.1
   M.pure Xx20
   ) (do
   M.pure false
   )
  let Xx21←M.ite Xx19 (do
   M.pure (Xx12.2.1 == Xx14.2.1)
   ) (do
   M.pure false
   )
  let Xx22←M.ite Xx21 (do
   M.pure (Xx12.2.2 == Xx14.2.2)
   ) (do
   M.pure false
   )
  M.pure Xx22
  )
theorem qW (x0:Sl) (x1:ByteArray):Ki Go.Proofs.Tryz.prog 10 #[(x0:Sl).v,.string x1] (fun (r:Bool)=>.bool r) (Vr x0 x1) :=
 KL [KBu,mkC KED KEF [.S,.S] [.I .i64] (fun (t:ByteArray × ByteArray)=>qy t.1 t.2) (fun (t:ByteArray × ByteArray)=>KEx t.1 t.2),KH0,KDd,KDf,zZ,KCz] [] [.B] [(0,.L x0),(1,.S x1)] .o Go.Proofs.Tryz.func10 rfl rfl ⟨rfl,rfl,trivial⟩ rfl (by kernel_rfl) (by kernel_rfl)
def qX (x0:Array Value) (x1:Array Value):M (Bool):=do
 let Xx2←mkB KB x0
 let Xx3←mkB KB x1
 let Xx5←ldG 4 Xx2
 let Xx6←ldG 4 Xx3
 let Xx7←Ur Xx5 Xx6
 M.pure (Xx7 == 0)
theorem KD5 (x0:Array Value) (x1:Array Value):Ki Go.Proofs.Tryz.prog 15 #[.agg x0,.agg x1] (fun (r:Bool)=>.bool r) (qX x0 x1) :=
 KL [NA] [] [.B] [(0,.G x0),(1,.G x1)] .o Go.Proofs.Tryz.func15 rfl rfl ⟨rfl,rfl,trivial⟩ rfl (by kernel_rfl) (by kernel_rfl)
noncomputable def KH1:CalleeS Go.Proofs.Tryz.prog:=mkC YP KCg [.G,.G] [.B] (fun (t:Array Value × Array Value)=>qX t.1 t.2) (fun (t:Array Value × Array Value)=>KD5 t.1 t.2)
def NI (x0:ByteArray):M (Array Value × Int × Int):=do
 let Xx2←mkB KB (#[.int .i64 0,.int .i64 0,.string ByteArray.empty,.slice none 0 0]:Array Value)
 let Xx4←WP Go.Proofs.Tryz.prog GM #[.string x0] (fun r:Array Value × Int × Bool=>.tuple #[.agg r.1,.int .i64 r.2.1,.bool r.2.2])
 let Xx5←mkB KB (#[.int .i64 0,.int .i64 0,.string ByteArray.empty,.slice none 0 0]:Array Value)
 M.need (Xx4.1.size=4)
 stG Xx5 Xx4.1
 M.ite (!Xx4.2.2) (do
  M.need ((#[.int .i64 0,.int .i64 0,.string ByteArray.empty,.slice none 0 0]:Array Value).size=4)
  stG Xx2 (#[.int .i64 0,.int .i64 0,.string ByteArray.empty,.slice none 0 0]:Array Value)
  let Rr11←ldG 4 Xx2
  M.pure (Rr11,Xx4.2.1,22)
  ) (do
  let Xx13←ldG 4 Xx5
  let Xx14←W8 Xx13
  M.ite (Xx14 != 0) (do
   M.need ((#[.int .i64 0,.int .i64 0,.string ByteArray.empty,.slice none 0 0]:Array Value).size=4)
   stG Xx2 (#[.int .i64 0,.int .i64 0,.string ByteArray.empty,.slice none 0 0]:Array Value)
   let Rr17←ldG 4 Xx2
   M.pure (Rr17,0,20)
   ) (do
   let Xx19←ldG 4 Xx5
   M.need (Xx19.size=4)
   stG Xx2 Xx19
   let Rr21←ldG 4 Xx2
   M.pure (Rr21,0,0)
   )
  )
theorem KG0 (x0:ByteArray):Ki Go.Proofs.Tryz.prog 17 #[.string x0] (fun (r:Array Value × Int × Int)=>.tuple #[.agg r.1,.int .i64 r.2.1,.int .i64 r.2.2]) (NI x0) :=
 KL [q8,mkC GM KGo [.S] [.G,.I .i64,.B] (fun (t:ByteArray)=>WP Go.Proofs.Tryz.prog GM #[.string t] (fun r:Array Value × Int × Bool=>.tuple #[.agg r.1,.int .i64 r.2.1,.bool r.2.2])) (fun (t:ByteArray)=>JN)] [] [.G,.I .i64,.I .i64] [(0,.S x0)] .o Go.Proofs.Tryz.func17 rfl rfl ⟨rfl,trivial⟩ rfl (by kernel_rfl) (by kernel_rfl)
noncomputable def KG1:CalleeS Go.Proofs.Tryz.prog:=mkC KFj KFr [.S] [.G,.I .i64,.I .i64] (fun (t:ByteArray)=>NI t) (fun (t:ByteArray)=>KG0 t)
def ZJ (x0:Sl):M (Sl):=do
 M.ite ((x0).base.isNone) (do
  M.pure Sl.nil
  ) (do
  let y_7←NY 4 0 (#[.int .i64 0,.int .i64 0,.string ByteArray.empty,.slice none 0 0]:Array Value) []
  let Xx6←bdL KB 0 y_7
  let Xx8←apL KB 4 56 (#[.int .i64 0,.int .i64 0,.string ByteArray.empty,.slice none 0 0]:Array Value) Xx6 x0
  M.pure Xx8
  )
theorem Wo (x0:Sl):Ki Go.Proofs.Tryz.prog 21 #[(x0:Sl).v] (fun (r:Sl)=>(r:Sl).v) (ZJ x0) :=
 KL [] [] [.L] [(0,.L x0)] .o Go.Proofs.Tryz.func21 rfl rfl ⟨rfl,trivial⟩ rfl (by kernel_rfl) (by kernel_rfl)
noncomputable def Wp:CalleeS Go.Proofs.Tryz.prog:=mkC WZ Wb [.L] [.L] (fun (t:Sl)=>ZJ t) (fun (t:Sl)=>Wo t)
def KE1 (x0:Int):M (Array Value):=do
 let Xx2←mkB KB (#[.int .i64 0,.int .i64 0,.string ByteArray.empty,.slice none 0 0]:Array Value)
 M.need ((#[.int .i64 1,.int .i64 x0,.string ByteArray.empty,.slice none 0 0]:Array Value).size=4)
 stG Xx2 (#[.int .i64 1,.int .i64 x0,.string ByteArray.empty,.slice none 0 0]:Array Value)
 let Rr5←ldG 4 Xx2
 M.pure Rr5
theorem KIw (x0:Int):Ki Go.Proofs.Tryz.prog 26 #[.int .i64 x0] (fun (r:Array Value)=>.agg r) (KE1 x0) :=
 KL [] [] [.G] [(0,.I .i64 x0)] .o Go.Proofs.Tryz.func26 rfl rfl ⟨rfl,trivial⟩ rfl (by kernel_rfl) (by kernel_rfl)
def KE2 (x0:ByteArray):M (Array Value):=do
 let Xx2←mkB KB (#[.int .i64 0,.int .i64 0,.string ByteArray.empty,.slice none 0 0]:Array Value)
 M.need ((#[.int .i64 2,.int .i64 0,.string x0,.slice none 0 0]:Array Value).size=4)
 stG Xx2 (#[.int .i64 2,.int .i64 0,.string x0,.slice none 0 0]:Array Value)
 let Rr5←ldG 4 Xx2
 M.pure Rr5
theorem KIx (x0:ByteArray):Ki Go.Proofs.Tryz.prog 28 #[.string x0] (fun (r:Array Value)=>.agg r) (KE2 x0) :=
 KL [] [] [.G] [(0,.S x0)] .o Go.Proofs.Tryz.func28 rfl rfl ⟨rfl,trivial⟩ rfl (by kernel_rfl) (by kernel_rfl)
def Yd (C6:Addr) (C7:Addr):M (Array Value):=do
 let Xx9←ldG 4 C7
 M.need (Xx9.size=4)
 stG C6 Xx9
 let Rr11←ldG 4 C6
 M.pure Rr11
def qY (x0:Bool):M (Array Value):=do
 let Xx2←mkB KB (#[.int .i64 0,.int .i64 0,.string ByteArray.empty,.slice none 0 0]:Array Value)
 let Xx4←mkB KB (#[.int .i64 0,.int .i64 0,.string ByteArray.empty,.slice none 0 0]:Array Value)
 M.need ((#[.int .i64 3,.int .i64 0,.string ByteArray.empty,.slice none 0 0]:Array Value).size=4)
 stG Xx4 (#[.int .i64 3,.int .i64 0,.string ByteArray.empty,.slice none 0 0]:Array Value)
 M.ite x0 (do
  stV ((Xx4).add 1) (.int .i64 1)
  Yd Xx2 Xx4
  ) (do
  Yd Xx2 Xx4
  )
theorem KD6 (x0:Bool):Ki Go.Proofs.Tryz.prog 34 #[.bool x0] (fun (r:Array Value)=>.agg r) (qY x0) :=
 KL [] [] [.G] [(0,.B x0)] (.q .o (.q .o (.q .o (.j [(2,.A),(3,.A)] (fun (t:Addr × Addr)=>Yd t.1 t.2) .o)))) Go.Proofs.Tryz.func34 rfl rfl ⟨rfl,trivial⟩ rfl (by kernel_rfl) (by kernel_rfl)
def qD (C12:Addr) (C13:Addr) (C14:Int) (self1:(Int)→M (Array Value)):(Int)→M (Array Value):=fun s=>match s with
 | Xx11=>do
  M.ite (decide (Xx11 < C14)) (do
   let Xx20←ldL ((C12).add 3)
   let Xx21←ldL ((C12).add 3)
   let Xx22←ixL Xx21 Xx11 4
   let Xx23←ldG 4 Xx22
   let Xx24←WP Go.Proofs.Tryz.prog XI #[.agg Xx23] (fun r:Array Value=>.agg r)
   chk (fun h:Heap=>(KO h ((C12).add 3)=some ((Xx20:Sl).v))∧(KO h ((C12).add 3)=some ((Xx21:Sl).v))∧(Xx23.size=4∧∀ i,i < 4→KO h (Addr.add Xx22 i)=Xx23[i]?))
   let Xx25←ixL Xx20 Xx11 4
   M.need (Xx24.size=4)
   stG Xx25 Xx24
   self1 (IntKind.wrap .i64 (Xx11+1))
   ) (do
   let Xx28←ldG 4 C12
   M.need (Xx28.size=4)
   stG C13 Xx28
   let Rr30←ldG 4 C13
   M.pure Rr30
   )
def NJ (x0:Array Value):M (Array Value):=do
 let Xx2←mkB KB x0
 let Xx3←mkB KB (#[.int .i64 0,.int .i64 0,.string ByteArray.empty,.slice none 0 0]:Array Value)
 let Xx5←ldL ((Xx2).add 3)
 let Xx6←ZJ Xx5
 stV ((Xx2).add 3) ((Xx6:Sl).v)
 let Xx10←ldL ((Xx2).add 3)
 M.loop (qD Xx2 Xx3 (Xx10.len:Int)) 0
theorem KC0 (x0:Array Value):Ki Go.Proofs.Tryz.prog 39 #[.agg x0] (fun (r:Array Value)=>.agg r) (NJ x0) :=
 KL [Wp,mkC XI KA8 [.G] [.G] (fun (t:Array Value)=>WP Go.Proofs.Tryz.prog XI #[.agg t] (fun r:Array Value=>.agg r)) (fun (t:Array Value)=>JN)] [] [.G] [(0,.G x0)] (.q .o (.q .o (.q (.q .o (.b (.l [(1,.A),(2,.A),(10,.I .i64)] [(11,.I .i64)] (fun (t:Addr × Addr × Int)=>qD t.1 t.2.1 t.2.2) (fun _=>.q .o (.q .o (.q (.b (.q .o (.r [0,1,0,0,8,0,48,64,128,511,1023] [0,1,0,0,8,0,48,64,128,6,768] [0,1,0,0,8,0,56,120,248,511,1023] (.pu 0 (.pu 2 (.pu 3 (.pu 5 (.pu 1 (.pu 4 (.pu 6 (.pu 7 (.st [9,10] (.on 8 (.pu 9 (.nx (.on 10 .dn)))))))))))))))) .o)))))) .o))) Go.Proofs.Tryz.func39 rfl rfl ⟨rfl,trivial⟩ rfl (by kernel_rfl) (by kernel_rfl)
noncomputable def KG2:CalleeS Go.Proofs.Tryz.prog:=mkC XI KA8 [.G] [.G] (fun (t:Array Value)=>NJ t) (fun (t:Array Value)=>KC0 t)
def zu (C14:Addr) (C15:Addr) (C16:Addr) (self1:(Int)→M (Array Value × Bool)):(Int)→M (Array Value × Bool):=fun s=>match s with
 | Xx13=>do
  let Xx20←ldL ((C14).add 3)
  M.ite (decide ((IntKind.wrap .i64 (Xx13+1)) < (Xx20.len:Int))) (do
   let Xx23←ldL ((C14).add 3)
   let Xx24←ixL Xx23 Xx13 4
   let Xx25←ldG 4 Xx24
   let Xx26←ldG 4 C15
   let Xx27←qX Xx25 Xx26
   M.ite Xx27 (do
    let Xx29←ldL ((C14).add 3)
    let Xx30←ixL Xx29 (IntKind.wrap .i64 (Xx13+1)) 4
    let Xx31←ldG 4 Xx30
    let Xx32←NJ Xx31
    M.need (Xx32.size=4)
    stG C16 Xx32
    let Rr34←ldG 4 C16
    M.pure (Rr34,true)
    ) (do
    self1 (IntKind.wrap .i64 (Xx13+2))
    )
   ) (do
   M.need ((#[.int .i64 0,.int .i64 0,.string ByteArray.empty,.slice none 0 0]:Array Value).size=4)
   stG C16 (#[.int .i64 0,.int .i64 0,.string ByteArray.empty,.slice none 0 0]:Array Value)
   let Rr37←ldG 4 C16
   M.pure (Rr37,false)
   )
def zw (x0:Array Value) (x1:Array Value):M (Array Value × Bool):=do
 let Xx2←mkB KB x0
 let Xx3←mkB KB x1
 let Xx4←mkB KB (#[.int .i64 0,.int .i64 0,.string ByteArray.empty,.slice none 0 0]:Array Value)
 let Xx7←ldI .i64 ((Xx2).add 0)
 M.ite (Xx7 != 5) (do
  M.need ((#[.int .i64 0,.int .i64 0,.string ByteArray.empty,.slice none 0 0]:Array Value).size=4)
  stG Xx4 (#[.int .i64 0,.int .i64 0,.string ByteArray.empty,.slice none 0 0]:Array Value)
  let Rr10←ldG 4 Xx4
  M.pure (Rr10,false)
  ) (do
  M.loop (zu Xx2 Xx3 Xx4) 0
  )
theorem KIy (x0:Array Value) (x1:Array Value):Ki Go.Proofs.Tryz.prog 36 #[.agg x0,.agg x1] (fun (r:Array Value × Bool)=>.tuple #[.agg r.1,.bool r.2]) (zw x0 x1) :=
 KL [KH1,KG2] [] [.G,.B] [(0,.G x0),(1,.G x1)] (.q .o (.q .o (.q (.q .o (.b (.l [(2,.A),(3,.A),(4,.A)] [(6,.I .i64)] (fun (t:Addr × Addr × Addr)=>zu t.1 t.2.1 t.2.2) (fun _=>.q .o (.q (.b (.q (.r [0,1,0,6,8,0,48] [0,1,0,6,8,0,48] [0,1,0,7,15,0,63] (.pu 0 (.pu 2 (.pu 1 (.pu 3 (.pu 4 (.pu 5 (.st [6] (.on 6 .dn))))))))) .o)) .o))))) .o))) Go.Proofs.Tryz.func36 rfl rfl ⟨rfl,rfl,trivial⟩ rfl (by kernel_rfl) (by kernel_rfl)
noncomputable def KIz:CalleeS Go.Proofs.Tryz.prog:=mkC KHq KHs [.G,.G] [.G,.B] (fun (t:Array Value × Array Value)=>zw t.1 t.2) (fun (t:Array Value × Array Value)=>KIy t.1 t.2)
def ZX (x0:ByteArray) (x1:ByteArray):M (ByteArray × ByteArray × Bool):=do
 let Xx4←Ue x0 x1
 M.ite (decide (Xx4 ≥ 0)) (do
  let Xx7←slS x0 0 Xx4
  let Xx8←slS x0 (IntKind.wrap .i64 (Xx4+(x1.size:Int))) x0.size
  M.pure (Xx7,Xx8,true)
  ) (do
  M.pure (x0,ByteArray.empty,false)
  )
theorem Nl (x0:ByteArray) (x1:ByteArray):Ki Go.Proofs.Tryz.prog 158 #[.string x0,.string x1] (fun (r:ByteArray × ByteArray × Bool)=>.tuple #[.string r.1,.string r.2.1,.bool r.2.2]) (ZX x0 x1) :=
 KL [mkC Xn Xw [.S,.S] [.I .i64] (fun (t:ByteArray × ByteArray)=>Ue t.1 t.2) (fun (t:ByteArray × ByteArray)=>GS t.1 t.2)] [] [.S,.S,.B] [(0,.S x0),(1,.S x1)] (.q .o (.q (.q .o (.q .o (.q (.q (.r [0,0,3,0,0,0,32,80,136,7,1023,2047] [0,0,3,0,0,0,32,80,136,4,256,0] [0,0,3,0,0,0,32,112,248,7,1023,2047] (.pu 0 (.pu 1 (.pu 2 (.pu 3 (.pu 4 (.pu 5 (.pu 6 (.pu 7 (.pu 8 (.pu 9 (.pu 10 (.pu 11 (.st [0,1,2,3,4,5,6,7,8,9,10,11] .dn)))))))))))))) .o) .o))) .o)) Go.Proofs.Tryz.func158 rfl rfl ⟨rfl,rfl,trivial⟩ rfl (by kernel_rfl) (by kernel_rfl)
noncomputable def Nm:CalleeS Go.Proofs.Tryz.prog:=mkC Gk Gp [.S,.S] [.S,.S,.B] (fun (t:ByteArray × ByteArray)=>ZX t.1 t.2) (fun (t:ByteArray × ByteArray)=>Nl t.1 t.2)
def WN (x0:ByteArray) (x1:ByteArray):M (ByteArray × ByteArray × Bool):=do
 let Xx3←ZX x0 x1
 M.pure (Xx3.1,Xx3.2.1,Xx3.2.2)
theorem KG3 (x0:ByteArray) (x1:ByteArray):Ki Go.Proofs.Tryz.prog 113 #[.string x0,.string x1] (fun (r:ByteArray × ByteArray × Bool)=>.tuple #[.string r.1,.string r.2.1,.bool r.2.2]) (WN x0 x1) :=
 KL [Nm] [] [.S,.S,.B] [(0,.S x0),(1,.S x1)] .o Go.Proofs.Tryz.func113 rfl rfl ⟨rfl,rfl,trivial⟩ rfl (by kernel_rfl) (by kernel_rfl)
noncomputable def KC1:CalleeS Go.Proofs.Tryz.prog:=mkC KFh KFp [.S,.S] [.S,.S,.B] (fun (t:ByteArray × ByteArray)=>WN t.1 t.2) (fun (t:ByteArray × ByteArray)=>KG3 t.1 t.2)
def Y7 (x0:ByteArray) (x1:Addr):M (Bool):=do
 let Xx3←WN x0 (⟨#[32]⟩:ByteArray)
 let Xx5←WP Go.Proofs.Tryz.prog Nt #[.string Xx3.1] (fun r:Int × Int=>.tuple #[.int .i64 r.1,.int .i64 r.2])
 let Xx7←NI Xx3.2.1
 let Xx8←mkB KB (#[.int .i64 0,.int .i64 0,.string ByteArray.empty,.slice none 0 0]:Array Value)
 M.need (Xx7.1.size=4)
 stG Xx8 Xx7.1
 let Xx11←ldL x1
 let Xx12←ldG 4 Xx8
 let Xx13←KLP [(0,4),(4,1)] (#[.int .i64 0,.int .i64 0,.string ByteArray.empty,.slice none 0 0,.int .i64 0]:Array Value) [(0,.agg Xx12),(1,.int .i64 Xx5.1)]
 let y_15←NY 5 1 (#[.int .i64 0,.int .i64 0,.string ByteArray.empty,.slice none 0 0,.int .i64 0]:Array Value) [(0,.agg Xx13)]
 let Xx14←bdL JZ 1 y_15
 let Xx16←apL JZ 5 64 (#[.int .i64 0,.int .i64 0,.string ByteArray.empty,.slice none 0 0,.int .i64 0]:Array Value) Xx11 Xx14
 stV x1 ((Xx16:Sl).v)
 let Xx19←M.ite Xx3.2.2 (do
  M.pure (Xx5.2 == 0)
  ) (do
  M.pure false
  )
 let Xx20←M.ite Xx19 (do
  M.pure (Xx7.2.2 == 0)
  ) (do
  M.pure false
  )
 let Xx21←M.ite Xx20 (do
  let Xx22←ldL x1
  let Xx23←Vk Xx22
  M.pure (Xx23 == 0)
  ) (do
  M.pure false
  )
 M.pure Xx21
theorem KBy (x0:ByteArray) (x1:Addr):Ki Go.Proofs.Tryz.prog 112 #[.string x0,.pointer (some x1)] (fun (r:Bool)=>.bool r) (Y7 x0 x1) :=
 KL [zL,KC1,mkC Nt KD1 [.S] [.I .i64,.I .i64] (fun (t:ByteArray)=>WP Go.Proofs.Tryz.prog Nt #[.string t] (fun r:Int × Int=>.tuple #[.int .i64 r.1,.int .i64 r.2])) (fun (t:ByteArray)=>JN),KG1] [] [.B] [(0,.S x0),(1,.A x1)] .o Go.Proofs.Tryz.func112 rfl rfl ⟨rfl,rfl,trivial⟩ rfl (by kernel_rfl) (by kernel_rfl)
def KAN (x0:Int) (x1:Bool):M (Int × Int):=do
 M.ite (!x1) (do
  M.pure (0,7)
  ) (do
  M.pure (x0,0)
  )
theorem KKY (x0:Int) (x1:Bool):Ki Go.Proofs.Tryz.prog 141 #[.int .i64 x0,.bool x1] (fun (r:Int × Int)=>.tuple #[.int .i64 r.1,.int .i64 r.2]) (KAN x0 x1) :=
 KL [] [] [.I .i64,.I .i64] [(0,.I .i64 x0),(1,.B x1)] .o Go.Proofs.Tryz.func141 rfl rfl ⟨rfl,rfl,trivial⟩ rfl (by kernel_rfl) (by kernel_rfl)
noncomputable def KKZ:CalleeS Go.Proofs.Tryz.prog:=mkC KIr KIu [.I .i64,.B] [.I .i64,.I .i64] (fun (t:Int × Bool)=>KAN t.1 t.2) (fun (t:Int × Bool)=>KKY t.1 t.2)
def Jn (C5:Sl) (C6:Value) (C7:Int) (self1:(Int)→M (Int)):(Int)→M (Int):=fun s=>match s with
 | Xx4=>do
  M.ite (decide (Xx4 < C7)) (do
   let Xx14←ixL C5 Xx4 1
   let Xx15←ldI .u8 Xx14
   let Xx16←V7 Go.Proofs.Tryz.prog (fun r:Bool=>.bool r) C6 [.int .u8 Xx15]
   M.ite Xx16 (do
    M.pure Xx4
    ) (do
    self1 (IntKind.wrap .i64 (Xx4+1))
    )
   ) (do
   M.pure (-1)
   )
def JG (x0:Sl) (x1:Value):M (Int):=do
 M.loop (Jn x0 x1 (x0.len:Int)) 0
theorem XY (x0:Sl) (x1:Value):Ki Go.Proofs.Tryz.prog 200 #[(x0:Sl).v,x1] (fun (r:Int)=>.int .i64 r) (JG x0 x1) :=
 KL [] [] [.I .i64] [(0,.L x0),(1,.V x1)] (.q .o (.q (.q .o (.b (.l [(0,.L),(1,.V),(7,.I .i64)] [(8,.I .i64)] (fun (t:Sl × Value × Int)=>Jn t.1 t.2.1 t.2.2) (fun _=>.o)))) .o)) Go.Proofs.Tryz.func200 rfl rfl ⟨rfl,rfl,trivial⟩ rfl (by kernel_rfl) (by kernel_rfl)
noncomputable def XZ:CalleeS Go.Proofs.Tryz.prog:=mkC Yz Y1 [.L,.V] [.I .i64] (fun (t:Sl × Value)=>JG t.1 t.2) (fun (t:Sl × Value)=>XY t.1 t.2)
def ZY (x0:Sl) (x1:Value):M (Bool):=do
 let Xx3←JG x0 x1
 M.pure (decide (Xx3 ≥ 0))
theorem Ye (x0:Sl) (x1:Value):Ki Go.Proofs.Tryz.prog 159 #[(x0:Sl).v,x1] (fun (r:Bool)=>.bool r) (ZY x0 x1) :=
 KL [XZ] [] [.B] [(0,.L x0),(1,.V x1)] .o Go.Proofs.Tryz.func159 rfl rfl ⟨rfl,rfl,trivial⟩ rfl (by kernel_rfl) (by kernel_rfl)
noncomputable def Yf:CalleeS Go.Proofs.Tryz.prog:=mkC YJ YK [.L,.V] [.B] (fun (t:Sl × Value)=>ZY t.1 t.2) (fun (t:Sl × Value)=>Ye t.1 t.2)
def Zy (x0:ByteArray):M (ByteArray):=do
 M.ite ((x0.size:Int) == 0) (do
  M.pure ByteArray.empty
  ) (do
  let Xx6←mkS KY 1 1 (#[.int .u8 0]:Array Value) (x0.size:Int) (x0.size:Int)
  let Xx8←cpSt Xx6 x0
  let Xx10←ixL Xx6 0 1
  let Xx11←uStr KY (some Xx10) (Xx6.len:Int)
  M.pure Xx11
  )
theorem GV (x0:ByteArray):Ki Go.Proofs.Tryz.prog 253 #[.string x0] (fun (r:ByteArray)=>.string r) (Zy x0) :=
 KL [] [] [.S] [(0,.S x0)] .o Go.Proofs.Tryz.func253 rfl rfl ⟨rfl,trivial⟩ rfl (by kernel_rfl) (by kernel_rfl)
noncomputable def GW:CalleeS Go.Proofs.Tryz.prog:=mkC Xm Xv [.S] [.S] (fun (t:ByteArray)=>Zy t) (fun (t:ByteArray)=>GV t)
def Uv (x0:ByteArray) (x1:ByteArray):M (Option Addr):=do
 let Xx3←ldV (⟨5,0,none⟩:Addr)
 let Xx4←Zy x1
 chk (fun h:Heap=>(KO h (⟨5,0,none⟩:Addr)=some (Xx3)))
 let Xx5←KLP [(0,1),(1,1),(2,1)] (#[.string ByteArray.empty,.string ByteArray.empty,.nilIface]:Array Value) [(0,.string x0),(1,.string Xx4),(2,Xx3)]
 let Xx6←mkB KBS Xx5
 M.pure (some Xx6)
theorem KA2 (x0:ByteArray) (x1:ByteArray):Ki Go.Proofs.Tryz.prog 233 #[.string x0,.string x1] (fun (r:Option Addr)=>.pointer r) (Uv x0 x1) :=
 KL [GW] [4] [.P] [(0,.S x0),(1,.S x1)] (.q .o (.q (.r [0,0,2,0,13,16,63] [0,0,2,0,13,16,32] [0,0,2,0,15,31,63] (.pu 0 (.pu 1 (.pu 3 (.st [4,5,6] (.on 2 (.pu 4 (.nx (.on 5 (.pu 6 (.nx .dn))))))))))) .o)) Go.Proofs.Tryz.func233 rfl rfl ⟨rfl,rfl,trivial⟩ rfl (by kernel_rfl) (by kernel_rfl)
noncomputable def KA3:CalleeS Go.Proofs.Tryz.prog:=mkC zk zo [.S,.S] [.P] (fun (t:ByteArray × ByteArray)=>Uv t.1 t.2) (fun (t:ByteArray × ByteArray)=>KA2 t.1 t.2)
end Gx
namespace Gx
open Go
set_option linter.unusedVariables false
set_option maxRecDepth 100000
def WO (x0:ByteArray) (x1:ByteArray) (x2:Int) (x3:Int) (x4:Value):M (Value):=do
 let Xx5←eqII Kx x4 (Value.iface Kx (.int .i64 2))
 M.ite Xx5 (do
  let Xx7←Wz x0 x1
  M.pure (Value.iface Uq (.pointer Xx7))
  ) (do
  let Xx9←eqII Kx x4 (Value.iface Kx (.int .i64 1))
  M.ite Xx9 (do
   let Xx11←Uv x0 x1
   M.pure (Value.iface Uq (.pointer Xx11))
   ) (do
   let Xx13←eqII Kx x4 (Value.iface Kx (.int .i64 3))
   M.ite Xx13 (do
    let Xx15←Y2 x0 x1 x2
    M.pure (Value.iface Uq (.pointer Xx15))
    ) (do
    let Xx17←eqII Kx x4 (Value.iface Kx (.int .i64 4))
    M.ite Xx17 (do
     let Xx19←Wc x0 x1 x3
     M.pure (Value.iface Uq (.pointer Xx19))
     ) (do
     M.pure x4
     )
    )
   )
  )
theorem KDg (x0:ByteArray) (x1:ByteArray) (x2:Int) (x3:Int) (x4:Value):Ki Go.Proofs.Tryz.prog 202 #[.string x0,.string x1,.int .i64 x2,.int .i64 x3,x4] (fun (r:Value)=>r) (WO x0 x1 x2 x3 x4) :=
 KL [mkC zR zS [.S,.S] [.P] (fun (t:ByteArray × ByteArray)=>Wz t.1 t.2) (fun (t:ByteArray × ByteArray)=>zp t.1 t.2),KA3,mkC KAg KAv [.S,.S,.I .i64] [.P] (fun (t:ByteArray × ByteArray × Int)=>Y2 t.1 t.2.1 t.2.2) (fun (t:ByteArray × ByteArray × Int)=>KBd t.1 t.2.1 t.2.2),mkC qn qt [.S,.S,.I .i64] [.P] (fun (t:ByteArray × ByteArray × Int)=>Wc t.1 t.2.1 t.2.2) (fun (t:ByteArray × ByteArray × Int)=>zT t.1 t.2.1 t.2.2)] [17,24,32,40] [.V] [(0,.S x0),(1,.S x1),(2,.I .i64 x2),(3,.I .i64 x3),(4,.V x4)] .o Go.Proofs.Tryz.func202 rfl rfl ⟨rfl,rfl,rfl,rfl,rfl,trivial⟩ rfl (by kernel_rfl) (by kernel_rfl)
noncomputable def KDh:CalleeS Go.Proofs.Tryz.prog:=mkC KCR KCd [.S,.S,.I .i64,.I .i64,.V] [.V] (fun (t:ByteArray × ByteArray × Int × Int × Value)=>WO t.1 t.2.1 t.2.2.1 t.2.2.2.1 t.2.2.2.2) (fun (t:ByteArray × ByteArray × Int × Int × Value)=>KDg t.1 t.2.1 t.2.2.1 t.2.2.2.1 t.2.2.2.2)
def Ve (x0:ByteArray) (x1:Int) (x2:Int):M (Int × Value):=do
 let Xx3←Ux x0 x1 x2
 let Xx6←isNI Xx3.2
 M.ite (!Xx6) (do
  let Xx8←WO (⟨#[80,97,114,115,101,73,110,116]⟩:ByteArray) x0 x1 x2 Xx3.2
  M.pure (Xx3.1,Xx8)
  ) (do
  M.pure (Xx3.1,Value.nilIface)
  )
theorem KC2 (x0:ByteArray) (x1:Int) (x2:Int):Ki Go.Proofs.Tryz.prog 161 #[.string x0,.int .i64 x1,.int .i64 x2] (fun (r:Int × Value)=>.tuple #[.int .i64 r.1,r.2]) (Ve x0 x1 x2) :=
 KL [mkC GH GO [.S,.I .i64,.I .i64] [.I .i64,.V] (fun (t:ByteArray × Int × Int)=>Ux t.1 t.2.1 t.2.2) (fun (t:ByteArray × Int × Int)=>Gt t.1 t.2.1 t.2.2),KDh] [] [.I .i64,.V] [(0,.S x0),(1,.I .i64 x1),(2,.I .i64 x2)] .o Go.Proofs.Tryz.func161 rfl rfl ⟨rfl,rfl,rfl,trivial⟩ rfl (by kernel_rfl) (by kernel_rfl)
noncomputable def KC3:CalleeS Go.Proofs.Tryz.prog:=mkC KBR KBb [.S,.I .i64,.I .i64] [.I .i64,.V] (fun (t:ByteArray × Int × Int)=>Ve t.1 t.2.1 t.2.2) (fun (t:ByteArray × Int × Int)=>KC2 t.1 t.2.1 t.2.2)
def Xa (C4:ByteArray) (Xx3:ByteArray):M (Int × Int):=do
 let Xx7←M.ite (sEq Xx3 ByteArray.empty) (do
  M.pure true
  ) (do
  let Xx8←s2b KY Xx3
  let Xx9←ZY Xx8 (Value.func (.func KFe) #[] #[])
  M.pure Xx9
  )
 let Xx10←M.ite Xx7 (do
  M.pure true
  ) (do
  let Xx11←ixS Xx3 0
  let Xx12←M.ite (Xx11 == 48) (do
   M.pure (!(sEq C4 (⟨#[48]⟩:ByteArray)))
   ) (do
   M.pure false
   )
  M.pure Xx12
  )
 M.ite Xx10 (do
  M.pure (0,10)
  ) (do
  let Xx15←Ve C4 10 64
  let Xx17←isNI Xx15.2
  let Xx18←KAN Xx15.1 Xx17
  M.pure (Xx18.1,Xx18.2)
  )
def KE3 (x0:ByteArray):M (Int × Int):=do
 let Xx20←M.ite (!(sEq x0 ByteArray.empty)) (do
  let Xx21←ixS x0 0
  M.pure (Xx21 == 45)
  ) (do
  M.pure false
  )
 M.ite Xx20 (do
  let Xx22←slS x0 1 x0.size
  Xa x0 Xx22
  ) (do
  Xa x0 x0
  )
theorem KE4 (x0:ByteArray):Ki Go.Proofs.Tryz.prog 114 #[.string x0] (fun (r:Int × Int)=>.tuple #[.int .i64 r.1,.int .i64 r.2]) (KE3 x0) :=
 KL [KKZ,Yf,KC3] [] [.I .i64,.I .i64] [(0,.S x0)] (.q .o (.q .o (.q .o (.j [(0,.S),(4,.S)] (fun (t:ByteArray × ByteArray)=>Xa t.1 t.2) .o)))) Go.Proofs.Tryz.func114 rfl rfl ⟨rfl,trivial⟩ rfl (by kernel_rfl) (by kernel_rfl)
def Y8 (C3:Value) (C4:Addr) (self1:(Int)→M (Unit)):(Int)→M (Unit):=fun s=>match s with
 | Xx2=>do
  let Xx8←ldS C4
  M.ite (!(sEq Xx8 ByteArray.empty)) (do
   let Xx11←ldS C4
   let Xx12←WN Xx11 (⟨#[10]⟩:ByteArray)
   let Xx15←V7 Go.Proofs.Tryz.prog (fun r:Bool=>.bool r) C3 [.int .i64 Xx2,.string Xx12.1]
   M.ite (!Xx15) (do
    M.pure ()
    ) (do
    stV C4 (.string Xx12.2.1)
    self1 (IntKind.wrap .i64 (Xx2+1))
    )
   ) (do
   M.pure ()
   )
def KBA (x0:Value) (x1:Addr):M (Unit):=do
 M.loop (Y8 x0 x1) 1
theorem KEH (x0:Value) (x1:Addr):Ki Go.Proofs.Tryz.prog 119 #[x0,.pointer (some x1)] (fun (r:Unit)=>.tuple #[]) (KBA x0 x1) :=
 KL [KC1] [] [] [(0,.V x0),(1,.A x1)] (.q .o (.b (.l [(0,.V),(1,.A)] [(3,.I .i64)] (fun (t:Value × Addr)=>Y8 t.1 t.2) (fun _=>.o)))) Go.Proofs.Tryz.func119 rfl rfl ⟨rfl,rfl,trivial⟩ rfl (by kernel_rfl) (by kernel_rfl)
def VJ (self1:(Int)→M (Unit)) (C18:Value) (C19:Addr) (C20:Addr) (C23:Int):M (Unit):=do
 let Xx24←ldG 4 C20
 let Xx25←V7 Go.Proofs.Tryz.prog (fun r:ByteArray=>.string r) C18 [.agg Xx24]
 let Xx26←KW (some C19) Xx25
 self1 (IntKind.wrap .i64 (C23+1))
def Y9 (C5:Value) (C6:Addr) (C7:Sl) (C8:Int) (self1:(Int)→M (Unit)):(Int)→M (Unit):=fun s=>match s with
 | Xx4=>do
  M.ite (decide (Xx4 < C8)) (do
   let Xx14←ixL C7 Xx4 4
   let Xx15←ldG 4 Xx14
   let Xx16←mkB KB (#[.int .i64 0,.int .i64 0,.string ByteArray.empty,.slice none 0 0]:Array Value)
   M.need (Xx15.size=4)
   stG Xx16 Xx15
   M.ite (decide (Xx4 > 0)) (do
    let Xx28←KW (some C6) (⟨#[32,124,32]⟩:ByteArray)
    VJ self1 C5 C6 Xx16 Xx4
    ) (do
    VJ self1 C5 C6 Xx16 Xx4
    )
   ) (do
   let Xx29←Kj (some C6) 10
   M.pure ()
   )
def qE (x0:Value) (x1:Addr) (x2:Addr):M (Unit):=do
 let Xx3←ldL x1
 M.loop (Y9 x0 x2 Xx3 (Xx3.len:Int)) 0
theorem zM (x0:Value) (x1:Addr) (x2:Addr):Ki Go.Proofs.Tryz.prog 122 #[x0,.pointer (some x1),.pointer (some x2)] (fun (r:Unit)=>.tuple #[]) (qE x0 x1 x2) :=
 KL [Ze,UU] [] [] [(0,.V x0),(1,.A x1),(2,.A x2)] (.q (.q .o (.b (.l [(0,.V),(2,.A),(6,.L),(7,.I .i64)] [(8,.I .i64)] (fun (t:Value × Addr × Sl × Int)=>Y9 t.1 t.2.1 t.2.2.1 t.2.2.2) (fun self1=>.q .o (.q .o (.q (.b (.q .o (.q .o (.j [(0,.V),(2,.A),(5,.A),(6,.L),(7,.I .i64),(8,.I .i64)] (fun (t:Value × Addr × Addr × Sl × Int × Int)=>VJ self1 t.1 t.2.1 t.2.2.1 t.2.2.2.2.2) .o)))) .o)))))) .o) Go.Proofs.Tryz.func122 rfl rfl ⟨rfl,rfl,rfl,trivial⟩ rfl (by kernel_rfl) (by kernel_rfl)
def KBB (x0:Array Value) (x1:Addr):M (ByteArray):=do
 let Xx2←mkB KB x0
 let Xx5←ldG 4 x1
 let Xx6←ldG 4 Xx2
 let Xx7←zw Xx5 Xx6
 let Xx8←mkB KB (#[.int .i64 0,.int .i64 0,.string ByteArray.empty,.slice none 0 0]:Array Value)
 M.need (Xx7.1.size=4)
 stG Xx8 Xx7.1
 M.ite Xx7.2 (do
  let Xx12←ldG 4 Xx8
  let Xx13←Y3 Xx12
  M.pure Xx13
  ) (do
  M.pure (⟨#[45]⟩:ByteArray)
  )
theorem KEI (x0:Array Value) (x1:Addr):Ki Go.Proofs.Tryz.prog 123 #[.agg x0,.pointer (some x1)] (fun (r:ByteArray)=>.string r) (KBB x0 x1) :=
 KL [zq,KIz] [] [.S] [(0,.G x0),(1,.A x1)] .o Go.Proofs.Tryz.func123 rfl rfl ⟨rfl,rfl,trivial⟩ rfl (by kernel_rfl) (by kernel_rfl)
def KE5 (x0:Array Value) (x1:Addr):M (Bool):=do
 let Xx2←mkB KB x0
 let Xx4←ldG 4 Xx2
 let Xx5←ldI .i64 x1
 let Xx6←NB Xx4 (IntKind.wrap .i64 (Xx5+1))
 M.pure (!Xx6)
theorem KG4 (x0:Array Value) (x1:Addr):Ki Go.Proofs.Tryz.prog 129 #[.agg x0,.pointer (some x1)] (fun (r:Bool)=>.bool r) (KE5 x0 x1) :=
 KL [KE0] [] [.B] [(0,.G x0),(1,.A x1)] .o Go.Proofs.Tryz.func129 rfl rfl ⟨rfl,rfl,trivial⟩ rfl (by kernel_rfl) (by kernel_rfl)
def K9 (x0:Option Addr):M (Value ⊕ (Unit)):=do
 let Xx1←nilP x0
 let Xx2←ldI .i64 ((Xx1).add 1)
 M.pure (.inl (Value.iface JM (.agg (#[.int .i64 Xx2]:Array Value))))
theorem ZQ (x0:Option Addr):qH Go.Proofs.Tryz.prog 132 #[.pointer x0] (fun (r:Unit)=>.tuple #[]) (K9 x0):=by
 refine XK [(0,.pointer x0)] Go.Proofs.Tryz.func132 rfl rfl (Nat.le_of_ble_eq_true rfl) (Yw ⟨rfl,trivial⟩) (fun w0 w Q R X a hret hthr hE hR H=>?_)
 unfold K9 at H
 refine KG ?_
 refine KH (v:=.pointer x0) rfl rfl hE rfl (KJ hE rfl) (fun a hE=>?_)
 obtain ⟨Xx1,qXx1,H⟩:=H
 refine KH (v:=.pointer (some Xx1)) rfl rfl hE rfl (KV hE (J7 rfl (congrArg Value.pointer qXx1))) (fun a hE=>?_)
 refine KH (v:=.pointer (some ((Xx1).add 1))) rfl rfl hE rfl (KM hE rfl Zi) (fun a hE=>?_)
 obtain ⟨Xx2,qXx2,H⟩:=H
 refine KH (v:=.int .i64 Xx2) rfl rfl hE rfl (Zk hE rfl sc3 qXx2) (fun a hE=>?_)
 refine KH (v:=.agg (#[.int .i64 Xx2]:Array Value)) rfl rfl hE rfl (zf hE rfl KQl KRn (by rfl)) (fun a hE=>?_)
 refine KH (v:=(Value.iface JM (.agg (#[.int .i64 Xx2]:Array Value)))) rfl rfl hE rfl (KHl hE rfl KRm) (fun a hE=>?_)
 exact KO3 hE rfl (hthr _ _ hR H)
def Kv (x0:Option Addr):M (Int):=do
 let Xx4←nilP x0
 let Xx5←nilP x0
 let Xx6←ldI .i64 ((Xx4).add 1)
 let Xx7←ldS ((Xx5).add 0)
 M.ite (decide (Xx6 < (Xx7.size:Int))) (do
  let Xx9←nilP x0
  let Xx10←nilP x0
  let Xx11←ldS ((Xx9).add 0)
  let Xx12←ldI .i64 ((Xx10).add 1)
  let Xx13←ixS Xx11 Xx12
  M.pure Xx13
  ) (do
  M.pure 0
  )
theorem ZB (x0:Option Addr):Ki Go.Proofs.Tryz.prog 170 #[.pointer x0] (fun (r:Int)=>.int .u8 r) (Kv x0) :=
 KL [] [0,3,7,13,17] [.I .u8] [(0,.P x0)] (.q .o (.q (.q (.r [0,1,2,4,0,16,32,64,128,264] [0,1,2,4,0,16,32,64,128,264] [0,1,3,7,0,16,48,112,240,511] (.pu 0 (.pu 1 (.pu 2 (.pu 4 (.pu 5 (.pu 6 (.pu 3 (.pu 7 (.pu 8 (.pu 9 (.st [9] .dn)))))))))))) (.q (.q (.r [0,1,2,4,0,16,32,64,136,511] [0,1,2,4,0,16,32,64,136,256] [0,1,3,7,0,16,48,112,255,511] (.pu 0 (.pu 1 (.pu 2 (.pu 4 (.pu 5 (.pu 6 (.pu 3 (.pu 7 (.pu 8 (.pu 9 (.st [8,9] .dn)))))))))))) .o) .o)) .o)) Go.Proofs.Tryz.func170 rfl rfl ⟨rfl,trivial⟩ rfl (by kernel_rfl) (by kernel_rfl)
def XA (x0:Int):M (Bool):=do
 let Xx3←M.ite (decide (x0 ≥ 48)) (do
  M.pure (decide (x0≤57))
  ) (do
  M.pure false
  )
 M.pure Xx3
theorem zB (x0:Int):Ki Go.Proofs.Tryz.prog 171 #[.int .u8 x0] (fun (r:Bool)=>.bool r) (XA x0) :=
 KL [] [] [.B] [(0,.I .u8 x0)] .o Go.Proofs.Tryz.func171 rfl rfl ⟨rfl,trivial⟩ rfl (by kernel_rfl) (by kernel_rfl)
noncomputable def KLk:Array Oper:=KNB Go.Proofs.Tryz.f172 9
def KLl:List (List Nat):=[[],[0],[1],[2],[],[],[5],[6],[7],[8],[3,4,9],[10],[11],[12],[12],[13,11,0,1,2,3,4,5,6,7,8,9,10,11,12,13],[14,15,0,1,2,3,4,5,6,7,8,9,10,11,12,13,14,15]]
def KLm:List (List Nat):=[[],[0],[1],[2],[],[],[5],[6],[7],[8],[3,4,9],[10],[11],[12],[12],[13],[14]]
def KLn:List (List Nat):=[[],[0],[0,1],[0,1,2],[],[],[5],[5,6],[5,6,7],[5,6,7,8],[0,1,2,3,4,5,6,7,8,9],[0,1,2,3,4,5,6,7,8,9,10],[0,1,2,3,4,5,6,7,8,9,10,11],[0,1,2,3,4,5,6,7,8,9,10,11,12],[0,1,2,3,4,5,6,7,8,9,10,11,12],[0,1,2,3,4,5,6,7,8,9,10,11,12,13],[0,1,2,3,4,5,6,7,8,9,10,11,12,13,14,15]]
theorem KPN:KHe Go.Proofs.Tryz.f172 9 KLl KLm KLn=true:=by kernel_rfl
theorem KNb:KIi 17 KLl KLm KLn [0,1,2,4,0,0,32,64,128,256,536,1024,2048,4096,4096,16383,65535] [0,1,2,4,0,0,32,64,128,256,536,1024,2048,4096,4096,8192,16384] [0,1,3,7,0,0,32,96,224,480,1023,2047,4095,8191,8191,16383,65535]=true:=by kernel_rfl
def Jj (self1:(Int)→M (Value ⊕ (Int))) (C29:Option Addr) (C31:Int) (C32:Int) (C33:Int):M (Value ⊕ (Int)):=do
 M.ite (C33 != 0) (do
  M.pure (.inr C31)
  ) (do
  let Xx38←nilP C29
  let Xx39←ldI .i64 ((Xx38).add 1)
  let Xx40←nilP C29
  stV ((Xx40).add 1) (.int .i64 (IntKind.wrap .i64 (Xx39+1)))
  self1 C32
  )
def Ub (C15:Option Addr) (C16:Int) (self1:(Int)→M (Value ⊕ (Int))):(Int)→M (Value ⊕ (Int)):=fun s=>match s with
 | Xx14=>do
  let Xx20←Kv C15
  let Xx21←XA Xx20
  M.ite Xx21 (do
   let Xx23←nilP C15
   let Xx24←nilP C15
   let Xx25←ldS ((Xx23).add 0)
   let Xx26←ldI .i64 ((Xx24).add 1)
   let Xx27←slS Xx25 C16 (IntKind.wrap .i64 (Xx26+1))
   let Xx28←WP Go.Proofs.Tryz.prog Nt #[.string Xx27] (fun r:Int × Int=>.tuple #[.int .i64 r.1,.int .i64 r.2])
   M.ite (Xx28.2 == 7) (do
    thr (K9 C15) fun Xx43=>do
     Jj self1 C15 Xx14 Xx28.1 Xx28.2
    ) (do
    Jj self1 C15 Xx14 Xx28.1 Xx28.2
    )
   ) (do
   M.pure (.inr Xx14)
   )
def Z7 (C10:Option Addr) (C11:Int):M (Value ⊕ (Int)):=do
 M.loop (Ub C10 C11) 0
def Z8 (C5:Option Addr) (C6:Int):M (Value ⊕ (Int)):=do
 let Xx8←nilP C5
 let Xx9←ldI .i64 ((Xx8).add 1)
 let Xx46←Kv C5
 let Xx47←XA Xx46
 let Xx48←M.ite (!Xx47) (do
  M.pure true
  ) (do
  let Xx49←M.ite (decide (Xx9 > C6)) (do
   let Xx50←Kv C5
   M.pure (Xx50 == 48)
   ) (do
   M.pure false
   )
  M.pure Xx49
  )
 M.ite Xx48 (do
  thr (K9 C5) fun Xx51=>do
   Z7 C5 C6
  ) (do
  Z7 C5 C6
  )
def Jo (x0:Option Addr):M (Value ⊕ (Int)):=do
 let Xx3←nilP x0
 let Xx4←ldI .i64 ((Xx3).add 1)
 let Xx53←Kv x0
 M.ite (Xx53 == 45) (do
  let Xx54←nilP x0
  let Xx55←ldI .i64 ((Xx54).add 1)
  let Xx56←nilP x0
  stV ((Xx56).add 1) (.int .i64 (IntKind.wrap .i64 (Xx55+1)))
  Z8 x0 Xx4
  ) (do
  Z8 x0 Xx4
  )
theorem Xb (x0:Option Addr):qH Go.Proofs.Tryz.prog 172 #[.pointer x0] (fun (r:Int)=>.int .i64 r) (Jo x0):=by
 refine XK [(0,.pointer x0)] Go.Proofs.Tryz.func172 rfl rfl (Nat.le_of_ble_eq_true rfl) (Yw ⟨rfl,trivial⟩) (fun w0 w Q R X a hret hthr hE hR H=>?_)
 unfold Jo at H
 refine Kc (fun K hK_1=>?_)
 refine KG ?_
 refine KH (v:=.int .i64 0) rfl rfl hE rfl (Kp hE rfl) (fun a hE=>?_)
 refine Ka ?_
 refine hK_1 _ _ ?_
 refine Kc (fun K hK_2=>?_)
 refine KG ?_
 refine KH (v:=.pointer x0) rfl rfl hE rfl (KJ hE rfl) (fun a hE=>?_)
 obtain ⟨Xx3,qXx3,H⟩:=H
 refine KH (v:=.pointer (some Xx3)) rfl rfl hE rfl (KV hE (J7 rfl (congrArg Value.pointer qXx3))) (fun a hE=>?_)
 refine KH (v:=.pointer (some ((Xx3).add 1))) rfl rfl hE rfl (KM hE rfl Zi) (fun a hE=>?_)
 obtain ⟨Xx4,qXx4,H⟩:=H
 refine KH (v:=.int .i64 Xx4) rfl rfl hE rfl (Zk hE rfl sc3 qXx4) (fun a hE=>?_)
 refine KH (v:=.int .i64 Xx4) rfl rfl hE rfl (Kp hE rfl) (fun a hE=>?_)
 refine Ka ?_
 refine hK_2 _ _ ?_
 refine J3 (fun a w=>Env (⟨76,[]⟩:Frm) a [(0,.pointer x0),(3,.int .i64 Xx4)]∧Rest w0 w∧(Z8 x0 Xx4).wp w.heap Q) ?_ ?_
 ·rintro a w ⟨hE,hR,H⟩
  unfold Z8 at H
  refine Kc (fun K hK_7=>?_)
  refine KG ?_
  refine KH (v:=.pointer x0) rfl rfl hE rfl (KJ hE rfl) (fun a hE=>?_)
  obtain ⟨Xx8,qXx8,H⟩:=H
  refine KH (v:=.pointer (some Xx8)) rfl rfl hE rfl (KV hE (J7 rfl (congrArg Value.pointer qXx8))) (fun a hE=>?_)
  refine KH (v:=.pointer (some ((Xx8).add 1))) rfl rfl hE rfl (KM hE rfl Zi) (fun a hE=>?_)
  obtain ⟨Xx9,qXx9,H⟩:=H
  refine KH (v:=.int .i64 Xx9) rfl rfl hE rfl (Zk hE rfl sc3 qXx9) (fun a hE=>?_)
  refine KH (v:=.int .i64 Xx4) rfl rfl hE rfl (KJ hE rfl) (fun a hE=>?_)
  refine KH (v:=.bool (decide (Xx9 > Xx4))) rfl rfl hE rfl (Zd hE rfl rfl ZV KIf) (fun a hE=>?_)
  refine KH (v:=.bool (decide (Xx9 > Xx4))) rfl rfl hE rfl (Kp hE rfl) (fun a hE=>?_)
  refine Ka ?_
  refine hK_7 _ _ ?_
  refine J3 (fun a w=>Env (⟨76,[]⟩:Frm) a [(0,.pointer x0),(3,.int .i64 Xx4)]∧Rest w0 w∧(Z7 x0 Xx4).wp w.heap Q) ?_ ?_
  ·rintro a w ⟨hE,hR,H⟩
   unfold Z7 at H
   refine Kc (fun K hK_12=>?_)
   refine KG ?_
   refine KH (v:=.int .i64 0) rfl rfl hE rfl (Kp hE rfl) (fun a hE=>?_)
   refine Ka ?_
   refine hK_12 _ _ ?_
   refine Kc (fun K hK_13=>?_)
   refine Vm ?_
   refine KEe (fun (s:Int)=>(⟨76,[]⟩:Frm)) (fun (s:Int)=>[(0,.pointer x0),(3,.int .i64 Xx4),(5,.int .i64 s)]) H (hE.cut (.cons rfl (.cons rfl (.cons rfl Subs.nil)))) hR (fun Y self1 hY_17 Xx14 a w hE hR H=>?_)
   replace hE:Env (⟨76,[]⟩:Frm) a [(0,.pointer x0),(3,.int .i64 Xx4),(5,.int .i64 Xx14)]:=hE
   replace H:(Ub x0 Xx4 self1 Xx14).wp w.heap Q:=H
   unfold Ub at H
   refine Kc (fun K hK_18=>?_)
   refine Kc (fun K hK_19=>?_)
   refine KG ?_
   refine KH (v:=.pointer x0) rfl rfl hE rfl (KJ hE rfl) (fun a hE=>?_)
   refine Uy hE hR Kw rfl (ZB x0) (M.unbind H) (fun Xx20 a w ea hR H=>?_)
   have hE:=Env.put_some hE rfl ea; clear ea
   refine Uy hE hR N7 rfl (zB Xx20) (M.unbind H) (fun Xx21 a w ea hR H=>?_)
   have hE:=Env.put_some hE rfl ea; clear ea
   refine Ka ?_
   refine hK_19 _ _ ?_
   refine Jg Xx21 hE rfl (fun hb=>?_) (fun hb=>?_)
   ·replace H:=M.ite_t hb H
    refine Un ?_
    refine hK_18 _ _ ?_
    refine Vm ?_
    refine Kc (fun K hK_22=>?_)
    obtain ⟨Xx23,qXx23,H⟩:=H
    obtain ⟨Xx24,qXx24,H⟩:=H
    obtain ⟨Xx25,qXx25,H⟩:=H
    obtain ⟨Xx26,qXx26,H⟩:=H
    obtain ⟨Xx27,qXx27,H⟩:=H
    refine zd (rops:=KLk) (by kernel_rfl) ?_
    have hT:Tab KLk _ _ _:=qJ KPN rfl (by kernel_rfl)
    have hM:=TabM.of KNb
    refine YL (m:=17) (fun w:World=>(fun h:Heap=>(KO h ((Xx23).add 0)=some (.string Xx25))∧(KO h ((Xx24).add 1)=some (.int .i64 Xx26))) w.heap) [10,11,12,13,14,15,16] (unb 17 0) mo hR (by kernel_rfl) (by kernel_rfl) (fun w' e=>by rw [e]; exact ⟨qXx25,qXx26⟩) (fun w hh hR hs=>?_)
    replace H:=M.at hh H; clear hh
    refine KF (i:=0) (v:=.pointer x0) (unb 17 1) rfl rfl hT (anyM hM (by kernel_rfl)) hE rfl (KA rfl) (fun w=>KJ hE rfl) (fun a hE=>?_)
    refine KF (i:=1) (v:=.pointer (some Xx23)) (unb 17 3) rfl rfl hT (anyM hM (by kernel_rfl)) hE rfl (KA rfl) (fun w=>KV hE (J7 rfl (congrArg Value.pointer qXx23))) (fun a hE=>?_)
    refine KF (i:=2) (v:=.pointer (some ((Xx23).add 0))) (unb 17 7) rfl rfl hT (anyM hM (by kernel_rfl)) hE rfl (KA rfl) (fun w=>KM hE rfl Xy) (fun a hE=>?_)
    refine KF (i:=4) (v:=.int .i64 Xx4) (unb 17 23) rfl rfl hT (anyM hM (by kernel_rfl)) hE rfl (KA rfl) (fun w=>KJ hE rfl) (fun a hE=>?_)
    refine KF (i:=5) (v:=.pointer x0) (unb 17 55) rfl rfl hT (anyM hM (by kernel_rfl)) hE rfl (KA rfl) (fun w=>KJ hE rfl) (fun a hE=>?_)
    refine KF (i:=6) (v:=.pointer (some Xx24)) (unb 17 119) rfl rfl hT (anyM hM (by kernel_rfl)) hE rfl (KA rfl) (fun w=>KV hE (J7 rfl (congrArg Value.pointer qXx24))) (fun a hE=>?_)
    refine KF (i:=7) (v:=.pointer (some ((Xx24).add 1))) (unb 17 247) rfl rfl hT (anyM hM (by kernel_rfl)) hE rfl (KA rfl) (fun w=>KM hE rfl Zi) (fun a hE=>?_)
    refine U8 (i:=3) (v:=.string Xx25) (unb 17 255) rfl rfl hT (Xh hM (by kernel_rfl)) hE rfl (KA rfl) hs (fun w s=>Zk hE rfl sc9 s.1) (fun a hE=>?_)
    refine U8 (i:=8) (v:=.int .i64 Xx26) (unb 17 511) rfl rfl hT (Xh hM (by kernel_rfl)) hE rfl (KA rfl) hs (fun w s=>Zk hE rfl sc3 s.2) (fun a hE=>?_)
    refine KF (i:=9) (v:=.int .i64 (IntKind.wrap .i64 (Xx26+1))) (unb 17 1023) rfl rfl hT (anyM hM (by kernel_rfl)) hE rfl (KA rfl) (fun w=>Zd hE rfl rfl ZV zO) (fun a hE=>?_)
    refine KF (i:=10) (v:=.string Xx27) (unb 17 2047) rfl rfl hT (anyM hM (by kernel_rfl)) hE rfl (KA rfl) (fun w=>KEi hE rfl rfl rfl un9 qXx27) (fun a hE=>?_)
    refine KOl (i:=11) (unb 17 4095) rfl rfl rfl hT (oneM hM (by kernel_rfl)) rfl hE hR (KA rfl) KD1 rfl (JN) (M.unbind H) (fun Xx28 a w ea hR H=>?_)
    have hE:=Env.put_some hE rfl ea; clear ea
    refine KF (i:=12) (v:=.tuple #[.int .i64 Xx28.1,.int .i64 Xx28.2]) (unb 17 8191) rfl rfl hT (anyM hM (by kernel_rfl)) hE rfl (KA rfl) (fun w=>KJ hE rfl) (fun a hE=>?_)
    refine KF (i:=13) (v:=.int .i64 Xx28.1) (unb 17 16383) rfl rfl hT (anyM hM (by kernel_rfl)) hE rfl (KA rfl) (fun w=>XL hE rfl rfl) (fun a hE=>?_)
    refine KF (i:=14) (v:=.int .i64 Xx28.2) (unb 17 32767) rfl rfl hT (anyM hM (by kernel_rfl)) hE rfl (KA rfl) (fun w=>XL hE rfl rfl) (fun a hE=>?_)
    refine KF (i:=15) (v:=.int .i64 Xx28.1) (unb 17 65535) rfl rfl hT (anyM hM (by kernel_rfl)) hE rfl (KA rfl) (fun w=>Kp hE rfl) (fun a hE=>?_)
    refine KF (i:=16) (v:=.int .i64 Xx28.2) (unb 17 131071) rfl rfl hT (anyM hM (by kernel_rfl)) hE rfl (KA rfl) (fun w=>Kp hE rfl) (fun a hE=>?_)
    refine Nq hT (KEB hM (by kernel_rfl)) ?_
    refine hK_22 _ _ ?_
    refine J3 (fun a w=>Env (⟨76,[]⟩:Frm) a [(0,.pointer x0),(3,.int .i64 Xx4),(5,.int .i64 Xx14),(6,.int .i64 Xx28.1),(7,.int .i64 Xx28.2)]∧Rest w0 w∧(Jj self1 x0 Xx14 Xx28.1 Xx28.2).wp w.heap Q) ?_ ?_
    ·rintro a w ⟨hE,hR,H⟩
     unfold Jj at H
     refine Kc (fun K hK_34=>?_)
     refine Kc (fun K hK_35=>?_)
     refine KG ?_
     refine KH (v:=.int .i64 Xx28.2) rfl rfl hE rfl (KJ hE rfl) (fun a hE=>?_)
     refine KH (v:=.bool (Xx28.2 != 0)) rfl rfl hE rfl (Zd hE rfl rfl ZV KFb) (fun a hE=>?_)
     refine Ka ?_
     refine hK_35 _ _ ?_
     refine Jg (Xx28.2 != 0) hE rfl (fun hb=>?_) (fun hb=>?_)
     ·replace H:=M.ite_t hb H
      refine Kc (fun K hK_36=>?_)
      refine KG ?_
      refine KH (v:=.int .i64 Xx14) rfl rfl hE rfl (KJ hE rfl) (fun a hE=>?_)
      refine KH (v:=.int .i64 Xx14) rfl rfl hE rfl (Kp hE rfl) (fun a hE=>?_)
      refine Ka ?_
      refine hK_36 _ _ ?_
      refine Yv ?_
      exact hret _ _ _ Xx14 _ hE hR (Jb hE rfl (RV.tmp rfl RV.nil)) rfl H
     ·replace H:=M.ite_f hb H
      refine Un ?_
      refine hK_34 _ _ ?_
      refine Kc (fun K hK_37=>?_)
      refine KG ?_
      refine KH (v:=.int .i64 Xx28.1) rfl rfl hE rfl (KJ hE rfl) (fun a hE=>?_)
      refine KH (v:=.int .i64 Xx28.1) rfl rfl hE rfl (Kp hE rfl) (fun a hE=>?_)
      refine Ka ?_
      refine hK_37 _ _ ?_
      refine KG ?_
      refine KH (v:=.pointer x0) rfl rfl hE rfl (KJ hE rfl) (fun a hE=>?_)
      obtain ⟨Xx38,qXx38,H⟩:=H
      refine KH (v:=.pointer (some Xx38)) rfl rfl hE rfl (KV hE (J7 rfl (congrArg Value.pointer qXx38))) (fun a hE=>?_)
      refine KH (v:=.pointer (some ((Xx38).add 1))) rfl rfl hE rfl (KM hE rfl Zi) (fun a hE=>?_)
      obtain ⟨Xx39,qXx39,H⟩:=H
      refine KH (v:=.int .i64 Xx39) rfl rfl hE rfl (Zk hE rfl sc3 qXx39) (fun a hE=>?_)
      refine KH (v:=.int .i64 (IntKind.wrap .i64 (Xx39+1))) rfl rfl hE rfl (Zd hE rfl rfl ZV zO) (fun a hE=>?_)
      obtain ⟨Xx40,qXx40,H⟩:=H
      refine KH (v:=.pointer (some Xx40)) rfl rfl hE rfl (KV hE (J7 rfl (congrArg Value.pointer qXx40))) (fun a hE=>?_)
      refine KH (v:=.pointer (some ((Xx40).add 1))) rfl rfl hE rfl (KM hE rfl Zi) (fun a hE=>?_)
      obtain ⟨u_41,qu_41,H⟩:=H
      refine U0 rfl rfl hE hR (Zn hE rfl rfl sz3 qu_41) (fun a w hE hR hh=>?_)
      replace H:=M.at hh H; clear hh
      refine Ka ?_
      exact hY_17 Xx28.1 _ _ (hE.cut (.cons rfl (.cons rfl (.cons rfl Subs.nil)))) hR H
    ·skip
     refine Kc (fun K hK_42=>?_)
     refine KG ?_
     refine KH (v:=.int .i64 Xx28.2) rfl rfl hE rfl (KJ hE rfl) (fun a hE=>?_)
     refine KH (v:=.bool (Xx28.2 == 7)) rfl rfl hE rfl (Zd hE rfl rfl ZV zP) (fun a hE=>?_)
     refine Ka ?_
     refine hK_42 _ _ ?_
     refine Jg (Xx28.2 == 7) hE rfl (fun hb=>?_) (fun hb=>?_)
     ·replace H:=M.ite_t hb H
      refine KG ?_
      refine KH (v:=.pointer x0) rfl rfl hE rfl (KJ hE rfl) (fun a hE=>?_)
      refine Jk hE hR ZH rfl (ZQ x0) H (fun _ _ hR HQ=>Xu.ne rfl (Xu.ne rfl (hthr _ _ hR HQ))) (fun Xx43 a w ea hR H=>?_)
      have hE:=Env.put_some hE rfl ea; clear ea
      refine Ka ?_
      exact ⟨hE.cut (.cons rfl (.cons rfl (.cons rfl (.cons rfl (.cons rfl Subs.nil))))),hR,H⟩
     ·replace H:=M.ite_f hb H
      refine Un ?_
      exact ⟨hE.cut (.cons rfl (.cons rfl (.cons rfl (.cons rfl (.cons rfl Subs.nil))))),hR,H⟩
   ·replace H:=M.ite_f hb H
    refine KEY ?_
    refine Xu.same ?_
    refine hK_13 _ _ ?_
    refine Kc (fun K hK_44=>?_)
    refine KG ?_
    refine KH (v:=.int .i64 Xx14) rfl rfl hE rfl (KJ hE rfl) (fun a hE=>?_)
    refine KH (v:=.int .i64 Xx14) rfl rfl hE rfl (Kp hE rfl) (fun a hE=>?_)
    refine Ka ?_
    refine hK_44 _ _ ?_
    refine Yv ?_
    exact hret _ _ _ Xx14 _ hE hR (Jb hE rfl (RV.tmp rfl RV.nil)) rfl H
  ·skip
   refine Kc (fun K hK_45=>?_)
   refine KG ?_
   refine KH (v:=.pointer x0) rfl rfl hE rfl (KJ hE rfl) (fun a hE=>?_)
   refine Uy hE hR Kw rfl (ZB x0) (M.unbind H) (fun Xx46 a w ea hR H=>?_)
   have hE:=Env.put_some hE rfl ea; clear ea
   refine Uy hE hR N7 rfl (zB Xx46) (M.unbind H) (fun Xx47 a w ea hR H=>?_)
   have hE:=Env.put_some hE rfl ea; clear ea
   refine KH (v:=.bool (!Xx47)) rfl rfl hE rfl (r_un hE rfl KK6) (fun a hE=>?_)
   refine KH (v:=.bool (!Xx47)) rfl rfl hE rfl (KJ hE rfl) (fun a hE=>?_)
   refine KHc (n:=(⟨76,[]⟩:Frm)) (w0:=w0) 7 (fun Xx48:Bool=>[(0,.pointer x0),(3,.int .i64 Xx4),(39,.bool Xx48)]) (M.unbind H) (fun Kr hKr H=>?_) ?_
   ·rcases WY (!Xx47) with hb | hb
    ·replace H:=M.ite_t hb H
     have hE:=hE.reb 32 (!Xx47) true hb rfl
     refine zQ rfl hE rfl rfl rfl (fun a ea=>?_)
     have hE:=Env.put_some hE rfl ea; clear ea
     refine zQ rfl hE rfl rfl rfl (fun a ea=>?_)
     have hE:=Env.put_some hE rfl ea; clear ea
     refine KJW rfl hE rfl rfl (fun b hb=>by cases hb) (fun a ea=>?_)
     have hE:=Env.put_some hE rfl ea; clear ea
     refine KJW rfl hE rfl rfl (fun b hb=>by cases hb) (fun a ea=>?_)
     have hE:=Env.put_some hE rfl ea; clear ea
     refine KJW rfl hE rfl rfl (fun b hb=>by cases hb) (fun a ea=>?_)
     have hE:=Env.put_some hE rfl ea; clear ea
     refine zQ rfl hE rfl rfl rfl (fun a ea=>?_)
     have hE:=Env.put_some hE rfl ea; clear ea
     refine KH rfl rfl hE rfl (Uo hE rfl rfl) (fun a hE=>?_)
     refine Ka ?_
     exact hKr _ _ _ (hE.cut (.cons rfl (.cons rfl (.cons rfl Subs.nil)))) hR H
    ·replace H:=M.ite_f hb H
     have hE:=hE.reb 32 (!Xx47) false hb rfl
     refine t_on rfl hE rfl rfl rfl ?_
     refine KH (v:=.bool (decide (Xx9 > Xx4))) rfl rfl hE rfl (KJ hE rfl) (fun a hE=>?_)
     refine t_on rfl hE rfl rfl rfl ?_
     refine KH (v:=.bool (decide (Xx9 > Xx4))) rfl rfl hE rfl (KJ hE rfl) (fun a hE=>?_)
     refine KHc (n:=(⟨76,[]⟩:Frm)) (w0:=w0) 4 (fun Xx49:Bool=>[(0,.pointer x0),(3,.int .i64 Xx4),(32,.bool false),(38,.bool Xx49)]) (M.unbind H) (fun Kr hKr H=>?_) ?_
     ·rcases WY (decide (Xx9 > Xx4)) with hb | hb
      ·replace H:=M.ite_t hb H
       have hE:=hE.reb 34 (decide (Xx9 > Xx4)) true hb rfl
       refine t_on rfl hE rfl rfl rfl ?_
       refine KH (v:=.pointer x0) rfl rfl hE rfl (KJ hE rfl) (fun a hE=>?_)
       refine t_on rfl hE rfl rfl rfl ?_
       refine Uy hE hR Kw rfl (ZB x0) (M.unbind H) (fun Xx50 a w ea hR H=>?_)
       have hE:=Env.put_some hE rfl ea; clear ea
       refine t_on rfl hE rfl rfl rfl ?_
       refine KH (v:=.bool (Xx50 == 48)) rfl rfl hE rfl (Zd hE rfl rfl ZV zP) (fun a hE=>?_)
       refine t_on rfl hE rfl rfl rfl ?_
       refine KH rfl rfl hE rfl (Uo hE rfl rfl) (fun a hE=>?_)
       refine Ka ?_
       exact hKr _ _ _ (hE.cut (.cons rfl (.cons rfl (.cons rfl (.cons rfl Subs.nil))))) hR H
      ·replace H:=M.ite_f hb H
       have hE:=hE.reb 34 (decide (Xx9 > Xx4)) false hb rfl
       refine zQ rfl hE rfl rfl rfl (fun a ea=>?_)
       have hE:=Env.put_some hE rfl ea; clear ea
       refine zQ rfl hE rfl rfl rfl (fun a ea=>?_)
       have hE:=Env.put_some hE rfl ea; clear ea
       refine zQ rfl hE rfl rfl rfl (fun a ea=>?_)
       have hE:=Env.put_some hE rfl ea; clear ea
       refine t_on rfl hE rfl rfl rfl ?_
       refine KH rfl rfl hE rfl (Jv hE rfl rfl) (fun a hE=>?_)
       refine Ka ?_
       exact hKr _ _ _ (hE.cut (.cons rfl (.cons rfl (.cons rfl (.cons rfl Subs.nil))))) hR H
     ·intro Xx49 a w hE hR H
      refine KH rfl rfl hE rfl (Jv hE rfl rfl) (fun a hE=>?_)
      refine Ka ?_
      exact hKr _ _ _ (hE.cut (.cons rfl (.cons rfl (.cons rfl Subs.nil)))) hR H
   ·intro Xx48 a w hE hR H
    refine Ka ?_
    refine hK_45 _ _ ?_
    refine Jg Xx48 hE rfl (fun hb=>?_) (fun hb=>?_)
    ·replace H:=M.ite_t hb H
     refine KG ?_
     refine KH (v:=.pointer x0) rfl rfl hE rfl (KJ hE rfl) (fun a hE=>?_)
     refine Jk hE hR ZH rfl (ZQ x0) H (fun _ _ hR HQ=>hthr _ _ hR HQ) (fun Xx51 a w ea hR H=>?_)
     have hE:=Env.put_some hE rfl ea; clear ea
     refine Ka ?_
     exact ⟨hE.cut (.cons rfl (.cons rfl Subs.nil)),hR,H⟩
    ·replace H:=M.ite_f hb H
     refine Un ?_
     exact ⟨hE.cut (.cons rfl (.cons rfl Subs.nil)),hR,H⟩
 ·skip
  refine Kc (fun K hK_52=>?_)
  refine KG ?_
  refine KH (v:=.pointer x0) rfl rfl hE rfl (KJ hE rfl) (fun a hE=>?_)
  refine Uy hE hR Kw rfl (ZB x0) (M.unbind H) (fun Xx53 a w ea hR H=>?_)
  have hE:=Env.put_some hE rfl ea; clear ea
  refine KH (v:=.bool (Xx53 == 45)) rfl rfl hE rfl (Zd hE rfl rfl ZV zP) (fun a hE=>?_)
  refine Ka ?_
  refine hK_52 _ _ ?_
  refine Jg (Xx53 == 45) hE rfl (fun hb=>?_) (fun hb=>?_)
  ·replace H:=M.ite_t hb H
   refine KG ?_
   refine KH (v:=.pointer x0) rfl rfl hE rfl (KJ hE rfl) (fun a hE=>?_)
   obtain ⟨Xx54,qXx54,H⟩:=H
   refine KH (v:=.pointer (some Xx54)) rfl rfl hE rfl (KV hE (J7 rfl (congrArg Value.pointer qXx54))) (fun a hE=>?_)
   refine KH (v:=.pointer (some ((Xx54).add 1))) rfl rfl hE rfl (KM hE rfl Zi) (fun a hE=>?_)
   obtain ⟨Xx55,qXx55,H⟩:=H
   refine KH (v:=.int .i64 Xx55) rfl rfl hE rfl (Zk hE rfl sc3 qXx55) (fun a hE=>?_)
   refine KH (v:=.int .i64 (IntKind.wrap .i64 (Xx55+1))) rfl rfl hE rfl (Zd hE rfl rfl ZV zO) (fun a hE=>?_)
   obtain ⟨Xx56,qXx56,H⟩:=H
   refine KH (v:=.pointer (some Xx56)) rfl rfl hE rfl (KV hE (J7 rfl (congrArg Value.pointer qXx56))) (fun a hE=>?_)
   refine KH (v:=.pointer (some ((Xx56).add 1))) rfl rfl hE rfl (KM hE rfl Zi) (fun a hE=>?_)
   obtain ⟨u_57,qu_57,H⟩:=H
   refine U0 rfl rfl hE hR (Zn hE rfl rfl sz3 qu_57) (fun a w hE hR hh=>?_)
   replace H:=M.at hh H; clear hh
   refine Ka ?_
   exact ⟨hE.cut (.cons rfl (.cons rfl Subs.nil)),hR,H⟩
  ·replace H:=M.ite_f hb H
   refine Un ?_
   exact ⟨hE.cut (.cons rfl (.cons rfl Subs.nil)),hR,H⟩
def UJ (self1:(Int)→M (Value ⊕ (Unit))) (C11:Option Addr) (C14:Int):M (Value ⊕ (Unit)):=do
 let Xx15←nilP C11
 let Xx16←ldI .i64 ((Xx15).add 1)
 let Xx17←nilP C11
 stV ((Xx17).add 1) (.int .i64 (IntKind.wrap .i64 (Xx16+1)))
 self1 (IntKind.wrap .i64 (C14+1))
def Zz (self1:(Int)→M (Value ⊕ (Unit))) (C20:Option Addr) (C23:Int) (Xx19:Bool):M (Value ⊕ (Unit)):=do
 M.ite Xx19 (do
  thr (K9 C20) fun Xx24=>do
   UJ self1 C20 C23
  ) (do
  UJ self1 C20 C23
  )
noncomputable def KG5:Array Oper:=KNB Go.Proofs.Tryz.f174 3
def KLo:List (List Nat):=[[],[0],[1],[2],[],[4],[5],[6],[7],[3,8],[9],[10],[11,10],[12,10],[13,10],[10],[15,10],[16,10],[17,10],[14,18,10],[10],[10],[20,21,10],[19,22,10],[10,23]]
def KLp:List (List Nat):=[[],[0],[1],[2],[],[4],[5],[6],[7],[3,8],[9],[10],[10,11],[10,12],[10,13],[10],[10,15],[10,16],[10,17],[10,14,18],[10],[10],[10,20,21],[10,19,22],[10,23]]
def KLq:List (List Nat):=[[],[0],[0,1],[0,1,2],[],[4],[4,5],[4,5,6],[4,5,6,7],[0,1,2,3,4,5,6,7,8],[0,1,2,3,4,5,6,7,8,9],[0,1,2,3,4,5,6,7,8,9,10],[0,1,2,3,4,5,6,7,8,9,10,11],[0,1,2,3,4,5,6,7,8,9,10,11,12],[0,1,2,3,4,5,6,7,8,9,10,11,12,13],[0,1,2,3,4,5,6,7,8,9,10],[0,1,2,3,4,5,6,7,8,9,10,15],[0,1,2,3,4,5,6,7,8,9,10,15,16],[0,1,2,3,4,5,6,7,8,9,10,15,16,17],[0,1,2,3,4,5,6,7,8,9,10,11,12,13,14,15,16,17,18],[0,1,2,3,4,5,6,7,8,9,10],[0,1,2,3,4,5,6,7,8,9,10],[0,1,2,3,4,5,6,7,8,9,10,20,21],[0,1,2,3,4,5,6,7,8,9,10,11,12,13,14,15,16,17,18,19,20,21,22],[0,1,2,3,4,5,6,7,8,9,10,11,12,13,14,15,16,17,18,19,20,21,22,23]]
theorem KLr:KHe Go.Proofs.Tryz.f174 3 KLo KLp KLq=true:=by kernel_rfl
theorem KJp:KIi 25 KLo KLp KLq [0,1,2,4,0,16,32,64,128,264,512,1024,3072,5120,9216,1024,33792,66560,132096,279552,1024,1024,3146752,4719616,8389632] [0,1,2,4,0,16,32,64,128,264,512,1024,3072,5120,9216,1024,33792,66560,132096,279552,1024,1024,3146752,4719616,8389632] [0,1,3,7,0,16,48,112,240,511,1023,2047,4095,8191,16383,2047,34815,100351,231423,524287,2047,2047,3147775,8388607,16777215]=true:=by kernel_rfl
def U4 (C3:Option Addr) (C4:ByteArray) (C5:Int) (self1:(Int)→M (Value ⊕ (Unit))):(Int)→M (Value ⊕ (Unit)):=fun s=>match s with
 | Xx2=>do
  M.ite (decide (Xx2 < C5)) (do
   let Xx25←nilP C3
   let Xx26←nilP C3
   let Xx27←ldI .i64 ((Xx25).add 1)
   let Xx28←ldS ((Xx26).add 0)
   M.ite (decide (Xx27 ≥ (Xx28.size:Int))) (do
    Zz self1 C3 Xx2 true
    ) (do
    let Xx30←nilP C3
    let Xx31←nilP C3
    let Xx32←ixS C4 Xx2
    let Xx33←ldS ((Xx30).add 0)
    let Xx34←ldI .i64 ((Xx31).add 1)
    let Xx35←ixS Xx33 Xx34
    Zz self1 C3 Xx2 (Xx35 != Xx32)
    )
   ) (do
   M.pure (.inr ())
   )
def ZN (x0:Option Addr) (x1:ByteArray):M (Value ⊕ (Unit)):=do
 M.loop (U4 x0 x1 (x1.size:Int)) 0
theorem Zs (x0:Option Addr) (x1:ByteArray):qH Go.Proofs.Tryz.prog 174 #[.pointer x0,.string x1] (fun (r:Unit)=>.tuple #[]) (ZN x0 x1):=by
 refine XK [(0,.pointer x0),(1,.string x1)] Go.Proofs.Tryz.func174 rfl rfl (Nat.le_of_ble_eq_true rfl) (Yw ⟨rfl,rfl,trivial⟩) (fun w0 w Q R X a hret hthr hE hR H=>?_)
 unfold ZN at H
 refine Kc (fun K hK_1=>?_)
 refine KG ?_
 refine KH (v:=.string x1) rfl rfl hE rfl (KJ hE rfl) (fun a hE=>?_)
 refine KH (v:=.int .i64 (x1.size:Int)) rfl rfl hE rfl (qI hE rfl un9) (fun a hE=>?_)
 refine KH (v:=.int .i64 0) rfl rfl hE rfl (KJ hE rfl) (fun a hE=>?_)
 refine Ka ?_
 refine hK_1 _ _ ?_
 refine Vm ?_
 refine KEe (fun (s:Int)=>(⟨45,[]⟩:Frm)) (fun (s:Int)=>[(0,.pointer x0),(1,.string x1),(6,.int .i64 (x1.size:Int)),(7,.int .i64 s)]) H (hE.cut (.cons rfl (.cons rfl (.cons rfl (.cons rfl Subs.nil))))) hR (fun Y self1 hY_6 Xx2 a w hE hR H=>?_)
 replace hE:Env (⟨45,[]⟩:Frm) a [(0,.pointer x0),(1,.string x1),(6,.int .i64 (x1.size:Int)),(7,.int .i64 Xx2)]:=hE
 replace H:(U4 x0 x1 (x1.size:Int) self1 Xx2).wp w.heap Q:=H
 unfold U4 at H
 refine Kc (fun K hK_7=>?_)
 refine KG ?_
 refine KH (v:=.bool (decide (Xx2 < (x1.size:Int)))) rfl rfl hE rfl (Zd hE rfl rfl ZV KB7) (fun a hE=>?_)
 refine Ka ?_
 refine hK_7 _ _ ?_
 refine Kc (fun K hK_8=>?_)
 refine Jg (decide (Xx2 < (x1.size:Int))) hE rfl (fun hb=>?_) (fun hb=>?_)
 ·replace H:=M.ite_t hb H
  refine Un ?_
  refine hK_8 _ _ ?_
  refine Kc (fun K hK_9=>?_)
  refine Vm ?_
  refine Kc (fun K hK_10=>?_)
  refine KG ?_
  refine KH (v:=.int .i64 Xx2) rfl rfl hE rfl (KJ hE rfl) (fun a hE=>?_)
  refine KH (v:=.int .i64 Xx2) rfl rfl hE rfl (Kp hE rfl) (fun a hE=>?_)
  refine Ka ?_
  refine hK_10 _ _ ?_
  refine J3 (fun a w=>Env (⟨45,[]⟩:Frm) a [(0,.pointer x0),(1,.string x1),(6,.int .i64 (x1.size:Int)),(7,.int .i64 Xx2)]∧Rest w0 w∧(UJ self1 x0 Xx2).wp w.heap Q) ?_ ?_
  ·rintro a w ⟨hE,hR,H⟩
   unfold UJ at H
   refine KG ?_
   refine KH (v:=.pointer x0) rfl rfl hE rfl (KJ hE rfl) (fun a hE=>?_)
   obtain ⟨Xx15,qXx15,H⟩:=H
   refine KH (v:=.pointer (some Xx15)) rfl rfl hE rfl (KV hE (J7 rfl (congrArg Value.pointer qXx15))) (fun a hE=>?_)
   refine KH (v:=.pointer (some ((Xx15).add 1))) rfl rfl hE rfl (KM hE rfl Zi) (fun a hE=>?_)
   obtain ⟨Xx16,qXx16,H⟩:=H
   refine KH (v:=.int .i64 Xx16) rfl rfl hE rfl (Zk hE rfl sc3 qXx16) (fun a hE=>?_)
   refine KH (v:=.int .i64 (IntKind.wrap .i64 (Xx16+1))) rfl rfl hE rfl (Zd hE rfl rfl ZV zO) (fun a hE=>?_)
   obtain ⟨Xx17,qXx17,H⟩:=H
   refine KH (v:=.pointer (some Xx17)) rfl rfl hE rfl (KV hE (J7 rfl (congrArg Value.pointer qXx17))) (fun a hE=>?_)
   refine KH (v:=.pointer (some ((Xx17).add 1))) rfl rfl hE rfl (KM hE rfl Zi) (fun a hE=>?_)
   obtain ⟨u_18,qu_18,H⟩:=H
   refine U0 rfl rfl hE hR (Zn hE rfl rfl sz3 qu_18) (fun a w hE hR hh=>?_)
   replace H:=M.at hh H; clear hh
   refine Ka ?_
   refine hK_9 _ _ ?_
   refine KG ?_
   refine KH (v:=.int .i64 (IntKind.wrap .i64 (Xx2+1))) rfl rfl hE rfl (Zd hE rfl rfl ZV zO) (fun a hE=>?_)
   refine KH (v:=.int .i64 (IntKind.wrap .i64 (Xx2+1))) rfl rfl hE rfl (KJ hE rfl) (fun a hE=>?_)
   refine Ka ?_
   exact hY_6 (IntKind.wrap .i64 (Xx2+1)) _ _ (hE.cut (.cons rfl (.cons rfl (.cons rfl (.cons rfl Subs.nil))))) hR H
  ·skip
   refine J3 (fun a w=>∃ (Xx19:Bool),Env (⟨45,[]⟩:Frm) a [(0,.pointer x0),(1,.string x1),(6,.int .i64 (x1.size:Int)),(7,.int .i64 Xx2),(34,.bool Xx19)]∧Rest w0 w∧(Zz self1 x0 Xx2 Xx19).wp w.heap Q) ?_ ?_
   ·rintro a w ⟨Xx19,hE,hR,H⟩
    unfold Zz at H
    refine Jg Xx19 hE rfl (fun hb=>?_) (fun hb=>?_)
    ·replace H:=M.ite_t hb H
     refine KG ?_
     refine KH (v:=.pointer x0) rfl rfl hE rfl (KJ hE rfl) (fun a hE=>?_)
     refine Jk hE hR ZH rfl (ZQ x0) H (fun _ _ hR HQ=>Xu.ne rfl (Xu.ne rfl (hthr _ _ hR HQ))) (fun Xx24 a w ea hR H=>?_)
     have hE:=Env.put_some hE rfl ea; clear ea
     refine Ka ?_
     exact ⟨hE.cut (.cons rfl (.cons rfl (.cons rfl (.cons rfl Subs.nil)))),hR,H⟩
    ·replace H:=M.ite_f hb H
     refine Un ?_
     exact ⟨hE.cut (.cons rfl (.cons rfl (.cons rfl (.cons rfl Subs.nil)))),hR,H⟩
   ·skip
    obtain ⟨Xx25,qXx25,H⟩:=H
    obtain ⟨Xx26,qXx26,H⟩:=H
    obtain ⟨Xx27,qXx27,H⟩:=H
    obtain ⟨Xx28,qXx28,H⟩:=H
    rcases WY (decide (Xx27 ≥ (Xx28.size:Int))) with hb_29 | hb_29
    ·replace H:=M.ite_t hb_29 H
     refine zd (rops:=KG5) (by kernel_rfl) ?_
     have hT:Tab KG5 _ _ _:=qJ KLr rfl (by kernel_rfl)
     have hM:=TabM.of KJp
     refine YL (m:=25) (fun w:World=>(fun h:Heap=>(KO h ((Xx25).add 1)=some (.int .i64 Xx27))∧(KO h ((Xx26).add 0)=some (.string Xx28))) w.heap) [9,10,11,12,13,14,15,16,17,18,19,20,21,22,23,24] (unb 25 0) mo hR (by kernel_rfl) (by kernel_rfl) (fun w' e=>by rw [e]; exact ⟨qXx27,qXx28⟩) (fun w hh hR hs=>?_)
     replace H:=M.at hh H; clear hh
     refine KF (i:=0) (v:=.pointer x0) (unb 25 1) rfl rfl hT (anyM hM (by kernel_rfl)) hE rfl (KA rfl) (fun w=>KJ hE rfl) (fun a hE=>?_)
     refine KF (i:=1) (v:=.pointer (some Xx25)) (unb 25 3) rfl rfl hT (anyM hM (by kernel_rfl)) hE rfl (KA rfl) (fun w=>KV hE (J7 rfl (congrArg Value.pointer qXx25))) (fun a hE=>?_)
     refine KF (i:=2) (v:=.pointer (some ((Xx25).add 1))) (unb 25 7) rfl rfl hT (anyM hM (by kernel_rfl)) hE rfl (KA rfl) (fun w=>KM hE rfl Zi) (fun a hE=>?_)
     refine KF (i:=4) (v:=.pointer x0) (unb 25 23) rfl rfl hT (anyM hM (by kernel_rfl)) hE rfl (KA rfl) (fun w=>KJ hE rfl) (fun a hE=>?_)
     refine KF (i:=5) (v:=.pointer (some Xx26)) (unb 25 55) rfl rfl hT (anyM hM (by kernel_rfl)) hE rfl (KA rfl) (fun w=>KV hE (J7 rfl (congrArg Value.pointer qXx26))) (fun a hE=>?_)
     refine KF (i:=6) (v:=.pointer (some ((Xx26).add 0))) (unb 25 119) rfl rfl hT (anyM hM (by kernel_rfl)) hE rfl (KA rfl) (fun w=>KM hE rfl Xy) (fun a hE=>?_)
     refine U8 (i:=3) (v:=.int .i64 Xx27) (unb 25 127) rfl rfl hT (Xh hM (by kernel_rfl)) hE rfl (KA rfl) hs (fun w s=>Zk hE rfl sc3 s.1) (fun a hE=>?_)
     refine U8 (i:=7) (v:=.string Xx28) (unb 25 255) rfl rfl hT (Xh hM (by kernel_rfl)) hE rfl (KA rfl) hs (fun w s=>Zk hE rfl sc9 s.2) (fun a hE=>?_)
     refine KF (i:=8) (v:=.int .i64 (Xx28.size:Int)) (unb 25 511) rfl rfl hT (anyM hM (by kernel_rfl)) hE rfl (KA rfl) (fun w=>qI hE rfl un9) (fun a hE=>?_)
     refine KF (i:=9) (v:=.bool (decide (Xx27 ≥ (Xx28.size:Int)))) (unb 25 1023) rfl rfl hT (anyM hM (by kernel_rfl)) hE rfl (KA rfl) (fun w=>Zd hE rfl rfl ZV KEc) (fun a hE=>?_)
     refine KF (i:=10) (v:=.bool (decide (Xx27 ≥ (Xx28.size:Int)))) (unb 25 2047) rfl rfl hT (anyM hM (by kernel_rfl)) hE rfl (KA rfl) (fun w=>KJ hE rfl) (fun a hE=>?_)
     have hE:=hE.reb 20 (decide (Xx27 ≥ (Xx28.size:Int))) true hb_29 rfl
     replace hE:=hE.cut (l':=[(0,.pointer x0),(1,.string x1),(6,.int .i64 (x1.size:Int)),(7,.int .i64 Xx2),(4,.int .i64 Xx2),(20,.bool true)]) (.cons rfl (.cons rfl (.cons rfl (.cons rfl (.cons rfl (.cons rfl Subs.nil))))))
     refine KCD [(11,some 21),(12,some 22),(13,some 23),(14,some 24),(15,some 25),(16,some 26),(17,some 27),(18,some 28),(19,some 29),(20,some 30),(21,some 31),(22,some 32),(23,some 33)] 1 hT hM hE (by kernel_rfl) (m':=16777215) (by kernel_rfl) (fun a hE=>?_)
     refine KF (i:=24) (v:=.bool true) (unb 25 33554431) rfl rfl hT (anyM hM (by kernel_rfl)) hE rfl (KA rfl) (fun w=>Uo hE rfl rfl) (fun a hE=>?_)
     refine Nq hT (KEB hM (by kernel_rfl)) ?_
     exact ⟨true,hE.cut (.cons rfl (.cons rfl (.cons rfl (.cons rfl (.cons rfl Subs.nil))))),hR,H⟩
    ·replace H:=M.ite_f hb_29 H
     obtain ⟨Xx30,qXx30,H⟩:=H
     obtain ⟨Xx31,qXx31,H⟩:=H
     obtain ⟨Xx32,qXx32,H⟩:=H
     obtain ⟨Xx33,qXx33,H⟩:=H
     obtain ⟨Xx34,qXx34,H⟩:=H
     obtain ⟨Xx35,qXx35,H⟩:=H
     refine zd (rops:=KG5) (by kernel_rfl) ?_
     have hT:Tab KG5 _ _ _:=qJ KLr rfl (by kernel_rfl)
     have hM:=TabM.of KJp
     refine YL (m:=25) (fun w:World=>(fun h:Heap=>(KO h ((Xx25).add 1)=some (.int .i64 Xx27))∧(KO h ((Xx26).add 0)=some (.string Xx28))∧(KO h ((Xx30).add 0)=some (.string Xx33))∧(KO h ((Xx31).add 1)=some (.int .i64 Xx34))) w.heap) [19,23,24] (unb 25 0) mo hR (by kernel_rfl) (by kernel_rfl) (fun w' e=>by rw [e]; exact ⟨qXx27,qXx28,qXx33,qXx34⟩) (fun w hh hR hs=>?_)
     replace H:=M.at hh H; clear hh
     refine KF (i:=0) (v:=.pointer x0) (unb 25 1) rfl rfl hT (anyM hM (by kernel_rfl)) hE rfl (KA rfl) (fun w=>KJ hE rfl) (fun a hE=>?_)
     refine KF (i:=1) (v:=.pointer (some Xx25)) (unb 25 3) rfl rfl hT (anyM hM (by kernel_rfl)) hE rfl (KA rfl) (fun w=>KV hE (J7 rfl (congrArg Value.pointer qXx25))) (fun a hE=>?_)
     refine KF (i:=2) (v:=.pointer (some ((Xx25).add 1))) (unb 25 7) rfl rfl hT (anyM hM (by kernel_rfl)) hE rfl (KA rfl) (fun w=>KM hE rfl Zi) (fun a hE=>?_)
     refine KF (i:=4) (v:=.pointer x0) (unb 25 23) rfl rfl hT (anyM hM (by kernel_rfl)) hE rfl (KA rfl) (fun w=>KJ hE rfl) (fun a hE=>?_)
     refine KF (i:=5) (v:=.pointer (some Xx26)) (unb 25 55) rfl rfl hT (anyM hM (by kernel_rfl)) hE rfl (KA rfl) (fun w=>KV hE (J7 rfl (congrArg Value.pointer qXx26))) (fun a hE=>?_)
     refine KF (i:=6) (v:=.pointer (some ((Xx26).add 0))) (unb 25 119) rfl rfl hT (anyM hM (by kernel_rfl)) hE rfl (KA rfl) (fun w=>KM hE rfl Xy) (fun a hE=>?_)
     refine U8 (i:=3) (v:=.int .i64 Xx27) (unb 25 127) rfl rfl hT (Xh hM (by kernel_rfl)) hE rfl (KA rfl) hs (fun w s=>Zk hE rfl sc3 s.1) (fun a hE=>?_)
     refine U8 (i:=7) (v:=.string Xx28) (unb 25 255) rfl rfl hT (Xh hM (by kernel_rfl)) hE rfl (KA rfl) hs (fun w s=>Zk hE rfl sc9 s.2.1) (fun a hE=>?_)
     refine KF (i:=8) (v:=.int .i64 (Xx28.size:Int)) (unb 25 511) rfl rfl hT (anyM hM (by kernel_rfl)) hE rfl (KA rfl) (fun w=>qI hE rfl un9) (fun a hE=>?_)
     refine KF (i:=9) (v:=.bool (decide (Xx27 ≥ (Xx28.size:Int)))) (unb 25 1023) rfl rfl hT (anyM hM (by kernel_rfl)) hE rfl (KA rfl) (fun w=>Zd hE rfl rfl ZV KEc) (fun a hE=>?_)
     refine KF (i:=10) (v:=.bool (decide (Xx27 ≥ (Xx28.size:Int)))) (unb 25 2047) rfl rfl hT (anyM hM (by kernel_rfl)) hE rfl (KA rfl) (fun w=>KJ hE rfl) (fun a hE=>?_)
     have hE:=hE.reb 20 (decide (Xx27 ≥ (Xx28.size:Int))) false hb_29 rfl
     replace hE:=hE.cut (l':=[(0,.pointer x0),(1,.string x1),(6,.int .i64 (x1.size:Int)),(7,.int .i64 Xx2),(4,.int .i64 Xx2),(20,.bool false)]) (.cons rfl (.cons rfl (.cons rfl (.cons rfl (.cons rfl (.cons rfl Subs.nil))))))
     refine KF (i:=11) (v:=.pointer x0) (unb 25 4095) rfl rfl hT (anyM hM (by kernel_rfl)) hE rfl (Ke rfl hE rfl rfl rfl) (fun w=>KJ hE rfl) (fun a hE=>?_)
     refine KF (i:=12) (v:=.pointer (some Xx30)) (unb 25 8191) rfl rfl hT (anyM hM (by kernel_rfl)) hE rfl (Ke rfl hE rfl rfl rfl) (fun w=>KV hE (J7 rfl (congrArg Value.pointer qXx30))) (fun a hE=>?_)
     refine KF (i:=13) (v:=.pointer (some ((Xx30).add 0))) (unb 25 16383) rfl rfl hT (anyM hM (by kernel_rfl)) hE rfl (Ke rfl hE rfl rfl rfl) (fun w=>KM hE rfl Xy) (fun a hE=>?_)
     refine KF (i:=15) (v:=.pointer x0) (unb 25 49151) rfl rfl hT (anyM hM (by kernel_rfl)) hE rfl (Ke rfl hE rfl rfl rfl) (fun w=>KJ hE rfl) (fun a hE=>?_)
     refine KF (i:=16) (v:=.pointer (some Xx31)) (unb 25 114687) rfl rfl hT (anyM hM (by kernel_rfl)) hE rfl (Ke rfl hE rfl rfl rfl) (fun w=>KV hE (J7 rfl (congrArg Value.pointer qXx31))) (fun a hE=>?_)
     refine KF (i:=17) (v:=.pointer (some ((Xx31).add 1))) (unb 25 245759) rfl rfl hT (anyM hM (by kernel_rfl)) hE rfl (Ke rfl hE rfl rfl rfl) (fun w=>KM hE rfl Zi) (fun a hE=>?_)
     refine KF (i:=20) (v:=.string x1) (unb 25 1294335) rfl rfl hT (anyM hM (by kernel_rfl)) hE rfl (Ke rfl hE rfl rfl rfl) (fun w=>KJ hE rfl) (fun a hE=>?_)
     refine KF (i:=21) (v:=.int .i64 Xx2) (unb 25 3391487) rfl rfl hT (anyM hM (by kernel_rfl)) hE rfl (Ke rfl hE rfl rfl rfl) (fun w=>KJ hE rfl) (fun a hE=>?_)
     refine KF (i:=22) (v:=.int .u8 Xx32) (unb 25 7585791) rfl rfl hT (anyM hM (by kernel_rfl)) hE rfl (Ke rfl hE rfl rfl rfl) (fun w=>KGV hE rfl rfl un9 qXx32) (fun a hE=>?_)
     refine U8 (i:=14) (v:=.string Xx33) (unb 25 7602175) rfl rfl hT (Xh hM (by kernel_rfl)) hE rfl (Ke rfl hE rfl rfl rfl) hs (fun w s=>Zk hE rfl sc9 s.2.2.1) (fun a hE=>?_)
     refine U8 (i:=18) (v:=.int .i64 Xx34) (unb 25 7864319) rfl rfl hT (Xh hM (by kernel_rfl)) hE rfl (Ke rfl hE rfl rfl rfl) hs (fun w s=>Zk hE rfl sc3 s.2.2.2) (fun a hE=>?_)
     refine KF (i:=19) (v:=.int .u8 Xx35) (unb 25 8388607) rfl rfl hT (anyM hM (by kernel_rfl)) hE rfl (Ke rfl hE rfl rfl rfl) (fun w=>KGV hE rfl rfl un9 qXx35) (fun a hE=>?_)
     refine KF (i:=23) (v:=.bool (Xx35 != Xx32)) (unb 25 16777215) rfl rfl hT (anyM hM (by kernel_rfl)) hE rfl (Ke rfl hE rfl rfl rfl) (fun w=>Zd hE rfl rfl ZV KFb) (fun a hE=>?_)
     refine KF (i:=24) (v:=.bool (Xx35 != Xx32)) (unb 25 33554431) rfl rfl hT (anyM hM (by kernel_rfl)) hE rfl (KA rfl) (fun w=>Jv hE rfl rfl) (fun a hE=>?_)
     refine Nq hT (KEB hM (by kernel_rfl)) ?_
     exact ⟨Xx35 != Xx32,hE.cut (.cons rfl (.cons rfl (.cons rfl (.cons rfl (.cons rfl Subs.nil))))),hR,H⟩
 ·replace H:=M.ite_f hb H
  refine KEY ?_
  refine Xu.same ?_
  exact hret _ _ _ () _ hE hR (Jb hE rfl RV.nil) rfl H
def VK (x0:ByteArray) (x1:Int):M (Int):=do
 let Xx3←Z2 x0 x1
 M.pure Xx3
theorem NK (x0:ByteArray) (x1:Int):Ki Go.Proofs.Tryz.prog 242 #[.string x0,.int .u8 x1] (fun (r:Int)=>.int .i64 r) (VK x0 x1) :=
 KL [mkC YO YS [.S,.I .u8] [.I .i64] (fun (t:ByteArray × Int)=>Z2 t.1 t.2) (fun (t:ByteArray × Int)=>Yp t.1 t.2)] [] [.I .i64] [(0,.S x0),(1,.I .u8 x1)] .o Go.Proofs.Tryz.func242 rfl rfl ⟨rfl,rfl,trivial⟩ rfl (by kernel_rfl) (by kernel_rfl)
end Gx
