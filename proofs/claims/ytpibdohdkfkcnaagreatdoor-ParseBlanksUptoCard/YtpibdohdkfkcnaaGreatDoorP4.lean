/- Printed by program: Go functions as Lean programs, each tied to its code. No condition. -/
import Derived.Test.YtpibdohdkfkcnaaGreatDoorP0
import Derived.Test.YtpibdohdkfkcnaaGreatDoorP1
import Derived.Test.YtpibdohdkfkcnaaGreatDoorP2
import Derived.Test.YtpibdohdkfkcnaaGreatDoorP3
set_option linter.unusedVariables false
set_option linter.unusedSimpArgs false
set_option maxRecDepth 100000
open Go.Proofs
namespace Gx
open Go
def Xz (self1:(Int)->M (Bool)) (Cc32:Int) (Cc35:Int) (Cc36:Sl) (Cc37:Int) (self2:(Int)->M (Bool)):(Int)->M (Bool):=λs=>match s with
 |Xx31=>do
  M.ite (decide (Xx31<Cc37)) (do
   let Xx43<-ixL Cc36 Xx31 1
   let Xx44<-ldL Xx43
   let Xx46<-W5 Tryz.prog YC #[(Xx44:Sl).v,.int .i64 (IntKind.wrap .i64 (Cc32+1))] (λr:Bool=>.bool r)
   M.ite (!Xx46) (do
    M.pure false
    ) (do
    self2 (IntKind.wrap .i64 (Xx31+1))
    )
   ) (do
   self1 (IntKind.wrap .i64 (Cc35+1))
   )
def X7 (Cc9:Int) (Cc10:Sl) (Cc11:Int) (self1:(Int)->M (Bool)):(Int)->M (Bool):=λs=>match s with
 |Xx8=>do
  M.ite (decide (Xx8<Cc11)) (do
   let Xx17<-ixL Cc10 Xx8 6
   let Xx18<-ldG 6 Xx17
   let Xx19<-mkB KU (#[.int .i64 0,.slice none 0 0,.slice none 0 0,.slice none 0 0,.slice none 0 0,.slice none 0 0]:Ea)
   M.need (Xx18.size=6)
   stG Xx19 Xx18
   let Xx23<-ldL ((Xx19).add 1)
   let Xx24<-ldL ((Xx19).add 2)
   let Xx25<-ldL ((Xx19).add 3)
   let Xx26<-ldL ((Xx19).add 4)
   let Xx27<-ldL ((Xx19).add 5)
   M.ite (decide ((IntKind.wrap .i64 ((IntKind.wrap .i64 ((IntKind.wrap .i64 ((IntKind.wrap .i64 ((Xx23.len:Int)+(Xx24.len:Int)))+(Xx25.len:Int)))+(Xx26.len:Int)))+(Xx27.len:Int)))>100)) (do
    M.pure false
    ) (do
    let Xx30<-ldL ((Xx19).add 5)
    M.loop (Xz self1 Cc9 Xx8 Xx30 (Xx30.len:Int)) 0
    )
   ) (do
   M.pure true
   )
def YS (x0:Sl) (x1:Int):M (Bool):=do
 let Xx4<-M.ite (decide ((x0.len:Int)>300)) (do
  M.pure true
  ) (do
  M.pure (decide (x1>12))
  )
 M.ite Xx4 (do
  M.pure false
  ) (do
  M.loop (X7 x1 x0 (x0.len:Int)) 0
  )
theorem zq (x0:Sl) (x1:Int):KY Tryz.prog 28 #[(x0:Sl).v,.int .i64 x1] (λ(r:Bool)=>.bool r) (YS x0 x1):=
 KG [mkC YC zG [.L,.I .i64] [.B] (λ(t:Sl×Int)=>W5 Tryz.prog YC #[(t.1:Sl).v,.int .i64 t.2] (λr:Bool=>.bool r)) (λ(t:Sl×Int)=>Z3)] [] [.B] [(0,.L x0),(1,.I .i64 x1)] (.q .o (.q .o (.q (.q .o (.b (.l [(1,.I .i64),(16,.L),(17,.I .i64)] [(18,.I .i64)] (λ(t:Int×Sl×Int)=>X7 t.1 t.2.1 t.2.2) (λself1=>.q .o (.q .o (.q (.b (.q .o (.q .o (.q .o (.b (.l [(1,.I .i64),(16,.L),(17,.I .i64),(18,.I .i64),(43,.L),(44,.I .i64)] [(45,.I .i64)] (λ(t:Int×Sl×Int×Int×Sl×Int)=>Xz self1 t.1 t.2.2.2.1 t.2.2.2.2.1 t.2.2.2.2.2) (λ_=>.o))))))) .o)))))) .o))) Tryz.func28 rfl rfl ⟨rfl,rfl,trivial⟩ rfl (by kernel_rfl) (by kernel_rfl)
noncomputable def KGQ:CalleeS Tryz.prog:=mkC YC zG [.L,.I .i64] [.B] (λ(t:Sl×Int)=>YS t.1 t.2) (λ(t:Sl×Int)=>zq t.1 t.2)
def JR (self1:(Sl×Int×Int)->M (Sl)) (Cc16:Int) (Xx13:Sl) (Xx14:Int):M (Sl):=do
 self1 (Xx13,Xx14,IntKind.wrap .i64 (Cc16+1))
def Yr (Cc9:ByteArray) (self1:(Sl×Int×Int)->M (Sl)):(Sl×Int×Int)->M (Sl):=λs=>match s with
 |(Xx6,Xx7,Xx8)=>do
  M.ite (decide (Xx8<=(Cc9.size:Int))) (do
   let Xx18<-M.ite (Xx8==(Cc9.size:Int)) (do
    M.pure true
    ) (do
    let Xx19<-ixS Cc9 Xx8
    M.pure (Xx19==32)
    )
   M.ite Xx18 (do
    let Xx21<-slS Cc9 Xx7 Xx8
    let Xx22<-bdL ZW 1 #[.string Xx21]
    let Xx23<-apL ZW 1 16 (#[.string ByteArray.empty]:Ea) Xx6 Xx22
    JR self1 Xx8 Xx23 (IntKind.wrap .i64 (Xx8+1))
    ) (do
    JR self1 Xx8 Xx6 Xx7
    )
   ) (do
   M.pure Xx6
   )
def Ue (x0:ByteArray):M (Sl):=do
 M.loop (Yr x0) (Sl.nil,0,0)
theorem KD2 (x0:ByteArray):KY Tryz.prog 79 #[.string x0] (λ(r:Sl)=>(r:Sl).v) (Ue x0):=
 KG [] [] [.L] [(0,.S x0)] (.q .o (.q .o (.q .o (.q (.q .o (.b (.l [(0,.S)] [(3,.L),(4,.I .i64),(5,.I .i64)] (λ(t:ByteArray)=>Yr t) (λself1=>.q .o (.q .o (.j [(0,.S),(5,.I .i64),(3,.L),(4,.I .i64)] (λ(t:ByteArray×Int×Sl×Int)=>JR self1 t.2.1 t.2.2.1 t.2.2.2) .o)))))) .o)))) Tryz.func79 rfl rfl ⟨rfl,trivial⟩ rfl (by kernel_rfl) (by kernel_rfl)
noncomputable def qT:CalleeS Tryz.prog:=mkC KCD KCb [.S] [.L] (λ(t:ByteArray)=>Ue t) (λ(t:ByteArray)=>KD2 t)
def VA (x0:Int):M (ByteArray):=do
 let Xx3<-Ue (⟨#[86,32,69,32,105,110,106,101,99,116,32,97,100,100,86,32,111,117,116,32,105,110,32,98,111,116,104,32,111,117,116,69,32,105,110,69,32,98,111,116,104,69,32,111,117,116,86,32,105,110,86,32,98,111,116,104,86,32,104,97,115,32,104,97,115,75,101,121,32,104,97,115,78,111,116,32,104,97,115,76,97,98,101,108,32,104,97,115,73,100,32,105,115,32,119,104,101,114,101,32,110,111,116,32,97,110,100,32,111,114,32,100,101,100,117,112,32,115,105,109,112,108,101,80,97,116,104,32,108,105,109,105,116,32,115,107,105,112,32,114,97,110,103,101,32,116,97,105,108,32,105,100,32,108,97,98,101,108,32,118,97,108,117,101,115,32,118,97,108,117,101,77,97,112,32,99,111,110,115,116,97,110,116,32,99,111,117,110,116,32,115,117,109,32,109,105,110,32,109,97,120,32,102,111,108,100,32,117,110,102,111,108,100,32,112,97,116,104,32,97,115,32,115,101,108,101,99,116,32,111,114,100,101,114,32,111,114,100,101,114,68,101,115,99,32,111,114,100,101,114,66,121,32,111,114,100,101,114,66,121,68,101,115,99,32,103,114,111,117,112,67,111,117,110,116,32,108,111,111,112,115,32,117,110,105,111,110,32,99,111,97,108,101,115,99,101,32,111,112,116,105,111,110,97,108,32,99,104,111,111,115,101,32,116,105,109,101,115,32,117,110,116,105,108,32,101,109,105,116,32,97,100,100,69,32,112,114,111,112,101,114,116,121,32,100,114,111,112,32,105,100,101,110,116,105,116,121]⟩:ByteArray)
 let Xx6<-M.ite (decide (x0<1)) (do
  M.pure true
  ) (do
  M.pure (decide (x0>(Xx3.len:Int)))
  )
 M.ite Xx6 (do
  M.pure ByteArray.empty
  ) (do
  let Xx9<-ixL Xx3 (IntKind.wrap .i64 (x0 - 1)) 1
  let Xx10<-ldS Xx9
  M.pure Xx10
  )
theorem KFN (x0:Int):KY Tryz.prog 41 #[.int .i64 x0] (λ(r:ByteArray)=>.string r) (VA x0):=
 KG [qT] [] [.S] [(0,.I .i64 x0)] .o Tryz.func41 rfl rfl ⟨rfl,trivial⟩ rfl (by kernel_rfl) (by kernel_rfl)
noncomputable def zM:CalleeS Tryz.prog:=mkC KDL KDe [.I .i64] [.S] (λ(t:Int)=>VA t) (λ(t:Int)=>KFN t)
def Ys (Cc80:Addr) (Cc81:Int) (Xx79:Bool):M (Ea):=do
 M.ite Xx79 (do
  M.need ((#[.int .i64 0,.int .i64 0,.int .i64 1,.int .i64 1,.int .i64 0,.int .i64 0,.int .i64 0,.int .i64 1,.int .i64 1]:Ea).size=9)
  stG Cc80 (#[.int .i64 0,.int .i64 0,.int .i64 1,.int .i64 1,.int .i64 0,.int .i64 0,.int .i64 0,.int .i64 1,.int .i64 1]:Ea)
  let Rr84<-ldG 9 Cc80
  M.pure Rr84
  ) (do
  M.ite (Cc81==55) (do
   M.need ((#[.int .i64 0,.int .i64 0,.int .i64 0,.int .i64 0,.int .i64 0,.int .i64 0,.int .i64 0,.int .i64 2,.int .i64 2]:Ea).size=9)
   stG Cc80 (#[.int .i64 0,.int .i64 0,.int .i64 0,.int .i64 0,.int .i64 0,.int .i64 0,.int .i64 0,.int .i64 2,.int .i64 2]:Ea)
   let Rr88<-ldG 9 Cc80
   M.pure Rr88
   ) (do
   M.ite (Cc81==57) (do
    M.need ((#[.int .i64 3,.int .i64 3,.int .i64 0,.int .i64 0,.int .i64 0,.int .i64 0,.int .i64 0,.int .i64 0,.int .i64 0]:Ea).size=9)
    stG Cc80 (#[.int .i64 3,.int .i64 3,.int .i64 0,.int .i64 0,.int .i64 0,.int .i64 0,.int .i64 0,.int .i64 0,.int .i64 0]:Ea)
    let Rr92<-ldG 9 Cc80
    M.pure Rr92
    ) (do
    M.ite (Cc81==58) (do
     M.need ((#[.int .i64 1,.int .i64 1,.int .i64 0,.int .i64 0,.int .i64 0,.int .i64 1,.int .i64 1,.int .i64 0,.int .i64 0]:Ea).size=9)
     stG Cc80 (#[.int .i64 1,.int .i64 1,.int .i64 0,.int .i64 0,.int .i64 0,.int .i64 1,.int .i64 1,.int .i64 0,.int .i64 0]:Ea)
     let Rr96<-ldG 9 Cc80
     M.pure Rr96
     ) (do
     M.need ((Array.replicate 9 (.int .i64 0):Ea).size=9)
     stG Cc80 (Array.replicate 9 (.int .i64 0):Ea)
     let Rr99<-ldG 9 Cc80
     M.pure Rr99
     )
    )
   )
  )
def Vj (Cc66:Addr) (Cc67:Int) (Xx65:Bool):M (Ea):=do
 M.ite Xx65 (do
  M.need ((#[.int .i64 0,.int .i64 0,.int .i64 1,.int .i64 1,.int .i64 0,.int .i64 0,.int .i64 0,.int .i64 0,.int .i64 0]:Ea).size=9)
  stG Cc66 (#[.int .i64 0,.int .i64 0,.int .i64 1,.int .i64 1,.int .i64 0,.int .i64 0,.int .i64 0,.int .i64 0,.int .i64 0]:Ea)
  let Rr70<-ldG 9 Cc66
  M.pure Rr70
  ) (do
  M.ite (Cc67==28) (do
   M.need ((#[.int .i64 0,.int .i64 0,.int .i64 2,.int .i64 2,.int .i64 0,.int .i64 0,.int .i64 0,.int .i64 0,.int .i64 0]:Ea).size=9)
   stG Cc66 (#[.int .i64 0,.int .i64 0,.int .i64 2,.int .i64 2,.int .i64 0,.int .i64 0,.int .i64 0,.int .i64 0,.int .i64 0]:Ea)
   let Rr74<-ldG 9 Cc66
   M.pure Rr74
   ) (do
   M.ite (Cc67==34) (do
    M.need ((#[.int .i64 0,.int .i64 0,.int .i64 0,.int .i64 0,.int .i64 0,.int .i64 1,.int .i64 1,.int .i64 0,.int .i64 0]:Ea).size=9)
    stG Cc66 (#[.int .i64 0,.int .i64 0,.int .i64 0,.int .i64 0,.int .i64 0,.int .i64 1,.int .i64 1,.int .i64 0,.int .i64 0]:Ea)
    let Rr78<-ldG 9 Cc66
    M.pure Rr78
    ) (do
    M.ite (Cc67==54) (do
     Ys Cc66 Cc67 (Cc67==54)
     ) (do
     Ys Cc66 Cc67 (Cc67==56)
     )
    )
   )
  )
def UK (Cc56:Addr) (Cc57:Int) (Xx55:Bool):M (Ea):=do
 M.ite Xx55 (do
  M.need ((#[.int .i64 0,.int .i64 0,.int .i64 0,.int .i64 0,.int .i64 0,.int .i64 0,.int .i64 0,.int .i64 1,.int .i64 32]:Ea).size=9)
  stG Cc56 (#[.int .i64 0,.int .i64 0,.int .i64 0,.int .i64 0,.int .i64 0,.int .i64 0,.int .i64 0,.int .i64 1,.int .i64 32]:Ea)
  let Rr60<-ldG 9 Cc56
  M.pure Rr60
  ) (do
  M.ite (Cc57==53) (do
   M.need ((#[.int .i64 0,.int .i64 0,.int .i64 0,.int .i64 0,.int .i64 0,.int .i64 0,.int .i64 0,.int .i64 3,.int .i64 3]:Ea).size=9)
   stG Cc56 (#[.int .i64 0,.int .i64 0,.int .i64 0,.int .i64 0,.int .i64 0,.int .i64 0,.int .i64 0,.int .i64 3,.int .i64 3]:Ea)
   let Rr64<-ldG 9 Cc56
   M.pure Rr64
   ) (do
   M.ite (Cc57==26) (do
    Vj Cc56 Cc57 (Cc57==26)
    ) (do
    M.ite (Cc57==27) (do
     Vj Cc56 Cc57 (Cc57==27)
     ) (do
     Vj Cc56 Cc57 (Cc57==29)
     )
    )
   )
  )
def Vk (Cc50:Addr) (Cc51:Int) (Xx49:Bool):M (Ea):=do
 M.ite Xx49 (do
  M.need ((#[.int .i64 0,.int .i64 0,.int .i64 0,.int .i64 0,.int .i64 0,.int .i64 0,.int .i64 0,.int .i64 1,.int .i64 1]:Ea).size=9)
  stG Cc50 (#[.int .i64 0,.int .i64 0,.int .i64 0,.int .i64 0,.int .i64 0,.int .i64 0,.int .i64 0,.int .i64 1,.int .i64 1]:Ea)
  let Rr54<-ldG 9 Cc50
  M.pure Rr54
  ) (do
  M.ite (Cc51==22) (do
   UK Cc50 Cc51 (Cc51==22)
   ) (do
   M.ite (Cc51==23) (do
    UK Cc50 Cc51 (Cc51==23)
    ) (do
    M.ite (Cc51==50) (do
     UK Cc50 Cc51 (Cc51==50)
     ) (do
     UK Cc50 Cc51 (Cc51==51)
     )
    )
   )
  )
def Yt (Cc28:Addr) (Cc29:Int) (Xx27:Bool):M (Ea):=do
 M.ite Xx27 (do
  M.need ((#[.int .i64 1,.int .i64 32,.int .i64 0,.int .i64 0,.int .i64 0,.int .i64 0,.int .i64 0,.int .i64 0,.int .i64 0]:Ea).size=9)
  stG Cc28 (#[.int .i64 1,.int .i64 32,.int .i64 0,.int .i64 0,.int .i64 0,.int .i64 0,.int .i64 0,.int .i64 0,.int .i64 0]:Ea)
  let Rr32<-ldG 9 Cc28
  M.pure Rr32
  ) (do
  M.ite (Cc29==48) (do
   M.need ((#[.int .i64 0,.int .i64 1,.int .i64 0,.int .i64 0,.int .i64 0,.int .i64 0,.int .i64 0,.int .i64 0,.int .i64 0]:Ea).size=9)
   stG Cc28 (#[.int .i64 0,.int .i64 1,.int .i64 0,.int .i64 0,.int .i64 0,.int .i64 0,.int .i64 0,.int .i64 0,.int .i64 0]:Ea)
   let Rr36<-ldG 9 Cc28
   M.pure Rr36
   ) (do
   M.ite (Cc29==14) (do
    M.need ((#[.int .i64 1,.int .i64 1,.int .i64 0,.int .i64 0,.int .i64 1,.int .i64 0,.int .i64 0,.int .i64 0,.int .i64 0]:Ea).size=9)
    stG Cc28 (#[.int .i64 1,.int .i64 1,.int .i64 0,.int .i64 0,.int .i64 1,.int .i64 0,.int .i64 0,.int .i64 0,.int .i64 0]:Ea)
    let Rr40<-ldG 9 Cc28
    M.pure Rr40
    ) (do
    M.ite (Cc29==18) (do
     M.need ((#[.int .i64 0,.int .i64 0,.int .i64 1,.int .i64 32,.int .i64 0,.int .i64 0,.int .i64 0,.int .i64 0,.int .i64 0]:Ea).size=9)
     stG Cc28 (#[.int .i64 0,.int .i64 0,.int .i64 1,.int .i64 32,.int .i64 0,.int .i64 0,.int .i64 0,.int .i64 0,.int .i64 0]:Ea)
     let Rr44<-ldG 9 Cc28
     M.pure Rr44
     ) (do
     M.ite (Cc29==19) (do
      M.need ((#[.int .i64 0,.int .i64 0,.int .i64 0,.int .i64 0,.int .i64 1,.int .i64 0,.int .i64 0,.int .i64 0,.int .i64 0]:Ea).size=9)
      stG Cc28 (#[.int .i64 0,.int .i64 0,.int .i64 0,.int .i64 0,.int .i64 1,.int .i64 0,.int .i64 0,.int .i64 0,.int .i64 0]:Ea)
      let Rr48<-ldG 9 Cc28
      M.pure Rr48
      ) (do
      M.ite (Cc29==20) (do
       Vk Cc28 Cc29 (Cc29==20)
       ) (do
       M.ite (Cc29==21) (do
        Vk Cc28 Cc29 (Cc29==21)
        ) (do
        Vk Cc28 Cc29 (Cc29==52)
        )
       )
      )
     )
    )
   )
  )
def ZQ (Cc22:Addr) (Cc23:Int) (Xx21:Bool):M (Ea):=do
 M.ite Xx21 (do
  M.need ((#[.int .i64 0,.int .i64 32,.int .i64 0,.int .i64 0,.int .i64 0,.int .i64 0,.int .i64 0,.int .i64 0,.int .i64 0]:Ea).size=9)
  stG Cc22 (#[.int .i64 0,.int .i64 32,.int .i64 0,.int .i64 0,.int .i64 0,.int .i64 0,.int .i64 0,.int .i64 0,.int .i64 0]:Ea)
  let Rr26<-ldG 9 Cc22
  M.pure Rr26
  ) (do
  M.ite (Cc23==17) (do
   Yt Cc22 Cc23 (Cc23==17)
   ) (do
   Yt Cc22 Cc23 (Cc23==43)
   )
  )
def Zw (Cc16:Addr) (Cc17:Int) (Xx15:Bool):M (Ea):=do
 M.ite Xx15 (do
  M.need ((#[.int .i64 1,.int .i64 1,.int .i64 0,.int .i64 0,.int .i64 0,.int .i64 0,.int .i64 0,.int .i64 0,.int .i64 0]:Ea).size=9)
  stG Cc16 (#[.int .i64 1,.int .i64 1,.int .i64 0,.int .i64 0,.int .i64 0,.int .i64 0,.int .i64 0,.int .i64 0,.int .i64 0]:Ea)
  let Rr20<-ldG 9 Cc16
  M.pure Rr20
  ) (do
  M.ite (Cc17==5) (do
   ZQ Cc16 Cc17 (Cc17==5)
   ) (do
   M.ite (Cc17==6) (do
    ZQ Cc16 Cc17 (Cc17==6)
    ) (do
    M.ite (Cc17==7) (do
     ZQ Cc16 Cc17 (Cc17==7)
     ) (do
     M.ite (Cc17==8) (do
      ZQ Cc16 Cc17 (Cc17==8)
      ) (do
      M.ite (Cc17==9) (do
       ZQ Cc16 Cc17 (Cc17==9)
       ) (do
       M.ite (Cc17==10) (do
        ZQ Cc16 Cc17 (Cc17==10)
        ) (do
        M.ite (Cc17==32) (do
         ZQ Cc16 Cc17 (Cc17==32)
         ) (do
         ZQ Cc16 Cc17 (Cc17==33)
         )
        )
       )
      )
     )
    )
   )
  )
def Yu (Cc6:Addr) (Cc7:Int) (Xx5:Bool):M (Ea):=do
 M.ite Xx5 (do
  M.need ((#[.int .i64 0,.int .i64 0,.int .i64 0,.int .i64 32,.int .i64 0,.int .i64 0,.int .i64 0,.int .i64 0,.int .i64 0]:Ea).size=9)
  stG Cc6 (#[.int .i64 0,.int .i64 0,.int .i64 0,.int .i64 32,.int .i64 0,.int .i64 0,.int .i64 0,.int .i64 0,.int .i64 0]:Ea)
  let Rr10<-ldG 9 Cc6
  M.pure Rr10
  ) (do
  M.ite (Cc7==3) (do
   M.need ((#[.int .i64 0,.int .i64 0,.int .i64 0,.int .i64 0,.int .i64 0,.int .i64 0,.int .i64 32,.int .i64 0,.int .i64 0]:Ea).size=9)
   stG Cc6 (#[.int .i64 0,.int .i64 0,.int .i64 0,.int .i64 0,.int .i64 0,.int .i64 0,.int .i64 32,.int .i64 0,.int .i64 0]:Ea)
   let Rr14<-ldG 9 Cc6
   M.pure Rr14
   ) (do
   M.ite (Cc7==4) (do
    Zw Cc6 Cc7 (Cc7==4)
    ) (do
    M.ite (Cc7==15) (do
     Zw Cc6 Cc7 (Cc7==15)
     ) (do
     M.ite (Cc7==16) (do
      Zw Cc6 Cc7 (Cc7==16)
      ) (do
      M.ite (Cc7==42) (do
       Zw Cc6 Cc7 (Cc7==42)
       ) (do
       M.ite (Cc7==46) (do
        Zw Cc6 Cc7 (Cc7==46)
        ) (do
        Zw Cc6 Cc7 (Cc7==47)
        )
       )
      )
     )
    )
   )
  )
def WD (x0:Int):M (Ea):=do
 let Xx2<-mkB Yj (Array.replicate 9 (.int .i64 0):Ea)
 M.ite (x0==1) (do
  Yu Xx2 x0 (x0==1)
  ) (do
  Yu Xx2 x0 (x0==2)
  )
theorem KD3 (x0:Int):KY Tryz.prog 166 #[.int .i64 x0] (λ(r:Ea)=>.agg r) (WD x0):=
 KG [] [] [.G] [(0,.I .i64 x0)] (.q .o (.q (.q .o (.b (.q .o (.j [(2,.A),(3,.I .i64),(4,.B)] (λ(t:Addr×Int×Bool)=>Yu t.1 t.2.1 t.2.2) (.q .o (.q .o (.q .o (.q .o (.j [(2,.A),(3,.I .i64),(11,.B)] (λ(t:Addr×Int×Bool)=>Zw t.1 t.2.1 t.2.2) (.q .o (.q .o (.j [(2,.A),(3,.I .i64),(19,.B)] (λ(t:Addr×Int×Bool)=>ZQ t.1 t.2.1 t.2.2) (.q .o (.q .o (.j [(2,.A),(3,.I .i64),(29,.B)] (λ(t:Addr×Int×Bool)=>Yt t.1 t.2.1 t.2.2) (.q .o (.q .o (.q .o (.q .o (.q .o (.q .o (.q .o (.q .o (.q .o (.q .o (.j [(2,.A),(3,.I .i64),(45,.B)] (λ(t:Addr×Int×Bool)=>Vk t.1 t.2.1 t.2.2) (.q .o (.q .o (.j [(2,.A),(3,.I .i64),(50,.B)] (λ(t:Addr×Int×Bool)=>UK t.1 t.2.1 t.2.2) (.q .o (.q .o (.q .o (.q .o (.j [(2,.A),(3,.I .i64),(59,.B)] (λ(t:Addr×Int×Bool)=>Vj t.1 t.2.1 t.2.2) (.q .o (.q .o (.q .o (.q .o (.q .o (.q .o (.j [(2,.A),(3,.I .i64),(70,.B)] (λ(t:Addr×Int×Bool)=>Ys t.1 t.2.1 t.2.2) .o))))))))))))))))))))))))))))))))))))))))) .o)) Tryz.func166 rfl rfl ⟨rfl,trivial⟩ rfl (by kernel_rfl) (by kernel_rfl)
noncomputable def KD4:CalleeS Tryz.prog:=mkC KCC KCa [.I .i64] [.G] (λ(t:Int)=>WD t) (λ(t:Int)=>KD3 t)
def Zy (x0:Int) (x1:Int) (x2:Int):M (Bool):=do
 let Xx3<-M.ite (decide (x0>=x1)) (do
  M.pure (decide (x0<=x2))
  ) (do
  M.pure false
  )
 M.pure Xx3
theorem KCq (x0:Int) (x1:Int) (x2:Int):KY Tryz.prog 167 #[.int .i64 x0,.int .i64 x1,.int .i64 x2] (λ(r:Bool)=>.bool r) (Zy x0 x1 x2):=
 KG [] [] [.B] [(0,.I .i64 x0),(1,.I .i64 x1),(2,.I .i64 x2)] .o Tryz.func167 rfl rfl ⟨rfl,rfl,rfl,trivial⟩ rfl (by kernel_rfl) (by kernel_rfl)
noncomputable def KCr:CalleeS Tryz.prog:=mkC KBA KBK [.I .i64,.I .i64,.I .i64] [.B] (λ(t:Int×Int×Int)=>Zy t.1 t.2.1 t.2.2) (λ(t:Int×Int×Int)=>KCq t.1 t.2.1 t.2.2)
def YT (Cc5:Sl) (self1:(Int)->M (Bool)):(Int)->M (Bool):=λs=>match s with
 |Xx4=>do
  M.ite (decide (Xx4<(Cc5.len:Int))) (do
   let Xx11<-ixL Cc5 Xx4 4
   let Xx12<-ldG 4 Xx11
   let Xx13<-Ub Xx12
   M.ite (Xx13 !=0) (do
    M.pure false
    ) (do
    self1 (IntKind.wrap .i64 (Xx4+1))
    )
   ) (do
   M.pure true
   )
def J1 (x0:Sl):M (Bool):=do
 M.loop (YT x0) 0
theorem KCs (x0:Sl):KY Tryz.prog 169 #[(x0:Sl).v] (λ(r:Bool)=>.bool r) (J1 x0):=
 KG [qP] [] [.B] [(0,.L x0)] (.q .o (.q (.q .o (.b (.l [(0,.L)] [(3,.I .i64)] (λ(t:Sl)=>YT t) (λ_=>.o)))) .o)) Tryz.func169 rfl rfl ⟨rfl,trivial⟩ rfl (by kernel_rfl) (by kernel_rfl)
noncomputable def Nk:CalleeS Tryz.prog:=mkC KA9 KBJ [.L] [.B] (λ(t:Sl)=>J1 t) (λ(t:Sl)=>KCs t)
def Jf (Cc5:Addr):M (Bool):=do
 let Xx7<-ldL ((Cc5).add 1)
 let Xx8<-J1 Xx7
 M.pure Xx8
def Wo (x0:Ea):M (Bool):=do
 let Xx2<-mkB VZ x0
 let Xx4<-ldL ((Xx2).add 1)
 let Xx10<-ldI .i64 ((Xx2).add 0)
 let Xx11<-M.ite (decide (Xx10>=1)) (do
  let Xx12<-ldI .i64 ((Xx2).add 0)
  M.pure (decide (Xx12<=6))
  ) (do
  M.pure false
  )
 M.ite Xx11 (do
  M.ite ((Xx4.len:Int) !=1) (do
   M.pure false
   ) (do
   Jf Xx2
   )
  ) (do
  let Xx16<-ldI .i64 ((Xx2).add 0)
  M.ite (Xx16==9) (do
   M.ite ((Xx4.len:Int) !=2) (do
    M.pure false
    ) (do
    Jf Xx2
    )
   ) (do
   let Xx20<-ldI .i64 ((Xx2).add 0)
   let Xx21<-M.ite (Xx20 !=7) (do
    let Xx22<-ldI .i64 ((Xx2).add 0)
    M.pure (Xx22 !=8)
    ) (do
    M.pure false
    )
   let Xx23<-M.ite Xx21 (do
    M.pure true
    ) (do
    M.pure (decide ((Xx4.len:Int)>32))
    )
   M.ite Xx23 (do
    M.pure false
    ) (do
    Jf Xx2
    )
   )
  )
theorem KFO (x0:Ea):KY Tryz.prog 168 #[.agg x0] (λ(r:Bool)=>.bool r) (Wo x0):=
 KG [Nk] [] [.B] [(0,.G x0)] (.q .o (.q .o (.q .o (.j [(1,.A)] (λ(t:Addr)=>Jf t) .o)))) Tryz.func168 rfl rfl ⟨rfl,trivial⟩ rfl (by kernel_rfl) (by kernel_rfl)
noncomputable def KFP:CalleeS Tryz.prog:=mkC KDM KDf [.G] [.B] (λ(t:Ea)=>Wo t) (λ(t:Ea)=>KFO t)
def WZ (Cc74:Addr) (self3:(Int)->M (Bool)):(Int)->M (Bool):=λs=>match s with
 |Xx73=>do
  let Xx78<-ldL ((Cc74).add 3)
  M.ite (decide (Xx73<(Xx78.len:Int))) (do
   let Xx81<-ldL ((Cc74).add 3)
   let Xx82<-ixL Xx81 Xx73 2
   let Xx83<-ldG 2 Xx82
   let Xx84<-Wo Xx83
   M.ite (!Xx84) (do
    M.pure false
    ) (do
    self3 (IntKind.wrap .i64 (Xx73+1))
    )
   ) (do
   let Xx87<-ldL ((Cc74).add 4)
   let Xx88<-J1 Xx87
   M.pure Xx88
   )
def Wa (Cc56:Addr) (self2:(Int)->M (Bool)):(Int)->M (Bool):=λs=>match s with
 |Xx55=>do
  let Xx60<-ldL ((Cc56).add 2)
  M.ite (decide (Xx55<(Xx60.len:Int))) (do
   let Xx63<-ldL ((Cc56).add 2)
   let Xx64<-ixL Xx63 Xx55 1
   let Xx65<-ldI .i64 Xx64
   let Xx66<-M.ite (decide (Xx65<0)) (do
    M.pure true
    ) (do
    let Xx67<-ldL ((Cc56).add 2)
    let Xx68<-ixL Xx67 Xx55 1
    let Xx69<-ldI .i64 Xx68
    M.pure (decide (Xx69>9007199254740992))
    )
   M.ite Xx66 (do
    M.pure false
    ) (do
    self2 (IntKind.wrap .i64 (Xx55+1))
    )
   ) (do
   M.loop (WZ Cc56) 0
   )
def Wb (Cc41:Addr) (self1:(Int)->M (Bool)):(Int)->M (Bool):=λs=>match s with
 |Xx40=>do
  let Xx45<-ldL ((Cc41).add 1)
  M.ite (decide (Xx40<(Xx45.len:Int))) (do
   let Xx48<-ldL ((Cc41).add 1)
   let Xx49<-ixL Xx48 Xx40 1
   let Xx50<-ldS Xx49
   let Xx51<-U5 Xx50
   M.ite (!Xx51) (do
    M.pure false
    ) (do
    self1 (IntKind.wrap .i64 (Xx40+1))
    )
   ) (do
   M.loop (Wa Cc41) 0
   )
def VB (x0:Ea):M (Bool):=do
 let Xx2<-mkB KU x0
 let Xx5<-ldI .i64 ((Xx2).add 0)
 let Xx6<-VA Xx5
 M.ite (sEq Xx6 ByteArray.empty) (do
  M.pure false
  ) (do
  let Xx9<-ldI .i64 ((Xx2).add 0)
  let Xx10<-WD Xx9
  let Xx11<-mkB Yj (Array.replicate 9 (.int .i64 0):Ea)
  M.need (Xx10.size=9)
  stG Xx11 Xx10
  let Xx15<-ldL ((Xx2).add 1)
  let Xx16<-ldI .i64 ((Xx11).add 0)
  let Xx17<-ldI .i64 ((Xx11).add 1)
  let Xx18<-Zy (Xx15.len:Int) Xx16 Xx17
  let Xx19<-M.ite (!Xx18) (do
   M.pure true
   ) (do
   let Xx20<-ldL ((Xx2).add 2)
   let Xx21<-ldI .i64 ((Xx11).add 2)
   let Xx22<-ldI .i64 ((Xx11).add 3)
   let Xx23<-Zy (Xx20.len:Int) Xx21 Xx22
   M.pure (!Xx23)
   )
  let Xx24<-M.ite Xx19 (do
   M.pure true
   ) (do
   let Xx25<-ldL ((Xx2).add 3)
   let Xx26<-ldI .i64 ((Xx11).add 4)
   M.pure ((Xx25.len:Int) !=Xx26)
   )
  let Xx27<-M.ite Xx24 (do
   M.pure true
   ) (do
   let Xx28<-ldL ((Xx2).add 4)
   let Xx29<-ldI .i64 ((Xx11).add 5)
   let Xx30<-ldI .i64 ((Xx11).add 6)
   let Xx31<-Zy (Xx28.len:Int) Xx29 Xx30
   M.pure (!Xx31)
   )
  let Xx32<-M.ite Xx27 (do
   M.pure true
   ) (do
   let Xx33<-ldL ((Xx2).add 5)
   let Xx34<-ldI .i64 ((Xx11).add 7)
   let Xx35<-ldI .i64 ((Xx11).add 8)
   let Xx36<-Zy (Xx33.len:Int) Xx34 Xx35
   M.pure (!Xx36)
   )
  M.ite Xx32 (do
   M.pure false
   ) (do
   M.loop (Wb Xx2) 0
   )
  )
theorem KFQ (x0:Ea):KY Tryz.prog 122 #[.agg x0] (λ(r:Bool)=>.bool r) (VB x0):=
 KG [KD4,KCr,KFP,Nk,zM,zI] [] [.B] [(0,.G x0)] (.q .o (.q .o (.q .o (.q .o (.q (.q .o (.b (.l [(1,.A)] [(4,.I .i64)] (λ(t:Addr)=>Wb t) (λ_=>.o)))) (.q (.q .o (.b (.l [(1,.A)] [(5,.I .i64)] (λ(t:Addr)=>Wa t) (λ_=>.o)))) (.q (.q .o (.b (.l [(1,.A)] [(6,.I .i64)] (λ(t:Addr)=>WZ t) (λ_=>.o)))) .o))))))) Tryz.func122 rfl rfl ⟨rfl,trivial⟩ rfl (by kernel_rfl) (by kernel_rfl)
noncomputable def KFR:CalleeS Tryz.prog:=mkC KDO KDh [.G] [.B] (λ(t:Ea)=>VB t) (λ(t:Ea)=>KFQ t)
def Yv (self1:(Int×Int×Int)->M (Int×Int×Bool)) (Cc29:Sl) (Cc30:Int) (Cc31:Int) (self2:(Int×Int×Int)->M (Int×Int×Bool)):(Int×Int×Int)->M (Int×Int×Bool):=λs=>match s with
 |(Xx26,Xx27,Xx28)=>do
  let Xx35<-ixL Cc29 Cc31 6
  let Xx36<-ldL ((Xx35).add 5)
  M.ite (decide (Xx28<(Xx36.len:Int))) (do
   let Xx39<-ixL Cc29 Cc31 6
   let Xx40<-ldL ((Xx39).add 5)
   let Xx41<-ixL Xx40 Xx28 1
   let Xx42<-ldL Xx41
   let Xx43<-W5 Tryz.prog Vh #[(Xx42:Sl).v,.int .i64 (IntKind.wrap .i64 (Cc30+1))] (λr:Int×Int×Bool=>.tuple #[.int .i64 r.1,.int .i64 r.2.1,.bool r.2.2])
   M.ite (!Xx43.2.2) (do
    M.pure (0,0,false)
    ) (do
    self2 (IntKind.wrap .i64 (Xx26+Xx43.1),iMax Xx27 Xx43.2.1,IntKind.wrap .i64 (Xx28+1))
    )
   ) (do
   self1 (Xx26,Xx27,IntKind.wrap .i64 (Cc31+1))
   )
def Yw (Cc12:Sl) (Cc13:Int) (self1:(Int×Int×Int)->M (Int×Int×Bool)):(Int×Int×Int)->M (Int×Int×Bool):=λs=>match s with
 |(Xx9,Xx10,Xx11)=>do
  M.ite (decide (Xx11<(Cc12.len:Int))) (do
   let Xx20<-ixL Cc12 Xx11 6
   let Xx21<-ldG 6 Xx20
   let Xx22<-VB Xx21
   M.ite (!Xx22) (do
    M.pure (0,0,false)
    ) (do
    M.loop (Yv self1 Cc12 Cc13 Xx11) (IntKind.wrap .i64 (Xx9+1),Xx10,0)
    )
   ) (do
   M.pure (Xx9,Xx10,true)
   )
def WE (x0:Sl) (x1:Int):M (Int×Int×Bool):=do
 M.ite ((x0.len:Int)==0) (do
  M.pure (0,0,false)
  ) (do
  M.loop (Yw x0 x1) (0,x1,0)
  )
theorem qU (x0:Sl) (x1:Int):KY Tryz.prog 77 #[(x0:Sl).v,.int .i64 x1] (λ(r:Int×Int×Bool)=>.tuple #[.int .i64 r.1,.int .i64 r.2.1,.bool r.2.2]) (WE x0 x1):=
 KG [KFR,mkC Vh Nh [.L,.I .i64] [.I .i64,.I .i64,.B] (λ(t:Sl×Int)=>W5 Tryz.prog Vh #[(t.1:Sl).v,.int .i64 t.2] (λr:Int×Int×Bool=>.tuple #[.int .i64 r.1,.int .i64 r.2.1,.bool r.2.2])) (λ(t:Sl×Int)=>Z3)] [] [.I .i64,.I .i64,.B] [(0,.L x0),(1,.I .i64 x1)] (.q .o (.q .o (.q .o (.q .o (.q (.q .o (.b (.l [(0,.L),(1,.I .i64)] [(7,.I .i64),(8,.I .i64),(9,.I .i64)] (λ(t:Sl×Int)=>Yw t.1 t.2) (λself1=>.q .o (.q (.b (.q .o (.q .o (.q .o (.b (.l [(0,.L),(1,.I .i64),(9,.I .i64)] [(7,.I .i64),(8,.I .i64),(10,.I .i64)] (λ(t:Sl×Int×Int)=>Yv self1 t.1 t.2.1 t.2.2) (λ_=>.o))))))) .o))))) .o))))) Tryz.func77 rfl rfl ⟨rfl,rfl,trivial⟩ rfl (by kernel_rfl) (by kernel_rfl)
noncomputable def KD5:CalleeS Tryz.prog:=mkC Vh Nh [.L,.I .i64] [.I .i64,.I .i64,.B] (λ(t:Sl×Int)=>WE t.1 t.2) (λ(t:Sl×Int)=>qU t.1 t.2)
def WF (x0:Sl):M (Int):=do
 let Xx3<-WE x0 1
 M.ite (!Xx3.2.2) (do
  M.pure 161
  ) (do
  let Xx9<-M.ite (decide (Xx3.1>256)) (do
   M.pure true
   ) (do
   M.pure (decide (Xx3.2.1>8))
   )
  M.ite Xx9 (do
   M.pure 3
   ) (do
   M.pure 0
   )
  )
theorem KD6 (x0:Sl):KY Tryz.prog 39 #[(x0:Sl).v] (λ(r:Int)=>.int .i64 r) (WF x0):=
 KG [KD5] [] [.I .i64] [(0,.L x0)] .o Tryz.func39 rfl rfl ⟨rfl,trivial⟩ rfl (by kernel_rfl) (by kernel_rfl)
noncomputable def KD7:CalleeS Tryz.prog:=mkC KCA KCY [.L] [.I .i64] (λ(t:Sl)=>WF t) (λ(t:Sl)=>KD6 t)
def Un (self2:(ByteArray×Int)->M (ByteArray)) (Cc39:Sl) (Cc40:Int) (Xx36:ByteArray):M (ByteArray):=do
 let Xx41<-ixL Cc39 Cc40 1
 let Xx42<-ldS Xx41
 let Xx43<-sCat Xx36 Xx42
 self2 (Xx43,IntKind.wrap .i64 (Cc40+1))
def XX (self1:(ByteArray×Int)->M (ByteArray)) (Cc30:Int) (Cc31:Sl) (self2:(ByteArray×Int)->M (ByteArray)):(ByteArray×Int)->M (ByteArray):=λs=>match s with
 |(Xx27,Xx28)=>do
  M.ite (decide (Xx28<(Cc31.len:Int))) (do
   M.ite (decide (Xx28>0)) (do
    let Xx45<-sCat Xx27 (⟨#[44]⟩:ByteArray)
    Un self2 Cc31 Xx28 Xx45
    ) (do
    Un self2 Cc31 Xx28 Xx27
    )
   ) (do
   let Xx46<-sCat Xx27 (⟨#[41]⟩:ByteArray)
   self1 (Xx46,IntKind.wrap .i64 (Cc30+1))
   )
def Uo (self1:(ByteArray×Int)->M (ByteArray)) (Cc13:Sl) (Cc14:Int) (Xx12:ByteArray):M (ByteArray):=do
 let Xx16<-ixL Cc13 Cc14 6
 let Xx17<-ldI .i64 ((Xx16).add 0)
 let Xx18<-VA Xx17
 let Xx19<-sCat Xx18 (⟨#[40]⟩:ByteArray)
 let Xx20<-sCat Xx12 Xx19
 let Xx22<-ixL Cc13 Cc14 6
 let Xx23<-ldG 6 Xx22
 let Xx24<-W5 Tryz.prog Vx #[.agg Xx23] (λr:Sl=>(r:Sl).v)
 M.loop (XX self1 Cc14 Xx24) (Xx20,0)
def XY (Cc7:Sl) (self1:(ByteArray×Int)->M (ByteArray)):(ByteArray×Int)->M (ByteArray):=λs=>match s with
 |(Xx5,Xx6)=>do
  M.ite (decide (Xx6<(Cc7.len:Int))) (do
   M.ite (decide (Xx6>0)) (do
    let Xx48<-sCat Xx5 (⟨#[46]⟩:ByteArray)
    Uo self1 Cc7 Xx6 Xx48
    ) (do
    Uo self1 Cc7 Xx6 Xx5
    )
   ) (do
   M.pure Xx5
   )
def Wp (x0:Sl):M (ByteArray):=do
 M.loop (XY x0) (ByteArray.empty,0)
theorem zN (x0:Sl):KY Tryz.prog 62 #[(x0:Sl).v] (λ(r:ByteArray)=>.string r) (Wp x0):=
 KG [mkC Vx zg [.G] [.L] (λ(t:Ea)=>W5 Tryz.prog Vx #[.agg t] (λr:Sl=>(r:Sl).v)) (λ(t:Ea)=>Z3),zM] [] [.S] [(0,.L x0)] (.q .o (.q .o (.q (.q .o (.b (.l [(0,.L)] [(3,.S),(4,.I .i64)] (λ(t:Sl)=>XY t) (λself1=>.q .o (.q (.b (.q .o (.j [(0,.L),(4,.I .i64),(3,.S)] (λ(t:Sl×Int×ByteArray)=>Uo self1 t.1 t.2.1 t.2.2) (.q .o (.q .o (.q (.q .o (.b (.l [(0,.L),(4,.I .i64),(5,.L)] [(3,.S),(6,.I .i64)] (λ(t:Sl×Int×Sl)=>XX self1 t.2.1 t.2.2) (λself2=>.q .o (.q (.b (.q .o (.j [(0,.L),(4,.I .i64),(5,.L),(6,.I .i64),(3,.S)] (λ(t:Sl×Int×Sl×Int×ByteArray)=>Un self2 t.2.2.1 t.2.2.2.1 t.2.2.2.2) .o))) .o))))) .o)))))) .o))))) .o))) Tryz.func62 rfl rfl ⟨rfl,trivial⟩ rfl (by kernel_rfl) (by kernel_rfl)
noncomputable def KFS:CalleeS Tryz.prog:=mkC WY qK [.L] [.S] (λ(t:Sl)=>Wp t) (λ(t:Sl)=>zN t)
def WG (x0:Sl):M (ByteArray×Int):=do
 let Xx4<-WF x0
 M.ite (Xx4 !=0) (do
  M.pure (ByteArray.empty,Xx4)
  ) (do
  let Xx8<-Wp x0
  let Xx9<-sCat (⟨#[103,46]⟩:ByteArray) Xx8
  M.pure (Xx9,0)
  )
theorem KD8 (x0:Sl):KY Tryz.prog 29 #[(x0:Sl).v] (λ(r:ByteArray×Int)=>.tuple #[.string r.1,.int .i64 r.2]) (WG x0):=
 KG [KD7,KFS] [] [.S,.I .i64] [(0,.L x0)] .o Tryz.func29 rfl rfl ⟨rfl,trivial⟩ rfl (by kernel_rfl) (by kernel_rfl)
noncomputable def KD9:CalleeS Tryz.prog:=mkC KCB KCZ [.L] [.S,.I .i64] (λ(t:Sl)=>WG t) (λ(t:Sl)=>KD8 t)
def XZ (x0:ByteArray):M (Sl×Int×Int):=do
 let Xx3<-mkB Gm (#[.slice none 0 0]:Ea)
 let Xx5<-W5 Tryz.prog No #[.string x0,(Value.func (.func KG6) #[] #[.pointer (some Xx3)])] (λr:Int×Int=>.tuple #[.int .i64 r.1,.int .i64 r.2])
 M.ite (Xx5.2 !=0) (do
  M.pure (Sl.nil,Xx5.1,Xx5.2)
  ) (do
  let Xx10<-ldL Xx3
  M.pure (Xx10,Xx5.1,0)
  )
theorem KK0 (x0:ByteArray):KY Tryz.prog 31 #[.string x0] (λ(r:Sl×Int×Int)=>.tuple #[(r.1:Sl).v,.int .i64 r.2.1,.int .i64 r.2.2]) (XZ x0):=
 KG [mkC No KKq [.S,.V] [.I .i64,.I .i64] (λ(t:ByteArray×Value)=>W5 Tryz.prog No #[.string t.1,t.2] (λr:Int×Int=>.tuple #[.int .i64 r.1,.int .i64 r.2])) (λ(t:ByteArray×Value)=>Z3)] [] [.L,.I .i64,.I .i64] [(0,.S x0)] .o Tryz.func31 rfl rfl ⟨rfl,trivial⟩ rfl (by kernel_rfl) (by kernel_rfl)
noncomputable def KFT:CalleeS Tryz.prog:=mkC KJI KJP [.S] [.L,.I .i64,.I .i64] (λ(t:ByteArray)=>XZ t) (λ(t:ByteArray)=>KK0 t)
def Nx (x0:ByteArray) (x1:ByteArray):M (Int):=do
 let Xx3<-U0 x0 x1
 M.pure Xx3
theorem KID (x0:ByteArray) (x1:ByteArray):KY Tryz.prog 208 #[.string x0,.string x1] (λ(r:Int)=>.int .i64 r) (Nx x0 x1):=
 KG [mkC NO NS [.S,.S] [.I .i64] (λ(t:ByteArray×ByteArray)=>U0 t.1 t.2) (λ(t:ByteArray×ByteArray)=>Nu t.1 t.2)] [] [.I .i64] [(0,.S x0),(1,.S x1)] .o Tryz.func208 rfl rfl ⟨rfl,rfl,trivial⟩ rfl (by kernel_rfl) (by kernel_rfl)
noncomputable def KIE:CalleeS Tryz.prog:=mkC KHA KHH [.S,.S] [.I .i64] (λ(t:ByteArray×ByteArray)=>Nx t.1 t.2) (λ(t:ByteArray×ByteArray)=>KID t.1 t.2)
def Up (Cc20:Sl) (Xx18:ByteArray) (Xx19:Int):M (Sl):=do
 let Xx22<-ixL Cc20 Xx19 1
 stV Xx22 (.string Xx18)
 let Xx25<-slL Cc20 0 (IntKind.wrap .i64 (Xx19+1)) 1
 M.pure Xx25
def Xa (Cc28:ByteArray) (Cc29:Int) (Cc30:Int) (Cc31:Sl) (self1:(ByteArray×Int)->M (Sl)):(ByteArray×Int)->M (Sl):=λs=>match s with
 |(Xx26,Xx27)=>do
  M.ite (decide (Xx27<Cc30)) (do
   let Xx36<-Nx Xx26 Cc28
   M.ite (decide (Xx36<0)) (do
    Up Cc31 Xx26 Xx27
    ) (do
    let Xx40<-slS Xx26 0 (IntKind.wrap .i64 (Xx36+Cc29))
    let Xx41<-ixL Cc31 Xx27 1
    stV Xx41 (.string Xx40)
    let Xx44<-slS Xx26 (IntKind.wrap .i64 (Xx36+(Cc28.size:Int))) Xx26.size
    self1 (Xx44,IntKind.wrap .i64 (Xx27+1))
    )
   ) (do
   Up Cc31 Xx26 Xx27
   )
def Wc (Cc10:ByteArray) (Cc11:ByteArray) (Cc12:Int) (Xx9:Int):M (Sl):=do
 let Xx15<-mkS ZW 1 16 (#[.string ByteArray.empty]:Ea) (iMin Xx9 (IntKind.wrap .i64 ((Cc10.size:Int)+1))) (iMin Xx9 (IntKind.wrap .i64 ((Cc10.size:Int)+1)))
 M.loop (Xa Cc11 Cc12 (IntKind.wrap .i64 ((iMin Xx9 (IntKind.wrap .i64 ((Cc10.size:Int)+1))) - 1)) Xx15) (Cc10,0)
def XM (x0:ByteArray) (x1:ByteArray) (x2:Int) (x3:Int):M (Sl):=do
 M.ite (x3==0) (do
  M.pure Sl.nil
  ) (do
  M.ite (sEq x1 ByteArray.empty) (do
   let Xx8<-qL x0 x3
   M.pure Xx8
   ) (do
   M.ite (decide (x3<0)) (do
    let Xx46<-KAT x0 x1
    Wc x0 x1 x2 (IntKind.wrap .i64 (Xx46+1))
    ) (do
    Wc x0 x1 x2 x3
    )
   )
  )
theorem KFU (x0:ByteArray) (x1:ByteArray) (x2:Int) (x3:Int):KY Tryz.prog 170 #[.string x0,.string x1,.int .i64 x2,.int .i64 x3] (λ(r:Sl)=>(r:Sl).v) (XM x0 x1 x2 x3):=
 KG [mkC KEu KE8 [.S,.I .i64] [.L] (λ(t:ByteArray×Int)=>qL t.1 t.2) (λ(t:ByteArray×Int)=>KGF t.1 t.2),mkC KG9 KHG [.S,.S] [.I .i64] (λ(t:ByteArray×ByteArray)=>KAT t.1 t.2) (λ(t:ByteArray×ByteArray)=>KH9 t.1 t.2),KIE] [] [.L] [(0,.S x0),(1,.S x1),(2,.I .i64 x2),(3,.I .i64 x3)] (.q .o (.q .o (.q .o (.q .o (.j [(0,.S),(1,.S),(2,.I .i64),(3,.I .i64)] (λ(t:ByteArray×ByteArray×Int×Int)=>Wc t.1 t.2.1 t.2.2.1 t.2.2.2) (.q .o (.q .o (.q .o (.q .o (.q (.b (.l [(1,.S),(2,.I .i64),(3,.I .i64),(9,.L)] [(0,.S),(10,.I .i64)] (λ(t:ByteArray×Int×Int×Sl)=>Xa t.1 t.2.1 t.2.2.1 t.2.2.2) (λ_=>.o))) (.j [(9,.L),(0,.S),(10,.I .i64)] (λ(t:Sl×ByteArray×Int)=>Up t.1 t.2.1 t.2.2) .o))))))))))) Tryz.func170 rfl rfl ⟨rfl,rfl,rfl,rfl,trivial⟩ rfl (by kernel_rfl) (by kernel_rfl)
noncomputable def KFV:CalleeS Tryz.prog:=mkC KDQ KDj [.S,.S,.I .i64,.I .i64] [.L] (λ(t:ByteArray×ByteArray×Int×Int)=>XM t.1 t.2.1 t.2.2.1 t.2.2.2) (λ(t:ByteArray×ByteArray×Int×Int)=>KFU t.1 t.2.1 t.2.2.1 t.2.2.2)
def YY (x0:ByteArray) (x1:ByteArray):M (Sl):=do
 let Xx3<-XM x0 x1 0 (-1)
 M.pure Xx3
theorem KIF (x0:ByteArray) (x1:ByteArray):KY Tryz.prog 123 #[.string x0,.string x1] (λ(r:Sl)=>(r:Sl).v) (YY x0 x1):=
 KG [KFV] [] [.L] [(0,.S x0),(1,.S x1)] .o Tryz.func123 rfl rfl ⟨rfl,rfl,trivial⟩ rfl (by kernel_rfl) (by kernel_rfl)
noncomputable def KBP:CalleeS Tryz.prog:=mkC KHB KHI [.S,.S] [.L] (λ(t:ByteArray×ByteArray)=>YY t.1 t.2) (λ(t:ByteArray×ByteArray)=>KIF t.1 t.2)
def zr (x0:ByteArray) (x1:Int):M (ByteArray):=do
 let Xx3<-YY x0 (⟨#[32]⟩:ByteArray)
 let Xx6<-M.ite (decide (x1<1)) (do
  M.pure true
  ) (do
  M.pure (decide (x1>(Xx3.len:Int)))
  )
 M.ite Xx6 (do
  M.pure ByteArray.empty
  ) (do
  let Xx9<-ixL Xx3 (IntKind.wrap .i64 (x1 - 1)) 1
  let Xx10<-ldS Xx9
  M.pure Xx10
  )
theorem KMT (x0:ByteArray) (x1:Int):KY Tryz.prog 78 #[.string x0,.int .i64 x1] (λ(r:ByteArray)=>.string r) (zr x0 x1):=
 KG [KBP] [] [.S] [(0,.S x0),(1,.I .i64 x1)] .o Tryz.func78 rfl rfl ⟨rfl,rfl,trivial⟩ rfl (by kernel_rfl) (by kernel_rfl)
noncomputable def KMU:CalleeS Tryz.prog:=mkC KKg KKr [.S,.I .i64] [.S] (λ(t:ByteArray×Int)=>zr t.1 t.2) (λ(t:ByteArray×Int)=>KMT t.1 t.2)
def zt (x0:Int):M (ByteArray):=do
 let Xx3<-zr (⟨#[86,32,69,32,105,110,106,101,99,116,32,97,100,100,86,32,111,117,116,32,105,110,32,98,111,116,104,32,111,117,116,69,32,105,110,69,32,98,111,116,104,69,32,111,117,116,86,32,105,110,86,32,98,111,116,104,86,32,104,97,115,32,104,97,115,75,101,121,32,104,97,115,78,111,116,32,104,97,115,76,97,98,101,108,32,104,97,115,73,100,32,105,115,32,119,104,101,114,101,32,110,111,116,32,97,110,100,32,111,114,32,100,101,100,117,112,32,115,105,109,112,108,101,80,97,116,104,32,108,105,109,105,116,32,115,107,105,112,32,114,97,110,103,101,32,116,97,105,108,32,105,100,32,108,97,98,101,108,32,118,97,108,117,101,115,32,118,97,108,117,101,77,97,112,32,99,111,110,115,116,97,110,116,32,99,111,117,110,116,32,115,117,109,32,109,105,110,32,109,97,120,32,102,111,108,100,32,117,110,102,111,108,100,32,112,97,116,104,32,97,115,32,115,101,108,101,99,116,32,111,114,100,101,114,32,111,114,100,101,114,68,101,115,99,32,111,114,100,101,114,66,121,32,111,114,100,101,114,66,121,68,101,115,99,32,103,114,111,117,112,67,111,117,110,116,32,108,111,111,112,115,32,117,110,105,111,110,32,99,111,97,108,101,115,99,101,32,111,112,116,105,111,110,97,108,32,99,104,111,111,115,101,32,116,105,109,101,115,32,117,110,116,105,108,32,101,109,105,116,32,97,100,100,69,32,112,114,111,112,101,114,116,121,32,100,114,111,112,32,105,100,101,110,116,105,116,121]⟩:ByteArray) x0
 M.pure Xx3
theorem KMV (x0:Int):KY Tryz.prog 40 #[.int .i64 x0] (λ(r:ByteArray)=>.string r) (zt x0):=
 KG [KMU] [] [.S] [(0,.I .i64 x0)] .o Tryz.func40 rfl rfl ⟨rfl,trivial⟩ rfl (by kernel_rfl) (by kernel_rfl)
noncomputable def KMW:CalleeS Tryz.prog:=mkC KKd KKn [.I .i64] [.S] (λ(t:Int)=>zt t) (λ(t:Int)=>KMV t)
end Gx
namespace Gx
open Go
def Uf:M (Bool):=do
 let Xx3<-XZ (⟨#[103,46,86,40,49,41,46,111,117,116,40,39,107,110,111,119,115,39,41,46,104,97,115,40,39,97,103,101,39,44,103,116,40,51,48,41,41,46,99,111,117,110,116,40,41]⟩:ByteArray)
 let Xx5<-XZ (⟨#[103,46,86,40]⟩:ByteArray)
 let Xx7<-M.ite ((Xx3.1.len:Int)==4) (do
  M.pure (Xx3.2.1==45)
  ) (do
  M.pure false
  )
 let Xx8<-M.ite Xx7 (do
  M.pure (Xx3.2.2==0)
  ) (do
  M.pure false
  )
 let Xx9<-M.ite Xx8 (do
  M.pure (Xx5.2.1==4)
  ) (do
  M.pure false
  )
 let Xx10<-M.ite Xx9 (do
  M.pure (Xx5.2.2==160)
  ) (do
  M.pure false
  )
 let Xx11<-M.ite Xx10 (do
  let Xx12<-zt 47
  M.pure (sEq Xx12 (⟨#[111,114,100,101,114,66,121,68,101,115,99]⟩:ByteArray))
  ) (do
  M.pure false
  )
 M.pure Xx11
theorem KEA:KY Tryz.prog 30 #[] (λ(r:Bool)=>.bool r) (Uf):=
 KG [KFT,KMW] [] [.B] [] .o Tryz.func30 rfl rfl trivial rfl (by kernel_rfl) (by kernel_rfl)
noncomputable def KEB:CalleeS Tryz.prog:=mkC KB0 KCN [] [.B] (λ(t:Unit)=>Uf) (λ(t:Unit)=>KEA)
def Wq (x0:Ea) (x1:Ea):M (Bool):=do
 let Xx2<-mkB KB x0
 let Xx3<-mkB KB x1
 let Xx5<-ldG 4 Xx2
 let Xx6<-ldG 4 Xx3
 let Xx7<-Z4 Xx5 Xx6
 M.pure (Xx7==0)
theorem KFW (x0:Ea) (x1:Ea):KY Tryz.prog 36 #[.agg x0,.agg x1] (λ(r:Bool)=>.bool r) (Wq x0 x1):=
 KG [Gy] [] [.B] [(0,.G x0),(1,.G x1)] .o Tryz.func36 rfl rfl ⟨rfl,rfl,trivial⟩ rfl (by kernel_rfl) (by kernel_rfl)
noncomputable def KFX:CalleeS Tryz.prog:=mkC KDG KDZ [.G,.G] [.B] (λ(t:Ea×Ea)=>Wq t.1 t.2) (λ(t:Ea×Ea)=>KFW t.1 t.2)
def W9 (Cc8:Sl) (Cc9:Sl) (self1:(Int)->M (Bool)):(Int)->M (Bool):=λs=>match s with
 |Xx7=>do
  M.ite (decide (Xx7<(Cc8.len:Int))) (do
   let Xx15<-ixL Cc8 Xx7 4
   let Xx16<-ixL Cc9 Xx7 4
   let Xx17<-ldG 4 Xx15
   let Xx18<-ldG 4 Xx16
   let Xx19<-Wq Xx17 Xx18
   M.ite (!Xx19) (do
    M.pure false
    ) (do
    self1 (IntKind.wrap .i64 (Xx7+1))
    )
   ) (do
   M.pure true
   )
def Z5 (x0:Sl) (x1:Sl):M (Bool):=do
 M.ite ((x0.len:Int) !=(x1.len:Int)) (do
  M.pure false
  ) (do
  M.loop (W9 x0 x1) 0
  )
theorem KBQ (x0:Sl) (x1:Sl):KY Tryz.prog 69 #[(x0:Sl).v,(x1:Sl).v] (λ(r:Bool)=>.bool r) (Z5 x0 x1):=
 KG [KFX] [] [.B] [(0,.L x0),(1,.L x1)] (.q .o (.q .o (.q (.q .o (.b (.l [(0,.L),(1,.L)] [(5,.I .i64)] (λ(t:Sl×Sl)=>W9 t.1 t.2) (λ_=>.q .o (.q (.b (.q (.r [0,0,3,4,0,0,48,64,136,256] [0,0,3,4,0,0,48,64,136,256] [0,0,3,7,0,0,48,112,255,511] (.pu 0 (.pu 1 (.pu 2 (.pu 4 (.pu 5 (.pu 6 (.pu 3 (.pu 7 (.st [8,9] (.on 8 (.pu 9 (.nx .dn))))))))))))) .o)) .o))))) .o))) Tryz.func69 rfl rfl ⟨rfl,rfl,trivial⟩ rfl (by kernel_rfl) (by kernel_rfl)
noncomputable def Gz:CalleeS Tryz.prog:=mkC KAj KAn [.L,.L] [.B] (λ(t:Sl×Sl)=>Z5 t.1 t.2) (λ(t:Sl×Sl)=>KBQ t.1 t.2)
def Wd (self1:(Int)->M (Bool)) (Cc17:Int) (Xx14:Bool):M (Bool):=do
 M.ite Xx14 (do
  M.pure false
  ) (do
  self1 (IntKind.wrap .i64 (Cc17+1))
  )
def Xb (Cc8:Sl) (Cc9:Sl) (self1:(Int)->M (Bool)):(Int)->M (Bool):=λs=>match s with
 |Xx7=>do
  M.ite (decide (Xx7<(Cc8.len:Int))) (do
   let Xx19<-ixL Cc8 Xx7 2
   let Xx20<-ixL Cc9 Xx7 2
   let Xx21<-ldI .i64 ((Xx19).add 0)
   let Xx22<-ldI .i64 ((Xx20).add 0)
   M.ite (Xx21 !=Xx22) (do
    Wd self1 Xx7 true
    ) (do
    let Xx24<-ixL Cc8 Xx7 2
    let Xx25<-ixL Cc9 Xx7 2
    let Xx26<-ldL ((Xx24).add 1)
    let Xx27<-ldL ((Xx25).add 1)
    let Xx28<-Z5 Xx26 Xx27
    Wd self1 Xx7 (!Xx28)
    )
   ) (do
   M.pure true
   )
def Wr (x0:Sl) (x1:Sl):M (Bool):=do
 M.ite ((x0.len:Int) !=(x1.len:Int)) (do
  M.pure false
  ) (do
  M.loop (Xb x0 x1) 0
  )
theorem KFY (x0:Sl) (x1:Sl):KY Tryz.prog 68 #[(x0:Sl).v,(x1:Sl).v] (λ(r:Bool)=>.bool r) (Wr x0 x1):=
 KG [Gz] [] [.B] [(0,.L x0),(1,.L x1)] (.q .o (.q .o (.q (.q .o (.b (.l [(0,.L),(1,.L)] [(5,.I .i64)] (λ(t:Sl×Sl)=>Xb t.1 t.2) (λself1=>.q .o (.q (.b (.q (.r [0,0,3,4,8,0,0,96,128,256,528,1024,2048,2048,14336,18432,34816,2048,2048,395264,526336,1050624,2164736,4196352,8390656] [0,0,3,4,8,0,0,96,128,256,528,1024,2048,2048,14336,18432,34816,2048,2048,395264,526336,1050624,2164736,4196352,8390656] [0,0,3,7,15,0,0,96,224,480,1023,2047,4095,4095,16383,32767,65535,4095,4095,397311,921599,1970175,4194303,8388607,16777215] (.pu 0 (.pu 1 (.pu 2 (.pu 3 (.pu 5 (.pu 6 (.pu 7 (.pu 8 (.pu 4 (.pu 9 (.pu 10 (.pu 11 (.g 11 (.of 12 (.of 13 (.of 14 (.of 15 (.of 16 (.of 17 (.of 18 (.of 19 (.of 20 (.of 21 (.of 22 (.of 23 (.pu 24 (.st [10,11,12,13,14,15,16,17,18,19,20,21,22,23,24] .dn)))))))))))))) (.pu 12 (.pu 13 (.pu 14 (.pu 15 (.pu 17 (.pu 18 (.pu 19 (.pu 20 (.pu 16 (.pu 21 (.st [22,23,24] (.on 22 (.pu 23 (.pu 24 (.nx .dn))))))))))))))))))))))))))))) (.j [(0,.L),(1,.L),(5,.I .i64),(41,.B)] (λ(t:Sl×Sl×Int×Bool)=>Wd self1 t.2.2.1 t.2.2.2) .o))) .o))))) .o))) Tryz.func68 rfl rfl ⟨rfl,rfl,trivial⟩ rfl (by kernel_rfl) (by kernel_rfl)
noncomputable def KFZ:CalleeS Tryz.prog:=mkC KDN KDg [.L,.L] [.B] (λ(t:Sl×Sl)=>Wr t.1 t.2) (λ(t:Sl×Sl)=>KFY t.1 t.2)
def Uq (self1:(Int)->M (Bool)) (Cc92:Int) (Cc93:Addr) (Cc94:Addr) (self4:(Int)->M (Bool)):(Int)->M (Bool):=λs=>match s with
 |Xx89=>do
  let Xx98<-ldL ((Cc93).add 5)
  M.ite (decide (Xx89<(Xx98.len:Int))) (do
   let Xx101<-ldL ((Cc93).add 5)
   let Xx102<-ixL Xx101 Xx89 1
   let Xx103<-ldL Xx102
   let Xx104<-ldL ((Cc94).add 5)
   let Xx105<-ixL Xx104 Xx89 1
   let Xx106<-ldL Xx105
   let Xx107<-W5 Tryz.prog WX #[(Xx103:Sl).v,(Xx106:Sl).v] (λr:Bool=>.bool r)
   M.ite (!Xx107) (do
    M.pure false
    ) (do
    self4 (IntKind.wrap .i64 (Xx89+1))
    )
   ) (do
   self1 (IntKind.wrap .i64 (Cc92+1))
   )
def Ur (self1:(Int)->M (Bool)) (Cc72:Int) (Cc73:Addr) (Cc74:Addr) (self3:(Int)->M (Bool)):(Int)->M (Bool):=λs=>match s with
 |Xx69=>do
  let Xx78<-ldL ((Cc73).add 2)
  M.ite (decide (Xx69<(Xx78.len:Int))) (do
   let Xx81<-ldL ((Cc73).add 2)
   let Xx82<-ixL Xx81 Xx69 1
   let Xx83<-ldI .i64 Xx82
   let Xx84<-ldL ((Cc74).add 2)
   let Xx85<-ixL Xx84 Xx69 1
   let Xx86<-ldI .i64 Xx85
   M.ite (Xx83 !=Xx86) (do
    M.pure false
    ) (do
    self3 (IntKind.wrap .i64 (Xx69+1))
    )
   ) (do
   M.loop (Uq self1 Cc72 Cc73 Cc74) 0
   )
def Jg (self1:(Int)->M (Bool)) (Cc51:Int) (Cc52:Addr) (Cc53:Addr) (self2:(Int)->M (Bool)):(Int)->M (Bool):=λs=>match s with
 |Xx48=>do
  let Xx57<-ldL ((Cc52).add 1)
  M.ite (decide (Xx48<(Xx57.len:Int))) (do
   let Xx60<-ldL ((Cc52).add 1)
   let Xx61<-ixL Xx60 Xx48 1
   let Xx62<-ldS Xx61
   let Xx63<-ldL ((Cc53).add 1)
   let Xx64<-ixL Xx63 Xx48 1
   let Xx65<-ldS Xx64
   M.ite (!(sEq Xx62 Xx65)) (do
    M.pure false
    ) (do
    self2 (IntKind.wrap .i64 (Xx48+1))
    )
   ) (do
   M.loop (Ur self1 Cc51 Cc52 Cc53) 0
   )
def Xc (Cc8:Sl) (Cc9:Sl) (self1:(Int)->M (Bool)):(Int)->M (Bool):=λs=>match s with
 |Xx7=>do
  M.ite (decide (Xx7<(Cc8.len:Int))) (do
   let Xx15<-ixL Cc8 Xx7 6
   let Xx16<-ldG 6 Xx15
   let Xx17<-mkB KU (#[.int .i64 0,.slice none 0 0,.slice none 0 0,.slice none 0 0,.slice none 0 0,.slice none 0 0]:Ea)
   M.need (Xx16.size=6)
   stG Xx17 Xx16
   let Xx20<-ixL Cc9 Xx7 6
   let Xx21<-ldG 6 Xx20
   let Xx22<-mkB KU (#[.int .i64 0,.slice none 0 0,.slice none 0 0,.slice none 0 0,.slice none 0 0,.slice none 0 0]:Ea)
   M.need (Xx21.size=6)
   stG Xx22 Xx21
   let Xx26<-ldI .i64 ((Xx17).add 0)
   let Xx27<-ldI .i64 ((Xx22).add 0)
   let Xx28<-M.ite (Xx26 !=Xx27) (do
    M.pure true
    ) (do
    let Xx29<-ldL ((Xx17).add 1)
    let Xx30<-ldL ((Xx22).add 1)
    M.pure ((Xx29.len:Int) !=(Xx30.len:Int))
    )
   let Xx31<-M.ite Xx28 (do
    M.pure true
    ) (do
    let Xx32<-ldL ((Xx17).add 2)
    let Xx33<-ldL ((Xx22).add 2)
    M.pure ((Xx32.len:Int) !=(Xx33.len:Int))
    )
   let Xx34<-M.ite Xx31 (do
    M.pure true
    ) (do
    let Xx35<-ldL ((Xx17).add 3)
    let Xx36<-ldL ((Xx22).add 3)
    let Xx37<-Wr Xx35 Xx36
    M.pure (!Xx37)
    )
   let Xx38<-M.ite Xx34 (do
    M.pure true
    ) (do
    let Xx39<-ldL ((Xx17).add 4)
    let Xx40<-ldL ((Xx22).add 4)
    let Xx41<-Z5 Xx39 Xx40
    M.pure (!Xx41)
    )
   let Xx42<-M.ite Xx38 (do
    M.pure true
    ) (do
    let Xx43<-ldL ((Xx17).add 5)
    let Xx44<-ldL ((Xx22).add 5)
    M.pure ((Xx43.len:Int) !=(Xx44.len:Int))
    )
   M.ite Xx42 (do
    M.pure false
    ) (do
    M.loop (Jg self1 Xx7 Xx17 Xx22) 0
    )
   ) (do
   M.pure true
   )
def Ws (x0:Sl) (x1:Sl):M (Bool):=do
 M.ite ((x0.len:Int) !=(x1.len:Int)) (do
  M.pure false
  ) (do
  M.loop (Xc x0 x1) 0
  )
theorem zO (x0:Sl) (x1:Sl):KY Tryz.prog 32 #[(x0:Sl).v,(x1:Sl).v] (λ(r:Bool)=>.bool r) (Ws x0 x1):=
 KG [mkC WX qJ [.L,.L] [.B] (λ(t:Sl×Sl)=>W5 Tryz.prog WX #[(t.1:Sl).v,(t.2:Sl).v] (λr:Bool=>.bool r)) (λ(t:Sl×Sl)=>Z3),KFZ,Gz] [] [.B] [(0,.L x0),(1,.L x1)] (.q .o (.q .o (.q (.q .o (.b (.l [(0,.L),(1,.L)] [(5,.I .i64)] (λ(t:Sl×Sl)=>Xc t.1 t.2) (λself1=>.q .o (.q (.b (.q .o (.q .o (.q .o (.q (.q .o (.b (.l [(0,.L),(1,.L),(5,.I .i64),(6,.A),(7,.A)] [(8,.I .i64)] (λ(t:Sl×Sl×Int×Addr×Addr)=>Jg self1 t.2.2.1 t.2.2.2.1 t.2.2.2.2) (λ_=>.q .o (.q (.b (.q (.r [0,1,0,6,8,0,32,0,192,256,528] [0,1,0,6,8,0,32,0,192,256,528] [0,1,0,7,15,0,32,0,224,480,1023] (.pu 0 (.pu 2 (.pu 5 (.pu 7 (.pu 1 (.pu 3 (.pu 4 (.pu 6 (.pu 8 (.pu 9 (.pu 10 (.st [10] .dn))))))))))))) .o)) .o))))) (.q (.q .o (.b (.l [(0,.L),(1,.L),(5,.I .i64),(6,.A),(7,.A)] [(9,.I .i64)] (λ(t:Sl×Sl×Int×Addr×Addr)=>Ur self1 t.2.2.1 t.2.2.2.1 t.2.2.2.2) (λ_=>.q .o (.q (.b (.q (.r [0,1,0,6,8,0,32,0,192,256,528] [0,1,0,6,8,0,32,0,192,256,528] [0,1,0,7,15,0,32,0,224,480,1023] (.pu 0 (.pu 2 (.pu 5 (.pu 7 (.pu 1 (.pu 3 (.pu 4 (.pu 6 (.pu 8 (.pu 9 (.pu 10 (.st [10] .dn))))))))))))) .o)) .o))))) (.q .o (.b (.l [(0,.L),(1,.L),(5,.I .i64),(6,.A),(7,.A)] [(10,.I .i64)] (λ(t:Sl×Sl×Int×Addr×Addr)=>Uq self1 t.2.2.1 t.2.2.2.1 t.2.2.2.2) (λ_=>.q .o (.q (.b (.q (.r [0,1,0,6,8,0,32,0,192,256,528,1024] [0,1,0,6,8,0,32,0,192,256,528,1024] [0,1,0,7,15,0,32,0,224,480,1023,2047] (.pu 0 (.pu 2 (.pu 5 (.pu 7 (.pu 1 (.pu 3 (.pu 4 (.pu 6 (.pu 8 (.pu 9 (.st [10,11] (.on 10 (.pu 11 (.nx .dn))))))))))))))) .o)) .o))))))))))) .o))))) .o))) Tryz.func32 rfl rfl ⟨rfl,rfl,trivial⟩ rfl (by kernel_rfl) (by kernel_rfl)
noncomputable def KFa:CalleeS Tryz.prog:=mkC WX qJ [.L,.L] [.B] (λ(t:Sl×Sl)=>Ws t.1 t.2) (λ(t:Sl×Sl)=>zO t.1 t.2)
def Zs (self1:(ByteArray×Int)->M (Bool)) (Cc41:Int) (Xx34:ByteArray):M (Bool):=do
 self1 (Xx34,IntKind.wrap .i64 (Cc41+1))
def Zt (self1:(ByteArray×Int)->M (Bool)) (Cc50:Sl) (Cc51:ByteArray) (Cc53:ByteArray) (Cc54:Int) (Cc55:Addr) (Cc58:Int) (Xx48:Int):M (Bool):=do
 let Xx60<-ldI .i64 ((Cc55).add 3)
 let Xx61<-slS Cc51 Xx60 Xx48
 let Xx62<-sCat Cc53 Xx61
 M.ite (decide (Cc54<(Cc50.len:Int))) (do
  let Xx64<-ixL Cc50 Cc54 1
  let Xx65<-ldI .u8 Xx64
  let Xx66<-slS (⟨#[32,10,32]⟩:ByteArray) 0 (Int.tmod Xx65 4)
  let Xx67<-sCat Xx62 Xx66
  Zs self1 Cc58 Xx67
  ) (do
  Zs self1 Cc58 Xx62
  )
def U1 (Cc25:Sl) (Cc26:Sl) (Cc27:ByteArray) (Cc28:Sl) (Cc29:Sl) (Cc30:Int) (self1:(ByteArray×Int)->M (Bool)):(ByteArray×Int)->M (Bool):=λs=>match s with
 |(Xx23,Xx24)=>do
  M.ite (decide (Xx24<Cc30)) (do
   let Xx43<-ixL Cc29 Xx24 4
   let Xx44<-ldG 4 Xx43
   let Xx45<-mkB KL (#[.int .i64 0,.string ByteArray.empty,.int .i64 0,.int .i64 0]:Ea)
   M.need (Xx44.size=4)
   stG Xx45 Xx44
   M.ite (decide ((IntKind.wrap .i64 (Xx24+1))<(Cc28.len:Int))) (do
    let Xx69<-ixL Cc28 (IntKind.wrap .i64 (Xx24+1)) 4
    let Xx70<-ldI .i64 ((Xx69).add 3)
    Zt self1 Cc26 Cc27 Xx23 Xx24 Xx45 Xx24 Xx70
    ) (do
    Zt self1 Cc26 Cc27 Xx23 Xx24 Xx45 Xx24 (Cc27.size:Int)
    )
   ) (do
   let Xx72<-XZ Xx23
   let Xx74<-M.ite (Xx72.2.2==0) (do
    M.pure (Xx72.2.1==(Xx23.size:Int))
    ) (do
    M.pure false
    )
   let Xx75<-M.ite Xx74 (do
    let Xx76<-Ws Xx72.1 Cc25
    M.pure Xx76
    ) (do
    M.pure false
    )
   M.pure Xx75
   )
def We (x0:Sl) (x1:Sl):M (Bool):=do
 let Xx4<-YS x0 1
 M.ite (!Xx4) (do
  M.pure true
  ) (do
  let Xx7<-WG x0
  let Xx10<-Uf
  let Xx11<-M.ite (!Xx10) (do
   M.pure true
   ) (do
   M.pure (Xx7.2 !=0)
   )
  let Xx12<-M.ite Xx11 (do
   M.pure true
   ) (do
   M.pure (decide ((Xx7.1.size:Int)>4096))
   )
  M.ite Xx12 (do
   let Xx14<-Uf
   M.pure Xx14
   ) (do
   let Xx16<-YQ Xx7.1
   M.ite (Xx16.2.2 !=0) (do
    M.pure true
    ) (do
    M.loop (U1 x0 x1 Xx7.1 Xx16.1 Xx16.1 (Xx16.1.len:Int)) (ByteArray.empty,0)
    )
   )
  )
theorem zX (x0:Sl) (x1:Sl):KY Tryz.prog 8 #[(x0:Sl).v,(x1:Sl).v] (λ(r:Bool)=>.bool r) (We x0 x1):=
 KG [KGP,KGQ,KD9,KEB,KFT,KFa] [] [.B] [(0,.L x0),(1,.L x1)] (.q .o (.q .o (.q .o (.q .o (.q .o (.q .o (.q .o (.q (.q .o (.b (.l [(0,.L),(1,.L),(5,.S),(7,.L),(43,.L),(44,.I .i64)] [(9,.S),(45,.I .i64)] (λ(t:Sl×Sl×ByteArray×Sl×Sl×Int)=>U1 t.1 t.2.1 t.2.2.1 t.2.2.2.1 t.2.2.2.2.1 t.2.2.2.2.2) (λself1=>.q .o (.q .o (.q (.b (.q .o (.q .o (.q .o (.j [(0,.L),(1,.L),(5,.S),(7,.L),(9,.S),(10,.I .i64),(11,.A),(43,.L),(44,.I .i64),(45,.I .i64),(12,.I .i64)] (λ(t:Sl×Sl×ByteArray×Sl×ByteArray×Int×Addr×Sl×Int×Int×Int)=>Zt self1 t.2.1 t.2.2.1 t.2.2.2.2.1 t.2.2.2.2.2.1 t.2.2.2.2.2.2.1 t.2.2.2.2.2.2.2.2.2.1 t.2.2.2.2.2.2.2.2.2.2) .o))))) (.j [(0,.L),(1,.L),(5,.S),(7,.L),(43,.L),(44,.I .i64),(45,.I .i64),(9,.S)] (λ(t:Sl×Sl×ByteArray×Sl×Sl×Int×Int×ByteArray)=>Zs self1 t.2.2.2.2.2.2.1 t.2.2.2.2.2.2.2) .o))))))) .o)))))))) Tryz.func8 rfl rfl ⟨rfl,rfl,trivial⟩ rfl (by kernel_rfl) (by kernel_rfl)
def ZJ (x0:Int) (x1:Int):M (Value⊕(Unit)):=do
 M.pure (.inl (Value.iface XB (.agg (#[.int .i64 x0,.int .i64 x1]:Ea))))
theorem VP (x0:Int) (x1:Int):Jx Tryz.prog 105 #[.int .i64 x0,.int .i64 x1] (λ(r:Unit)=>.tuple #[]) (ZJ x0 x1):=by
 refine KHl [(0,.int .i64 x0),(1,.int .i64 x1)] Tryz.func105 rfl rfl (Fc rfl) (KAH ⟨rfl,rfl,trivial⟩) (λw0 w Q R X a hret hthr hE hR H=>?_)
 unfold ZJ at H
 refine JE ?_
 refine VD (v:=.int .i64 x0) rfl rfl hE rfl (VC hE rfl) (λa hE=>?_)
 refine VD (v:=.int .i64 x1) rfl rfl hE rfl (VC hE rfl) (λa hE=>?_)
 refine VD (v:=.agg (#[.int .i64 x0,.int .i64 x1]:Ea)) rfl rfl hE rfl (KAy hE rfl KYr KaD (by rfl)) (λa hE=>?_)
 refine VD (v:=(Value.iface XB (.agg (#[.int .i64 x0,.int .i64 x1]:Ea)))) rfl rfl hE rfl (KHx hE rfl KaB) (λa hE=>?_)
 exact KRQ hE rfl (hthr _ _ hR H)
def ZE (x0:Option Addr):M (Int):=do
 let Xx4<-nilP x0
 let Xx5<-ldL ((Xx4).add 0)
 M.ite (decide ((Xx5.len:Int)>0)) (do
  let Xx7<-nilP x0
  let Xx8<-ldL ((Xx7).add 0)
  let Xx9<-ixL Xx8 0 4
  let Xx10<-ldI .i64 ((Xx9).add 3)
  M.pure Xx10
  ) (do
  let Xx12<-nilP x0
  let Xx13<-ldI .i64 ((Xx12).add 1)
  M.pure Xx13
  )
theorem qV (x0:Option Addr):KY Tryz.prog 106 #[.pointer x0] (λ(r:Int)=>.int .i64 r) (ZE x0):=
 KG [] [0,3,9,16] [.I .i64] [(0,.P x0)] .o Tryz.func106 rfl rfl ⟨rfl,trivial⟩ rfl (by kernel_rfl) (by kernel_rfl)
noncomputable def Zl:CalleeS Tryz.prog:=mkC KBw Nc [.P] [.I .i64] (λ(t:Option Addr)=>ZE t) (λ(t:Option Addr)=>qV t)
def ZG (x0:Option Addr) (x1:Int) (x2:ByteArray):M (Bool):=do
 let Xx3<-nilP x0
 let Xx4<-ldL ((Xx3).add 0)
 let Xx5<-M.ite (decide ((Xx4.len:Int)>0)) (do
  let Xx6<-nilP x0
  let Xx7<-ldL ((Xx6).add 0)
  let Xx8<-ixL Xx7 0 4
  let Xx9<-ldI .i64 ((Xx8).add 0)
  M.pure (Xx9==x1)
  ) (do
  M.pure false
  )
 let Xx10<-M.ite Xx5 (do
  let Xx11<-nilP x0
  let Xx12<-ldL ((Xx11).add 0)
  let Xx13<-ixL Xx12 0 4
  let Xx14<-ldS ((Xx13).add 1)
  M.pure (sEq Xx14 x2)
  ) (do
  M.pure false
  )
 M.pure Xx10
theorem KGR (x0:Option Addr) (x1:Int) (x2:ByteArray):KY Tryz.prog 107 #[.pointer x0,.int .i64 x1,.string x2] (λ(r:Bool)=>.bool r) (ZG x0 x1 x2):=
 KG [] [0,7,14,25] [.B] [(0,.P x0),(1,.I .i64 x1),(2,.S x2)] .o Tryz.func107 rfl rfl ⟨rfl,rfl,rfl,trivial⟩ rfl (by kernel_rfl) (by kernel_rfl)
noncomputable def Ug:CalleeS Tryz.prog:=mkC KEl KEy [.P,.I .i64,.S] [.B] (λ(t:Option Addr×Int×ByteArray)=>ZG t.1 t.2.1 t.2.2) (λ(t:Option Addr×Int×ByteArray)=>KGR t.1 t.2.1 t.2.2)
def Vm (Cc1:Option Addr):M (Value⊕(Unit)):=do
 let Xx2<-nilP Cc1
 let Xx3<-ldL ((Xx2).add 0)
 let Xx4<-slL Xx3 1 Xx3.len 4
 let Xx5<-nilP Cc1
 stV ((Xx5).add 0) ((Xx4:Sl).v)
 M.pure (.inr ())
def Jh (x0:Option Addr) (x1:Int) (x2:ByteArray):M (Value⊕(Unit)):=do
 let Xx8<-ZG x0 x1 x2
 M.ite (!Xx8) (do
  let Xx9<-ZE x0
  thr (ZJ Xx9 160) λXx10=>do
   Vm x0
  ) (do
  Vm x0
  )
theorem qW (x0:Option Addr) (x1:Int) (x2:ByteArray):Jx Tryz.prog 65 #[.pointer x0,.int .i64 x1,.string x2] (λ(r:Unit)=>.tuple #[]) (Jh x0 x1 x2):=
 Zp [Zl,Ug] [mkX VE UU [.I .i64,.I .i64] [] (λ(t:Int×Int)=>ZJ t.1 t.2) (λ(t:Int×Int)=>VP t.1 t.2)] [0,6,11,14,15] [] [(0,.P x0),(1,.I .i64 x1),(2,.S x2)] (.q (.q .o (.q (.x [2]) .o)) (.j [(0,.P)] (λ(t:Option Addr)=>Vm t) .o)) Tryz.func65 rfl rfl ⟨rfl,rfl,rfl,trivial⟩ rfl (by kernel_rfl) (by kernel_rfl)
def KQ (x0:Option Addr) (x1:ByteArray):M (Value⊕(Unit)):=do
 thr (Jh x0 4 x1) λXx1=>do
  M.pure (.inr ())
theorem Zm (x0:Option Addr) (x1:ByteArray):Jx Tryz.prog 66 #[.pointer x0,.string x1] (λ(r:Unit)=>.tuple #[]) (KQ x0 x1):=
 Zp [] [mkX Nb Ng [.P,.I .i64,.S] [] (λ(t:Option Addr×Int×ByteArray)=>Jh t.1 t.2.1 t.2.2) (λ(t:Option Addr×Int×ByteArray)=>qW t.1 t.2.1 t.2.2)] [0,4] [] [(0,.P x0),(1,.S x1)] (.x [2]) Tryz.func66 rfl rfl ⟨rfl,rfl,trivial⟩ rfl (by kernel_rfl) (by kernel_rfl)
def Ji (Cc5:Sl) (Cc6:ByteArray) (Cc7:Int) (self1:(Int)->M (Int)):(Int)->M (Int):=λs=>match s with
 |Xx4=>do
  M.ite (decide (Xx4<Cc7)) (do
   let Xx14<-ixL Cc5 Xx4 1
   let Xx15<-ldS Xx14
   M.ite (sEq Cc6 Xx15) (do
    M.pure Xx4
    ) (do
    self1 (IntKind.wrap .i64 (Xx4+1))
    )
   ) (do
   M.pure (-1)
   )
def Zh (x0:Sl) (x1:ByteArray):M (Int):=do
 M.loop (Ji x0 x1 (x0.len:Int)) 0
theorem G8 (x0:Sl) (x1:ByteArray):KY Tryz.prog 195 #[(x0:Sl).v,.string x1] (λ(r:Int)=>.int .i64 r) (Zh x0 x1):=
 KG [] [] [.I .i64] [(0,.L x0),(1,.S x1)] (.q .o (.q (.q .o (.b (.l [(0,.L),(1,.S),(7,.I .i64)] [(8,.I .i64)] (λ(t:Sl×ByteArray×Int)=>Ji t.1 t.2.1 t.2.2) (λ_=>.o)))) .o)) Tryz.func195 rfl rfl ⟨rfl,rfl,trivial⟩ rfl (by kernel_rfl) (by kernel_rfl)
noncomputable def G9:CalleeS Tryz.prog:=mkC GT GV [.L,.S] [.I .i64] (λ(t:Sl×ByteArray)=>Zh t.1 t.2) (λ(t:Sl×ByteArray)=>G8 t.1 t.2)
def GX (x0:ByteArray) (x1:ByteArray):M (Int):=do
 let Xx3<-YY x0 (⟨#[32]⟩:ByteArray)
 let Xx4<-Zh Xx3 x1
 M.pure (IntKind.wrap .i64 (Xx4+1))
theorem KK1 (x0:ByteArray) (x1:ByteArray):KY Tryz.prog 143 #[.string x0,.string x1] (λ(r:Int)=>.int .i64 r) (GX x0 x1):=
 KG [KBP,G9] [] [.I .i64] [(0,.S x0),(1,.S x1)] .o Tryz.func143 rfl rfl ⟨rfl,rfl,trivial⟩ rfl (by kernel_rfl) (by kernel_rfl)
noncomputable def KFb:CalleeS Tryz.prog:=mkC KJJ KJQ [.S,.S] [.I .i64] (λ(t:ByteArray×ByteArray)=>GX t.1 t.2) (λ(t:ByteArray×ByteArray)=>KK1 t.1 t.2)
def Vn (Cc3:Option Addr) (Cc4:Addr):M (Value⊕(Ea)):=do
 let Xx6<-nilP Cc3
 let Xx7<-ldL ((Xx6).add 0)
 let Xx8<-ixL Xx7 0 4
 let Xx9<-ldG 4 Xx8
 let Xx10<-mkB KL (#[.int .i64 0,.string ByteArray.empty,.int .i64 0,.int .i64 0]:Ea)
 M.need (Xx9.size=4)
 stG Xx10 Xx9
 let Xx13<-nilP Cc3
 let Xx14<-ldL ((Xx13).add 0)
 let Xx15<-slL Xx14 1 Xx14.len 4
 let Xx16<-nilP Cc3
 stV ((Xx16).add 0) ((Xx15:Sl).v)
 let Xx19<-ldG 4 Xx10
 M.need (Xx19.size=4)
 stG Cc4 Xx19
 let Rr21<-ldG 4 Cc4
 M.pure (.inr Rr21)
def Ka (x0:Option Addr) (x1:Int):M (Value⊕(Ea)):=do
 let Xx2<-mkB KL (#[.int .i64 0,.string ByteArray.empty,.int .i64 0,.int .i64 0]:Ea)
 let Xx23<-nilP x0
 let Xx24<-ldL ((Xx23).add 0)
 let Xx25<-M.ite ((Xx24.len:Int)==0) (do
  M.pure true
  ) (do
  let Xx26<-nilP x0
  let Xx27<-ldL ((Xx26).add 0)
  let Xx28<-ixL Xx27 0 4
  let Xx29<-ldI .i64 ((Xx28).add 0)
  M.pure (Xx29 !=x1)
  )
 M.ite Xx25 (do
  let Xx30<-ZE x0
  thr (ZJ Xx30 160) λXx31=>do
   Vn x0 Xx2
  ) (do
  Vn x0 Xx2
  )
theorem Us (x0:Option Addr) (x1:Int):Jx Tryz.prog 144 #[.pointer x0,.int .i64 x1] (λ(r:Ea)=>.agg r) (Ka x0 x1):=
 Zp [Zl] [mkX VE UU [.I .i64,.I .i64] [] (λ(t:Int×Int)=>ZJ t.1 t.2) (λ(t:Int×Int)=>VP t.1 t.2)] [0,6,13,23,26,32,33] [.G] [(0,.P x0),(1,.I .i64 x1)] (.q .o (.q (.q .o (.q (.x [2]) .o)) (.j [(0,.P),(4,.A)] (λ(t:Option Addr×Addr)=>Vn t.1 t.2) .o))) Tryz.func144 rfl rfl ⟨rfl,rfl,trivial⟩ rfl (by kernel_rfl) (by kernel_rfl)
def WH (x0:Int):M (Ea):=do
 let Xx2<-mkB ZA (#[.int .i64 0,.int .i64 0]:Ea)
 M.need ((#[.int .i64 x0,.int .i64 32]:Ea).size=2)
 stG Xx2 (#[.int .i64 x0,.int .i64 32]:Ea)
 let Rr5<-ldG 2 Xx2
 M.pure Rr5
theorem KMX (x0:Int):KY Tryz.prog 196 #[.int .i64 x0] (λ(r:Ea)=>.agg r) (WH x0):=
 KG [] [] [.G] [(0,.I .i64 x0)] .o Tryz.func196 rfl rfl ⟨rfl,trivial⟩ rfl (by kernel_rfl) (by kernel_rfl)
noncomputable def KGx:CalleeS Tryz.prog:=mkC KKe KKo [.I .i64] [.G] (λ(t:Int)=>WH t) (λ(t:Int)=>KMX t)
def Zb (x0:Int):M (Ea):=do
 let Xx2<-mkB ZA (#[.int .i64 0,.int .i64 0]:Ea)
 M.need ((#[.int .i64 x0,.int .i64 x0]:Ea).size=2)
 stG Xx2 (#[.int .i64 x0,.int .i64 x0]:Ea)
 let Rr5<-ldG 2 Xx2
 M.pure Rr5
theorem KMY (x0:Int):KY Tryz.prog 197 #[.int .i64 x0] (λ(r:Ea)=>.agg r) (Zb x0):=
 KG [] [] [.G] [(0,.I .i64 x0)] .o Tryz.func197 rfl rfl ⟨rfl,trivial⟩ rfl (by kernel_rfl) (by kernel_rfl)
noncomputable def KGy:CalleeS Tryz.prog:=mkC KKf KKp [.I .i64] [.G] (λ(t:Int)=>Zb t) (λ(t:Int)=>KMY t)
def NU (Cc110:Addr) (Cc111:Int) (Xx109:Bool):M (Ea):=do
 M.ite Xx109 (do
  let Xx113<-Zb 1
  let Xx114<-Zb 1
  let Xx115<-qD [(0,2),(2,2),(4,2),(6,2),(8,2)] (Array.replicate 10 (.int .i64 0):Ea) [(1,.agg Xx113),(4,.agg Xx114)]
  M.need (Xx115.size=10)
  stG Cc110 Xx115
  let Rr117<-ldG 10 Cc110
  M.pure Rr117
  ) (do
  M.ite (Cc111==55) (do
   let Xx120<-Zb 2
   let Xx121<-qD [(0,2),(2,2),(4,2),(6,2),(8,2)] (Array.replicate 10 (.int .i64 0):Ea) [(4,.agg Xx120)]
   M.need (Xx121.size=10)
   stG Cc110 Xx121
   let Rr123<-ldG 10 Cc110
   M.pure Rr123
   ) (do
   M.ite (Cc111==57) (do
    let Xx126<-Zb 3
    let Xx127<-qD [(0,2),(2,2),(4,2),(6,2),(8,2)] (Array.replicate 10 (.int .i64 0):Ea) [(0,.agg Xx126)]
    M.need (Xx127.size=10)
    stG Cc110 Xx127
    let Rr129<-ldG 10 Cc110
    M.pure Rr129
    ) (do
    M.ite (Cc111==58) (do
     let Xx132<-Zb 1
     let Xx133<-Zb 1
     let Xx134<-qD [(0,2),(2,2),(4,2),(6,2),(8,2)] (Array.replicate 10 (.int .i64 0):Ea) [(0,.agg Xx132),(3,.agg Xx133)]
     M.need (Xx134.size=10)
     stG Cc110 Xx134
     let Rr136<-ldG 10 Cc110
     M.pure Rr136
     ) (do
     M.need ((Array.replicate 10 (.int .i64 0):Ea).size=10)
     stG Cc110 (Array.replicate 10 (.int .i64 0):Ea)
     let Rr139<-ldG 10 Cc110
     M.pure Rr139
     )
    )
   )
  )
def XN (Cc90:Addr) (Cc91:Int) (Xx89:Bool):M (Ea):=do
 M.ite Xx89 (do
  let Xx93<-Zb 1
  let Xx94<-qD [(0,2),(2,2),(4,2),(6,2),(8,2)] (Array.replicate 10 (.int .i64 0):Ea) [(1,.agg Xx93)]
  M.need (Xx94.size=10)
  stG Cc90 Xx94
  let Rr96<-ldG 10 Cc90
  M.pure Rr96
  ) (do
  M.ite (Cc91==28) (do
   let Xx99<-Zb 2
   let Xx100<-qD [(0,2),(2,2),(4,2),(6,2),(8,2)] (Array.replicate 10 (.int .i64 0):Ea) [(1,.agg Xx99)]
   M.need (Xx100.size=10)
   stG Cc90 Xx100
   let Rr102<-ldG 10 Cc90
   M.pure Rr102
   ) (do
   M.ite (Cc91==34) (do
    let Xx105<-Zb 1
    let Xx106<-qD [(0,2),(2,2),(4,2),(6,2),(8,2)] (Array.replicate 10 (.int .i64 0):Ea) [(3,.agg Xx105)]
    M.need (Xx106.size=10)
    stG Cc90 Xx106
    let Rr108<-ldG 10 Cc90
    M.pure Rr108
    ) (do
    M.ite (Cc91==54) (do
     NU Cc90 Cc91 (Cc91==54)
     ) (do
     NU Cc90 Cc91 (Cc91==56)
     )
    )
   )
  )
def Wt (Cc76:Addr) (Cc77:Int) (Xx75:Bool):M (Ea):=do
 M.ite Xx75 (do
  let Xx79<-WH 1
  let Xx80<-qD [(0,2),(2,2),(4,2),(6,2),(8,2)] (Array.replicate 10 (.int .i64 0):Ea) [(4,.agg Xx79)]
  M.need (Xx80.size=10)
  stG Cc76 Xx80
  let Rr82<-ldG 10 Cc76
  M.pure Rr82
  ) (do
  M.ite (Cc77==53) (do
   let Xx85<-Zb 3
   let Xx86<-qD [(0,2),(2,2),(4,2),(6,2),(8,2)] (Array.replicate 10 (.int .i64 0):Ea) [(4,.agg Xx85)]
   M.need (Xx86.size=10)
   stG Cc76 Xx86
   let Rr88<-ldG 10 Cc76
   M.pure Rr88
   ) (do
   M.ite (Cc77==26) (do
    XN Cc76 Cc77 (Cc77==26)
    ) (do
    M.ite (Cc77==27) (do
     XN Cc76 Cc77 (Cc77==27)
     ) (do
     XN Cc76 Cc77 (Cc77==29)
     )
    )
   )
  )
def XO (Cc68:Addr) (Cc69:Int) (Xx67:Bool):M (Ea):=do
 M.ite Xx67 (do
  let Xx71<-Zb 1
  let Xx72<-qD [(0,2),(2,2),(4,2),(6,2),(8,2)] (Array.replicate 10 (.int .i64 0):Ea) [(4,.agg Xx71)]
  M.need (Xx72.size=10)
  stG Cc68 Xx72
  let Rr74<-ldG 10 Cc68
  M.pure Rr74
  ) (do
  M.ite (Cc69==22) (do
   Wt Cc68 Cc69 (Cc69==22)
   ) (do
   M.ite (Cc69==23) (do
    Wt Cc68 Cc69 (Cc69==23)
    ) (do
    M.ite (Cc69==50) (do
     Wt Cc68 Cc69 (Cc69==50)
     ) (do
     Wt Cc68 Cc69 (Cc69==51)
     )
    )
   )
  )
def NV (Cc36:Addr) (Cc37:Int) (Xx35:Bool):M (Ea):=do
 M.ite Xx35 (do
  let Xx39<-WH 1
  let Xx40<-qD [(0,2),(2,2),(4,2),(6,2),(8,2)] (Array.replicate 10 (.int .i64 0):Ea) [(0,.agg Xx39)]
  M.need (Xx40.size=10)
  stG Cc36 Xx40
  let Rr42<-ldG 10 Cc36
  M.pure Rr42
  ) (do
  M.ite (Cc37==48) (do
   let Xx45<-qD [(0,2),(2,2),(4,2),(6,2),(8,2)] (Array.replicate 10 (.int .i64 0):Ea) [(0,.agg (#[.int .i64 0,.int .i64 1]:Ea))]
   M.need (Xx45.size=10)
   stG Cc36 Xx45
   let Rr47<-ldG 10 Cc36
   M.pure Rr47
   ) (do
   M.ite (Cc37==14) (do
    let Xx50<-Zb 1
    let Xx51<-Zb 1
    let Xx52<-qD [(0,2),(2,2),(4,2),(6,2),(8,2)] (Array.replicate 10 (.int .i64 0):Ea) [(0,.agg Xx50),(2,.agg Xx51)]
    M.need (Xx52.size=10)
    stG Cc36 Xx52
    let Rr54<-ldG 10 Cc36
    M.pure Rr54
    ) (do
    M.ite (Cc37==18) (do
     let Xx57<-WH 1
     let Xx58<-qD [(0,2),(2,2),(4,2),(6,2),(8,2)] (Array.replicate 10 (.int .i64 0):Ea) [(1,.agg Xx57)]
     M.need (Xx58.size=10)
     stG Cc36 Xx58
     let Rr60<-ldG 10 Cc36
     M.pure Rr60
     ) (do
     M.ite (Cc37==19) (do
      let Xx63<-Zb 1
      let Xx64<-qD [(0,2),(2,2),(4,2),(6,2),(8,2)] (Array.replicate 10 (.int .i64 0):Ea) [(2,.agg Xx63)]
      M.need (Xx64.size=10)
      stG Cc36 Xx64
      let Rr66<-ldG 10 Cc36
      M.pure Rr66
      ) (do
      M.ite (Cc37==20) (do
       XO Cc36 Cc37 (Cc37==20)
       ) (do
       M.ite (Cc37==21) (do
        XO Cc36 Cc37 (Cc37==21)
        ) (do
        XO Cc36 Cc37 (Cc37==52)
        )
       )
      )
     )
    )
   )
  )
def Z2 (Cc28:Addr) (Cc29:Int) (Xx27:Bool):M (Ea):=do
 M.ite Xx27 (do
  let Xx31<-WH 0
  let Xx32<-qD [(0,2),(2,2),(4,2),(6,2),(8,2)] (Array.replicate 10 (.int .i64 0):Ea) [(0,.agg Xx31)]
  M.need (Xx32.size=10)
  stG Cc28 Xx32
  let Rr34<-ldG 10 Cc28
  M.pure Rr34
  ) (do
  M.ite (Cc29==17) (do
   NV Cc28 Cc29 (Cc29==17)
   ) (do
   NV Cc28 Cc29 (Cc29==43)
   )
  )
def UB (Cc20:Addr) (Cc21:Int) (Xx19:Bool):M (Ea):=do
 M.ite Xx19 (do
  let Xx23<-Zb 1
  let Xx24<-qD [(0,2),(2,2),(4,2),(6,2),(8,2)] (Array.replicate 10 (.int .i64 0):Ea) [(0,.agg Xx23)]
  M.need (Xx24.size=10)
  stG Cc20 Xx24
  let Rr26<-ldG 10 Cc20
  M.pure Rr26
  ) (do
  M.ite (Cc21==5) (do
   Z2 Cc20 Cc21 (Cc21==5)
   ) (do
   M.ite (Cc21==6) (do
    Z2 Cc20 Cc21 (Cc21==6)
    ) (do
    M.ite (Cc21==7) (do
     Z2 Cc20 Cc21 (Cc21==7)
     ) (do
     M.ite (Cc21==8) (do
      Z2 Cc20 Cc21 (Cc21==8)
      ) (do
      M.ite (Cc21==9) (do
       Z2 Cc20 Cc21 (Cc21==9)
       ) (do
       M.ite (Cc21==10) (do
        Z2 Cc20 Cc21 (Cc21==10)
        ) (do
        M.ite (Cc21==32) (do
         Z2 Cc20 Cc21 (Cc21==32)
         ) (do
         Z2 Cc20 Cc21 (Cc21==33)
         )
        )
       )
      )
     )
    )
   )
  )
def NW (Cc6:Addr) (Cc7:Int) (Xx5:Bool):M (Ea):=do
 M.ite Xx5 (do
  let Xx9<-WH 0
  let Xx10<-qD [(0,2),(2,2),(4,2),(6,2),(8,2)] (Array.replicate 10 (.int .i64 0):Ea) [(1,.agg Xx9)]
  M.need (Xx10.size=10)
  stG Cc6 Xx10
  let Rr12<-ldG 10 Cc6
  M.pure Rr12
  ) (do
  M.ite (Cc7==3) (do
   let Xx15<-WH 0
   let Xx16<-qD [(0,2),(2,2),(4,2),(6,2),(8,2)] (Array.replicate 10 (.int .i64 0):Ea) [(3,.agg Xx15)]
   M.need (Xx16.size=10)
   stG Cc6 Xx16
   let Rr18<-ldG 10 Cc6
   M.pure Rr18
   ) (do
   M.ite (Cc7==4) (do
    UB Cc6 Cc7 (Cc7==4)
    ) (do
    M.ite (Cc7==15) (do
     UB Cc6 Cc7 (Cc7==15)
     ) (do
     M.ite (Cc7==16) (do
      UB Cc6 Cc7 (Cc7==16)
      ) (do
      M.ite (Cc7==42) (do
       UB Cc6 Cc7 (Cc7==42)
       ) (do
       M.ite (Cc7==46) (do
        UB Cc6 Cc7 (Cc7==46)
        ) (do
        UB Cc6 Cc7 (Cc7==47)
        )
       )
      )
     )
    )
   )
  )
def X8 (x0:Int):M (Ea):=do
 let Xx2<-mkB Wz (Array.replicate 10 (.int .i64 0):Ea)
 M.ite (x0==1) (do
  NW Xx2 x0 (x0==1)
  ) (do
  NW Xx2 x0 (x0==2)
  )
theorem KIG (x0:Int):KY Tryz.prog 145 #[.int .i64 x0] (λ(r:Ea)=>.agg r) (X8 x0):=
 KG [KGx,KGy] [] [.G] [(0,.I .i64 x0)] (.q .o (.q (.q .o (.b (.q .o (.j [(2,.A),(3,.I .i64),(4,.B)] (λ(t:Addr×Int×Bool)=>NW t.1 t.2.1 t.2.2) (.q .o (.q .o (.q .o (.q .o (.j [(2,.A),(3,.I .i64),(13,.B)] (λ(t:Addr×Int×Bool)=>UB t.1 t.2.1 t.2.2) (.q .o (.q .o (.j [(2,.A),(3,.I .i64),(22,.B)] (λ(t:Addr×Int×Bool)=>Z2 t.1 t.2.1 t.2.2) (.q .o (.q .o (.j [(2,.A),(3,.I .i64),(33,.B)] (λ(t:Addr×Int×Bool)=>NV t.1 t.2.1 t.2.2) (.q .o (.q .o (.q .o (.q .o (.q .o (.q .o (.q .o (.q .o (.q .o (.q .o (.j [(2,.A),(3,.I .i64),(55,.B)] (λ(t:Addr×Int×Bool)=>XO t.1 t.2.1 t.2.2) (.q .o (.q .o (.j [(2,.A),(3,.I .i64),(61,.B)] (λ(t:Addr×Int×Bool)=>Wt t.1 t.2.1 t.2.2) (.q .o (.q .o (.q .o (.q .o (.j [(2,.A),(3,.I .i64),(72,.B)] (λ(t:Addr×Int×Bool)=>XN t.1 t.2.1 t.2.2) (.q .o (.q .o (.q .o (.q .o (.q .o (.q .o (.j [(2,.A),(3,.I .i64),(86,.B)] (λ(t:Addr×Int×Bool)=>NU t.1 t.2.1 t.2.2) .o))))))))))))))))))))))))))))))))))))))))) .o)) Tryz.func145 rfl rfl ⟨rfl,trivial⟩ rfl (by kernel_rfl) (by kernel_rfl)
noncomputable def KIH:CalleeS Tryz.prog:=mkC KG8 KHF [.I .i64] [.G] (λ(t:Int)=>X8 t) (λ(t:Int)=>KIG t)
def Vo (Cc5:Option Addr):M (Value⊕(Unit)):=do
 thr (KQ Cc5 (⟨#[41]⟩:ByteArray)) λXx6=>do
  M.pure (.inr ())
def UL (Cc3:Option Addr) (Cc4:Addr):M (Value⊕(Unit)):=do
 let Xx8<-ldI .i64 ((Cc4).add 1)
 let Xx9<-M.ite (Xx8==32) (do
  let Xx10<-ZG Cc3 4 (⟨#[44]⟩:ByteArray)
  M.pure Xx10
  ) (do
  M.pure false
  )
 M.ite Xx9 (do
  thr (KQ Cc3 (⟨#[44]⟩:ByteArray)) λXx12=>do
   let Xx13<-ZE Cc3
   thr (ZJ Xx13 3) λXx14=>do
    Vo Cc3
  ) (do
  Vo Cc3
  )
def UM (self1:(Int)->M (Value⊕(Unit))) (Cc31:Value) (Cc33:Int):M (Value⊕(Unit)):=do
 thr (KHy Tryz.prog (λr:Unit=>.tuple #[]) Cc31 [.int .i64 Cc33]) λXx34=>do
  self1 (IntKind.wrap .i64 (Cc33+1))
def Yx (Cc17:Option Addr) (Cc18:Value) (Cc19:Addr) (self1:(Int)->M (Value⊕(Unit))):(Int)->M (Value⊕(Unit)):=λs=>match s with
 |Xx16=>do
  let Xx23<-ldI .i64 ((Cc19).add 1)
  M.ite (decide (Xx16<Xx23)) (do
   let Xx27<-ldI .i64 ((Cc19).add 0)
   let Xx28<-M.ite (decide (Xx16>=Xx27)) (do
    let Xx29<-ZG Cc17 4 (⟨#[41]⟩:ByteArray)
    M.pure Xx29
    ) (do
    M.pure false
    )
   M.ite Xx28 (do
    UL Cc17 Cc19
    ) (do
    M.ite (decide (Xx16>0)) (do
     thr (KQ Cc17 (⟨#[44]⟩:ByteArray)) λXx36=>do
      UM self1 Cc18 Xx16
     ) (do
     UM self1 Cc18 Xx16
     )
    )
   ) (do
   UL Cc17 Cc19
   )
def JB (x0:Option Addr) (x1:Ea) (x2:Value):M (Value⊕(Unit)):=do
 let Xx2<-mkB ZA x1
 M.loop (Yx x0 x2 Xx2) 0
theorem qX (x0:Option Addr) (x1:Ea) (x2:Value):Jx Tryz.prog 146 #[.pointer x0,.agg x1,x2] (λ(r:Unit)=>.tuple #[]) (JB x0 x1 x2):=
 Zp [Zl,Ug] [mkX VE UU [.I .i64,.I .i64] [] (λ(t:Int×Int)=>ZJ t.1 t.2) (λ(t:Int×Int)=>VP t.1 t.2),mkX Zc Zd [.P,.S] [] (λ(t:Option Addr×ByteArray)=>KQ t.1 t.2) (λ(t:Option Addr×ByteArray)=>Zm t.1 t.2)] [0,18,23,32,35,37,40] [] [(0,.P x0),(1,.G x1),(2,.V x2)] (.q .o (.q (.q .o (.b (.l [(0,.P),(2,.V),(4,.A)] [(6,.I .i64)] (λ(t:Option Addr×Value×Addr)=>Yx t.1 t.2.1 t.2.2) (λself1=>.q .o (.q (.b (.q .o (.q (.q .o (.q (.x [1]) .o)) (.j [(0,.P),(2,.V),(4,.A),(6,.I .i64)] (λ(t:Option Addr×Value×Addr×Int)=>UM self1 t.2.1 t.2.2.2) (.x [2]))))) .o))))) (.j [(0,.P),(4,.A)] (λ(t:Option Addr×Addr)=>UL t.1 t.2) (.q (.q .o (.q (.q (.x [1]) (.x [2])) .o)) (.j [(0,.P)] (λ(t:Option Addr)=>Vo t) (.x [1])))))) Tryz.func146 rfl rfl ⟨rfl,rfl,rfl,trivial⟩ rfl (by kernel_rfl) (by kernel_rfl)
def Yy (Cc45:Addr) (Cc46:Addr) (Cc47:Addr) (Cc48:Addr) (Cc49:Addr) (Cc50:Addr) (Cc51:Sl) (Cc52:Int) (self1:(Int)->M (Value⊕(Ea))):(Int)->M (Value⊕(Ea)):=λs=>match s with
 |Xx44=>do
  M.ite (decide (Xx44<Cc52)) (do
   let Xx58<-ixL Cc51 Xx44 2
   let Xx59<-ldG 2 Xx58
   let Xx60<-mkB ZA (#[.int .i64 0,.int .i64 0]:Ea)
   M.need (Xx59.size=2)
   stG Xx60 Xx59
   let Xx62<-ldI .i64 ((Xx60).add 1)
   let y_78<-do
    M.both (do
     let Xx63<-ldI .i64 ((Cc50).add 0)
     M.both (do
      let Xx64<-ldI .i64 ((Xx60).add 0)
      let Xx65<-ldI .i64 ((Cc50).add 1)
      M.pure (Xx63,Xx64,IntKind.wrap .i64 (Xx63+Xx64),Xx65,IntKind.wrap .i64 (Xx65+Xx62),(Cc50).add 0)
      ) (do
      let Xx66<-ldI .i64 ((Cc50).add 1)
      let Xx67<-ldI .i64 ((Xx60).add 0)
      M.pure (Xx63,Xx67,IntKind.wrap .i64 (Xx63+Xx67),Xx66,IntKind.wrap .i64 (Xx66+Xx62),(Cc50).add 0)
      )
     ) (do
     M.both (do
      let Xx68<-ldI .i64 ((Xx60).add 0)
      M.both (do
       let Xx69<-ldI .i64 ((Cc50).add 0)
       let Xx70<-ldI .i64 ((Cc50).add 1)
       M.pure (Xx69,Xx68,IntKind.wrap .i64 (Xx69+Xx68),Xx70,IntKind.wrap .i64 (Xx70+Xx62),(Cc50).add 0)
       ) (do
       let Xx71<-ldI .i64 ((Cc50).add 1)
       let Xx72<-ldI .i64 ((Cc50).add 0)
       M.pure (Xx72,Xx68,IntKind.wrap .i64 (Xx72+Xx68),Xx71,IntKind.wrap .i64 (Xx71+Xx62),(Cc50).add 0)
       )
      ) (do
      let Xx73<-ldI .i64 ((Cc50).add 1)
      M.both (do
       let Xx74<-ldI .i64 ((Cc50).add 0)
       let Xx75<-ldI .i64 ((Xx60).add 0)
       M.pure (Xx74,Xx75,IntKind.wrap .i64 (Xx74+Xx75),Xx73,IntKind.wrap .i64 (Xx73+Xx62),(Cc50).add 0)
       ) (do
       let Xx76<-ldI .i64 ((Xx60).add 0)
       let Xx77<-ldI .i64 ((Cc50).add 0)
       M.pure (Xx77,Xx76,IntKind.wrap .i64 (Xx77+Xx76),Xx73,IntKind.wrap .i64 (Xx73+Xx62),(Cc50).add 0)
       )
      )
     )
   stV y_78.2.2.2.2.2 (.int .i64 y_78.2.2.1)
   chk (λh:Heap=>(KJ h ((Xx60).add 1)=some (.int .i64 Xx62)))
   stV ((Cc50).add 1) (.int .i64 y_78.2.2.2.2.1)
   self1 (IntKind.wrap .i64 (Xx44+1))
   ) (do
   let Xx82<-ldP Cc45
   let Xx83<-ldG 2 Cc50
   thr (JB Xx82 Xx83 (Value.func (.func GM) #[] #[.pointer (some Cc49),.pointer (some Cc48),.pointer (some Cc45),.pointer (some Cc46)])) λXx84=>do
    let Xx86<-ldG 6 Cc48
    M.need (Xx86.size=6)
    stG Cc47 Xx86
    let Rr88<-ldG 6 Cc47
    M.pure (.inr Rr88)
   )
def UN (Cc20:Addr) (Cc21:Addr) (Cc22:Addr) (Cc23:Addr):M (Value⊕(Ea)):=do
 let Xx25<-ldP Cc20
 thr (KQ Xx25 (⟨#[40]⟩:ByteArray)) λXx26=>do
  let Xx28<-ldI .i64 ((Cc23).add 0)
  let Xx29<-X8 Xx28
  let Xx30<-mkB Wz (Array.replicate 10 (.int .i64 0):Ea)
  M.need (Xx29.size=10)
  stG Xx30 Xx29
  let Xx33<-mkB ZA (#[.int .i64 0,.int .i64 0]:Ea)
  M.need ((#[.int .i64 0,.int .i64 0]:Ea).size=2)
  stG Xx33 (#[.int .i64 0,.int .i64 0]:Ea)
  let Xx37<-ldG 2 ((Xx30).add 0)
  let Xx38<-ldG 2 ((Xx30).add 2)
  let Xx39<-ldG 2 ((Xx30).add 4)
  let Xx40<-ldG 2 ((Xx30).add 6)
  let Xx41<-ldG 2 ((Xx30).add 8)
  let y_43<-Xs 2 5 (#[.int .i64 0,.int .i64 0]:Ea) [(0,.agg Xx37),(1,.agg Xx38),(2,.agg Xx39),(3,.agg Xx40),(4,.agg Xx41)]
  let Xx42<-bdL ZA 5 y_43
  M.loop (Yy Cc20 Cc21 Cc22 Cc23 Xx30 Xx33 Xx42 (Xx42.len:Int)) 0
def Vp (Cc15:Addr) (Cc16:Addr) (Cc17:Addr) (Cc18:Int) (Cc19:Addr):M (Value⊕(Ea)):=do
 let Xx90<-ldP Cc15
 let Xx91<-nilP Xx90
 let Xx92<-ldI .i64 ((Xx91).add 2)
 let Xx93<-nilP Xx90
 stV ((Xx93).add 2) (.int .i64 (IntKind.wrap .i64 (Xx92+1)))
 let Xx96<-ldP Cc15
 let Xx97<-nilP Xx96
 let Xx98<-ldI .i64 ((Xx97).add 2)
 M.ite (decide (Xx98>256)) (do
  thr (ZJ Cc18 3) λXx99=>do
   UN Cc15 Cc16 Cc17 Cc19
  ) (do
  UN Cc15 Cc16 Cc17 Cc19
  )
def Uh (x0:Option Addr) (x1:Int):M (Value⊕(Ea)):=do
 let Xx2<-mkB Z9 #[.pointer x0]
 let Xx3<-mkB WS #[.int .i64 x1]
 let Xx4<-mkB KU (#[.int .i64 0,.slice none 0 0,.slice none 0 0,.slice none 0 0,.slice none 0 0,.slice none 0 0]:Ea)
 let Xx6<-ldP Xx2
 let Xx7<-ZE Xx6
 let Xx9<-ldP Xx2
 thr (Ka Xx9 1) λXx10=>do
  let Xx11<-fdS Xx10 1
  let Xx12<-GX (⟨#[86,32,69,32,105,110,106,101,99,116,32,97,100,100,86,32,111,117,116,32,105,110,32,98,111,116,104,32,111,117,116,69,32,105,110,69,32,98,111,116,104,69,32,111,117,116,86,32,105,110,86,32,98,111,116,104,86,32,104,97,115,32,104,97,115,75,101,121,32,104,97,115,78,111,116,32,104,97,115,76,97,98,101,108,32,104,97,115,73,100,32,105,115,32,119,104,101,114,101,32,110,111,116,32,97,110,100,32,111,114,32,100,101,100,117,112,32,115,105,109,112,108,101,80,97,116,104,32,108,105,109,105,116,32,115,107,105,112,32,114,97,110,103,101,32,116,97,105,108,32,105,100,32,108,97,98,101,108,32,118,97,108,117,101,115,32,118,97,108,117,101,77,97,112,32,99,111,110,115,116,97,110,116,32,99,111,117,110,116,32,115,117,109,32,109,105,110,32,109,97,120,32,102,111,108,100,32,117,110,102,111,108,100,32,112,97,116,104,32,97,115,32,115,101,108,101,99,116,32,111,114,100,101,114,32,111,114,100,101,114,68,101,115,99,32,111,114,100,101,114,66,121,32,111,114,100,101,114,66,121,68,101,115,99,32,103,114,111,117,112,67,111,117,110,116,32,108,111,111,112,115,32,117,110,105,111,110,32,99,111,97,108,101,115,99,101,32,111,112,116,105,111,110,97,108,32,99,104,111,111,115,101,32,116,105,109,101,115,32,117,110,116,105,108,32,101,109,105,116,32,97,100,100,69,32,112,114,111,112,101,114,116,121,32,100,114,111,112,32,105,100,101,110,116,105,116,121]⟩:ByteArray) Xx11
  let Xx13<-mkB KU (#[.int .i64 0,.slice none 0 0,.slice none 0 0,.slice none 0 0,.slice none 0 0,.slice none 0 0]:Ea)
  M.need ((#[.int .i64 Xx12,.slice none 0 0,.slice none 0 0,.slice none 0 0,.slice none 0 0,.slice none 0 0]:Ea).size=6)
  stG Xx13 (#[.int .i64 Xx12,.slice none 0 0,.slice none 0 0,.slice none 0 0,.slice none 0 0,.slice none 0 0]:Ea)
  let Xx101<-ldI .i64 ((Xx13).add 0)
  M.ite (Xx101==0) (do
   thr (ZJ Xx7 160) λXx102=>do
    Vp Xx2 Xx3 Xx4 Xx7 Xx13
   ) (do
   Vp Xx2 Xx3 Xx4 Xx7 Xx13
   )
theorem KEC (x0:Option Addr) (x1:Int):Jx Tryz.prog 108 #[.pointer x0,.int .i64 x1] (λ(r:Ea)=>.agg r) (Uh x0 x1):=
 Zp [Zl,KFb,KIH] [mkX VE UU [.I .i64,.I .i64] [] (λ(t:Int×Int)=>ZJ t.1 t.2) (λ(t:Int×Int)=>VP t.1 t.2),mkX UE UG [.P,.I .i64] [.G] (λ(t:Option Addr×Int)=>Ka t.1 t.2) (λ(t:Option Addr×Int)=>Us t.1 t.2),mkX Na Nd [.P,.G,.V] [] (λ(t:Option Addr×Ea×Value)=>JB t.1 t.2.1 t.2.2) (λ(t:Option Addr×Ea×Value)=>qX t.1 t.2.1 t.2.2),mkX Zc Zd [.P,.S] [] (λ(t:Option Addr×ByteArray)=>KQ t.1 t.2) (λ(t:Option Addr×ByteArray)=>Zm t.1 t.2)] [0,11,13,23,30,37,72] [.G] [(0,.P x0),(1,.I .i64 x1)] (.q .o (.q .o (.q (.x [1]) (.q (.q .o (.q (.x [1]) .o)) (.j [(2,.A),(3,.A),(4,.A),(5,.I .i64),(6,.A)] (λ(t:Addr×Addr×Addr×Int×Addr)=>Vp t.1 t.2.1 t.2.2.1 t.2.2.2.1 t.2.2.2.2) (.q (.q .o (.q .o (.q (.x [1]) .o))) (.j [(2,.A),(3,.A),(4,.A),(6,.A)] (λ(t:Addr×Addr×Addr×Addr)=>UN t.1 t.2.1 t.2.2.1 t.2.2.2) (.q (.x [1]) (.q .o (.q .o (.q (.q .o (.b (.l [(2,.A),(3,.A),(4,.A),(6,.A),(7,.A),(8,.A),(53,.L),(54,.I .i64)] [(55,.I .i64)] (λ(t:Addr×Addr×Addr×Addr×Addr×Addr×Sl×Int)=>Yy t.1 t.2.1 t.2.2.1 t.2.2.2.1 t.2.2.2.2.1 t.2.2.2.2.2.1 t.2.2.2.2.2.2.1 t.2.2.2.2.2.2.2) (λ_=>.q .o (.q .o (.q (.b (.q .o (.r [0,1,0,4,10,0,32,0,128,320,127,1151,4095,8191] [0,1,0,4,10,0,32,0,128,320,0,1040,0,4608] [0,1,0,4,15,0,32,0,128,480,127,1151,4095,8191] (.pu 0 (.pu 2 (.pu 5 (.pu 7 (.pu 8 (.st [9,12,13] (.jn false [(60,.I .i64),(62,.I .i64),(63,.I .i64),(65,.I .i64),(68,.I .i64),(69,.A)] [] 3 2047 (.fk [1,3,6] (.bo 1 (.fk [3,6] (.bo 3 (.pu 4 (.nx (.on 6 (.pu 9 (.pu 10 (.nx .je)))))) (.la 6 (.pu 9 (.nx (.on 3 (.pu 4 (.pu 10 (.nx .je))))))))) (.bo 3 (.fk [1,6] (.bo 1 (.pu 4 (.nx (.on 6 (.pu 9 (.pu 10 (.nx .je)))))) (.la 6 (.pu 9 (.nx (.on 1 (.pu 4 (.pu 10 (.nx .je))))))))) (.la 6 (.pu 9 (.nx (.fk [1,3] (.bo 1 (.on 3 (.pu 4 (.pu 10 (.nx .je)))) (.la 3 (.on 1 (.pu 4 (.pu 10 (.nx .je))))))))))))) (.on 11 (.pu 12 (.nx (.on 13 .dn)))))))))))))) .o)))))) (.q (.x [3]) .o)))))))))))) Tryz.func108 rfl rfl ⟨rfl,rfl,trivial⟩ rfl (by kernel_rfl) (by kernel_rfl)
end Gx
namespace Gx
open Go
def Vb (Cc10:Option Addr) (Cc11:Int) (self1:(Sl)->M (Value⊕(Sl))):(Sl)->M (Value⊕(Sl)):=λs=>match s with
 |Xx9=>do
  let Xx15<-ZG Cc10 4 (⟨#[46]⟩:ByteArray)
  M.ite Xx15 (do
   thr (KQ Cc10 (⟨#[46]⟩:ByteArray)) λXx17=>do
    thr (Uh Cc10 Cc11) λXx18=>do
     let y_20<-Xs 6 1 (#[.int .i64 0,.slice none 0 0,.slice none 0 0,.slice none 0 0,.slice none 0 0,.slice none 0 0]:Ea) [(0,.agg Xx18)]
     let Xx19<-bdL KU 1 y_20
     let Xx21<-apL KU 6 128 (#[.int .i64 0,.slice none 0 0,.slice none 0 0,.slice none 0 0,.slice none 0 0,.slice none 0 0]:Ea) Xx9 Xx19
     self1 Xx21
   ) (do
   M.pure (.inr Xx9)
   )
def Jo (Cc2:Option Addr) (Cc3:Int):M (Value⊕(Sl)):=do
 thr (Uh Cc2 Cc3) λXx5=>do
  let y_7<-Xs 6 1 (#[.int .i64 0,.slice none 0 0,.slice none 0 0,.slice none 0 0,.slice none 0 0,.slice none 0 0]:Ea) [(0,.agg Xx5)]
  let Xx6<-bdL KU 1 y_7
  M.loop (Vb Cc2 Cc3) Xx6
def ZP (x0:Option Addr) (x1:Int):M (Value⊕(Sl)):=do
 M.ite (decide (x1>8)) (do
  let Xx24<-ZE x0
  thr (ZJ Xx24 3) λXx25=>do
   Jo x0 x1
  ) (do
  Jo x0 x1
  )
theorem Xi (x0:Option Addr) (x1:Int):Jx Tryz.prog 67 #[.pointer x0,.int .i64 x1] (λ(r:Sl)=>(r:Sl).v) (ZP x0 x1):=
 Zp [Zl,Ug] [mkX VE UU [.I .i64,.I .i64] [] (λ(t:Int×Int)=>ZJ t.1 t.2) (λ(t:Int×Int)=>VP t.1 t.2),mkX KBz KCM [.P,.I .i64] [.G] (λ(t:Option Addr×Int)=>Uh t.1 t.2) (λ(t:Option Addr×Int)=>KEC t.1 t.2),mkX Zc Zd [.P,.S] [] (λ(t:Option Addr×ByteArray)=>KQ t.1 t.2) (λ(t:Option Addr×ByteArray)=>Zm t.1 t.2)] [0,8,11,15,17,20] [.L] [(0,.P x0),(1,.I .i64 x1)] (.q .o (.q (.q .o (.q (.x [2]) .o)) (.j [(0,.P),(1,.I .i64)] (λ(t:Option Addr×Int)=>Jo t.1 t.2) (.q (.x [2]) (.q (.b (.l [(0,.P),(1,.I .i64)] [(5,.L)] (λ(t:Option Addr×Int)=>Vb t.1 t.2) (λ_=>.q .o (.b (.q (.x [1]) (.x [3])))))) .o))))) Tryz.func67 rfl rfl ⟨rfl,rfl,trivial⟩ rfl (by kernel_rfl) (by kernel_rfl)
def KFc (x0:Option Addr) (x1:Addr):M (Value⊕(Unit)):=do
 thr (Jh x0 1 (⟨#[103]⟩:ByteArray)) λXx2=>do
  thr (KQ x0 (⟨#[46]⟩:ByteArray)) λXx4=>do
   thr (ZP x0 1) λXx5=>do
    stV x1 ((Xx5:Sl).v)
    M.pure (.inr ())
theorem KII (x0:Option Addr) (x1:Addr):Jx Tryz.prog 64 #[.pointer x0,.pointer (some x1)] (λ(r:Unit)=>.tuple #[]) (KFc x0 x1):=
 Zp [] [mkX Nb Ng [.P,.I .i64,.S] [] (λ(t:Option Addr×Int×ByteArray)=>Jh t.1 t.2.1 t.2.2) (λ(t:Option Addr×Int×ByteArray)=>qW t.1 t.2.1 t.2.2),mkX Zc Zd [.P,.S] [] (λ(t:Option Addr×ByteArray)=>KQ t.1 t.2) (λ(t:Option Addr×ByteArray)=>Zm t.1 t.2),mkX XA XD [.P,.I .i64] [.L] (λ(t:Option Addr×Int)=>ZP t.1 t.2) (λ(t:Option Addr×Int)=>Xi t.1 t.2)] [0,3,5,7] [] [(0,.P x0),(1,.A x1)] (.q (.x [1]) (.q (.x [1]) (.x [1]))) Tryz.func64 rfl rfl ⟨rfl,rfl,trivial⟩ rfl (by kernel_rfl) (by kernel_rfl)
def X9 (Cc6:Addr) (Cc7:Addr):M (Ea):=do
 let Xx9<-ldG 4 Cc7
 M.need (Xx9.size=4)
 stG Cc6 Xx9
 let Rr11<-ldG 4 Cc6
 M.pure Rr11
def GY (x0:Bool):M (Ea):=do
 let Xx2<-mkB KB (#[.int .i64 0,.int .i64 0,.string ByteArray.empty,.slice none 0 0]:Ea)
 let Xx4<-mkB KB (#[.int .i64 0,.int .i64 0,.string ByteArray.empty,.slice none 0 0]:Ea)
 M.need ((#[.int .i64 3,.int .i64 0,.string ByteArray.empty,.slice none 0 0]:Ea).size=4)
 stG Xx4 (#[.int .i64 3,.int .i64 0,.string ByteArray.empty,.slice none 0 0]:Ea)
 M.ite x0 (do
  stV ((Xx4).add 1) (.int .i64 1)
  X9 Xx2 Xx4
  ) (do
  X9 Xx2 Xx4
  )
theorem KMZ (x0:Bool):KY Tryz.prog 152 #[.bool x0] (λ(r:Ea)=>.agg r) (GY x0):=
 KG [] [] [.G] [(0,.B x0)] (.q .o (.q .o (.q .o (.j [(2,.A),(3,.A)] (λ(t:Addr×Addr)=>X9 t.1 t.2) .o)))) Tryz.func152 rfl rfl ⟨rfl,trivial⟩ rfl (by kernel_rfl) (by kernel_rfl)
noncomputable def KGz:CalleeS Tryz.prog:=mkC KKh KKs [.B] [.G] (λ(t:Bool)=>GY t) (λ(t:Bool)=>KMZ t)
def Jv (Cc19:Option Addr) (Cc20:Addr) (Xx18:Int):M (Value⊕(Ea×Bool)):=do
 thr (Ka Cc19 1) λXx22=>do
  thr (KQ Cc19 (⟨#[91]⟩:ByteArray)) λXx24=>do
   thr (Ka Cc19 2) λXx26=>do
    let Xx27<-fdI .i64 Xx26 2
    let Xx28<-mkB KB (#[.int .i64 0,.int .i64 0,.string ByteArray.empty,.slice none 0 0]:Ea)
    M.need ((#[.int .i64 Xx18,.int .i64 Xx27,.string ByteArray.empty,.slice none 0 0]:Ea).size=4)
    stG Xx28 (#[.int .i64 Xx18,.int .i64 Xx27,.string ByteArray.empty,.slice none 0 0]:Ea)
    thr (KQ Cc19 (⟨#[93]⟩:ByteArray)) λXx31=>do
     let Xx33<-ldG 4 Xx28
     M.need (Xx33.size=4)
     stG Cc20 Xx33
     let Rr35<-ldG 4 Cc20
     M.pure (.inr (Rr35,true))
def VQ (x0:Option Addr):M (Value⊕(Ea×Bool)):=do
 let Xx2<-mkB KB (#[.int .i64 0,.int .i64 0,.string ByteArray.empty,.slice none 0 0]:Ea)
 let Xx5<-nilP x0
 let Xx6<-ldL ((Xx5).add 0)
 M.ite ((Xx6.len:Int)==0) (do
  M.need ((#[.int .i64 0,.int .i64 0,.string ByteArray.empty,.slice none 0 0]:Ea).size=4)
  stG Xx2 (#[.int .i64 0,.int .i64 0,.string ByteArray.empty,.slice none 0 0]:Ea)
  let Rr9<-ldG 4 Xx2
  M.pure (.inr (Rr9,false))
  ) (do
  let Xx11<-nilP x0
  let Xx12<-ldL ((Xx11).add 0)
  let Xx13<-ixL Xx12 0 4
  let Xx14<-ldG 4 Xx13
  let Xx15<-mkB KL (#[.int .i64 0,.string ByteArray.empty,.int .i64 0,.int .i64 0]:Ea)
  M.need (Xx14.size=4)
  stG Xx15 Xx14
  let Xx37<-ldI .i64 ((Xx15).add 0)
  M.ite (Xx37==2) (do
   let Xx39<-ldI .i64 ((Xx15).add 0)
   thr (Ka x0 Xx39) λXx40=>do
    let Xx41<-fdI .i64 Xx40 2
    let Xx42<-KBN Xx41
    M.need (Xx42.size=4)
    stG Xx2 Xx42
    let Rr44<-ldG 4 Xx2
    M.pure (.inr (Rr44,true))
   ) (do
   let Xx46<-ldI .i64 ((Xx15).add 0)
   M.ite (Xx46==3) (do
    let Xx48<-ldI .i64 ((Xx15).add 0)
    thr (Ka x0 Xx48) λXx49=>do
     let Xx50<-fdS Xx49 1
     let Xx51<-KBO Xx50
     M.need (Xx51.size=4)
     stG Xx2 Xx51
     let Rr53<-ldG 4 Xx2
     M.pure (.inr (Rr53,true))
    ) (do
    let Xx55<-ZG x0 1 (⟨#[116,114,117,101]⟩:ByteArray)
    let Xx56<-M.ite Xx55 (do
     M.pure true
     ) (do
     let Xx57<-ZG x0 1 (⟨#[102,97,108,115,101]⟩:ByteArray)
     M.pure Xx57
     )
    M.ite Xx56 (do
     let Xx59<-ldI .i64 ((Xx15).add 0)
     thr (Ka x0 Xx59) λXx60=>do
      let Xx61<-fdS Xx60 1
      let Xx62<-GY (sEq Xx61 (⟨#[116,114,117,101]⟩:ByteArray))
      M.need (Xx62.size=4)
      stG Xx2 Xx62
      let Rr64<-ldG 4 Xx2
      M.pure (.inr (Rr64,true))
     ) (do
     let Xx66<-ZG x0 1 (⟨#[118]⟩:ByteArray)
     M.ite Xx66 (do
      Jv x0 Xx2 6
      ) (do
      let Xx68<-ZG x0 1 (⟨#[101]⟩:ByteArray)
      M.ite Xx68 (do
       Jv x0 Xx2 7
       ) (do
       M.need ((#[.int .i64 0,.int .i64 0,.string ByteArray.empty,.slice none 0 0]:Ea).size=4)
       stG Xx2 (#[.int .i64 0,.int .i64 0,.string ByteArray.empty,.slice none 0 0]:Ea)
       let Rr71<-ldG 4 Xx2
       M.pure (.inr (Rr71,false))
       )
      )
     )
    )
   )
  )
theorem KCt (x0:Option Addr):Jx Tryz.prog 114 #[.pointer x0] (λ(r:Ea×Bool)=>.tuple #[.agg r.1,.bool r.2]) (VQ x0):=
 Zp [Ug,KGz,KIB,KIC] [mkX UE UG [.P,.I .i64] [.G] (λ(t:Option Addr×Int)=>Ka t.1 t.2) (λ(t:Option Addr×Int)=>Us t.1 t.2),mkX Zc Zd [.P,.S] [] (λ(t:Option Addr×ByteArray)=>KQ t.1 t.2) (λ(t:Option Addr×ByteArray)=>Zm t.1 t.2)] [0,7,14,25,35,42,45,48,56,59,61,63,66,70] [.G,.B] [(0,.P x0)] (.q .o (.q .o (.q .o (.q .o (.q (.b (.q .o (.q (.q (.x [3]) .o) (.q .o (.q (.q (.x [3]) .o) (.q .o (.q (.q (.x [3]) .o) .o))))))) (.j [(0,.P),(2,.A),(5,.I .i64)] (λ(t:Option Addr×Addr×Int)=>Jv t.1 t.2.1 t.2.2) (.q (.x [1]) (.q (.x [1]) (.q (.x [2]) (.q (.x [1]) .o)))))))))) Tryz.func114 rfl rfl ⟨rfl,trivial⟩ rfl (by kernel_rfl) (by kernel_rfl)
def KAU (Cc6:Int) (Cc7:Sl) (Cc8:Int) (self1:(Int)->M (Int)):(Int)->M (Int):=λs=>match s with
 |Xx5=>do
  M.ite (decide (Xx5<Cc8)) (do
   let Xx14<-ixL Cc7 Xx5 1
   let Xx15<-ldI .i64 Xx14
   M.ite (Xx15 !=Cc6) (do
    M.pure Xx15
    ) (do
    self1 (IntKind.wrap .i64 (Xx5+1))
    )
   ) (do
   M.pure Cc6
   )
def zu (x0:Sl):M (Int):=do
 M.loop (KAU 0 x0 (x0.len:Int)) 0
theorem KMa (x0:Sl):KY Tryz.prog 171 #[(x0:Sl).v] (λ(r:Int)=>.int .i64 r) (zu x0):=
 KG [] [] [.I .i64] [(0,.L x0)] (.q .o (.q .o (.q (.q .o (.b (.l [(3,.I .i64),(6,.L),(7,.I .i64)] [(8,.I .i64)] (λ(t:Int×Sl×Int)=>KAU t.1 t.2.1 t.2.2) (λ_=>.o)))) .o))) Tryz.func171 rfl rfl ⟨rfl,trivial⟩ rfl (by kernel_rfl) (by kernel_rfl)
noncomputable def KMb:CalleeS Tryz.prog:=mkC KKZ KKj [.L] [.I .i64] (λ(t:Sl)=>zu t) (λ(t:Sl)=>KMa t)
def GA (x0:Int):M (Bool):=do
 M.pure (x0 !=x0)
theorem KIJ (x0:Int):KY Tryz.prog 209 #[.int .i64 x0] (λ(r:Bool)=>.bool r) (GA x0):=
 KG [] [] [.B] [(0,.I .i64 x0)] .o Tryz.func209 rfl rfl ⟨rfl,trivial⟩ rfl (by kernel_rfl) (by kernel_rfl)
noncomputable def KIK:CalleeS Tryz.prog:=mkC KG5 KHC [.I .i64] [.B] (λ(t:Int)=>GA t) (λ(t:Int)=>KIJ t)
def YU (x0:Int) (x1:Int):M (Int):=do
 let Xx3<-GA x0
 let Xx5<-GA x1
 M.ite Xx3 (do
  M.ite Xx5 (do
   M.pure 0
   ) (do
   M.pure (-1)
   )
  ) (do
  M.ite Xx5 (do
   M.pure 1
   ) (do
   M.ite (decide (x0<x1)) (do
    M.pure (-1)
    ) (do
    M.ite (decide (x0>x1)) (do
     M.pure 1
     ) (do
     M.pure 0
     )
    )
   )
  )
theorem KGS (x0:Int) (x1:Int):KY Tryz.prog 172 #[.int .i64 x0,.int .i64 x1] (λ(r:Int)=>.int .i64 r) (YU x0 x1):=
 KG [KIK] [] [.I .i64] [(0,.I .i64 x0),(1,.I .i64 x1)] .o Tryz.func172 rfl rfl ⟨rfl,rfl,trivial⟩ rfl (by kernel_rfl) (by kernel_rfl)
noncomputable def KGT:CalleeS Tryz.prog:=mkC KEj KEv [.I .i64,.I .i64] [.I .i64] (λ(t:Int×Int)=>YU t.1 t.2) (λ(t:Int×Int)=>KGS t.1 t.2)
def YV (x0:Int):M (Bool):=do
 M.pure (x0 !=x0)
theorem KGU (x0:Int):KY Tryz.prog 210 #[.int .i64 x0] (λ(r:Bool)=>.bool r) (YV x0):=
 KG [] [] [.B] [(0,.I .i64 x0)] .o Tryz.func210 rfl rfl ⟨rfl,trivial⟩ rfl (by kernel_rfl) (by kernel_rfl)
noncomputable def KGV:CalleeS Tryz.prog:=mkC KEk KEw [.I .i64] [.B] (λ(t:Int)=>YV t) (λ(t:Int)=>KGU t)
def WI (x0:Int) (x1:Int):M (Int):=do
 let Xx3<-YV x0
 let Xx5<-YV x1
 M.ite Xx3 (do
  M.ite Xx5 (do
   M.pure 0
   ) (do
   M.pure (-1)
   )
  ) (do
  M.ite Xx5 (do
   M.pure 1
   ) (do
   M.ite (decide (x0<x1)) (do
    M.pure (-1)
    ) (do
    M.ite (decide (x0>x1)) (do
     M.pure 1
     ) (do
     M.pure 0
     )
    )
   )
  )
theorem KED (x0:Int) (x1:Int):KY Tryz.prog 173 #[.int .i64 x0,.int .i64 x1] (λ(r:Int)=>.int .i64 r) (WI x0 x1):=
 KG [KGV] [] [.I .i64] [(0,.I .i64 x0),(1,.I .i64 x1)] .o Tryz.func173 rfl rfl ⟨rfl,rfl,trivial⟩ rfl (by kernel_rfl) (by kernel_rfl)
noncomputable def KEE:CalleeS Tryz.prog:=mkC KBv KCH [.I .i64,.I .i64] [.I .i64] (λ(t:Int×Int)=>WI t.1 t.2) (λ(t:Int×Int)=>KED t.1 t.2)
def GB (x0:ByteArray) (x1:ByteArray):M (Int):=do
 let Xx3<-Zx x0 x1
 M.pure Xx3
theorem KGW (x0:ByteArray) (x1:ByteArray):KY Tryz.prog 174 #[.string x0,.string x1] (λ(r:Int)=>.int .i64 r) (GB x0 x1):=
 KG [mkC Xv Xx [.S,.S] [.I .i64] (λ(t:ByteArray×ByteArray)=>Zx t.1 t.2) (λ(t:ByteArray×ByteArray)=>GJ t.1 t.2)] [] [.I .i64] [(0,.S x0),(1,.S x1)] .o Tryz.func174 rfl rfl ⟨rfl,rfl,trivial⟩ rfl (by kernel_rfl) (by kernel_rfl)
noncomputable def KGX:CalleeS Tryz.prog:=mkC KEt KE7 [.S,.S] [.I .i64] (λ(t:ByteArray×ByteArray)=>GB t.1 t.2) (λ(t:ByteArray×ByteArray)=>KGW t.1 t.2)
def Kf (Cc5:Sl) (Cc6:Sl) (Cc7:Value) (Cc8:Sl) (Cc9:Int) (self1:(Int)->M (Int)):(Int)->M (Int):=λs=>match s with
 |Xx4=>do
  M.ite (decide (Xx4<Cc9)) (do
   let Xx15<-ixL Cc8 Xx4 4
   let Xx16<-ldG 4 Xx15
   let Xx17<-mkB KB (#[.int .i64 0,.int .i64 0,.string ByteArray.empty,.slice none 0 0]:Ea)
   M.need (Xx16.size=4)
   stG Xx17 Xx16
   M.ite (decide (Xx4>=(Cc6.len:Int))) (do
    M.pure 1
    ) (do
    let Xx23<-ixL Cc6 Xx4 4
    let Xx24<-ldG 4 Xx23
    let Xx25<-mkB KB (#[.int .i64 0,.int .i64 0,.string ByteArray.empty,.slice none 0 0]:Ea)
    M.need (Xx24.size=4)
    stG Xx25 Xx24
    let Xx28<-ldG 4 Xx17
    let Xx29<-ldG 4 Xx25
    let Xx30<-qq Tryz.prog (λr:Int=>.int .i64 r) Cc7 [.agg Xx28,.agg Xx29]
    M.ite (Xx30 !=0) (do
     M.pure Xx30
     ) (do
     self1 (IntKind.wrap .i64 (Xx4+1))
     )
    )
   ) (do
   M.ite (decide ((Cc5.len:Int)<(Cc6.len:Int))) (do
    M.pure (-1)
    ) (do
    M.pure 0
    )
   )
def KS (x0:Sl) (x1:Sl) (x2:Value):M (Int):=do
 M.loop (Kf x0 x1 x2 x0 (x0.len:Int)) 0
theorem JI (x0:Sl) (x1:Sl) (x2:Value):KY Tryz.prog 175 #[(x0:Sl).v,(x1:Sl).v,x2] (λ(r:Int)=>.int .i64 r) (KS x0 x1 x2):=
 KG [] [] [.I .i64] [(0,.L x0),(1,.L x1),(2,.V x2)] (.q .o (.q (.q .o (.b (.l [(0,.L),(1,.L),(2,.V),(11,.L),(12,.I .i64)] [(13,.I .i64)] (λ(t:Sl×Sl×Value×Sl×Int)=>Kf t.1 t.2.1 t.2.2.1 t.2.2.2.1 t.2.2.2.2) (λ_=>.o)))) .o)) Tryz.func175 rfl rfl ⟨rfl,rfl,rfl,trivial⟩ rfl (by kernel_rfl) (by kernel_rfl)
noncomputable def JJ:CalleeS Tryz.prog:=mkC JG JH [.L,.L,.V] [.I .i64] (λ(t:Sl×Sl×Value)=>KS t.1 t.2.1 t.2.2) (λ(t:Sl×Sl×Value)=>JI t.1 t.2.1 t.2.2)
def YZ (x0:Ea) (x1:Ea):M (Int):=do
 let Xx2<-mkB KB x0
 let Xx3<-mkB KB x1
 let Xx5<-ldI .i64 ((Xx2).add 0)
 let Xx6<-ldI .i64 ((Xx3).add 0)
 let Xx7<-ldI .i64 ((Xx2).add 1)
 let Xx8<-ldI .i64 ((Xx3).add 1)
 let Xx9<-ldS ((Xx2).add 2)
 let Xx10<-ldS ((Xx3).add 2)
 let Xx11<-ldL ((Xx2).add 3)
 let Xx12<-ldL ((Xx3).add 3)
 let Xx13<-YU Xx5 Xx6
 chk (λh:Heap=>(KJ h ((Xx2).add 0)=some (.int .i64 Xx5))/\(KJ h ((Xx3).add 0)=some (.int .i64 Xx6))/\(KJ h ((Xx2).add 1)=some (.int .i64 Xx7))/\(KJ h ((Xx3).add 1)=some (.int .i64 Xx8))/\(KJ h ((Xx2).add 2)=some (.string Xx9))/\(KJ h ((Xx3).add 2)=some (.string Xx10))/\(KJ h ((Xx2).add 3)=some ((Xx11:Sl).v))/\(KJ h ((Xx3).add 3)=some ((Xx12:Sl).v)))
 let Xx14<-WI Xx7 Xx8
 chk (λh:Heap=>(KJ h ((Xx2).add 0)=some (.int .i64 Xx5))/\(KJ h ((Xx3).add 0)=some (.int .i64 Xx6))/\(KJ h ((Xx2).add 1)=some (.int .i64 Xx7))/\(KJ h ((Xx3).add 1)=some (.int .i64 Xx8))/\(KJ h ((Xx2).add 2)=some (.string Xx9))/\(KJ h ((Xx3).add 2)=some (.string Xx10))/\(KJ h ((Xx2).add 3)=some ((Xx11:Sl).v))/\(KJ h ((Xx3).add 3)=some ((Xx12:Sl).v)))
 let Xx15<-GB Xx9 Xx10
 chk (λh:Heap=>(KJ h ((Xx2).add 0)=some (.int .i64 Xx5))/\(KJ h ((Xx3).add 0)=some (.int .i64 Xx6))/\(KJ h ((Xx2).add 1)=some (.int .i64 Xx7))/\(KJ h ((Xx3).add 1)=some (.int .i64 Xx8))/\(KJ h ((Xx2).add 2)=some (.string Xx9))/\(KJ h ((Xx3).add 2)=some (.string Xx10))/\(KJ h ((Xx2).add 3)=some ((Xx11:Sl).v))/\(KJ h ((Xx3).add 3)=some ((Xx12:Sl).v)))
 let Xx16<-KS Xx11 Xx12 (Value.func (.func KAe) #[] #[])
 let Xx17<-bdL WS 4 #[.int .i64 Xx13,.int .i64 Xx14,.int .i64 Xx15,.int .i64 Xx16]
 let Xx18<-zu Xx17
 M.pure Xx18
theorem KBR (x0:Ea) (x1:Ea):KY Tryz.prog 124 #[.agg x0,.agg x1] (λ(r:Int)=>.int .i64 r) (YZ x0 x1):=
 KG [KMb,KGT,KEE,KGX,JJ] [] [.I .i64] [(0,.G x0),(1,.G x1)] (.q .o (.q (.r [0,1,0,4,10,0,32,0,128,336,0,1024,0,4096,10752,0,32768,0,131072,344064,541200,1572864,4194303] [0,1,0,4,10,0,32,0,128,320,0,1024,0,4096,10240,0,32768,0,131072,327680,541200,1048576,2097152] [0,1,0,4,15,0,32,0,128,511,0,1024,0,4096,16383,0,32768,0,131072,524287,1048575,2097151,4194303] (.pu 0 (.pu 2 (.pu 5 (.pu 7 (.pu 10 (.pu 12 (.pu 15 (.pu 17 (.pu 1 (.pu 3 (.pu 6 (.pu 8 (.pu 11 (.pu 13 (.pu 16 (.pu 18 (.st [19,20,21,22] (.on 4 (.on 9 (.on 14 (.on 19 (.on 20 (.on 21 (.pu 22 (.nx .dn)))))))))))))))))))))))))) .o)) Tryz.func124 rfl rfl ⟨rfl,rfl,trivial⟩ rfl (by kernel_rfl) (by kernel_rfl)
noncomputable def KIL:CalleeS Tryz.prog:=mkC KAe KAf [.G,.G] [.I .i64] (λ(t:Ea×Ea)=>YZ t.1 t.2) (λ(t:Ea×Ea)=>KBR t.1 t.2)
def Zf (Cc5:Sl) (Cc6:Value) (Cc7:Int) (self1:(Int)->M (Int)):(Int)->M (Int):=λs=>match s with
 |Xx4=>do
  M.ite (decide (Xx4<Cc7)) (do
   let Xx14<-ixL Cc5 Xx4 4
   let Xx15<-ldG 4 Xx14
   let Xx16<-qq Tryz.prog (λr:Bool=>.bool r) Cc6 [.agg Xx15]
   M.ite Xx16 (do
    M.pure Xx4
    ) (do
    self1 (IntKind.wrap .i64 (Xx4+1))
    )
   ) (do
   M.pure (-1)
   )
def ZN (x0:Sl) (x1:Value):M (Int):=do
 M.loop (Zf x0 x1 (x0.len:Int)) 0
theorem YG (x0:Sl) (x1:Value):KY Tryz.prog 205 #[(x0:Sl).v,x1] (λ(r:Int)=>.int .i64 r) (ZN x0 x1):=
 KG [] [] [.I .i64] [(0,.L x0),(1,.V x1)] (.q .o (.q (.q .o (.b (.l [(0,.L),(1,.V),(7,.I .i64)] [(8,.I .i64)] (λ(t:Sl×Value×Int)=>Zf t.1 t.2.1 t.2.2) (λ_=>.o)))) .o)) Tryz.func205 rfl rfl ⟨rfl,rfl,trivial⟩ rfl (by kernel_rfl) (by kernel_rfl)
noncomputable def YH:CalleeS Tryz.prog:=mkC W6 W7 [.L,.V] [.I .i64] (λ(t:Sl×Value)=>ZN t.1 t.2) (λ(t:Sl×Value)=>YG t.1 t.2)
def Kp (x0:Sl) (x1:Value):M (Bool):=do
 let Xx3<-ZN x0 x1
 M.pure (decide (Xx3>=0))
theorem Wf (x0:Sl) (x1:Value):KY Tryz.prog 165 #[(x0:Sl).v,x1] (λ(r:Bool)=>.bool r) (Kp x0 x1):=
 KG [YH] [] [.B] [(0,.L x0),(1,.V x1)] .o Tryz.func165 rfl rfl ⟨rfl,rfl,trivial⟩ rfl (by kernel_rfl) (by kernel_rfl)
noncomputable def Wg:CalleeS Tryz.prog:=mkC WP WQ [.L,.V] [.B] (λ(t:Sl×Value)=>Kp t.1 t.2) (λ(t:Sl×Value)=>Wf t.1 t.2)
def NA (Cc12:Addr) (Cc13:Addr):M (Bool):=do
 let Xx15<-ldI .i64 ((Cc12).add 1)
 let Xx16<-M.ite (Xx15==0) (do
  let Xx17<-ldS ((Cc12).add 2)
  M.pure (sEq Xx17 ByteArray.empty)
  ) (do
  M.pure false
  )
 let Xx18<-M.ite Xx16 (do
  let Xx19<-ldL ((Cc12).add 3)
  let Xx20<-Kp Xx19 (Value.func (.func KJN) #[] #[.pointer (some Cc13)])
  M.pure (!Xx20)
  ) (do
  M.pure false
  )
 M.pure Xx18
def KBS (Cc61:Addr) (Cc62:Addr) (self1:(Int)->M (Bool)):(Int)->M (Bool):=λs=>match s with
 |Xx60=>do
  let Xx66<-ldL ((Cc61).add 3)
  M.ite (decide (Xx60<(Xx66.len:Int))) (do
   let Xx69<-ldL ((Cc61).add 3)
   let Xx70<-ixL Xx69 (IntKind.wrap .i64 (Xx60 - 2)) 4
   let Xx71<-ldG 4 Xx70
   let Xx72<-ldL ((Cc61).add 3)
   let Xx73<-ixL Xx72 Xx60 4
   let Xx74<-ldG 4 Xx73
   let Xx75<-YZ Xx71 Xx74
   M.ite (decide (Xx75>=0)) (do
    M.pure false
    ) (do
    self1 (IntKind.wrap .i64 (Xx60+2))
    )
   ) (do
   NA Cc61 Cc62
   )
def NB (Cc32:Addr) (Cc33:Addr) (Cc34:Bool) (Cc35:Int) (Xx31:Bool):M (Bool):=do
 M.ite Xx31 (do
  let Xx37<-M.ite Cc34 (do
   let Xx38<-ldI .i64 ((Cc32).add 1)
   M.pure (decide (Xx38>=1))
   ) (do
   M.pure false
   )
  let Xx39<-M.ite Xx37 (do
   let Xx40<-ldI .i64 ((Cc32).add 1)
   M.pure (decide (Xx40<=281474976710656))
   ) (do
   M.pure false
   )
  M.pure Xx39
  ) (do
  M.ite (Cc35==2) (do
   let Xx43<-ldI .i64 ((Cc32).add 1)
   let Xx44<-M.ite (Xx43==0) (do
    let Xx45<-ldL ((Cc32).add 3)
    M.pure ((Xx45.len:Int)==0)
    ) (do
    M.pure false
    )
   let Xx46<-M.ite Xx44 (do
    let Xx47<-ldS ((Cc32).add 2)
    M.pure (decide ((Xx47.size:Int)<=128))
    ) (do
    M.pure false
    )
   M.pure Xx46
   ) (do
   M.ite (Cc35==4) (do
    let Xx50<-ldL ((Cc32).add 3)
    M.ite (decide ((Xx50.len:Int)>256)) (do
     M.pure false
     ) (do
     NA Cc32 Cc33
     )
    ) (do
    M.ite (Cc35==5) (do
     let Xx55<-ldL ((Cc32).add 3)
     let Xx56<-M.ite (decide ((Xx55.len:Int)>512)) (do
      M.pure true
      ) (do
      let Xx57<-ldL ((Cc32).add 3)
      M.pure ((Int.tmod (Xx57.len:Int) 2)==1)
      )
     M.ite Xx56 (do
      M.pure false
      ) (do
      M.loop (KBS Cc32 Cc33) 2
      )
     ) (do
     M.pure false
     )
    )
   )
  )
def qY (x0:Ea) (x1:Int):M (Bool):=do
 let Xx2<-mkB KB x0
 let Xx3<-mkB WS #[.int .i64 x1]
 let Xx6<-ldI .i64 Xx3
 M.ite (decide (Xx6>8)) (do
  M.pure false
  ) (do
  let Xx9<-ldS ((Xx2).add 2)
  let Xx10<-M.ite (sEq Xx9 ByteArray.empty) (do
   let Xx11<-ldL ((Xx2).add 3)
   M.pure ((Xx11.len:Int)==0)
   ) (do
   M.pure false
   )
  let Xx22<-ldI .i64 ((Xx2).add 0)
  M.ite (Xx22==1) (do
   M.pure Xx10
   ) (do
   M.ite (Xx22==3) (do
    let Xx27<-M.ite Xx10 (do
     let Xx28<-ldI .i64 ((Xx2).add 1)
     let Xx29<-M.ite (Xx28==0) (do
      M.pure true
      ) (do
      let Xx30<-ldI .i64 ((Xx2).add 1)
      M.pure (Xx30==1)
      )
     M.pure Xx29
     ) (do
     M.pure false
     )
    M.pure Xx27
    ) (do
    M.ite (Xx22==6) (do
     NB Xx2 Xx3 Xx10 Xx22 (Xx22==6)
     ) (do
     NB Xx2 Xx3 Xx10 Xx22 (Xx22==7)
     )
    )
   )
  )
theorem KN9 (x0:Ea) (x1:Int):KY Tryz.prog 201 #[.agg x0,.int .i64 x1] (λ(r:Bool)=>.bool r) (qY x0 x1):=
 KG [KIL,Wg] [] [.B] [(0,.G x0),(1,.I .i64 x1)] (.q .o (.q .o (.q .o (.q (.q .o (.b (.q .o (.q .o (.q .o (.q .o (.q .o (.j [(2,.A),(3,.A),(5,.B),(19,.I .i64),(36,.B)] (λ(t:Addr×Addr×Bool×Int×Bool)=>NB t.1 t.2.1 t.2.2.1 t.2.2.2.1 t.2.2.2.2) (.q .o (.q .o (.q .o (.q .o (.q .o (.q .o (.q (.q .o (.q .o (.b (.l [(2,.A),(3,.A)] [(6,.I .i64)] (λ(t:Addr×Addr)=>KBS t.1 t.2) (λ_=>.q .o (.q (.b (.q (.r [0,1,0,4,10,16,0,64,0,384,512,1056,2048] [0,1,0,4,10,16,0,64,0,384,512,1056,2048] [0,1,0,4,15,31,0,64,0,448,960,2047,4095] (.pu 0 (.pu 2 (.pu 3 (.pu 6 (.pu 8 (.pu 1 (.pu 4 (.pu 5 (.pu 7 (.pu 9 (.pu 10 (.st [11,12] (.on 11 (.pu 12 (.nx .dn)))))))))))))))) .o)) .o)))))) .o))))))))))))))) (.j [(2,.A),(3,.A)] (λ(t:Addr×Addr)=>NA t.1 t.2) .o))))) Tryz.func201 rfl rfl ⟨rfl,rfl,trivial⟩ rfl (by kernel_rfl) (by kernel_rfl)
noncomputable def KIM:CalleeS Tryz.prog:=mkC KMJ KMP [.G,.I .i64] [.B] (λ(t:Ea×Int)=>qY t.1 t.2) (λ(t:Ea×Int)=>KN9 t.1 t.2)
def GZ (x0:Ea):M (Int):=do
 let Xx2<-mkB KB x0
 let Xx5<-ldG 4 Xx2
 let Xx6<-qY Xx5 1
 M.ite (!Xx6) (do
  M.pure 20
  ) (do
  M.pure 0
  )
theorem KK2 (x0:Ea):KY Tryz.prog 153 #[.agg x0] (λ(r:Int)=>.int .i64 r) (GZ x0):=
 KG [KIM] [] [.I .i64] [(0,.G x0)] .o Tryz.func153 rfl rfl ⟨rfl,trivial⟩ rfl (by kernel_rfl) (by kernel_rfl)
noncomputable def KFd:CalleeS Tryz.prog:=mkC KJK KJR [.G] [.I .i64] (λ(t:Ea)=>GZ t) (λ(t:Ea)=>KK2 t)
def XE (x0:Ea):M (Bool):=do
 let Xx2<-mkB KB x0
 let Xx4<-ldG 4 Xx2
 let Xx5<-GZ Xx4
 M.pure (Xx5 !=0)
theorem KHJ (x0:Ea):KY Tryz.prog 116 #[.agg x0] (λ(r:Bool)=>.bool r) (XE x0):=
 KG [KFd] [] [.B] [(0,.G x0)] .o Tryz.func116 rfl rfl ⟨rfl,trivial⟩ rfl (by kernel_rfl) (by kernel_rfl)
noncomputable def KHK:CalleeS Tryz.prog:=mkC KGB KGD [.G] [.B] (λ(t:Ea)=>XE t) (λ(t:Ea)=>KHJ t)
def VS (Cc16:Addr) (Cc17:Addr):M (Value⊕(Ea)):=do
 let Xx19<-ldG 4 Cc17
 M.need (Xx19.size=4)
 stG Cc16 Xx19
 let Rr21<-ldG 4 Cc16
 M.pure (.inr Rr21)
def ZY (Cc13:Addr) (Cc14:Int) (Cc15:Addr):M (Value⊕(Ea)):=do
 let Xx23<-ldG 4 Cc15
 let Xx24<-XE Xx23
 M.ite Xx24 (do
  thr (ZJ Cc14 160) λXx25=>do
   VS Cc13 Cc15
  ) (do
  VS Cc13 Cc15
  )
def VT (Cc5:Option Addr) (Cc6:Int) (Cc7:Addr) (Cc8:Int):M (Value⊕(Ea)):=do
 thr (VQ Cc5) λXx10=>do
  let Xx11<-mkB KB (#[.int .i64 0,.int .i64 0,.string ByteArray.empty,.slice none 0 0]:Ea)
  M.need (Xx10.1.size=4)
  stG Xx11 Xx10.1
  M.ite Xx10.2 (do
   ZY Cc7 Cc8 Xx11
   ) (do
   let Xx28<-ZG Cc5 4 (⟨#[91]⟩:ByteArray)
   M.ite Xx28 (do
    thr (KQ Cc5 (⟨#[91]⟩:ByteArray)) λXx30=>do
     thr (Gr Tryz.prog UD #[.pointer Cc5,.string (⟨#[93]⟩:ByteArray),.bool false,.int .i64 Cc6] (λr:Sl=>(r:Sl).v)) λXx31=>do
      M.need ((#[.int .i64 4,.int .i64 0,.string ByteArray.empty,(Xx31:Sl).v]:Ea).size=4)
      stG Xx11 (#[.int .i64 4,.int .i64 0,.string ByteArray.empty,(Xx31:Sl).v]:Ea)
      ZY Cc7 Cc8 Xx11
    ) (do
    let Xx34<-ZG Cc5 4 (⟨#[123]⟩:ByteArray)
    M.ite Xx34 (do
     thr (KQ Cc5 (⟨#[123]⟩:ByteArray)) λXx36=>do
      thr (Gr Tryz.prog UD #[.pointer Cc5,.string (⟨#[125]⟩:ByteArray),.bool true,.int .i64 Cc6] (λr:Sl=>(r:Sl).v)) λXx37=>do
       M.need ((#[.int .i64 5,.int .i64 0,.string ByteArray.empty,(Xx37:Sl).v]:Ea).size=4)
       stG Xx11 (#[.int .i64 5,.int .i64 0,.string ByteArray.empty,(Xx37:Sl).v]:Ea)
       ZY Cc7 Cc8 Xx11
     ) (do
     thr (ZJ Cc8 160) λXx39=>do
      ZY Cc7 Cc8 Xx11
     )
    )
   )
def Kj (x0:Option Addr) (x1:Int):M (Value⊕(Ea)):=do
 let Xx2<-mkB KB (#[.int .i64 0,.int .i64 0,.string ByteArray.empty,.slice none 0 0]:Ea)
 let Xx4<-ZE x0
 M.ite (decide (x1>8)) (do
  thr (ZJ Xx4 160) λXx41=>do
   VT x0 x1 Xx2 Xx4
  ) (do
  VT x0 x1 Xx2 Xx4
  )
theorem Vq (x0:Option Addr) (x1:Int):Jx Tryz.prog 73 #[.pointer x0,.int .i64 x1] (λ(r:Ea)=>.agg r) (Kj x0 x1):=
 Zp [Zl,Ug,KHK] [mkX VE UU [.I .i64,.I .i64] [] (λ(t:Int×Int)=>ZJ t.1 t.2) (λ(t:Int×Int)=>VP t.1 t.2),mkX KA3 KBD [.P] [.G,.B] (λ(t:Option Addr)=>VQ t) (λ(t:Option Addr)=>KCt t),mkX UD KCJ [.P,.S,.B,.I .i64] [.L] (λ(t:Option Addr×ByteArray×Bool×Int)=>Gr Tryz.prog UD #[.pointer t.1,.string t.2.1,.bool t.2.2.1,.int .i64 t.2.2.2] (λr:Sl=>(r:Sl).v)) (λ(t:Option Addr×ByteArray×Bool×Int)=>zA),mkX Zc Zd [.P,.S] [] (λ(t:Option Addr×ByteArray)=>KQ t.1 t.2) (λ(t:Option Addr×ByteArray)=>Zm t.1 t.2)] [0,8,15,24,26,28,33,35,37] [.G] [(0,.P x0),(1,.I .i64 x1)] (.q .o (.q .o (.q (.q .o (.q (.x [1]) .o)) (.j [(0,.P),(1,.I .i64),(4,.A),(5,.I .i64)] (λ(t:Option Addr×Int×Addr×Int)=>VT t.1 t.2.1 t.2.2.1 t.2.2.2) (.q (.x [1]) (.q (.b (.q .o (.q .o (.q .o (.q (.q (.x [1]) (.x [2])) (.q .o (.q (.q (.x [1]) (.x [2])) (.x [1])))))))) (.j [(4,.A),(5,.I .i64),(6,.A)] (λ(t:Addr×Int×Addr)=>ZY t.1 t.2.1 t.2.2) (.q (.q .o (.q (.x [1]) .o)) (.j [(4,.A),(6,.A)] (λ(t:Addr×Addr)=>VS t.1 t.2) .o))))))))) Tryz.func73 rfl rfl ⟨rfl,rfl,trivial⟩ rfl (by kernel_rfl) (by kernel_rfl)
def Xj (x0:Int):M (Bool):=do
 let Xx3<-M.ite (decide (x0>=97)) (do
  M.pure (decide (x0<=122))
  ) (do
  M.pure false
  )
 let Xx4<-M.ite Xx3 (do
  M.pure true
  ) (do
  let Xx5<-M.ite (decide (x0>=65)) (do
   M.pure (decide (x0<=90))
   ) (do
   M.pure false
   )
  M.pure Xx5
  )
 let Xx6<-M.ite Xx4 (do
  M.pure true
  ) (do
  M.pure (x0==95)
  )
 M.pure Xx6
theorem KJX (x0:Int):KY Tryz.prog 177 #[.int .u8 x0] (λ(r:Bool)=>.bool r) (Xj x0):=
 KG [] [] [.B] [(0,.I .u8 x0)] .o Tryz.func177 rfl rfl ⟨rfl,trivial⟩ rfl (by kernel_rfl) (by kernel_rfl)
noncomputable def KC3:CalleeS Tryz.prog:=mkC KH2 KH6 [.I .u8] [.B] (λ(t:Int)=>Xj t) (λ(t:Int)=>KJX t)
def zw (x0:Int):M (Bool):=do
 let Xx3<-Xj x0
 let Xx4<-M.ite Xx3 (do
  M.pure true
  ) (do
  let Xx5<-M.ite (decide (x0>=48)) (do
   M.pure (decide (x0<=57))
   ) (do
   M.pure false
   )
  M.pure Xx5
  )
 M.pure Xx4
theorem KMc (x0:Int):KY Tryz.prog 212 #[.int .u8 x0] (λ(r:Bool)=>.bool r) (zw x0):=
 KG [KC3] [] [.B] [(0,.I .u8 x0)] .o Tryz.func212 rfl rfl ⟨rfl,trivial⟩ rfl (by kernel_rfl) (by kernel_rfl)
noncomputable def KMd:CalleeS Tryz.prog:=mkC KKc KKm [.I .u8] [.B] (λ(t:Int)=>zw t) (λ(t:Int)=>KMc t)
def KBT (Cc5:ByteArray) (Cc6:Int) (self1:(Int)->M (Int)):(Int)->M (Int):=λs=>match s with
 |Xx4=>do
  let Xx10<-M.ite (decide (Xx4<(Cc5.size:Int))) (do
   let Xx11<-ixS Cc5 Xx4
   let Xx12<-zw Xx11
   M.pure Xx12
   ) (do
   M.pure false
   )
  M.ite Xx10 (do
   self1 (IntKind.wrap .i64 (Xx4+1))
   ) (do
   M.pure (IntKind.wrap .i64 (Xx4 - Cc6))
   )
def qZ (x0:ByteArray) (x1:Int):M (Int):=do
 M.loop (KBT x0 x1) x1
theorem KOA (x0:ByteArray) (x1:Int):KY Tryz.prog 178 #[.string x0,.int .i64 x1] (λ(r:Int)=>.int .i64 r) (qZ x0 x1):=
 KG [KMd] [] [.I .i64] [(0,.S x0),(1,.I .i64 x1)] (.q .o (.q .o (.q (.b (.l [(0,.S),(1,.I .i64)] [(5,.I .i64)] (λ(t:ByteArray×Int)=>KBT t.1 t.2) (λ_=>.o))) .o))) Tryz.func178 rfl rfl ⟨rfl,rfl,trivial⟩ rfl (by kernel_rfl) (by kernel_rfl)
noncomputable def KOB:CalleeS Tryz.prog:=mkC KMG KML [.S,.I .i64] [.I .i64] (λ(t:ByteArray×Int)=>qZ t.1 t.2) (λ(t:ByteArray×Int)=>KOA t.1 t.2)
def Ny (self1:(Int)->M (Int)) (Xx9:Int):M (Int):=do
 self1 (IntKind.wrap .i64 (Xx9+1))
def KAV (Cc5:ByteArray) (self1:(Int)->M (Int)):(Int)->M (Int):=λs=>match s with
 |Xx4=>do
  M.ite (decide (Xx4<(Cc5.size:Int))) (do
   let Xx12<-ixS Cc5 Xx4
   M.ite (Xx12==92) (do
    Ny self1 (IntKind.wrap .i64 (Xx4+1))
    ) (do
    M.ite (Xx12==39) (do
     M.pure (IntKind.wrap .i64 (Xx4+1))
     ) (do
     Ny self1 Xx4
     )
    )
   ) (do
   M.pure 0
   )
def zx (x0:ByteArray):M (Int):=do
 M.loop (KAV x0) 1
theorem KMe (x0:ByteArray):KY Tryz.prog 179 #[.string x0] (λ(r:Int)=>.int .i64 r) (zx x0):=
 KG [] [] [.I .i64] [(0,.S x0)] (.q .o (.q (.q .o (.b (.l [(0,.S)] [(3,.I .i64)] (λ(t:ByteArray)=>KAV t) (λself1=>.q .o (.q .o (.j [(0,.S),(3,.I .i64)] (λ(t:ByteArray×Int)=>Ny self1 t.2) .o)))))) .o)) Tryz.func179 rfl rfl ⟨rfl,trivial⟩ rfl (by kernel_rfl) (by kernel_rfl)
noncomputable def KMf:CalleeS Tryz.prog:=mkC KKa KKk [.S] [.I .i64] (λ(t:ByteArray)=>zx t) (λ(t:ByteArray)=>KMe t)
def Ga (x0:ByteArray):M (Ea×Int×Int):=do
 let Xx2<-mkB KB (#[.int .i64 0,.int .i64 0,.string ByteArray.empty,.slice none 0 0]:Ea)
 let Xx4<-W5 Tryz.prog Nr #[.string x0] (λr:Ea×Int×Bool=>.tuple #[.agg r.1,.int .i64 r.2.1,.bool r.2.2])
 let Xx5<-mkB KB (#[.int .i64 0,.int .i64 0,.string ByteArray.empty,.slice none 0 0]:Ea)
 M.need (Xx4.1.size=4)
 stG Xx5 Xx4.1
 M.ite (!Xx4.2.2) (do
  M.need ((#[.int .i64 0,.int .i64 0,.string ByteArray.empty,.slice none 0 0]:Ea).size=4)
  stG Xx2 (#[.int .i64 0,.int .i64 0,.string ByteArray.empty,.slice none 0 0]:Ea)
  let Rr11<-ldG 4 Xx2
  M.pure (Rr11,Xx4.2.1,22)
  ) (do
  let Xx13<-ldG 4 Xx5
  let Xx14<-GZ Xx13
  M.ite (Xx14 !=0) (do
   M.need ((#[.int .i64 0,.int .i64 0,.string ByteArray.empty,.slice none 0 0]:Ea).size=4)
   stG Xx2 (#[.int .i64 0,.int .i64 0,.string ByteArray.empty,.slice none 0 0]:Ea)
   let Rr17<-ldG 4 Xx2
   M.pure (Rr17,0,20)
   ) (do
   let Xx19<-ldG 4 Xx5
   M.need (Xx19.size=4)
   stG Xx2 Xx19
   let Rr21<-ldG 4 Xx2
   M.pure (Rr21,0,0)
   )
  )
theorem KK5 (x0:ByteArray):KY Tryz.prog 180 #[.string x0] (λ(r:Ea×Int×Int)=>.tuple #[.agg r.1,.int .i64 r.2.1,.int .i64 r.2.2]) (Ga x0):=
 KG [KFd,mkC Nr KKu [.S] [.G,.I .i64,.B] (λ(t:ByteArray)=>W5 Tryz.prog Nr #[.string t] (λr:Ea×Int×Bool=>.tuple #[.agg r.1,.int .i64 r.2.1,.bool r.2.2])) (λ(t:ByteArray)=>Z3)] [] [.G,.I .i64,.I .i64] [(0,.S x0)] .o Tryz.func180 rfl rfl ⟨rfl,trivial⟩ rfl (by kernel_rfl) (by kernel_rfl)
noncomputable def KK6:CalleeS Tryz.prog:=mkC KJL KJS [.S] [.G,.I .i64,.I .i64] (λ(t:ByteArray)=>Ga t) (λ(t:ByteArray)=>KK5 t)
def zy (Cc42:ByteArray) (Cc43:Addr) (Xx41:Int):M (Ea×Int):=do
 let Xx45<-slS Cc42 0 Xx41
 let Xx46<-Ga Xx45
 let Xx47<-mkB KB (#[.int .i64 0,.int .i64 0,.string ByteArray.empty,.slice none 0 0]:Ea)
 M.need (Xx46.1.size=4)
 stG Xx47 Xx46.1
 let Xx51<-M.ite (Xx46.2.2 !=0) (do
  M.pure true
  ) (do
  let Xx52<-ldI .i64 ((Xx47).add 0)
  M.pure (Xx52 !=1)
  )
 M.ite Xx51 (do
  M.need ((#[.int .i64 0,.string ByteArray.empty,.int .i64 0,.int .i64 0]:Ea).size=4)
  stG Cc43 (#[.int .i64 0,.string ByteArray.empty,.int .i64 0,.int .i64 0]:Ea)
  let Rr55<-ldG 4 Cc43
  M.pure (Rr55,0)
  ) (do
  let Xx57<-ldI .i64 ((Xx47).add 1)
  M.need ((#[.int .i64 2,.string ByteArray.empty,.int .i64 Xx57,.int .i64 0]:Ea).size=4)
  stG Cc43 (#[.int .i64 2,.string ByteArray.empty,.int .i64 Xx57,.int .i64 0]:Ea)
  let Rr59<-ldG 4 Cc43
  M.pure (Rr59,Xx41)
  )
def KGY (x0:ByteArray):M (Ea×Int):=do
 let Xx2<-mkB KL (#[.int .i64 0,.string ByteArray.empty,.int .i64 0,.int .i64 0]:Ea)
 let Xx5<-ixS x0 0
 let Xx7<-N9 Xx5
 M.ite Xx7 (do
  let Xx9<-slS x0 0 1
  M.need ((#[.int .i64 4,.string Xx9,.int .i64 0,.int .i64 0]:Ea).size=4)
  stG Xx2 (#[.int .i64 4,.string Xx9,.int .i64 0,.int .i64 0]:Ea)
  let Rr11<-ldG 4 Xx2
  M.pure (Rr11,1)
  ) (do
  let Xx13<-Xj Xx5
  M.ite Xx13 (do
   let Xx15<-qZ x0 0
   let Xx17<-slS x0 0 Xx15
   M.need ((#[.int .i64 1,.string Xx17,.int .i64 0,.int .i64 0]:Ea).size=4)
   stG Xx2 (#[.int .i64 1,.string Xx17,.int .i64 0,.int .i64 0]:Ea)
   let Rr19<-ldG 4 Xx2
   M.pure (Rr19,Xx15)
   ) (do
   M.ite (Xx5==39) (do
    let Xx22<-zx x0
    let Xx24<-slS x0 0 Xx22
    let Xx25<-Ga Xx24
    let Xx26<-mkB KB (#[.int .i64 0,.int .i64 0,.string ByteArray.empty,.slice none 0 0]:Ea)
    M.need (Xx25.1.size=4)
    stG Xx26 Xx25.1
    let Xx30<-M.ite (Xx25.2.2 !=0) (do
     M.pure true
     ) (do
     let Xx31<-ldI .i64 ((Xx26).add 0)
     M.pure (Xx31 !=2)
     )
    M.ite Xx30 (do
     M.need ((#[.int .i64 0,.string ByteArray.empty,.int .i64 0,.int .i64 0]:Ea).size=4)
     stG Xx2 (#[.int .i64 0,.string ByteArray.empty,.int .i64 0,.int .i64 0]:Ea)
     let Rr34<-ldG 4 Xx2
     M.pure (Rr34,0)
     ) (do
     let Xx36<-ldS ((Xx26).add 2)
     M.need ((#[.int .i64 3,.string Xx36,.int .i64 0,.int .i64 0]:Ea).size=4)
     stG Xx2 (#[.int .i64 3,.string Xx36,.int .i64 0,.int .i64 0]:Ea)
     let Rr38<-ldG 4 Xx2
     M.pure (Rr38,Xx22)
     )
    ) (do
    let Xx40<-qZ x0 0
    let Xx61<-ixS x0 0
    M.ite (Xx61==45) (do
     let Xx62<-qZ x0 1
     zy x0 Xx2 (IntKind.wrap .i64 (1+Xx62))
     ) (do
     zy x0 Xx2 Xx40
     )
    )
   )
  )
theorem KRj (x0:ByteArray):KY Tryz.prog 126 #[.string x0] (λ(r:Ea×Int)=>.tuple #[.agg r.1,.int .i64 r.2]) (KGY x0):=
 KG [KC3,KOB,KMf,KK6,KGw] [] [.G,.I .i64] [(0,.S x0)] (.q .o (.q .o (.q .o (.q .o (.j [(0,.S),(2,.A),(10,.I .i64)] (λ(t:ByteArray×Addr×Int)=>zy t.1 t.2.1 t.2.2) .o))))) Tryz.func126 rfl rfl ⟨rfl,trivial⟩ rfl (by kernel_rfl) (by kernel_rfl)
noncomputable def KRk:CalleeS Tryz.prog:=mkC KQW KQY [.S] [.G,.I .i64] (λ(t:ByteArray)=>KGY t) (λ(t:ByteArray)=>KRj t)
def Wu (x0:Option Addr):M (Ea×Bool):=do
 let Xx2<-mkB KL (#[.int .i64 0,.string ByteArray.empty,.int .i64 0,.int .i64 0]:Ea)
 let Xx5<-Jy x0
 M.ite (!Xx5) (do
  M.need ((#[.int .i64 0,.string ByteArray.empty,.int .i64 0,.int .i64 0]:Ea).size=4)
  stG Xx2 (#[.int .i64 0,.string ByteArray.empty,.int .i64 0,.int .i64 0]:Ea)
  let Rr8<-ldG 4 Xx2
  M.pure (Rr8,false)
  ) (do
  let Xx10<-nilP x0
  let Xx11<-nilP x0
  let Xx12<-ldS ((Xx10).add 0)
  let Xx13<-ldI .i64 ((Xx11).add 1)
  let Xx14<-slS Xx12 Xx13 Xx12.size
  let y_19<-do
   M.both (do
    let Xx15<-KGY Xx14
    let Xx16<-mkB KL (#[.int .i64 0,.string ByteArray.empty,.int .i64 0,.int .i64 0]:Ea)
    chk (λh:Heap=>(KJ h ((Xx10).add 0)=some (.string Xx12))/\(KJ h ((Xx11).add 1)=some (.int .i64 Xx13)))
    M.pure (Xx16,Xx15.1,Xx15.2)
    ) (do
    let Xx17<-mkB KL (#[.int .i64 0,.string ByteArray.empty,.int .i64 0,.int .i64 0]:Ea)
    chk (λh:Heap=>(KJ h ((Xx10).add 0)=some (.string Xx12))/\(KJ h ((Xx11).add 1)=some (.int .i64 Xx13)))
    let Xx18<-KGY Xx14
    M.pure (Xx17,Xx18.1,Xx18.2)
    )
  M.need (y_19.2.1.size=4)
  stG y_19.1 y_19.2.1
  let Xx22<-nilP x0
  let Xx23<-ldI .i64 ((Xx22).add 1)
  stV ((y_19.1).add 3) (.int .i64 Xx23)
  let Xx27<-M.ite (y_19.2.2==0) (do
   M.pure true
   ) (do
   let Xx28<-ldG 4 y_19.1
   let Xx29<-zp Xx28
   M.pure (Xx29 !=0)
   )
  M.ite Xx27 (do
   M.need ((#[.int .i64 0,.string ByteArray.empty,.int .i64 0,.int .i64 0]:Ea).size=4)
   stG Xx2 (#[.int .i64 0,.string ByteArray.empty,.int .i64 0,.int .i64 0]:Ea)
   let Rr32<-ldG 4 Xx2
   M.pure (Rr32,false)
   ) (do
   let Xx34<-nilP x0
   let Xx35<-ldI .i64 ((Xx34).add 1)
   let Xx36<-nilP x0
   stV ((Xx36).add 1) (.int .i64 (IntKind.wrap .i64 (Xx35+y_19.2.2)))
   let Xx39<-ldG 4 y_19.1
   M.need (Xx39.size=4)
   stG Xx2 Xx39
   let Rr41<-ldG 4 Xx2
   M.pure (Rr41,true)
   )
  )
theorem KFe (x0:Option Addr):KY Tryz.prog 93 #[.pointer x0] (λ(r:Ea×Bool)=>.tuple #[.agg r.1,.bool r.2]) (Wu x0):=
 KG [KRk,KN6,KCg] [0,6,11,15,23,36] [.G,.B] [(0,.P x0)] (.q .o (.q .o (.q (.r [0,1,2,4,0,16,32,64,136,256,512,1024,1024,0,12287,32767] [0,1,2,4,0,16,32,64,136,256,512,1024,1024,0,10240,4096] [0,1,3,7,0,16,48,112,255,511,1023,2047,2047,0,12287,32767] (.pu 0 (.pu 1 (.pu 2 (.pu 4 (.pu 5 (.pu 6 (.pu 3 (.pu 7 (.pu 8 (.st [8,9,10,11,12,14,15] (.jn false [(4,.A),(21,.G),(22,.I .i64)] [10,20] 2 16383 (.fk [9,13] (.bo 9 (.pu 10 (.nx (.pu 11 (.nx (.pu 12 (.nx (.on 13 .je))))))) (.la 13 (.on 9 (.pu 10 (.pu 11 (.pu 12 (.nx .je)))))))) (.on 14 (.pu 15 (.nx .dn))))))))))))))) .o))) Tryz.func93 rfl rfl ⟨rfl,trivial⟩ rfl (by kernel_rfl) (by kernel_rfl)
noncomputable def KFf:CalleeS Tryz.prog:=mkC KDA KDT [.P] [.G,.B] (λ(t:Option Addr)=>Wu t) (λ(t:Option Addr)=>KFe t)
def Yz (Cc1:Value) (Cc2:Addr) (self1:(Unit)->M (Unit)):(Unit)->M (Unit):=λs=>match s with
 |()=>do
  let Xx5<-ldP Cc2
  let Xx6<-Wu Xx5
  let Xx7<-mkB KL (#[.int .i64 0,.string ByteArray.empty,.int .i64 0,.int .i64 0]:Ea)
  M.need (Xx6.1.size=4)
  stG Xx7 Xx6.1
  let Xx10<-M.ite (!Xx6.2) (do
   M.pure true
   ) (do
   let Xx11<-ldG 4 Xx7
   let Xx12<-qq Tryz.prog (λr:Bool=>.bool r) Cc1 [.agg Xx11]
   M.pure (!Xx12)
   )
  M.ite Xx10 (do
   M.pure ()
   ) (do
   self1 ()
   )
def zz (x0:Value) (x1:Addr):M (Unit):=do
 M.loop (Yz x0 x1) ()
theorem KEF (x0:Value) (x1:Addr):KY Tryz.prog 92 #[x0,.pointer (some x1)] (λ(r:Unit)=>.tuple #[]) (zz x0 x1):=
 KG [KFf] [6] [] [(0,.V x0),(1,.A x1)] (.b (.l [(0,.V),(1,.A)] [] (λ(t:Value×Addr)=>Yz t.1 t.2) (λ_=>.o))) Tryz.func92 rfl rfl ⟨rfl,rfl,trivial⟩ rfl (by kernel_rfl) (by kernel_rfl)
def JL (self1:(ByteArray×Int)->M (ByteArray)) (Cc15:Addr) (Cc16:Int) (Xx14:ByteArray):M (ByteArray):=do
 let Xx17<-ldL ((Cc15).add 1)
 let Xx18<-ixL Xx17 Cc16 4
 let Xx19<-ldG 4 Xx18
 let Xx20<-Z1 Xx19
 let Xx21<-sCat Xx14 Xx20
 self1 (Xx21,IntKind.wrap .i64 (Cc16+1))
def Wh (Cc8:Addr) (self1:(ByteArray×Int)->M (ByteArray)):(ByteArray×Int)->M (ByteArray):=λs=>match s with
 |(Xx6,Xx7)=>do
  let Xx12<-ldL ((Cc8).add 1)
  M.ite (decide (Xx7<(Xx12.len:Int))) (do
   M.ite (decide (Xx7>0)) (do
    let Xx23<-sCat Xx6 (⟨#[44]⟩:ByteArray)
    JL self1 Cc8 Xx7 Xx23
    ) (do
    JL self1 Cc8 Xx7 Xx6
    )
   ) (do
   let Xx26<-ldI .i64 ((Cc8).add 0)
   M.ite (Xx26==1) (do
    M.pure Xx6
    ) (do
    let Xx29<-ldI .i64 ((Cc8).add 0)
    let Xx30<-Ue (⟨#[101,113,32,110,101,113,32,108,116,32,108,116,101,32,103,116,32,103,116,101,32,119,105,116,104,105,110,32,119,105,116,104,111,117,116,32,98,101,116,119,101,101,110]⟩:ByteArray)
    chk (λh:Heap=>(KJ h ((Cc8).add 0)=some (.int .i64 Xx29)))
    let Xx31<-ixL Xx30 (IntKind.wrap .i64 (Xx29 - 1)) 1
    let Xx32<-ldS Xx31
    let Xx33<-sCat Xx32 (⟨#[40]⟩:ByteArray)
    let Xx34<-sCat Xx33 Xx6
    let Xx35<-sCat Xx34 (⟨#[41]⟩:ByteArray)
    M.pure Xx35
    )
   )
def UO (x0:Ea):M (ByteArray):=do
 let Xx2<-mkB VZ x0
 M.loop (Wh Xx2) (ByteArray.empty,0)
theorem KAq (x0:Ea):KY Tryz.prog 142 #[.agg x0] (λ(r:ByteArray)=>.string r) (UO x0):=
 KG [zL,qT] [] [.S] [(0,.G x0)] (.q .o (.q .o (.q (.q .o (.b (.l [(1,.A)] [(3,.S),(4,.I .i64)] (λ(t:Addr)=>Wh t) (λself1=>.q .o (.q (.b (.q .o (.j [(1,.A),(4,.I .i64),(3,.S)] (λ(t:Addr×Int×ByteArray)=>JL self1 t.1 t.2.1 t.2.2) .o))) .o))))) (.q .o (.q (.r [0,0,2,4,9,16,32,0,192,256,1023] [0,0,2,4,9,16,32,0,192,256,512] [0,0,2,6,15,31,63,0,255,511,1023] (.pu 1 (.pu 7 (.pu 2 (.pu 3 (.st [3,4,5,6,8,9,10] (.on 0 (.pu 4 (.pu 5 (.pu 6 (.pu 8 (.pu 9 (.pu 10 (.st [6,8,9,10] .dn)))))))))))))) .o))))) Tryz.func142 rfl rfl ⟨rfl,trivial⟩ rfl (by kernel_rfl) (by kernel_rfl)
noncomputable def KAr:CalleeS Tryz.prog:=mkC KAL KAP [.G] [.S] (λ(t:Ea)=>UO t) (λ(t:Ea)=>KAq t)
end Gx
