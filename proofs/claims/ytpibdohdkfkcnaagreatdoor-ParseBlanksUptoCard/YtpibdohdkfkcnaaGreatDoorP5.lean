/- Printed by program: Go functions as Lean programs, each tied to its code. No condition. -/
import Derived.Test.YtpibdohdkfkcnaaGreatDoorP0
import Derived.Test.YtpibdohdkfkcnaaGreatDoorP1
import Derived.Test.YtpibdohdkfkcnaaGreatDoorP2
import Derived.Test.YtpibdohdkfkcnaaGreatDoorP3
import Derived.Test.YtpibdohdkfkcnaaGreatDoorP4
set_option linter.unusedVariables false
set_option linter.unusedSimpArgs false
set_option maxRecDepth 100000
open Go.Proofs
namespace Gx
open Go
def J2 (Cc74:Addr) (self5:(Sl×Int)->M (Sl)):(Sl×Int)->M (Sl):=λs=>match s with
 |(Xx72,Xx73)=>do
  let Xx78<-ldL ((Cc74).add 5)
  M.ite (decide (Xx73<(Xx78.len:Int))) (do
   let Xx80<-ldL ((Cc74).add 5)
   let Xx81<-ixL Xx80 Xx73 1
   let Xx82<-ldL Xx81
   let Xx83<-W5 Tryz.prog WY #[(Xx82:Sl).v] (λr:ByteArray=>.string r)
   let Xx84<-bdL ZW 1 #[.string Xx83]
   let Xx85<-apL ZW 1 16 (#[.string ByteArray.empty]:Ea) Xx72 Xx84
   self5 (Xx85,IntKind.wrap .i64 (Xx73+1))
   ) (do
   M.pure Xx72
   )
def J3 (Cc58:Addr) (self4:(Sl×Int)->M (Sl)):(Sl×Int)->M (Sl):=λs=>match s with
 |(Xx56,Xx57)=>do
  let Xx62<-ldL ((Cc58).add 4)
  M.ite (decide (Xx57<(Xx62.len:Int))) (do
   let Xx64<-ldL ((Cc58).add 4)
   let Xx65<-ixL Xx64 Xx57 4
   let Xx66<-ldG 4 Xx65
   let Xx67<-Z1 Xx66
   let Xx68<-bdL ZW 1 #[.string Xx67]
   let Xx69<-apL ZW 1 16 (#[.string ByteArray.empty]:Ea) Xx56 Xx68
   self4 (Xx69,IntKind.wrap .i64 (Xx57+1))
   ) (do
   M.loop (J2 Cc58) (Xx56,0)
   )
def J4 (Cc42:Addr) (self3:(Sl×Int)->M (Sl)):(Sl×Int)->M (Sl):=λs=>match s with
 |(Xx40,Xx41)=>do
  let Xx46<-ldL ((Cc42).add 3)
  M.ite (decide (Xx41<(Xx46.len:Int))) (do
   let Xx48<-ldL ((Cc42).add 3)
   let Xx49<-ixL Xx48 Xx41 2
   let Xx50<-ldG 2 Xx49
   let Xx51<-UO Xx50
   let Xx52<-bdL ZW 1 #[.string Xx51]
   let Xx53<-apL ZW 1 16 (#[.string ByteArray.empty]:Ea) Xx40 Xx52
   self3 (Xx53,IntKind.wrap .i64 (Xx41+1))
   ) (do
   M.loop (J3 Cc42) (Xx40,0)
   )
def J5 (Cc25:Addr) (self2:(Sl×Int)->M (Sl)):(Sl×Int)->M (Sl):=λs=>match s with
 |(Xx23,Xx24)=>do
  let Xx29<-ldL ((Cc25).add 2)
  M.ite (decide (Xx24<(Xx29.len:Int))) (do
   let Xx31<-ldL ((Cc25).add 2)
   let Xx32<-ixL Xx31 Xx24 1
   let Xx33<-ldI .i64 Xx32
   let Xx34<-V8 Xx33
   let Xx35<-Z1 Xx34
   let Xx36<-bdL ZW 1 #[.string Xx35]
   let Xx37<-apL ZW 1 16 (#[.string ByteArray.empty]:Ea) Xx23 Xx36
   self2 (Xx37,IntKind.wrap .i64 (Xx24+1))
   ) (do
   M.loop (J4 Cc25) (Xx23,0)
   )
def J6 (Cc8:Addr) (self1:(Sl×Int)->M (Sl)):(Sl×Int)->M (Sl):=λs=>match s with
 |(Xx6,Xx7)=>do
  let Xx12<-ldL ((Cc8).add 1)
  M.ite (decide (Xx7<(Xx12.len:Int))) (do
   let Xx14<-ldL ((Cc8).add 1)
   let Xx15<-ixL Xx14 Xx7 1
   let Xx16<-ldS Xx15
   let Xx17<-V9 Xx16
   let Xx18<-Z1 Xx17
   let Xx19<-bdL ZW 1 #[.string Xx18]
   let Xx20<-apL ZW 1 16 (#[.string ByteArray.empty]:Ea) Xx6 Xx19
   self1 (Xx20,IntKind.wrap .i64 (Xx7+1))
   ) (do
   M.loop (J5 Cc8) (Xx6,0)
   )
def NC (x0:Ea):M (Sl):=do
 let Xx2<-mkB KU x0
 M.loop (J6 Xx2) (Sl.nil,0)
theorem KAW (x0:Ea):KY Tryz.prog 103 #[.agg x0] (λ(r:Sl)=>(r:Sl).v) (NC x0):=
 KG [KAr,zL,zk,zl,mkC WY qK [.L] [.S] (λ(t:Sl)=>W5 Tryz.prog WY #[(t:Sl).v] (λr:ByteArray=>.string r)) (λ(t:Sl)=>Z3)] [] [.L] [(0,.G x0)] (.q .o (.q .o (.q (.q .o (.b (.l [(1,.A)] [(3,.L),(4,.I .i64)] (λ(t:Addr)=>J6 t) (λ_=>.o)))) (.q (.q .o (.b (.l [(1,.A)] [(3,.L),(5,.I .i64)] (λ(t:Addr)=>J5 t) (λ_=>.o)))) (.q (.q .o (.b (.l [(1,.A)] [(3,.L),(6,.I .i64)] (λ(t:Addr)=>J4 t) (λ_=>.o)))) (.q (.q .o (.b (.l [(1,.A)] [(3,.L),(7,.I .i64)] (λ(t:Addr)=>J3 t) (λ_=>.o)))) (.q (.q .o (.b (.l [(1,.A)] [(3,.L),(8,.I .i64)] (λ(t:Addr)=>J2 t) (λ_=>.o)))) .o))))))) Tryz.func103 rfl rfl ⟨rfl,trivial⟩ rfl (by kernel_rfl) (by kernel_rfl)
def GC (Cc5:Sl) (Cc6:Int) (self1:(Int)->M (Bool)):(Int)->M (Bool):=λs=>match s with
 |Xx4=>do
  M.ite (decide (Xx4<(Cc5.len:Int))) (do
   let Xx12<-ixL Cc5 Xx4 4
   let Xx13<-ldG 4 Xx12
   let Xx14<-W5 Tryz.prog YD #[.agg Xx13,.int .i64 (IntKind.wrap .i64 (Cc6+1))] (λr:Bool=>.bool r)
   M.ite (!Xx14) (do
    M.pure false
    ) (do
    self1 (IntKind.wrap .i64 (Xx4+1))
    )
   ) (do
   M.pure true
   )
def qa (x0:Sl) (x1:Int):M (Bool):=do
 M.loop (GC x0 x1) 0
theorem KGZ (x0:Sl) (x1:Int):KY Tryz.prog 109 #[(x0:Sl).v,.int .i64 x1] (λ(r:Bool)=>.bool r) (qa x0 x1):=
 KG [mkC YD zH [.G,.I .i64] [.B] (λ(t:Ea×Int)=>W5 Tryz.prog YD #[.agg t.1,.int .i64 t.2] (λr:Bool=>.bool r)) (λ(t:Ea×Int)=>Z3)] [] [.B] [(0,.L x0),(1,.I .i64 x1)] (.q .o (.q (.q .o (.b (.l [(0,.L),(1,.I .i64)] [(5,.I .i64)] (λ(t:Sl×Int)=>GC t.1 t.2) (λ_=>.o)))) .o)) Tryz.func109 rfl rfl ⟨rfl,rfl,trivial⟩ rfl (by kernel_rfl) (by kernel_rfl)
def JS (self1:(ByteArray×Int)->M (ByteArray)) (Cc19:Int) (Xx14:ByteArray):M (ByteArray):=do
 self1 (Xx14,IntKind.wrap .i64 (Cc19+1))
def Y0 (Cc7:Sl) (Cc8:Int) (Cc9:ByteArray) (Cc10:ByteArray) (self1:(ByteArray×Int)->M (ByteArray)):(ByteArray×Int)->M (ByteArray):=λs=>match s with
 |(Xx5,Xx6)=>do
  M.ite (decide (Xx6<(Cc7.len:Int))) (do
   let Xx21<-ixL Cc7 Xx6 4
   let Xx22<-ldG 4 Xx21
   let Xx23<-W5 Tryz.prog WW #[.agg Xx22,.int .i64 (IntKind.wrap .i64 (Cc8+1))] (λr:ByteArray=>.string r)
   let Xx24<-sCat Xx5 Xx23
   let Xx26<-M.ite (decide ((IntKind.wrap .i64 (Xx6+1))<(Cc7.len:Int))) (do
    M.pure ((Int.tmod Xx6 2)==0)
    ) (do
    M.pure false
    )
   M.ite Xx26 (do
    let Xx27<-sCat Xx24 Cc9
    JS self1 Xx6 Xx27
    ) (do
    M.ite (decide ((IntKind.wrap .i64 (Xx6+1))<(Cc7.len:Int))) (do
     let Xx29<-sCat Xx24 Cc10
     JS self1 Xx6 Xx29
     ) (do
     JS self1 Xx6 Xx24
     )
    )
   ) (do
   M.pure Xx5
   )
def Gc (x0:Sl) (x1:Int) (x2:ByteArray) (x3:ByteArray):M (ByteArray):=do
 M.loop (Y0 x0 x1 x2 x3) (ByteArray.empty,0)
theorem qf (x0:Sl) (x1:Int) (x2:ByteArray) (x3:ByteArray):KY Tryz.prog 113 #[(x0:Sl).v,.int .i64 x1,.string x2,.string x3] (λ(r:ByteArray)=>.string r) (Gc x0 x1 x2 x3):=
 KG [mkC WW qI [.G,.I .i64] [.S] (λ(t:Ea×Int)=>W5 Tryz.prog WW #[.agg t.1,.int .i64 t.2] (λr:ByteArray=>.string r)) (λ(t:Ea×Int)=>Z3)] [] [.S] [(0,.L x0),(1,.I .i64 x1),(2,.S x2),(3,.S x3)] (.q .o (.q .o (.q (.q .o (.b (.l [(0,.L),(1,.I .i64),(2,.S),(3,.S)] [(9,.S),(10,.I .i64)] (λ(t:Sl×Int×ByteArray×ByteArray)=>Y0 t.1 t.2.1 t.2.2.1 t.2.2.2) (λself1=>.q .o (.q .o (.j [(0,.L),(1,.I .i64),(2,.S),(3,.S),(10,.I .i64),(9,.S)] (λ(t:Sl×Int×ByteArray×ByteArray×Int×ByteArray)=>JS self1 t.2.2.2.2.1 t.2.2.2.2.2) .o)))))) .o))) Tryz.func113 rfl rfl ⟨rfl,rfl,rfl,rfl,trivial⟩ rfl (by kernel_rfl) (by kernel_rfl)
def UP (self1:(Sl)->M (Value⊕(Sl))) (Cc13:Option Addr) (Cc15:Bool) (Cc16:Int) (Cc17:Sl):M (Value⊕(Sl)):=do
 thr (Gr Tryz.prog ZU #[.pointer Cc13,.int .i64 (IntKind.wrap .i64 (Cc16+1))] (λr:Ea=>.agg r)) λXx19=>do
  let y_21<-Xs 4 1 (#[.int .i64 0,.int .i64 0,.string ByteArray.empty,.slice none 0 0]:Ea) [(0,.agg Xx19)]
  let Xx20<-bdL KB 1 y_21
  let Xx22<-apL KB 4 56 (#[.int .i64 0,.int .i64 0,.string ByteArray.empty,.slice none 0 0]:Ea) Cc17 Xx20
  M.ite Cc15 (do
   thr (KQ Cc13 (⟨#[58]⟩:ByteArray)) λXx25=>do
    thr (Gr Tryz.prog ZU #[.pointer Cc13,.int .i64 (IntKind.wrap .i64 (Cc16+1))] (λr:Ea=>.agg r)) λXx26=>do
     let y_28<-Xs 4 1 (#[.int .i64 0,.int .i64 0,.string ByteArray.empty,.slice none 0 0]:Ea) [(0,.agg Xx26)]
     let Xx27<-bdL KB 1 y_28
     let Xx29<-apL KB 4 56 (#[.int .i64 0,.int .i64 0,.string ByteArray.empty,.slice none 0 0]:Ea) Xx22 Xx27
     self1 Xx29
   ) (do
   self1 Xx22
   )
def Y6 (Cc5:Option Addr) (Cc6:ByteArray) (Cc7:Bool) (Cc8:Int) (self1:(Sl)->M (Value⊕(Sl))):(Sl)->M (Value⊕(Sl)):=λs=>match s with
 |Xx4=>do
  let Xx12<-ZG Cc5 4 Cc6
  M.ite (!Xx12) (do
   M.ite (decide ((Xx4.len:Int)>0)) (do
    thr (KQ Cc5 (⟨#[44]⟩:ByteArray)) λXx31=>do
     UP self1 Cc5 Cc7 Cc8 Xx4
    ) (do
    UP self1 Cc5 Cc7 Cc8 Xx4
    )
   ) (do
   thr (KQ Cc5 Cc6) λXx33=>do
    M.pure (.inr Xx4)
   )
def Gd (x0:Option Addr) (x1:ByteArray) (x2:Bool) (x3:Int):M (Value⊕(Sl)):=do
 M.loop (Y6 x0 x1 x2 x3) Sl.nil
theorem KEG (x0:Option Addr) (x1:ByteArray) (x2:Bool) (x3:Int):Jx Tryz.prog 115 #[.pointer x0,.string x1,.bool x2,.int .i64 x3] (λ(r:Sl)=>(r:Sl).v) (Gd x0 x1 x2 x3):=
 Zp [Ug] [mkX Zc Zd [.P,.S] [] (λ(t:Option Addr×ByteArray)=>KQ t.1 t.2) (λ(t:Option Addr×ByteArray)=>Zm t.1 t.2),mkX ZU VH [.P,.I .i64] [.G] (λ(t:Option Addr×Int)=>Gr Tryz.prog ZU #[.pointer t.1,.int .i64 t.2] (λr:Ea=>.agg r)) (λ(t:Option Addr×Int)=>zA)] [0,10,17,20,27,30,36] [.L] [(0,.P x0),(1,.S x1),(2,.B x2),(3,.I .i64 x3)] (.q .o (.q .o (.q (.b (.l [(0,.P),(1,.S),(2,.B),(3,.I .i64)] [(9,.L)] (λ(t:Option Addr×ByteArray×Bool×Int)=>Y6 t.1 t.2.1 t.2.2.1 t.2.2.2) (λself1=>.q .o (.b (.q (.q .o (.q (.x [1]) .o)) (.j [(0,.P),(1,.S),(2,.B),(3,.I .i64),(9,.L)] (λ(t:Option Addr×ByteArray×Bool×Int×Sl)=>UP self1 t.1 t.2.2.1 t.2.2.2.1 t.2.2.2.2) (.q (.x [4]) (.q .o (.q (.q (.x [1]) (.x [4])) .o))))))))) (.q (.x [2]) .o)))) Tryz.func115 rfl rfl ⟨rfl,rfl,rfl,rfl,trivial⟩ rfl (by kernel_rfl) (by kernel_rfl)
def Nz (x0:ByteArray):M (Bool):=do
 let Xx3<-N8 x0
 M.pure (!Xx3)
theorem KIN (x0:ByteArray):KY Tryz.prog 160 #[.string x0] (λ(r:Bool)=>.bool r) (Nz x0):=
 KG [KGv] [] [.B] [(0,.S x0)] .o Tryz.func160 rfl rfl ⟨rfl,trivial⟩ rfl (by kernel_rfl) (by kernel_rfl)
noncomputable def KIO:CalleeS Tryz.prog:=mkC KG7 KHE [.S] [.B] (λ(t:ByteArray)=>Nz t) (λ(t:ByteArray)=>KIN t)
def Vr (Cc7:ByteArray):M (Value⊕(ByteArray)):=do
 M.pure (.inr Cc7)
def WJ (x0:Option Addr):M (Value⊕(ByteArray)):=do
 let Xx3<-ZE x0
 thr (Ka x0 3) λXx5=>do
  let Xx6<-fdS Xx5 1
  let Xx10<-Nz Xx6
  M.ite Xx10 (do
   thr (ZJ Xx3 160) λXx11=>do
    Vr Xx6
   ) (do
   Vr Xx6
   )
theorem KEH (x0:Option Addr):Jx Tryz.prog 148 #[.pointer x0] (λ(r:ByteArray)=>.string r) (WJ x0):=
 Zp [Zl,KIO] [mkX VE UU [.I .i64,.I .i64] [] (λ(t:Int×Int)=>ZJ t.1 t.2) (λ(t:Int×Int)=>VP t.1 t.2),mkX UE UG [.P,.I .i64] [.G] (λ(t:Option Addr×Int)=>Ka t.1 t.2) (λ(t:Option Addr×Int)=>Us t.1 t.2)] [0,5,7] [.S] [(0,.P x0)] (.q .o (.q .o (.q (.x [1]) (.q (.q .o (.q (.x [1]) .o)) (.j [(4,.S)] (λ(t:ByteArray)=>Vr t) .o))))) Tryz.func148 rfl rfl ⟨rfl,trivial⟩ rfl (by kernel_rfl) (by kernel_rfl)
def zP (x0:Int):M (Bool):=do
 let Xx3<-M.ite (decide (x0<0)) (do
  M.pure true
  ) (do
  M.pure (decide (x0>9007199254740992))
  )
 M.pure Xx3
theorem KJY (x0:Int):KY Tryz.prog 162 #[.int .i64 x0] (λ(r:Bool)=>.bool r) (zP x0):=
 KG [] [] [.B] [(0,.I .i64 x0)] .o Tryz.func162 rfl rfl ⟨rfl,trivial⟩ rfl (by kernel_rfl) (by kernel_rfl)
noncomputable def KJZ:CalleeS Tryz.prog:=mkC KH3 KH7 [.I .i64] [.B] (λ(t:Int)=>zP t) (λ(t:Int)=>KJY t)
def Wi (Cc7:Int):M (Value⊕(Int)):=do
 M.pure (.inr Cc7)
def Wv (x0:Option Addr):M (Value⊕(Int)):=do
 let Xx3<-ZE x0
 thr (Ka x0 2) λXx5=>do
  let Xx6<-fdI .i64 Xx5 2
  let Xx10<-zP Xx6
  M.ite Xx10 (do
   thr (ZJ Xx3 160) λXx11=>do
    Wi Xx6
   ) (do
   Wi Xx6
   )
theorem KFg (x0:Option Addr):Jx Tryz.prog 149 #[.pointer x0] (λ(r:Int)=>.int .i64 r) (Wv x0):=
 Zp [Zl,KJZ] [mkX VE UU [.I .i64,.I .i64] [] (λ(t:Int×Int)=>ZJ t.1 t.2) (λ(t:Int×Int)=>VP t.1 t.2),mkX UE UG [.P,.I .i64] [.G] (λ(t:Option Addr×Int)=>Ka t.1 t.2) (λ(t:Option Addr×Int)=>Us t.1 t.2)] [0,5,7] [.I .i64] [(0,.P x0)] (.q .o (.q .o (.q (.x [1]) (.q (.q .o (.q (.x [1]) .o)) (.j [(4,.I .i64)] (λ(t:Int)=>Wi t) .o))))) Tryz.func149 rfl rfl ⟨rfl,trivial⟩ rfl (by kernel_rfl) (by kernel_rfl)
def WK (Cc6:Addr) (Cc7:Int) (Xx5:Bool):M (Ea):=do
 M.ite Xx5 (do
  let Xx9<-WH 0
  M.need (Xx9.size=2)
  stG Cc6 Xx9
  let Rr11<-ldG 2 Cc6
  M.pure Rr11
  ) (do
  M.ite (Cc7==9) (do
   let Xx14<-Zb 2
   M.need (Xx14.size=2)
   stG Cc6 Xx14
   let Rr16<-ldG 2 Cc6
   M.pure Rr16
   ) (do
   let Xx18<-Zb 1
   M.need (Xx18.size=2)
   stG Cc6 Xx18
   let Rr20<-ldG 2 Cc6
   M.pure Rr20
   )
  )
def XF (x0:Int):M (Ea):=do
 let Xx2<-mkB ZA (#[.int .i64 0,.int .i64 0]:Ea)
 M.ite (x0==7) (do
  WK Xx2 x0 (x0==7)
  ) (do
  WK Xx2 x0 (x0==8)
  )
theorem KHL (x0:Int):KY Tryz.prog 198 #[.int .i64 x0] (λ(r:Ea)=>.agg r) (XF x0):=
 KG [KGx,KGy] [] [.G] [(0,.I .i64 x0)] (.q .o (.q (.q .o (.b (.q .o (.j [(2,.A),(3,.I .i64),(4,.B)] (λ(t:Addr×Int×Bool)=>WK t.1 t.2.1 t.2.2) .o)))) .o)) Tryz.func198 rfl rfl ⟨rfl,trivial⟩ rfl (by kernel_rfl) (by kernel_rfl)
noncomputable def KHM:CalleeS Tryz.prog:=mkC KGC KGE [.I .i64] [.G] (λ(t:Int)=>XF t) (λ(t:Int)=>KHL t)
def UQ (Cc6:Addr) (Cc7:Addr) (Xx5:Int):M (Value⊕(Ea)):=do
 M.ite (Xx5==0) (do
  let Xx11<-ldP Cc6
  thr (Kj Xx11 1) λXx12=>do
   let y_14<-Xs 4 1 (#[.int .i64 0,.int .i64 0,.string ByteArray.empty,.slice none 0 0]:Ea) [(0,.agg Xx12)]
   let Xx13<-bdL KB 1 y_14
   M.need ((#[.int .i64 1,(Xx13:Sl).v]:Ea).size=2)
   stG Cc7 (#[.int .i64 1,(Xx13:Sl).v]:Ea)
   let Rr16<-ldG 2 Cc7
   M.pure (.inr Rr16)
  ) (do
  let Xx18<-mkB VZ (#[.int .i64 0,.slice none 0 0]:Ea)
  M.need ((#[.int .i64 Xx5,.slice none 0 0]:Ea).size=2)
  stG Xx18 (#[.int .i64 Xx5,.slice none 0 0]:Ea)
  let Xx21<-ldP Cc6
  thr (Ka Xx21 1) λXx22=>do
   let Xx24<-ldP Cc6
   thr (KQ Xx24 (⟨#[40]⟩:ByteArray)) λXx25=>do
    let Xx27<-ldP Cc6
    let Xx28<-XF Xx5
    chk (λh:Heap=>(KJ h Cc6=some (.pointer Xx27)))
    thr (JB Xx27 Xx28 (Value.func (.func KAi) #[] #[.pointer (some Xx18),.pointer (some Cc6)])) λXx29=>do
     let Xx31<-ldG 2 Xx18
     M.need (Xx31.size=2)
     stG Cc7 Xx31
     let Rr33<-ldG 2 Cc7
     M.pure (.inr Rr33)
  )
def WL (x0:Option Addr):M (Value⊕(Ea)):=do
 let Xx2<-mkB Z9 #[.pointer x0]
 let Xx3<-mkB VZ (#[.int .i64 0,.slice none 0 0]:Ea)
 let Xx35<-ldP Xx2
 let Xx36<-nilP Xx35
 let Xx37<-ldL ((Xx36).add 0)
 let Xx38<-M.ite (decide ((Xx37.len:Int)>0)) (do
  let Xx39<-ldP Xx2
  let Xx40<-nilP Xx39
  let Xx41<-ldL ((Xx40).add 0)
  let Xx42<-ixL Xx41 0 4
  let Xx43<-ldI .i64 ((Xx42).add 0)
  M.pure (Xx43==1)
  ) (do
  M.pure false
  )
 M.ite Xx38 (do
  let Xx44<-ldP Xx2
  let Xx45<-nilP Xx44
  let Xx46<-ldL ((Xx45).add 0)
  let Xx47<-ixL Xx46 0 4
  let Xx48<-ldS ((Xx47).add 1)
  let Xx49<-GX (⟨#[101,113,32,110,101,113,32,108,116,32,108,116,101,32,103,116,32,103,116,101,32,119,105,116,104,105,110,32,119,105,116,104,111,117,116,32,98,101,116,119,101,101,110]⟩:ByteArray) Xx48
  UQ Xx2 Xx3 Xx49
  ) (do
  UQ Xx2 Xx3 0
  )
theorem KEI (x0:Option Addr):Jx Tryz.prog 150 #[.pointer x0] (λ(r:Ea)=>.agg r) (WL x0):=
 Zp [KFb,KHM] [mkX UE UG [.P,.I .i64] [.G] (λ(t:Option Addr×Int)=>Ka t.1 t.2) (λ(t:Option Addr×Int)=>Us t.1 t.2),mkX Na Nd [.P,.G,.V] [] (λ(t:Option Addr×Ea×Value)=>JB t.1 t.2.1 t.2.2) (λ(t:Option Addr×Ea×Value)=>qX t.1 t.2.1 t.2.2),mkX Zc Zd [.P,.S] [] (λ(t:Option Addr×ByteArray)=>KQ t.1 t.2) (λ(t:Option Addr×ByteArray)=>Zm t.1 t.2),mkX ZU VH [.P,.I .i64] [.G] (λ(t:Option Addr×Int)=>Kj t.1 t.2) (λ(t:Option Addr×Int)=>Vq t.1 t.2)] [0,5,12,21,31,37,39,41] [.G] [(0,.P x0)] (.q .o (.q .o (.q .o (.j [(1,.A),(2,.A),(3,.I .i64)] (λ(t:Addr×Addr×Int)=>UQ t.1 t.2.1 t.2.2) (.q (.q .o (.q (.q (.x [1]) .o) .o)) (.q .o (.q (.x [1]) (.q (.x [1]) (.q (.r [0,0,2,0,13] [0,0,2,0,13] [0,0,2,0,15] (.pu 1 (.pu 3 (.pu 0 (.st [4] (.on 2 (.on 4 .dn))))))) .o))))))))) Tryz.func150 rfl rfl ⟨rfl,trivial⟩ rfl (by kernel_rfl) (by kernel_rfl)
def Xd (x0:Int) (x1:Addr) (x2:Addr) (x3:Addr) (x4:Addr):M (Value⊕(Unit)):=do
 let Xx2<-ldI .i64 (((x1).add 0).add 1)
 M.ite (decide (x0<Xx2)) (do
  let Xx3<-ldL ((x2).add 1)
  let Xx4<-ldP x3
  thr (WJ Xx4) λXx5=>do
   chk (λh:Heap=>(KJ h ((x2).add 1)=some ((Xx3:Sl).v))/\(KJ h x3=some (.pointer Xx4)))
   let Xx6<-bdL ZW 1 #[.string Xx5]
   chk (λh:Heap=>(KJ h ((x2).add 1)=some ((Xx3:Sl).v))/\(KJ h x3=some (.pointer Xx4)))
   let Xx7<-apL ZW 1 16 (#[.string ByteArray.empty]:Ea) Xx3 Xx6
   stV ((x2).add 1) ((Xx7:Sl).v)
   M.pure (.inr ())
  ) (do
  let Xx10<-ldI .i64 (((x1).add 0).add 1)
  let Xx11<-ldI .i64 (((x1).add 2).add 1)
  M.ite (decide (x0<(IntKind.wrap .i64 (Xx10+Xx11)))) (do
   let Xx12<-ldL ((x2).add 2)
   let Xx13<-ldP x3
   thr (Wv Xx13) λXx14=>do
    chk (λh:Heap=>(KJ h ((x2).add 2)=some ((Xx12:Sl).v))/\(KJ h x3=some (.pointer Xx13)))
    let Xx15<-bdL KO8 1 #[.int .i64 Xx14]
    chk (λh:Heap=>(KJ h ((x2).add 2)=some ((Xx12:Sl).v))/\(KJ h x3=some (.pointer Xx13)))
    let Xx16<-apL KO8 1 8 (#[.int .i64 0]:Ea) Xx12 Xx15
    stV ((x2).add 2) ((Xx16:Sl).v)
    M.pure (.inr ())
   ) (do
   let Xx19<-ldL ((x2).add 3)
   let Xx20<-ldI .i64 (((x1).add 4).add 1)
   M.ite (decide ((Xx19.len:Int)<Xx20)) (do
    let Xx21<-ldL ((x2).add 3)
    let Xx22<-ldP x3
    thr (WL Xx22) λXx23=>do
     chk (λh:Heap=>(KJ h ((x2).add 3)=some ((Xx21:Sl).v))/\(KJ h x3=some (.pointer Xx22)))
     let y_25<-Xs 2 1 (#[.int .i64 0,.slice none 0 0]:Ea) [(0,.agg Xx23)]
     let Xx24<-bdL VZ 1 y_25
     chk (λh:Heap=>(KJ h ((x2).add 3)=some ((Xx21:Sl).v))/\(KJ h x3=some (.pointer Xx22)))
     let Xx26<-apL VZ 2 32 (#[.int .i64 0,.slice none 0 0]:Ea) Xx21 Xx24
     stV ((x2).add 3) ((Xx26:Sl).v)
     M.pure (.inr ())
    ) (do
    let Xx29<-ldL ((x2).add 4)
    let Xx30<-ldI .i64 (((x1).add 6).add 1)
    M.ite (decide ((Xx29.len:Int)<Xx30)) (do
     let Xx31<-ldL ((x2).add 4)
     let Xx32<-ldP x3
     thr (do
      M.both (do
       thr (Kj Xx32 1) λXx33=>do
        chk (λh:Heap=>(KJ h ((x2).add 4)=some ((Xx31:Sl).v))/\(KJ h x3=some (.pointer Xx32)))
        let y_35<-Xs 4 1 (#[.int .i64 0,.int .i64 0,.string ByteArray.empty,.slice none 0 0]:Ea) [(0,.agg (#[.int .i64 0,.int .i64 0,.string ByteArray.empty,.slice none 0 0]:Ea))]
        let Xx34<-bdL KB 1 y_35
        chk (λh:Heap=>(KJ h ((x2).add 4)=some ((Xx31:Sl).v))/\(KJ h x3=some (.pointer Xx32)))
        M.pure (.inr (Xx33,Xx34))
       ) (do
       let y_37<-Xs 4 1 (#[.int .i64 0,.int .i64 0,.string ByteArray.empty,.slice none 0 0]:Ea) [(0,.agg (#[.int .i64 0,.int .i64 0,.string ByteArray.empty,.slice none 0 0]:Ea))]
       let Xx36<-bdL KB 1 y_37
       chk (λh:Heap=>(KJ h ((x2).add 4)=some ((Xx31:Sl).v))/\(KJ h x3=some (.pointer Xx32)))
       thr (Kj Xx32 1) λXx38=>do
        chk (λh:Heap=>(KJ h ((x2).add 4)=some ((Xx31:Sl).v))/\(KJ h x3=some (.pointer Xx32)))
        M.pure (.inr (Xx38,Xx36))
       )
      ) λy_39=>do
      let Xx40<-apL KB 4 56 (#[.int .i64 0,.int .i64 0,.string ByteArray.empty,.slice none 0 0]:Ea) Xx31 y_39.2
      let Xx41<-ixL Xx40 (Xx31.len:Int) 4
      let y_46<-do
       M.both (do
        M.need (y_39.1.size=4)
        stG Xx41 y_39.1
        stV ((x2).add 4) ((Xx40:Sl).v)
        M.pure ()
        ) (do
        stV ((x2).add 4) ((Xx40:Sl).v)
        M.need (y_39.1.size=4)
        stG Xx41 y_39.1
        M.pure ()
        )
      M.pure (.inr ())
     ) (do
     let Xx47<-ldL ((x2).add 5)
     let Xx48<-ldP x3
     let Xx49<-ldI .i64 x4
     thr (ZP Xx48 (IntKind.wrap .i64 (Xx49+1))) λXx50=>do
      chk (λh:Heap=>(KJ h ((x2).add 5)=some ((Xx47:Sl).v))/\(KJ h x3=some (.pointer Xx48))/\(KJ h x4=some (.int .i64 Xx49)))
      let Xx51<-bdL Gm 1 #[(Xx50:Sl).v]
      chk (λh:Heap=>(KJ h ((x2).add 5)=some ((Xx47:Sl).v))/\(KJ h x3=some (.pointer Xx48))/\(KJ h x4=some (.int .i64 Xx49)))
      let Xx52<-apL Gm 1 24 (#[.slice none 0 0]:Ea) Xx47 Xx51
      stV ((x2).add 5) ((Xx52:Sl).v)
      M.pure (.inr ())
     )
    )
   )
  )
theorem KBU (x0:Int) (x1:Addr) (x2:Addr) (x3:Addr) (x4:Addr):Jx Tryz.prog 147 #[.int .i64 x0,.pointer (some x1),.pointer (some x2),.pointer (some x3),.pointer (some x4)] (λ(r:Unit)=>.tuple #[]) (Xd x0 x1 x2 x3 x4):=
 Zp [] [mkX KBx KCK [.P] [.S] (λ(t:Option Addr)=>WJ t) (λ(t:Option Addr)=>KEH t),mkX KDB KDU [.P] [.I .i64] (λ(t:Option Addr)=>Wv t) (λ(t:Option Addr)=>KFg t),mkX KBy KCL [.P] [.G] (λ(t:Option Addr)=>WL t) (λ(t:Option Addr)=>KEI t),mkX XA XD [.P,.I .i64] [.L] (λ(t:Option Addr×Int)=>ZP t.1 t.2) (λ(t:Option Addr×Int)=>Xi t.1 t.2),mkX ZU VH [.P,.I .i64] [.G] (λ(t:Option Addr×Int)=>Kj t.1 t.2) (λ(t:Option Addr×Int)=>Vq t.1 t.2)] [8,23,40,55,70] [] [(0,.I .i64 x0),(1,.A x1),(2,.A x2),(3,.A x3),(4,.A x4)] (.b (.q .o (.q (.r [0,1,0,4,8,26,63,127] [0,1,0,4,8,18,0,96] [0,1,0,4,12,31,63,127] (.pu 0 (.pu 1 (.pu 2 (.st [5,6,7] (.on 3 (.on 4 (.on 5 (.pu 6 (.nx (.on 7 .dn))))))))))) (.q .o (.q (.r [0,1,0,4,8,26,63,127] [0,1,0,4,8,18,0,96] [0,1,0,4,12,31,63,127] (.pu 0 (.pu 1 (.pu 2 (.st [5,6,7] (.on 3 (.on 4 (.on 5 (.pu 6 (.nx (.on 7 .dn))))))))))) (.q .o (.q (.r [0,1,0,4,8,26,63,127] [0,1,0,4,8,18,0,96] [0,1,0,4,12,31,63,127] (.pu 0 (.pu 1 (.pu 2 (.st [5,6,7] (.on 3 (.on 4 (.on 5 (.pu 6 (.nx (.on 7 .dn))))))))))) (.q .o (.q (.r [0,1,0,4,2,0,63,127,255,127,639] [0,1,0,4,2,0,34,80,136,0,576] [0,1,0,4,3,0,63,127,255,127,639] (.pu 0 (.pu 1 (.pu 4 (.pu 2 (.st [6,7,8,9,10] (.jn true [(71,.G),(73,.L)] [] 5 63 (.fk [3,5] (.bo 3 (.on 5 .je) (.la 5 (.on 3 .je)))) (.on 6 (.pu 7 (.pu 9 (.nx (.st [8,10] (.jn false [] [] 0 2047 (.fk [8,10] (.bo 8 (.on 10 .je) (.la 10 (.on 8 .je)))) .dn))))))))))))) (.r [0,1,0,0,8,20,32,98,255,511] [0,1,0,0,8,20,32,66,0,384] [0,1,0,0,8,28,60,127,255,511] (.pu 0 (.pu 1 (.pu 2 (.pu 3 (.pu 4 (.st [7,8,9] (.on 5 (.on 6 (.on 7 (.pu 8 (.nx (.on 9 .dn)))))))))))))))))))))) Tryz.func147 rfl rfl ⟨rfl,rfl,rfl,rfl,rfl,trivial⟩ rfl (by kernel_rfl) (by kernel_rfl)
def U2 (Cc14:Option Addr) (Cc15:Int) (Cc16:ByteArray) (Cc17:Int) (self1:(Sl)->M (Sl)):(Sl)->M (Sl):=λs=>match s with
 |Xx13=>do
  let Xx21<-nilP Cc14
  let Xx22<-ldI .i64 ((Xx21).add 2)
  M.ite (decide (Xx22<0)) (do
   let Xx24<-W5 Tryz.prog Zj #[.pointer Cc14,.int .i64 (IntKind.wrap .i64 (Cc15+1))] (λr:Ea=>.agg r)
   let y_26<-Xs 4 1 (#[.int .i64 0,.int .i64 0,.string ByteArray.empty,.slice none 0 0]:Ea) [(0,.agg Xx24)]
   let Xx25<-bdL KB 1 y_26
   let Xx27<-apL KB 4 56 (#[.int .i64 0,.int .i64 0,.string ByteArray.empty,.slice none 0 0]:Ea) Xx13 Xx25
   let Xx29<-M.ite (sEq Cc16 (⟨#[44,32]⟩:ByteArray)) (do
    M.pure true
    ) (do
    M.pure ((Int.tmod (Xx27.len:Int) 2)==0)
    )
   let Xx32<-M.ite Xx29 (do
    let Xx33<-KP Cc14
    M.pure (Xx33==Cc17)
    ) (do
    M.pure false
    )
   M.ite Xx32 (do
    let Xx35<-nilP Cc14
    let Xx36<-ldI .i64 ((Xx35).add 1)
    let Xx37<-nilP Cc14
    stV ((Xx37).add 1) (.int .i64 (IntKind.wrap .i64 (Xx36+1)))
    M.pure Xx27
    ) (do
    M.ite ((Int.tmod (Xx27.len:Int) 2)==1) (do
     let Xx41<-KN Cc14 Cc16
     self1 Xx27
     ) (do
     let Xx42<-KN Cc14 (⟨#[44,32]⟩:ByteArray)
     self1 Xx27
     )
    )
   ) (do
   M.pure Sl.nil
   )
def Wj (x0:Option Addr) (x1:Int) (x2:ByteArray) (x3:Int):M (Sl):=do
 let Xx5<-KP x0
 M.ite (Xx5==x3) (do
  let Xx7<-nilP x0
  let Xx8<-ldI .i64 ((Xx7).add 1)
  let Xx9<-nilP x0
  stV ((Xx9).add 1) (.int .i64 (IntKind.wrap .i64 (Xx8+1)))
  M.pure Sl.nil
  ) (do
  M.loop (U2 x0 x1 x2 x3) Sl.nil
  )
theorem XG (x0:Option Addr) (x1:Int) (x2:ByteArray) (x3:Int):KY Tryz.prog 187 #[.pointer x0,.int .i64 x1,.string x2,.int .u8 x3] (λ(r:Sl)=>(r:Sl).v) (Wj x0 x1 x2 x3):=
 KG [mkC Zj YN [.P,.I .i64] [.G] (λ(t:Option Addr×Int)=>W5 Tryz.prog Zj #[.pointer t.1,.int .i64 t.2] (λr:Ea=>.agg r)) (λ(t:Option Addr×Int)=>Z3),Za,Jm] [0,11,15,22,28,44,49,61,64] [.L] [(0,.P x0),(1,.I .i64 x1),(2,.S x2),(3,.I .u8 x3)] (.q .o (.q .o (.q .o (.q (.b (.l [(0,.P),(1,.I .i64),(2,.S),(3,.I .u8)] [(9,.L)] (λ(t:Option Addr×Int×ByteArray×Int)=>U2 t.1 t.2.1 t.2.2.1 t.2.2.2) (λ_=>.o))) .o)))) Tryz.func187 rfl rfl ⟨rfl,rfl,rfl,rfl,trivial⟩ rfl (by kernel_rfl) (by kernel_rfl)
def qg (x0:Int) (x1:Addr) (x2:Addr):M (Value⊕(Unit)):=do
 let Xx1<-ldL ((x1).add 1)
 let Xx2<-ldP x2
 thr (do
  M.both (do
   thr (Kj Xx2 1) λXx3=>do
    chk (λh:Heap=>(KJ h ((x1).add 1)=some ((Xx1:Sl).v))/\(KJ h x2=some (.pointer Xx2)))
    let y_5<-Xs 4 1 (#[.int .i64 0,.int .i64 0,.string ByteArray.empty,.slice none 0 0]:Ea) [(0,.agg (#[.int .i64 0,.int .i64 0,.string ByteArray.empty,.slice none 0 0]:Ea))]
    let Xx4<-bdL KB 1 y_5
    chk (λh:Heap=>(KJ h ((x1).add 1)=some ((Xx1:Sl).v))/\(KJ h x2=some (.pointer Xx2)))
    M.pure (.inr (Xx3,Xx4))
   ) (do
   let y_7<-Xs 4 1 (#[.int .i64 0,.int .i64 0,.string ByteArray.empty,.slice none 0 0]:Ea) [(0,.agg (#[.int .i64 0,.int .i64 0,.string ByteArray.empty,.slice none 0 0]:Ea))]
   let Xx6<-bdL KB 1 y_7
   chk (λh:Heap=>(KJ h ((x1).add 1)=some ((Xx1:Sl).v))/\(KJ h x2=some (.pointer Xx2)))
   thr (Kj Xx2 1) λXx8=>do
    chk (λh:Heap=>(KJ h ((x1).add 1)=some ((Xx1:Sl).v))/\(KJ h x2=some (.pointer Xx2)))
    M.pure (.inr (Xx8,Xx6))
   )
  ) λy_9=>do
  let Xx10<-apL KB 4 56 (#[.int .i64 0,.int .i64 0,.string ByteArray.empty,.slice none 0 0]:Ea) Xx1 y_9.2
  let Xx11<-ixL Xx10 (Xx1.len:Int) 4
  let y_16<-do
   M.both (do
    M.need (y_9.1.size=4)
    stG Xx11 y_9.1
    stV ((x1).add 1) ((Xx10:Sl).v)
    M.pure ()
    ) (do
    stV ((x1).add 1) ((Xx10:Sl).v)
    M.need (y_9.1.size=4)
    stG Xx11 y_9.1
    M.pure ()
    )
  M.pure (.inr ())
theorem KBV (x0:Int) (x1:Addr) (x2:Addr):Jx Tryz.prog 199 #[.int .i64 x0,.pointer (some x1),.pointer (some x2)] (λ(r:Unit)=>.tuple #[]) (qg x0 x1 x2):=
 Zp [] [mkX ZU VH [.P,.I .i64] [.G] (λ(t:Option Addr×Int)=>Kj t.1 t.2) (λ(t:Option Addr×Int)=>Vq t.1 t.2)] [6] [] [(0,.I .i64 x0),(1,.A x1),(2,.A x2)] (.r [0,1,0,4,2,0,63,127,255,127,639] [0,1,0,4,2,0,34,80,136,0,576] [0,1,0,4,3,0,63,127,255,127,639] (.pu 0 (.pu 1 (.pu 4 (.pu 2 (.st [6,7,8,9,10] (.jn true [(7,.G),(9,.L)] [] 5 63 (.fk [3,5] (.bo 3 (.on 5 .je) (.la 5 (.on 3 .je)))) (.on 6 (.pu 7 (.pu 9 (.nx (.st [8,10] (.jn false [] [] 0 2047 (.fk [8,10] (.bo 8 (.on 10 .je) (.la 10 (.on 8 .je)))) .dn))))))))))))) Tryz.func199 rfl rfl ⟨rfl,rfl,rfl,trivial⟩ rfl (by kernel_rfl) (by kernel_rfl)
end Gx
namespace Gx
open Go
def KIP (x0:Ea) (x1:Addr):M (Bool):=do
 let Xx2<-mkB KB x0
 let Xx4<-ldG 4 Xx2
 let Xx5<-ldI .i64 x1
 let Xx6<-qY Xx4 (IntKind.wrap .i64 (Xx5+1))
 M.pure (!Xx6)
theorem KK7 (x0:Ea) (x1:Addr):KY Tryz.prog 221 #[.agg x0,.pointer (some x1)] (λ(r:Bool)=>.bool r) (KIP x0 x1):=
 KG [KIM] [] [.B] [(0,.G x0),(1,.A x1)] .o Tryz.func221 rfl rfl ⟨rfl,rfl,trivial⟩ rfl (by kernel_rfl) (by kernel_rfl)
end Gx
namespace Gx
open Go
def KX (x0:Option Addr):M (Value⊕(Unit)):=do
 let Xx1<-nilP x0
 let Xx2<-ldI .i64 ((Xx1).add 1)
 M.pure (.inl (Value.iface JK (.agg (#[.int .i64 Xx2]:Ea))))
theorem Z6 (x0:Option Addr):Jx Tryz.prog 228 #[.pointer x0] (λ(r:Unit)=>.tuple #[]) (KX x0):=by
 refine KHl [(0,.pointer x0)] Tryz.func228 rfl rfl (Fc rfl) (KAH ⟨rfl,trivial⟩) (λw0 w Q R X a hret hthr hE hR H=>?_)
 unfold KX at H
 refine JE ?_
 refine VD (v:=.pointer x0) rfl rfl hE rfl (VC hE rfl) (λa hE=>?_)
 obtain⟨Xx1,qXx1,H⟩:=H
 refine VD (v:=.pointer (some Xx1)) rfl rfl hE rfl (N7 hE (KTa rfl (Ew Value.pointer qXx1))) (λa hE=>?_)
 refine VD (v:=.pointer (some ((Xx1).add 1))) rfl rfl hE rfl (WU hE rfl KWo) (λa hE=>?_)
 obtain⟨Xx2,qXx2,H⟩:=H
 refine VD (v:=.int .i64 Xx2) rfl rfl hE rfl (qA hE rfl sc3 qXx2) (λa hE=>?_)
 refine VD (v:=.agg (#[.int .i64 Xx2]:Ea)) rfl rfl hE rfl (KAy hE rfl KYs KaE (by rfl)) (λa hE=>?_)
 refine VD (v:=(Value.iface JK (.agg (#[.int .i64 Xx2]:Ea)))) rfl rfl hE rfl (KHx hE rfl KaC) (λa hE=>?_)
 exact KRQ hE rfl (hthr _ _ hR H)
def Kk (x0:Option Addr):M (Int):=do
 let Xx4<-nilP x0
 let Xx5<-nilP x0
 let Xx6<-ldI .i64 ((Xx4).add 1)
 let Xx7<-ldS ((Xx5).add 0)
 M.ite (decide (Xx6<(Xx7.size:Int))) (do
  let Xx9<-nilP x0
  let Xx10<-nilP x0
  let Xx11<-ldS ((Xx9).add 0)
  let Xx12<-ldI .i64 ((Xx10).add 1)
  let Xx13<-ixS Xx11 Xx12
  M.pure Xx13
  ) (do
  M.pure 0
  )
theorem KEJ (x0:Option Addr):KY Tryz.prog 240 #[.pointer x0] (λ(r:Int)=>.int .u8 r) (Kk x0):=
 KG [] [0,3,7,13,17] [.I .u8] [(0,.P x0)] (.q .o (.q (.q (.r [0,1,2,4,0,16,32,64,128,264] [0,1,2,4,0,16,32,64,128,264] [0,1,3,7,0,16,48,112,240,511] (.pu 0 (.pu 1 (.pu 2 (.pu 4 (.pu 5 (.pu 6 (.pu 3 (.pu 7 (.pu 8 (.pu 9 (.st [9] .dn)))))))))))) (.q (.q (.r [0,1,2,4,0,16,32,64,136,511] [0,1,2,4,0,16,32,64,136,256] [0,1,3,7,0,16,48,112,255,511] (.pu 0 (.pu 1 (.pu 2 (.pu 4 (.pu 5 (.pu 6 (.pu 3 (.pu 7 (.pu 8 (.pu 9 (.st [8,9] .dn)))))))))))) .o) .o)) .o)) Tryz.func240 rfl rfl ⟨rfl,trivial⟩ rfl (by kernel_rfl) (by kernel_rfl)
noncomputable def Ut:CalleeS Tryz.prog:=mkC KCG KCe [.P] [.I .u8] (λ(t:Option Addr)=>Kk t) (λ(t:Option Addr)=>KEJ t)
def Xe (x0:Int):M (Bool):=do
 let Xx3<-M.ite (decide (x0>=48)) (do
  M.pure (decide (x0<=57))
  ) (do
  M.pure false
  )
 M.pure Xx3
theorem KK8 (x0:Int):KY Tryz.prog 241 #[.int .u8 x0] (λ(r:Bool)=>.bool r) (Xe x0):=
 KG [] [] [.B] [(0,.I .u8 x0)] .o Tryz.func241 rfl rfl ⟨rfl,trivial⟩ rfl (by kernel_rfl) (by kernel_rfl)
noncomputable def KFh:CalleeS Tryz.prog:=mkC KJM KJT [.I .u8] [.B] (λ(t:Int)=>Xe t) (λ(t:Int)=>KK8 t)
def Uy (self1:(Int)->M (Value⊕(Int))) (Cc29:Option Addr) (Cc31:Int) (Cc32:Int) (Cc33:Int):M (Value⊕(Int)):=do
 M.ite (Cc33 !=0) (do
  M.pure (.inr Cc31)
  ) (do
  let Xx38<-nilP Cc29
  let Xx39<-ldI .i64 ((Xx38).add 1)
  let Xx40<-nilP Cc29
  stV ((Xx40).add 1) (.int .i64 (IntKind.wrap .i64 (Xx39+1)))
  self1 Cc32
  )
def YA (Cc15:Option Addr) (Cc16:Int) (self1:(Int)->M (Value⊕(Int))):(Int)->M (Value⊕(Int)):=λs=>match s with
 |Xx14=>do
  let Xx20<-Kk Cc15
  let Xx21<-Xe Xx20
  M.ite Xx21 (do
   let Xx23<-nilP Cc15
   let Xx24<-nilP Cc15
   let Xx25<-ldS ((Xx23).add 0)
   let Xx26<-ldI .i64 ((Xx24).add 1)
   let Xx27<-slS Xx25 Cc16 (IntKind.wrap .i64 (Xx26+1))
   let Xx28<-W5 Tryz.prog KA2 #[.string Xx27] (λr:Int×Int=>.tuple #[.int .i64 r.1,.int .i64 r.2])
   M.ite (Xx28.2==7) (do
    thr (KX Cc15) λXx43=>do
     Uy self1 Cc15 Xx14 Xx28.1 Xx28.2
    ) (do
    Uy self1 Cc15 Xx14 Xx28.1 Xx28.2
    )
   ) (do
   M.pure (.inr Xx14)
   )
def Jb (Cc10:Option Addr) (Cc11:Int):M (Value⊕(Int)):=do
 M.loop (YA Cc10 Cc11) 0
def Jc (Cc5:Option Addr) (Cc6:Int):M (Value⊕(Int)):=do
 let Xx8<-nilP Cc5
 let Xx9<-ldI .i64 ((Xx8).add 1)
 let Xx46<-Kk Cc5
 let Xx47<-Xe Xx46
 let Xx48<-M.ite (!Xx47) (do
  M.pure true
  ) (do
  let Xx49<-M.ite (decide (Xx9>Cc6)) (do
   let Xx50<-Kk Cc5
   M.pure (Xx50==48)
   ) (do
   M.pure false
   )
  M.pure Xx49
  )
 M.ite Xx48 (do
  thr (KX Cc5) λXx51=>do
   Jb Cc5 Cc6
  ) (do
  Jb Cc5 Cc6
  )
def Z7 (x0:Option Addr):M (Value⊕(Int)):=do
 let Xx3<-nilP x0
 let Xx4<-ldI .i64 ((Xx3).add 1)
 let Xx53<-Kk x0
 M.ite (Xx53==45) (do
  let Xx54<-nilP x0
  let Xx55<-ldI .i64 ((Xx54).add 1)
  let Xx56<-nilP x0
  stV ((Xx56).add 1) (.int .i64 (IntKind.wrap .i64 (Xx55+1)))
  Jc x0 Xx4
  ) (do
  Jc x0 Xx4
  )
theorem ND (x0:Option Addr):Jx Tryz.prog 242 #[.pointer x0] (λ(r:Int)=>.int .i64 r) (Z7 x0):=
 Zp [Ut,KFh,mkC KA2 KMM [.S] [.I .i64,.I .i64] (λ(t:ByteArray)=>W5 Tryz.prog KA2 #[.string t] (λr:Int×Int=>.tuple #[.int .i64 r.1,.int .i64 r.2])) (λ(t:ByteArray)=>Z3)] [mkX JO Zv [.P] [] (λ(t:Option Addr)=>KX t) (λ(t:Option Addr)=>Z6 t)] [0,8,12,15,22,28,35,40,42,46,51,62,68] [.I .i64] [(0,.P x0)] (.q .o (.q .o (.q .o (.j [(0,.P),(3,.I .i64)] (λ(t:Option Addr×Int)=>Jc t.1 t.2) (.q .o (.q (.q .o (.q (.x [1]) .o)) (.j [(0,.P),(3,.I .i64)] (λ(t:Option Addr×Int)=>Jb t.1 t.2) (.q .o (.q (.b (.l [(0,.P),(3,.I .i64)] [(5,.I .i64)] (λ(t:Option Addr×Int)=>YA t.1 t.2) (λself1=>.q .o (.b (.q (.r [0,1,2,4,0,0,32,64,128,256,536,1024,2048,4096,4096,16383,65535] [0,1,2,4,0,0,32,64,128,256,536,1024,2048,4096,4096,8192,16384] [0,1,3,7,0,0,32,96,224,480,1023,2047,4095,8191,8191,16383,65535] (.pu 0 (.pu 1 (.pu 2 (.pu 4 (.pu 5 (.pu 6 (.pu 7 (.pu 3 (.pu 8 (.pu 9 (.pu 10 (.st [10,11,12,13,14,15,16] (.on 11 (.pu 12 (.pu 13 (.pu 14 (.pu 15 (.pu 16 (.nx .dn)))))))))))))))))))) (.q (.q .o (.q (.x [1]) .o)) (.j [(0,.P),(3,.I .i64),(5,.I .i64),(6,.I .i64),(7,.I .i64)] (λ(t:Option Addr×Int×Int×Int×Int)=>Uy self1 t.1 t.2.2.1 t.2.2.2.1 t.2.2.2.2) .o))))))) .o))))))))) Tryz.func242 rfl rfl ⟨rfl,trivial⟩ rfl (by kernel_rfl) (by kernel_rfl)
def Vs (self1:(Int)->M (Value⊕(Unit))) (Cc11:Option Addr) (Cc14:Int):M (Value⊕(Unit)):=do
 let Xx15<-nilP Cc11
 let Xx16<-ldI .i64 ((Xx15).add 1)
 let Xx17<-nilP Cc11
 stV ((Xx17).add 1) (.int .i64 (IntKind.wrap .i64 (Xx16+1)))
 self1 (IntKind.wrap .i64 (Cc14+1))
def JT (self1:(Int)->M (Value⊕(Unit))) (Cc20:Option Addr) (Cc23:Int) (Xx19:Bool):M (Value⊕(Unit)):=do
 M.ite Xx19 (do
  thr (KX Cc20) λXx24=>do
   Vs self1 Cc20 Cc23
  ) (do
  Vs self1 Cc20 Cc23
  )
def Y7 (Cc3:Option Addr) (Cc4:ByteArray) (Cc5:Int) (self1:(Int)->M (Value⊕(Unit))):(Int)->M (Value⊕(Unit)):=λs=>match s with
 |Xx2=>do
  M.ite (decide (Xx2<Cc5)) (do
   let Xx25<-nilP Cc3
   let Xx26<-nilP Cc3
   let Xx27<-ldI .i64 ((Xx25).add 1)
   let Xx28<-ldS ((Xx26).add 0)
   M.ite (decide (Xx27>=(Xx28.size:Int))) (do
    JT self1 Cc3 Xx2 true
    ) (do
    let Xx30<-nilP Cc3
    let Xx31<-nilP Cc3
    let Xx32<-ixS Cc4 Xx2
    let Xx33<-ldS ((Xx30).add 0)
    let Xx34<-ldI .i64 ((Xx31).add 1)
    let Xx35<-ixS Xx33 Xx34
    JT self1 Cc3 Xx2 (Xx35 !=Xx32)
    )
   ) (do
   M.pure (.inr ())
   )
def Kl (x0:Option Addr) (x1:ByteArray):M (Value⊕(Unit)):=do
 M.loop (Y7 x0 x1 (x1.size:Int)) 0
theorem Uu (x0:Option Addr) (x1:ByteArray):Jx Tryz.prog 244 #[.pointer x0,.string x1] (λ(r:Unit)=>.tuple #[]) (Kl x0 x1):=
 Zp [] [mkX JO Zv [.P] [] (λ(t:Option Addr)=>KX t) (λ(t:Option Addr)=>Z6 t)] [0,10,14,21,25,35,37] [] [(0,.P x0),(1,.S x1)] (.q .o (.b (.l [(0,.P),(1,.S),(6,.I .i64)] [(7,.I .i64)] (λ(t:Option Addr×ByteArray×Int)=>Y7 t.1 t.2.1 t.2.2) (λself1=>.q .o (.q .o (.q (.b (.q .o (.q (.q (.r [0,1,2,4,0,16,32,64,128,264,512,1024,3072,5120,9216,1024,33792,66560,132096,279552,1024,1024,3146752,4719616,8389632] [0,1,2,4,0,16,32,64,128,264,512,1024,3072,5120,9216,1024,33792,66560,132096,279552,1024,1024,3146752,4719616,8389632] [0,1,3,7,0,16,48,112,240,511,1023,2047,4095,8191,16383,2047,34815,100351,231423,524287,2047,2047,3147775,8388607,16777215] (.pu 0 (.pu 1 (.pu 2 (.pu 4 (.pu 5 (.pu 6 (.pu 3 (.pu 7 (.pu 8 (.pu 9 (.pu 10 (.g 10 (.of 11 (.of 12 (.of 13 (.of 14 (.of 15 (.of 16 (.of 17 (.of 18 (.of 19 (.of 20 (.of 21 (.of 22 (.of 23 (.pu 24 (.st [9,10,11,12,13,14,15,16,17,18,19,20,21,22,23,24] .dn))))))))))))))) (.pu 11 (.pu 12 (.pu 13 (.pu 15 (.pu 16 (.pu 17 (.pu 20 (.pu 21 (.pu 22 (.pu 14 (.pu 18 (.pu 19 (.pu 23 (.pu 24 (.st [19,23,24] .dn)))))))))))))))))))))))))))) (.j [(0,.P),(1,.S),(6,.I .i64),(7,.I .i64),(34,.B)] (λ(t:Option Addr×ByteArray×Int×Int×Bool)=>JT self1 t.1 t.2.2.2.1 t.2.2.2.2) (.q (.x [1]) .o))) (.j [(0,.P),(1,.S),(6,.I .i64),(7,.I .i64)] (λ(t:Option Addr×ByteArray×Int×Int)=>Vs self1 t.1 t.2.2.2) .o)))) .o)))))) Tryz.func244 rfl rfl ⟨rfl,rfl,trivial⟩ rfl (by kernel_rfl) (by kernel_rfl)
def UW (Cc28:Option Addr) (Cc29:Int) (Cc30:Int):M (Value⊕(Int)):=do
 let Xx32<-nilP Cc28
 let Xx33<-ldI .i64 ((Xx32).add 1)
 let Xx34<-nilP Cc28
 stV ((Xx34).add 1) (.int .i64 (IntKind.wrap .i64 (Xx33+1)))
 M.pure (.inr (IntKind.wrap .u8 (iOr .i64 (iShl .i64 Cc29 4) Cc30)))
def ZB (Cc38:Option Addr) (Cc39:Int) (Cc40:Int) (Xx37:Bool):M (Value⊕(Int)):=do
 M.ite Xx37 (do
  thr (KX Cc38) λXx41=>do
   UW Cc38 Cc39 Cc40
  ) (do
  UW Cc38 Cc39 Cc40
  )
def UX (Cc18:Option Addr) (Cc19:Int):M (Value⊕(Int)):=do
 let Xx21<-nilP Cc18
 let Xx22<-ldI .i64 ((Xx21).add 1)
 let Xx23<-nilP Cc18
 stV ((Xx23).add 1) (.int .i64 (IntKind.wrap .i64 (Xx22+1)))
 let Xx26<-Kk Cc18
 let Xx27<-JA (⟨#[48,49,50,51,52,53,54,55,56,57,97,98,99,100,101,102]⟩:ByteArray) Xx26
 let Xx42<-nilP Cc18
 let Xx43<-nilP Cc18
 let Xx44<-ldI .i64 ((Xx42).add 1)
 let Xx45<-ldS ((Xx43).add 0)
 M.ite (decide (Xx44>=(Xx45.size:Int))) (do
  ZB Cc18 Cc19 Xx27 true
  ) (do
  M.ite (decide (Xx27<0)) (do
   ZB Cc18 Cc19 Xx27 true
   ) (do
   M.ite (Cc19==7) (do
    ZB Cc18 Cc19 Xx27 (decide (Xx27<15))
    ) (do
    ZB Cc18 Cc19 Xx27 false
    )
   )
  )
def ZC (Cc50:Option Addr) (Cc51:Int) (Xx49:Bool):M (Value⊕(Int)):=do
 M.ite Xx49 (do
  thr (KX Cc50) λXx52=>do
   UX Cc50 Cc51
  ) (do
  UX Cc50 Cc51
  )
def UR (x0:Option Addr):M (Value⊕(Int)):=do
 let Xx4<-Kk x0
 let Xx6<-M.ite (Xx4==39) (do
  M.pure true
  ) (do
  M.pure (Xx4==92)
  )
 M.ite Xx6 (do
  let Xx8<-nilP x0
  let Xx9<-ldI .i64 ((Xx8).add 1)
  let Xx10<-nilP x0
  stV ((Xx10).add 1) (.int .i64 (IntKind.wrap .i64 (Xx9+1)))
  M.pure (.inr Xx4)
  ) (do
  thr (Kl x0 (⟨#[120]⟩:ByteArray)) λXx14=>do
   let Xx16<-Kk x0
   let Xx17<-JA (⟨#[48,49,50,51,52,53,54,55,56,57,97,98,99,100,101,102]⟩:ByteArray) Xx16
   let Xx53<-nilP x0
   let Xx54<-nilP x0
   let Xx55<-ldI .i64 ((Xx53).add 1)
   let Xx56<-ldS ((Xx54).add 0)
   M.ite (decide (Xx55>=(Xx56.size:Int))) (do
    ZC x0 Xx17 true
    ) (do
    M.ite (decide (Xx17<0)) (do
     ZC x0 Xx17 true
     ) (do
     M.ite (decide (Xx17>1)) (do
      ZC x0 Xx17 (decide (Xx17<7))
      ) (do
      ZC x0 Xx17 false
      )
     )
    )
  )
theorem KAs (x0:Option Addr):Jx Tryz.prog 254 #[.pointer x0] (λ(r:Int)=>.int .u8 r) (UR x0):=
 Zp [qS,Ut] [mkX JO Zv [.P] [] (λ(t:Option Addr)=>KX t) (λ(t:Option Addr)=>Z6 t),mkX UF UH [.P,.S] [] (λ(t:Option Addr×ByteArray)=>Kl t.1 t.2) (λ(t:Option Addr×ByteArray)=>Uu t.1 t.2)] [0,6,14,22,24,27,31,49,51,58,61,65,83,85] [.I .u8] [(0,.P x0)] (.q .o (.q .o (.q (.x [1]) (.q .o (.q (.q (.r [0,1,2,4,0,16,32,64,128,264,512,1024,3072,5120,9216,16384,49152,81920,131072,393216,671744,1064960] [0,1,2,4,0,16,32,64,128,264,512,1024,3072,5120,8192,16384,49152,81920,131072,393216,671744,1064960] [0,1,3,7,0,16,48,112,240,511,1023,2047,4095,8191,16383,32767,65535,131071,262143,524287,1048575,2097151] (.pu 0 (.pu 1 (.pu 2 (.pu 4 (.pu 5 (.pu 6 (.pu 3 (.pu 7 (.pu 8 (.pu 9 (.pu 10 (.g 10 (.of 11 (.of 12 (.pu 13 (.pu 14 (.of 15 (.of 16 (.of 17 (.of 18 (.of 19 (.of 20 (.pu 21 (.st [9,10,11,12,13,14,15,16,17,18,19,20,21] .dn)))))))))))) (.pu 11 (.pu 12 (.pu 13 (.pu 14 (.g 14 (.of 15 (.of 16 (.of 17 (.of 18 (.of 19 (.of 20 (.pu 21 (.st [9,10,11,12,13,14,15,16,17,18,19,20,21] .dn)))))))) (.pu 15 (.pu 16 (.pu 17 (.g 17 (.pu 18 (.pu 19 (.pu 20 (.pu 21 (.st [9,10,11,12,13,14,15,16,17,18,19,20,21] .dn))))) (.of 18 (.of 19 (.pu 20 (.pu 21 (.st [9,10,11,12,13,14,15,16,17,18,19,20,21] .dn))))))))))))))))))))))))))) (.j [(0,.P),(4,.I .i64),(48,.B)] (λ(t:Option Addr×Int×Bool)=>ZC t.1 t.2.1 t.2.2) (.q (.x [1]) .o))) (.j [(0,.P),(4,.I .i64)] (λ(t:Option Addr×Int)=>UX t.1 t.2) (.q .o (.q .o (.q (.q (.r [0,1,2,4,0,16,32,64,128,264,512,1024,3072,5120,9216,16384,49152,81920,131072,393216,671744,1064960] [0,1,2,4,0,16,32,64,128,264,512,1024,3072,5120,8192,16384,49152,81920,131072,393216,671744,1064960] [0,1,3,7,0,16,48,112,240,511,1023,2047,4095,8191,16383,32767,65535,131071,262143,524287,1048575,2097151] (.pu 0 (.pu 1 (.pu 2 (.pu 4 (.pu 5 (.pu 6 (.pu 3 (.pu 7 (.pu 8 (.pu 9 (.pu 10 (.g 10 (.of 11 (.of 12 (.pu 13 (.pu 14 (.of 15 (.of 16 (.of 17 (.of 18 (.of 19 (.of 20 (.pu 21 (.st [9,10,11,12,13,14,15,16,17,18,19,20,21] .dn)))))))))))) (.pu 11 (.pu 12 (.pu 13 (.pu 14 (.g 14 (.of 15 (.of 16 (.of 17 (.of 18 (.of 19 (.of 20 (.pu 21 (.st [9,10,11,12,13,14,15,16,17,18,19,20,21] .dn)))))))) (.pu 15 (.pu 16 (.pu 17 (.g 17 (.pu 18 (.pu 19 (.pu 20 (.pu 21 (.st [9,10,11,12,13,14,15,16,17,18,19,20,21] .dn))))) (.of 18 (.of 19 (.pu 20 (.pu 21 (.st [9,10,11,12,13,14,15,16,17,18,19,20,21] .dn))))))))))))))))))))))))))) (.j [(0,.P),(4,.I .i64),(5,.I .i64),(82,.B)] (λ(t:Option Addr×Int×Int×Bool)=>ZB t.1 t.2.1 t.2.2.1 t.2.2.2) (.q (.x [1]) .o))) (.j [(0,.P),(4,.I .i64),(5,.I .i64)] (λ(t:Option Addr×Int×Int)=>UW t.1 t.2.1 t.2.2) .o)))))))))) Tryz.func254 rfl rfl ⟨rfl,trivial⟩ rfl (by kernel_rfl) (by kernel_rfl)
def Uv (self1:(Sl)->M (Value⊕(ByteArray))) (Cc24:Sl) (Xx22:Int):M (Value⊕(ByteArray)):=do
 let Xx25<-bdL Ko 1 #[.int .u8 Xx22]
 let Xx26<-apL Ko 1 1 (#[.int .u8 0]:Ea) Cc24 Xx25
 self1 Xx26
def Wk (self1:(Sl)->M (Value⊕(ByteArray))) (Cc14:Option Addr) (Cc15:Sl) (Cc16:Int):M (Value⊕(ByteArray)):=do
 let Xx18<-nilP Cc14
 let Xx19<-ldI .i64 ((Xx18).add 1)
 let Xx20<-nilP Cc14
 stV ((Xx20).add 1) (.int .i64 (IntKind.wrap .i64 (Xx19+1)))
 M.ite (Cc16==92) (do
  thr (UR Cc14) λXx28=>do
   Uv self1 Cc15 Xx28
  ) (do
  Uv self1 Cc15 Cc16
  )
def Xf (Cc7:Option Addr) (self1:(Sl)->M (Value⊕(ByteArray))):(Sl)->M (Value⊕(ByteArray)):=λs=>match s with
 |Xx6=>do
  let Xx11<-Kk Cc7
  M.ite (Xx11 !=39) (do
   let Xx13<-Kk Cc7
   let Xx30<-M.ite (decide (Xx13<32)) (do
    M.pure true
    ) (do
    M.pure (decide (Xx13>126))
    )
   M.ite Xx30 (do
    thr (KX Cc7) λXx31=>do
     Wk self1 Cc7 Xx6 Xx13
    ) (do
    Wk self1 Cc7 Xx6 Xx13
    )
   ) (do
   let Xx33<-nilP Cc7
   let Xx34<-ldI .i64 ((Xx33).add 1)
   let Xx35<-nilP Cc7
   stV ((Xx35).add 1) (.int .i64 (IntKind.wrap .i64 (Xx34+1)))
   let Xx38<-b2s Xx6
   M.pure (.inr Xx38)
   )
def Ww (x0:Option Addr):M (Value⊕(ByteArray)):=do
 thr (Kl x0 (⟨#[39]⟩:ByteArray)) λXx5=>do
  M.loop (Xf x0) Sl.nil
theorem KFi (x0:Option Addr):Jx Tryz.prog 243 #[.pointer x0] (λ(r:ByteArray)=>.string r) (Ww x0):=
 Zp [Ut] [mkX JO Zv [.P] [] (λ(t:Option Addr)=>KX t) (λ(t:Option Addr)=>Z6 t),mkX UF UH [.P,.S] [] (λ(t:Option Addr×ByteArray)=>Kl t.1 t.2) (λ(t:Option Addr×ByteArray)=>Uu t.1 t.2),mkX KAO KAS [.P] [.I .u8] (λ(t:Option Addr)=>UR t) (λ(t:Option Addr)=>KAs t)] [0,5,7,10,18,20,29,35] [.S] [(0,.P x0)] (.q .o (.q .o (.q (.q (.x [1]) (.b (.l [(0,.P)] [(3,.L)] (λ(t:Option Addr)=>Xf t) (λself1=>.q .o (.b (.q .o (.q (.q .o (.q (.x [1]) .o)) (.j [(0,.P),(3,.L),(4,.I .u8)] (λ(t:Option Addr×Sl×Int)=>Wk self1 t.1 t.2.1 t.2.2) (.q .o (.q (.q .o (.q (.x [1]) .o)) (.j [(0,.P),(3,.L),(4,.I .u8)] (λ(t:Option Addr×Sl×Int)=>Uv self1 t.2.1 t.2.2) .o))))))))))) .o))) Tryz.func243 rfl rfl ⟨rfl,trivial⟩ rfl (by kernel_rfl) (by kernel_rfl)
def JU (x0:Option Addr) (x1:Int):M (Value⊕(Ea)):=do
 let Xx2<-mkB KB (#[.int .i64 0,.int .i64 0,.string ByteArray.empty,.slice none 0 0]:Ea)
 let Xx4<-nilP x0
 let Xx5<-ldI .i64 ((Xx4).add 1)
 let Xx6<-nilP x0
 stV ((Xx6).add 1) (.int .i64 (IntKind.wrap .i64 (Xx5+1)))
 thr (Kl x0 (⟨#[91]⟩:ByteArray)) λXx9=>do
  thr (Z7 x0) λXx11=>do
   let Xx12<-mkB KB (#[.int .i64 0,.int .i64 0,.string ByteArray.empty,.slice none 0 0]:Ea)
   M.need ((#[.int .i64 x1,.int .i64 Xx11,.string ByteArray.empty,.slice none 0 0]:Ea).size=4)
   stG Xx12 (#[.int .i64 x1,.int .i64 Xx11,.string ByteArray.empty,.slice none 0 0]:Ea)
   thr (Kl x0 (⟨#[93]⟩:ByteArray)) λXx15=>do
    let Xx17<-ldG 4 Xx12
    M.need (Xx17.size=4)
    stG Xx2 Xx17
    let Rr19<-ldG 4 Xx2
    M.pure (.inr Rr19)
theorem KAt (x0:Option Addr) (x1:Int):Jx Tryz.prog 245 #[.pointer x0,.int .i64 x1] (λ(r:Ea)=>.agg r) (JU x0 x1):=
 Zp [] [mkX GN GP [.P] [.I .i64] (λ(t:Option Addr)=>Z7 t) (λ(t:Option Addr)=>ND t),mkX UF UH [.P,.S] [] (λ(t:Option Addr×ByteArray)=>Kl t.1 t.2) (λ(t:Option Addr×ByteArray)=>Uu t.1 t.2)] [0,6,13,16,19] [.G] [(0,.P x0),(1,.I .i64 x1)] (.q .o (.q .o (.q (.x [1]) (.q (.x [2]) (.q (.x [1]) .o))))) Tryz.func245 rfl rfl ⟨rfl,rfl,trivial⟩ rfl (by kernel_rfl) (by kernel_rfl)
def VU (Cc3:Option Addr) (Cc4:Int) (Cc5:Addr):M (Value⊕(Ea)):=do
 let Xx7<-Kk Cc3
 let Xx10<-M.ite (Xx7==45) (do
  M.pure true
  ) (do
  let Xx11<-Xe Xx7
  M.pure Xx11
  )
 M.ite Xx10 (do
  thr (Z7 Cc3) λXx13=>do
   let Xx14<-KBN Xx13
   M.need (Xx14.size=4)
   stG Cc5 Xx14
   let Rr16<-ldG 4 Cc5
   M.pure (.inr Rr16)
  ) (do
  M.ite (Xx7==39) (do
   thr (Ww Cc3) λXx19=>do
    let Xx20<-KBO Xx19
    M.need (Xx20.size=4)
    stG Cc5 Xx20
    let Rr22<-ldG 4 Cc5
    M.pure (.inr Rr22)
   ) (do
   M.ite (Xx7==116) (do
    thr (Kl Cc3 (⟨#[116,114,117,101]⟩:ByteArray)) λXx25=>do
     let Xx27<-GY true
     M.need (Xx27.size=4)
     stG Cc5 Xx27
     let Rr29<-ldG 4 Cc5
     M.pure (.inr Rr29)
    ) (do
    M.ite (Xx7==102) (do
     thr (Kl Cc3 (⟨#[102,97,108,115,101]⟩:ByteArray)) λXx32=>do
      let Xx34<-GY false
      M.need (Xx34.size=4)
      stG Cc5 Xx34
      let Rr36<-ldG 4 Cc5
      M.pure (.inr Rr36)
     ) (do
     M.ite (Xx7==118) (do
      thr (JU Cc3 6) λXx39=>do
       M.need (Xx39.size=4)
       stG Cc5 Xx39
       let Rr41<-ldG 4 Cc5
       M.pure (.inr Rr41)
      ) (do
      M.ite (Xx7==101) (do
       thr (JU Cc3 7) λXx44=>do
        M.need (Xx44.size=4)
        stG Cc5 Xx44
        let Rr46<-ldG 4 Cc5
        M.pure (.inr Rr46)
       ) (do
       M.ite (Xx7==91) (do
        thr (Gr Tryz.prog Vi #[.pointer Cc3,.int .i64 Cc4,.int .u8 93,.int .i64 1] (λr:Sl=>(r:Sl).v)) λXx49=>do
         M.need ((#[.int .i64 4,.int .i64 0,.string ByteArray.empty,(Xx49:Sl).v]:Ea).size=4)
         stG Cc5 (#[.int .i64 4,.int .i64 0,.string ByteArray.empty,(Xx49:Sl).v]:Ea)
         let Rr51<-ldG 4 Cc5
         M.pure (.inr Rr51)
        ) (do
        M.ite (Xx7==123) (do
         thr (Gr Tryz.prog Vi #[.pointer Cc3,.int .i64 Cc4,.int .u8 125,.int .i64 2] (λr:Sl=>(r:Sl).v)) λXx54=>do
          M.need ((#[.int .i64 5,.int .i64 0,.string ByteArray.empty,(Xx54:Sl).v]:Ea).size=4)
          stG Cc5 (#[.int .i64 5,.int .i64 0,.string ByteArray.empty,(Xx54:Sl).v]:Ea)
          let Rr56<-ldG 4 Cc5
          M.pure (.inr Rr56)
         ) (do
         thr (KX Cc3) λXx58=>do
          M.need ((#[.int .i64 0,.int .i64 0,.string ByteArray.empty,.slice none 0 0]:Ea).size=4)
          stG Cc5 (#[.int .i64 0,.int .i64 0,.string ByteArray.empty,.slice none 0 0]:Ea)
          let Rr61<-ldG 4 Cc5
          M.pure (.inr Rr61)
         )
        )
       )
      )
     )
    )
   )
  )
def VV (x0:Option Addr) (x1:Int):M (Value⊕(Ea)):=do
 let Xx2<-mkB KB (#[.int .i64 0,.int .i64 0,.string ByteArray.empty,.slice none 0 0]:Ea)
 M.ite (decide (x1>8)) (do
  thr (KX x0) λXx63=>do
   VU x0 x1 Xx2
  ) (do
  VU x0 x1 Xx2
  )
theorem Nl (x0:Option Addr) (x1:Int):Jx Tryz.prog 227 #[.pointer x0,.int .i64 x1] (λ(r:Ea)=>.agg r) (VV x0 x1):=
 Zp [KGz,Ut,KFh,KIB,KIC] [mkX JO Zv [.P] [] (λ(t:Option Addr)=>KX t) (λ(t:Option Addr)=>Z6 t),mkX GN GP [.P] [.I .i64] (λ(t:Option Addr)=>Z7 t) (λ(t:Option Addr)=>ND t),mkX KDR KDk [.P] [.S] (λ(t:Option Addr)=>Ww t) (λ(t:Option Addr)=>KFi t),mkX UF UH [.P,.S] [] (λ(t:Option Addr×ByteArray)=>Kl t.1 t.2) (λ(t:Option Addr×ByteArray)=>Uu t.1 t.2),mkX KAN KAR [.P,.I .i64] [.G] (λ(t:Option Addr×Int)=>JU t.1 t.2) (λ(t:Option Addr×Int)=>KAt t.1 t.2),mkX Vi KCf [.P,.I .i64,.I .u8,.I .i64] [.L] (λ(t:Option Addr×Int×Int×Int)=>Gr Tryz.prog Vi #[.pointer t.1,.int .i64 t.2.1,.int .u8 t.2.2.1,.int .i64 t.2.2.2] (λr:Sl=>(r:Sl).v)) (λ(t:Option Addr×Int×Int×Int)=>zA)] [0,8,10,19,25,31,37,43,48,53,60,64] [.G] [(0,.P x0),(1,.I .i64 x1)] (.q .o (.q (.q .o (.q (.x [1]) .o)) (.j [(0,.P),(1,.I .i64),(4,.A)] (λ(t:Option Addr×Int×Addr)=>VU t.1 t.2.1 t.2.2) (.q .o (.q (.b (.q .o (.q (.q (.x [1]) .o) (.q .o (.q (.q (.x [1]) .o) (.q .o (.q (.q (.x [1]) .o) (.q .o (.q (.q (.x [1]) .o) (.q .o (.q (.q (.x [1]) .o) (.q .o (.q (.q (.x [1]) .o) (.q .o (.q (.q (.x [2]) .o) (.q .o (.q (.q (.x [2]) .o) .o))))))))))))))))) (.q (.x [1]) .o)))))) Tryz.func227 rfl rfl ⟨rfl,rfl,trivial⟩ rfl (by kernel_rfl) (by kernel_rfl)
def US (self1:(Sl)->M (Value⊕(Sl))) (Cc29:Option Addr) (Cc31:Int) (Xx28:Sl):M (Value⊕(Sl)):=do
 let Xx34<-Kk Cc29
 let Xx36<-M.ite (Xx34 !=Cc31) (do
  M.pure (Xx34 !=44)
  ) (do
  M.pure false
  )
 M.ite Xx36 (do
  thr (KX Cc29) λXx37=>do
   self1 Xx28
  ) (do
  self1 Xx28
  )
def UT (self1:(Sl)->M (Value⊕(Sl))) (Cc18:Option Addr) (Cc19:Int) (Cc20:Int) (Cc21:Int) (Cc22:Sl):M (Value⊕(Sl)):=do
 thr (Gr Tryz.prog Js #[.pointer Cc18,.int .i64 (IntKind.wrap .i64 (Cc19+1))] (λr:Ea=>.agg r)) λXx24=>do
  let y_26<-Xs 4 1 (#[.int .i64 0,.int .i64 0,.string ByteArray.empty,.slice none 0 0]:Ea) [(0,.agg Xx24)]
  let Xx25<-bdL KB 1 y_26
  let Xx27<-apL KB 4 56 (#[.int .i64 0,.int .i64 0,.string ByteArray.empty,.slice none 0 0]:Ea) Cc22 Xx25
  M.ite (Cc21==2) (do
   thr (Kl Cc18 (⟨#[58,32]⟩:ByteArray)) λXx40=>do
    thr (Gr Tryz.prog Js #[.pointer Cc18,.int .i64 (IntKind.wrap .i64 (Cc19+1))] (λr:Ea=>.agg r)) λXx41=>do
     let y_43<-Xs 4 1 (#[.int .i64 0,.int .i64 0,.string ByteArray.empty,.slice none 0 0]:Ea) [(0,.agg Xx41)]
     let Xx42<-bdL KB 1 y_43
     let Xx44<-apL KB 4 56 (#[.int .i64 0,.int .i64 0,.string ByteArray.empty,.slice none 0 0]:Ea) Xx27 Xx42
     US self1 Cc18 Cc20 Xx44
   ) (do
   US self1 Cc18 Cc20 Xx27
   )
def Y8 (Cc10:Option Addr) (Cc11:Int) (Cc12:Int) (Cc13:Int) (self1:(Sl)->M (Value⊕(Sl))):(Sl)->M (Value⊕(Sl)):=λs=>match s with
 |Xx9=>do
  let Xx17<-Kk Cc10
  M.ite (Xx17 !=Cc12) (do
   M.ite (decide ((Xx9.len:Int)>0)) (do
    thr (Kl Cc10 (⟨#[44,32]⟩:ByteArray)) λXx46=>do
     UT self1 Cc10 Cc11 Cc12 Cc13 Xx9
    ) (do
    UT self1 Cc10 Cc11 Cc12 Cc13 Xx9
    )
   ) (do
   let Xx48<-nilP Cc10
   let Xx49<-ldI .i64 ((Xx48).add 1)
   let Xx50<-nilP Cc10
   stV ((Xx50).add 1) (.int .i64 (IntKind.wrap .i64 (Xx49+1)))
   M.pure (.inr Xx9)
   )
def Ge (x0:Option Addr) (x1:Int) (x2:Int) (x3:Int):M (Value⊕(Sl)):=do
 let Xx3<-nilP x0
 let Xx4<-ldI .i64 ((Xx3).add 1)
 let Xx5<-nilP x0
 stV ((Xx5).add 1) (.int .i64 (IntKind.wrap .i64 (Xx4+1)))
 M.loop (Y8 x0 x1 x2 x3) Sl.nil
theorem qh (x0:Option Addr) (x1:Int) (x2:Int) (x3:Int):Jx Tryz.prog 246 #[.pointer x0,.int .i64 x1,.int .u8 x2,.int .i64 x3] (λ(r:Sl)=>(r:Sl).v) (Ge x0 x1 x2 x3):=
 Zp [Ut] [mkX Js Gu [.P,.I .i64] [.G] (λ(t:Option Addr×Int)=>Gr Tryz.prog Js #[.pointer t.1,.int .i64 t.2] (λr:Ea=>.agg r)) (λ(t:Option Addr×Int)=>zA),mkX JO Zv [.P] [] (λ(t:Option Addr)=>KX t) (λ(t:Option Addr)=>Z6 t),mkX UF UH [.P,.S] [] (λ(t:Option Addr×ByteArray)=>Kl t.1 t.2) (λ(t:Option Addr×ByteArray)=>Uu t.1 t.2)] [0,11,18,25,28,36,39,45,54,56] [.L] [(0,.P x0),(1,.I .i64 x1),(2,.I .u8 x2),(3,.I .i64 x3)] (.q .o (.q .o (.q .o (.q (.b (.l [(0,.P),(1,.I .i64),(2,.I .u8),(3,.I .i64)] [(9,.L)] (λ(t:Option Addr×Int×Int×Int)=>Y8 t.1 t.2.1 t.2.2.1 t.2.2.2) (λself1=>.q .o (.b (.q (.q .o (.q (.x [1]) .o)) (.j [(0,.P),(1,.I .i64),(2,.I .u8),(3,.I .i64),(9,.L)] (λ(t:Option Addr×Int×Int×Int×Sl)=>UT self1 t.1 t.2.1 t.2.2.1 t.2.2.2.1 t.2.2.2.2) (.q (.x [4]) (.q (.q .o (.q (.q (.x [1]) (.x [4])) .o)) (.j [(0,.P),(1,.I .i64),(2,.I .u8),(3,.I .i64),(9,.L)] (λ(t:Option Addr×Int×Int×Int×Sl)=>US self1 t.1 t.2.2.1 t.2.2.2.2) (.q .o (.q .o (.q (.x [1]) .o)))))))))))) .o)))) Tryz.func246 rfl rfl ⟨rfl,rfl,rfl,rfl,trivial⟩ rfl (by kernel_rfl) (by kernel_rfl)
def Jj (Cc5:Sl) (Cc6:Value) (Cc7:Int) (self1:(Int)->M (Int)):(Int)->M (Int):=λs=>match s with
 |Xx4=>do
  M.ite (decide (Xx4<Cc7)) (do
   let Xx14<-ixL Cc5 Xx4 1
   let Xx15<-ldI .u8 Xx14
   let Xx16<-qq Tryz.prog (λr:Bool=>.bool r) Cc6 [.int .u8 Xx15]
   M.ite Xx16 (do
    M.pure Xx4
    ) (do
    self1 (IntKind.wrap .i64 (Xx4+1))
    )
   ) (do
   M.pure (-1)
   )
def JF (x0:Sl) (x1:Value):M (Int):=do
 M.loop (Jj x0 x1 (x0.len:Int)) 0
theorem NE (x0:Sl) (x1:Value):KY Tryz.prog 261 #[(x0:Sl).v,x1] (λ(r:Int)=>.int .i64 r) (JF x0 x1):=
 KG [] [] [.I .i64] [(0,.L x0),(1,.V x1)] (.q .o (.q (.q .o (.b (.l [(0,.L),(1,.V),(7,.I .i64)] [(8,.I .i64)] (λ(t:Sl×Value×Int)=>Jj t.1 t.2.1 t.2.2) (λ_=>.o)))) .o)) Tryz.func261 rfl rfl ⟨rfl,rfl,trivial⟩ rfl (by kernel_rfl) (by kernel_rfl)
noncomputable def NF:CalleeS Tryz.prog:=mkC GS GU [.L,.V] [.I .i64] (λ(t:Sl×Value)=>JF t.1 t.2) (λ(t:Sl×Value)=>NE t.1 t.2)
def ZS (x0:Sl) (x1:Value):M (Bool):=do
 let Xx3<-JF x0 x1
 M.pure (decide (Xx3>=0))
theorem GD (x0:Sl) (x1:Value):KY Tryz.prog 257 #[(x0:Sl).v,x1] (λ(r:Bool)=>.bool r) (ZS x0 x1):=
 KG [NF] [] [.B] [(0,.L x0),(1,.V x1)] .o Tryz.func257 rfl rfl ⟨rfl,rfl,trivial⟩ rfl (by kernel_rfl) (by kernel_rfl)
noncomputable def GE:CalleeS Tryz.prog:=mkC Xm Xn [.L,.V] [.B] (λ(t:Sl×Value)=>ZS t.1 t.2) (λ(t:Sl×Value)=>GD t.1 t.2)
def Zu (x0:ByteArray):M (ByteArray):=do
 M.ite ((x0.size:Int)==0) (do
  M.pure ByteArray.empty
  ) (do
  let Xx6<-mkS Ko 1 1 (#[.int .u8 0]:Ea) (x0.size:Int) (x0.size:Int)
  let Xx8<-cpSt Xx6 x0
  let Xx10<-ixL Xx6 0 1
  let Xx11<-uStr Ko (some Xx10) (Xx6.len:Int)
  M.pure Xx11
  )
theorem N0 (x0:ByteArray):KY Tryz.prog 271 #[.string x0] (λ(r:ByteArray)=>.string r) (Zu x0):=
 KG [] [] [.S] [(0,.S x0)] .o Tryz.func271 rfl rfl ⟨rfl,trivial⟩ rfl (by kernel_rfl) (by kernel_rfl)
noncomputable def N2:CalleeS Tryz.prog:=mkC NN NR [.S] [.S] (λ(t:ByteArray)=>Zu t) (λ(t:ByteArray)=>N0 t)
def VW (x0:ByteArray) (x1:ByteArray):M (Option Addr):=do
 let Xx3<-ldV (⟨7,0,none⟩:Addr)
 let Xx4<-Zu x1
 chk (λh:Heap=>(KJ h (⟨7,0,none⟩:Addr)=some (Xx3)))
 let Xx5<-qD [(0,1),(1,1),(2,1)] (#[.string ByteArray.empty,.string ByteArray.empty,.nilIface]:Ea) [(0,.string x0),(1,.string Xx4),(2,Xx3)]
 let Xx6<-mkB KDS Xx5
 M.pure (some Xx6)
theorem KCu (x0:ByteArray) (x1:ByteArray):KY Tryz.prog 266 #[.string x0,.string x1] (λ(r:Option Addr)=>.pointer r) (VW x0 x1):=
 KG [N2] [4] [.P] [(0,.S x0),(1,.S x1)] (.q .o (.q (.r [0,0,2,0,13,16,63] [0,0,2,0,13,16,32] [0,0,2,0,15,31,63] (.pu 0 (.pu 1 (.pu 3 (.st [4,5,6] (.on 2 (.pu 4 (.nx (.on 5 (.pu 6 (.nx .dn))))))))))) .o)) Tryz.func266 rfl rfl ⟨rfl,rfl,trivial⟩ rfl (by kernel_rfl) (by kernel_rfl)
noncomputable def KCv:CalleeS Tryz.prog:=mkC KBB KBL [.S,.S] [.P] (λ(t:ByteArray×ByteArray)=>VW t.1 t.2) (λ(t:ByteArray×ByteArray)=>KCu t.1 t.2)
def YW (x0:ByteArray) (x1:ByteArray) (x2:Int) (x3:Int) (x4:Value):M (Value):=do
 let Xx5<-eqII Kt x4 (Value.iface Kt (.int .i64 2))
 M.ite Xx5 (do
  let Xx7<-XQ x0 x1
  M.pure (Value.iface VG (.pointer Xx7))
  ) (do
  let Xx9<-eqII Kt x4 (Value.iface Kt (.int .i64 1))
  M.ite Xx9 (do
   let Xx11<-VW x0 x1
   M.pure (Value.iface VG (.pointer Xx11))
   ) (do
   let Xx13<-eqII Kt x4 (Value.iface Kt (.int .i64 3))
   M.ite Xx13 (do
    let Xx15<-GW x0 x1 x2
    M.pure (Value.iface VG (.pointer Xx15))
    ) (do
    let Xx17<-eqII Kt x4 (Value.iface Kt (.int .i64 4))
    M.ite Xx17 (do
     let Xx19<-Yk x0 x1 x3
     M.pure (Value.iface VG (.pointer Xx19))
     ) (do
     M.pure x4
     )
    )
   )
  )
theorem KGa (x0:ByteArray) (x1:ByteArray) (x2:Int) (x3:Int) (x4:Value):KY Tryz.prog 263 #[.string x0,.string x1,.int .i64 x2,.int .i64 x3,x4] (λ(r:Value)=>r) (YW x0 x1 x2 x3 x4):=
 KG [mkC KAk KAo [.S,.S] [.P] (λ(t:ByteArray×ByteArray)=>XQ t.1 t.2) (λ(t:ByteArray×ByteArray)=>KBM t.1 t.2),KCv,mkC KCE KCc [.S,.S,.I .i64] [.P] (λ(t:ByteArray×ByteArray×Int)=>GW t.1 t.2.1 t.2.2) (λ(t:ByteArray×ByteArray×Int)=>KDl t.1 t.2.1 t.2.2),mkC KAM KAQ [.S,.S,.I .i64] [.P] (λ(t:ByteArray×ByteArray×Int)=>Yk t.1 t.2.1 t.2.2) (λ(t:ByteArray×ByteArray×Int)=>KAp t.1 t.2.1 t.2.2)] [17,24,32,40] [.V] [(0,.S x0),(1,.S x1),(2,.I .i64 x2),(3,.I .i64 x3),(4,.V x4)] .o Tryz.func263 rfl rfl ⟨rfl,rfl,rfl,rfl,rfl,trivial⟩ rfl (by kernel_rfl) (by kernel_rfl)
noncomputable def KGb:CalleeS Tryz.prog:=mkC KEs KE6 [.S,.S,.I .i64,.I .i64,.V] [.V] (λ(t:ByteArray×ByteArray×Int×Int×Value)=>YW t.1 t.2.1 t.2.2.1 t.2.2.2.1 t.2.2.2.2) (λ(t:ByteArray×ByteArray×Int×Int×Value)=>KGa t.1 t.2.1 t.2.2.1 t.2.2.2.1 t.2.2.2.2)
def Wx (x0:ByteArray) (x1:Int) (x2:Int):M (Int×Value):=do
 let Xx3<-Va x0 x1 x2
 let Xx6<-isNI Xx3.2
 M.ite (!Xx6) (do
  let Xx8<-YW (⟨#[80,97,114,115,101,73,110,116]⟩:ByteArray) x0 x1 x2 Xx3.2
  M.pure (Xx3.1,Xx8)
  ) (do
  M.pure (Xx3.1,Value.nilIface)
  )
theorem KFj (x0:ByteArray) (x1:Int) (x2:Int):KY Tryz.prog 259 #[.string x0,.int .i64 x1,.int .i64 x2] (λ(r:Int×Value)=>.tuple #[.int .i64 r.1,r.2]) (Wx x0 x1 x2):=
 KG [mkC Nn Ns [.S,.I .i64,.I .i64] [.I .i64,.V] (λ(t:ByteArray×Int×Int)=>Va t.1 t.2.1 t.2.2) (λ(t:ByteArray×Int×Int)=>qM t.1 t.2.1 t.2.2),KGb] [] [.I .i64,.V] [(0,.S x0),(1,.I .i64 x1),(2,.I .i64 x2)] .o Tryz.func259 rfl rfl ⟨rfl,rfl,rfl,trivial⟩ rfl (by kernel_rfl) (by kernel_rfl)
noncomputable def KFk:CalleeS Tryz.prog:=mkC KDP KDi [.S,.I .i64,.I .i64] [.I .i64,.V] (λ(t:ByteArray×Int×Int)=>Wx t.1 t.2.1 t.2.2) (λ(t:ByteArray×Int×Int)=>KFj t.1 t.2.1 t.2.2)
def KBk (x0:Int) (x1:Bool):M (Int×Int):=do
 M.ite (!x1) (do
  M.pure (0,7)
  ) (do
  M.pure (x0,0)
  )
theorem KQZ (x0:Int) (x1:Bool):KY Tryz.prog 260 #[.int .i64 x0,.bool x1] (λ(r:Int×Int)=>.tuple #[.int .i64 r.1,.int .i64 r.2]) (KBk x0 x1):=
 KG [] [] [.I .i64,.I .i64] [(0,.I .i64 x0),(1,.B x1)] .o Tryz.func260 rfl rfl ⟨rfl,rfl,trivial⟩ rfl (by kernel_rfl) (by kernel_rfl)
noncomputable def KQa:CalleeS Tryz.prog:=mkC KN3 KN4 [.I .i64,.B] [.I .i64,.I .i64] (λ(t:Int×Bool)=>KBk t.1 t.2) (λ(t:Int×Bool)=>KQZ t.1 t.2)
def NG (Cc4:ByteArray) (Xx3:ByteArray):M (Int×Int):=do
 let Xx7<-M.ite (sEq Xx3 ByteArray.empty) (do
  M.pure true
  ) (do
  let Xx8<-s2b Ko Xx3
  let Xx9<-ZS Xx8 (Value.func (.func KJH) #[] #[])
  M.pure Xx9
  )
 let Xx10<-M.ite Xx7 (do
  M.pure true
  ) (do
  let Xx11<-ixS Xx3 0
  let Xx12<-M.ite (Xx11==48) (do
   M.pure (!(sEq Cc4 (⟨#[48]⟩:ByteArray)))
   ) (do
   M.pure false
   )
  M.pure Xx12
  )
 M.ite Xx10 (do
  M.pure (0,10)
  ) (do
  let Xx15<-Wx Cc4 10 64
  let Xx17<-isNI Xx15.2
  let Xx18<-KBk Xx15.1 Xx17
  M.pure (Xx18.1,Xx18.2)
  )
def KIQ (x0:ByteArray):M (Int×Int):=do
 let Xx20<-M.ite (!(sEq x0 ByteArray.empty)) (do
  let Xx21<-ixS x0 0
  M.pure (Xx21==45)
  ) (do
  M.pure false
  )
 M.ite Xx20 (do
  let Xx22<-slS x0 1 x0.size
  NG x0 Xx22
  ) (do
  NG x0 x0
  )
theorem KOC (x0:ByteArray):KY Tryz.prog 253 #[.string x0] (λ(r:Int×Int)=>.tuple #[.int .i64 r.1,.int .i64 r.2]) (KIQ x0):=
 KG [GE,KFk,KQa] [] [.I .i64,.I .i64] [(0,.S x0)] (.q .o (.q .o (.q .o (.j [(0,.S),(4,.S)] (λ(t:ByteArray×ByteArray)=>NG t.1 t.2) .o)))) Tryz.func253 rfl rfl ⟨rfl,trivial⟩ rfl (by kernel_rfl) (by kernel_rfl)
def KEK (x0:Int):M (Bool):=do
 let Xx3<-M.ite (decide (x0<48)) (do
  M.pure true
  ) (do
  M.pure (decide (x0>57))
  )
 M.pure Xx3
theorem KK9 (x0:Int):KY Tryz.prog 258 #[.int .u8 x0] (λ(r:Bool)=>.bool r) (KEK x0):=
 KG [] [] [.B] [(0,.I .u8 x0)] .o Tryz.func258 rfl rfl ⟨rfl,trivial⟩ rfl (by kernel_rfl) (by kernel_rfl)
end Gx
