/- Printed by program: Go functions as Lean programs, each tied to its code. No condition. -/
import Derived.Test.YthelieedlghccaaGreatDoorP0
import Derived.Test.YthelieedlghccaaGreatDoorP1
import Derived.Test.YthelieedlghccaaGreatDoorP2
import Derived.Test.YthelieedlghccaaGreatDoorP3
set_option linter.unusedVariables false
set_option linter.unusedSimpArgs false
namespace Gx
open Go
set_option linter.unusedVariables false
set_option maxRecDepth 100000
def UR (self1:(Int × Int)→M (Int)) (C31:Int) (C32:Addr) (C35:Int) (Xx29:Bool):M (Int):=do
 M.ite Xx29 (do
  M.pure 210
  ) (do
  let Xx37←ldI .i64 ((C32).add 4)
  self1 (IntKind.wrap .i64 (C31 - Xx37),IntKind.wrap .i64 (C35+1))
  )
def Ws (C7:Sl) (C8:Sl) (C9:Int) (self1:(Int × Int)→M (Int)):(Int × Int)→M (Int):=fun s=>match s with
 | (Xx5,Xx6)=>do
  M.ite (decide (Xx6 < C9)) (do
   let Xx15←ixL C8 Xx6 5
   let Xx16←ldG 5 Xx15
   let Xx17←mkB Jm (#[.int .i64 0,.int .i64 0,.string ByteArray.empty,.slice none 0 0,.int .i64 0]:Array Value)
   M.need (Xx16.size=5)
   stG Xx17 Xx16
   let Xx21←ldI .i64 ((Xx17).add 4)
   let Xx22←M.ite (decide (Xx21 < 1)) (do
    M.pure true
    ) (do
    let Xx23←ldI .i64 ((Xx17).add 4)
    M.pure (decide (Xx23 > Xx5))
    )
   M.ite Xx22 (do
    M.pure 210
    ) (do
    let Xx26←ldG 4 ((Xx17).add 0)
    let Xx27←Vn Xx26
    M.ite (Xx27 != 0) (do
     M.pure 210
     ) (do
     M.ite (decide (Xx6 > 0)) (do
      let Xx39←ixL C7 (IntKind.wrap .i64 (Xx6 - 1)) 5
      let Xx40←ldG 4 ((Xx39).add 0)
      let Xx41←ldG 4 ((Xx17).add 0)
      let Xx42←UC Xx40 Xx41
      UR self1 Xx5 Xx17 Xx6 (decide (Xx42 ≥ 0))
      ) (do
      UR self1 Xx5 Xx17 Xx6 false
      )
     )
    )
   ) (do
   M.pure 0
   )
def Uq (x0:Sl):M (Int):=do
 M.loop (Ws x0 x0 (x0.len:Int)) (9007199254740992,0)
theorem KBa (x0:Sl):Kn Go.Proofs.Tryz.prog 108 #[(x0:Sl).v] (fun (r:Int)=>.int .i64 r) (Uq x0) :=
 KM [XZ,Gv] [] [.I .i64] [(0,.L x0)] (.q .o (.q .o (.q (.q .o (.b (.l [(0,.L),(6,.L),(7,.I .i64)] [(3,.I .i64),(8,.I .i64)] (fun (t:Sl × Sl × Int)=>Ws t.1 t.2.1 t.2.2) (fun self1=>.q .o (.q .o (.q (.b (.q .o (.q (.b (.q .o (.q .o (.q .o (.q .o (.q (.r [0,1,2,4,4,20,44,68,132,4,516,1284,2052,4100,10240] [0,1,2,4,4,20,44,68,132,4,516,1284,2052,4100,8192] [0,1,3,7,7,23,63,127,255,7,519,2047,4095,8191,16383] (.pu 0 (.pu 1 (.pu 2 (.g 2 (.pu 3 (.pu 4 (.pu 5 (.pu 6 (.pu 7 (.pu 9 (.pu 8 (.pu 10 (.st [11,12,13,14] (.on 11 (.pu 12 (.pu 13 (.pu 14 (.nx .dn)))))))))))))) (.of 3 (.of 4 (.of 5 (.of 6 (.of 7 (.of 8 (.of 9 (.of 10 (.of 11 (.of 12 (.pu 13 (.pu 14 (.st [0,1,2,3,4,5,6,7,8,9,10,11,12,13,14] .dn)))))))))))))))))) (.j [(0,.L),(3,.I .i64),(5,.A),(6,.L),(7,.I .i64),(8,.I .i64),(28,.B)] (fun (t:Sl × Int × Addr × Sl × Int × Int × Bool)=>UR self1 t.2.1 t.2.2.1 t.2.2.2.2.2.1 t.2.2.2.2.2.2) .o))))))) .o))) .o)))))) .o))) Go.Proofs.Tryz.func108 rfl rfl ⟨rfl,trivial⟩ rfl (by kernel_rfl) (by kernel_rfl)
noncomputable def NB:CalleeS Go.Proofs.Tryz.prog:=mkC KAh KAi [.L] [.I .i64] (fun (t:Sl)=>Uq t) (fun (t:Sl)=>KBa t)
def Gy (C12:Addr) (C13:Sl) (C14:Int) (self1:(Int)→M (ByteArray × Int)):(Int)→M (ByteArray × Int):=fun s=>match s with
 | Xx11=>do
  M.ite (decide (Xx11 < C14)) (do
   let Xx20←ixL C13 Xx11 5
   let Xx21←ldG 5 Xx20
   let Xx22←mkB Jm (#[.int .i64 0,.int .i64 0,.string ByteArray.empty,.slice none 0 0,.int .i64 0]:Array Value)
   M.need (Xx21.size=5)
   stG Xx22 Xx21
   let Xx24←ldI .i64 ((Xx22).add 4)
   let Xx25←ldG 4 ((Xx22).add 0)
   let Xx26←Xz Xx24
   chk (fun h:Heap=>(KN h ((Xx22).add 4)=some (.int .i64 Xx24))∧(Xx25.size=4∧∀ i,i < 4→KN h (Addr.add ((Xx22).add 0) i)=Xx25[i]?))
   let Xx27←sCat Xx26 (⟨#[32]⟩:ByteArray)
   let Xx28←Wr Xx25
   let Xx29←sCat Xx27 Xx28
   let Xx30←sCat Xx29 (⟨#[10]⟩:ByteArray)
   let Xx31←KP (some C12) Xx30
   self1 (IntKind.wrap .i64 (Xx11+1))
   ) (do
   let Xx33←Ky (some C12)
   M.pure (Xx33,0)
   )
def Wt (x0:Sl):M (ByteArray × Int):=do
 let Xx4←Uq x0
 M.ite (Xx4 != 0) (do
  M.pure (ByteArray.empty,Xx4)
  ) (do
  let Xx8←mkB ZJ (#[.pointer none,.slice none 0 0]:Array Value)
  M.loop (Gy Xx8 x0 (x0.len:Int)) 0
  )
theorem KFQ (x0:Sl):Kn Go.Proofs.Tryz.prog 56 #[(x0:Sl).v] (fun (r:ByteArray × Int)=>.tuple #[.string r.1,.int .i64 r.2]) (Wt x0) :=
 KM [NB,KDd,Nh,ZO,JY] [] [.S,.I .i64] [(0,.L x0)] (.q .o (.q .o (.q .o (.q (.q .o (.b (.l [(5,.A),(13,.L),(14,.I .i64)] [(15,.I .i64)] (fun (t:Addr × Sl × Int)=>Gy t.1 t.2.1 t.2.2) (fun _=>.q .o (.q .o (.q (.b (.q .o (.r [0,1,2,4,0,16,36,72,128,320] [0,1,2,4,0,16,32,72,128,256] [0,1,3,7,0,16,55,127,255,511] (.pu 0 (.pu 4 (.pu 1 (.pu 5 (.st [6,7,8,9] (.on 2 (.pu 3 (.nx (.on 6 (.pu 7 (.pu 8 (.nx (.on 9 .dn)))))))))))))))) .o)))))) .o)))) Go.Proofs.Tryz.func56 rfl rfl ⟨rfl,trivial⟩ rfl (by kernel_rfl) (by kernel_rfl)
noncomputable def KFR:CalleeS Go.Proofs.Tryz.prog:=mkC KEE KEG [.L] [.S,.I .i64] (fun (t:Sl)=>Wt t) (fun (t:Sl)=>KFQ t)
def US (x0:ByteArray):M (Sl × Int × Int):=do
 let Xx3←mkB XP (#[.slice none 0 0]:Array Value)
 let Xx5←Vp x0 (Value.func (.func qB) #[] #[.pointer (some Xx3)])
 M.ite (Xx5.2 != 0) (do
  M.pure (Sl.nil,Xx5.1,Xx5.2)
  ) (do
  let Xx10←ldL Xx3
  M.pure (Xx10,0,0)
  )
theorem KAz (x0:ByteArray):Kn Go.Proofs.Tryz.prog 58 #[.string x0] (fun (r:Sl × Int × Int)=>.tuple #[(r.1:Sl).v,.int .i64 r.2.1,.int .i64 r.2.2]) (US x0) :=
 KM [KAC] [] [.L,.I .i64,.I .i64] [(0,.S x0)] .o Go.Proofs.Tryz.func58 rfl rfl ⟨rfl,trivial⟩ rfl (by kernel_rfl) (by kernel_rfl)
noncomputable def KA0:CalleeS Go.Proofs.Tryz.prog:=mkC zi zt [.S] [.L,.I .i64,.I .i64] (fun (t:ByteArray)=>US t) (fun (t:ByteArray)=>KAz t)
def Uf (self1:(Int)→M (Bool)) (C17:Int) (Xx14:Bool):M (Bool):=do
 M.ite Xx14 (do
  M.pure false
  ) (do
  self1 (IntKind.wrap .i64 (C17+1))
  )
def Vq (C8:Sl) (C9:Sl) (self1:(Int)→M (Bool)):(Int)→M (Bool):=fun s=>match s with
 | Xx7=>do
  M.ite (decide (Xx7 < (C8.len:Int))) (do
   let Xx19←ixL C8 Xx7 5
   let Xx20←ixL C9 Xx7 5
   let Xx21←ldI .i64 ((Xx19).add 4)
   let Xx22←ldI .i64 ((Xx20).add 4)
   M.ite (Xx21 != Xx22) (do
    Uf self1 Xx7 true
    ) (do
    let Xx24←ixL C8 Xx7 5
    let Xx25←ixL C9 Xx7 5
    let Xx26←ldG 4 ((Xx24).add 0)
    let Xx27←ldG 4 ((Xx25).add 0)
    let Xx28←J6 Xx26 Xx27
    Uf self1 Xx7 (!Xx28)
    )
   ) (do
   M.pure true
   )
def Uj (x0:Sl) (x1:Sl):M (Bool):=do
 M.ite ((x0.len:Int) != (x1.len:Int)) (do
  M.pure false
  ) (do
  M.loop (Vq x0 x1) 0
  )
theorem KAG (x0:Sl) (x1:Sl):Kn Go.Proofs.Tryz.prog 60 #[(x0:Sl).v,(x1:Sl).v] (fun (r:Bool)=>.bool r) (Uj x0 x1) :=
 KM [X1] [] [.B] [(0,.L x0),(1,.L x1)] (.q .o (.q .o (.q (.q .o (.b (.l [(0,.L),(1,.L)] [(5,.I .i64)] (fun (t:Sl × Sl)=>Vq t.1 t.2) (fun self1=>.q .o (.q (.b (.q (.r [0,0,3,4,8,0,0,96,128,256,528,1024,2048,2048,14336,18432,34816,2048,2048,395264,526336,1050624,2164736,4196352,8390656] [0,0,3,4,8,0,0,96,128,256,528,1024,2048,2048,14336,18432,34816,2048,2048,395264,526336,1050624,2164736,4196352,8390656] [0,0,3,7,15,0,0,96,224,480,1023,2047,4095,4095,16383,32767,65535,4095,4095,397311,921599,1970175,4194303,8388607,16777215] (.pu 0 (.pu 1 (.pu 2 (.pu 3 (.pu 5 (.pu 6 (.pu 7 (.pu 8 (.pu 4 (.pu 9 (.pu 10 (.pu 11 (.g 11 (.of 12 (.of 13 (.of 14 (.of 15 (.of 16 (.of 17 (.of 18 (.of 19 (.of 20 (.of 21 (.of 22 (.of 23 (.pu 24 (.st [10,11,12,13,14,15,16,17,18,19,20,21,22,23,24] .dn)))))))))))))) (.pu 12 (.pu 13 (.pu 14 (.pu 15 (.pu 17 (.pu 18 (.pu 19 (.pu 20 (.pu 16 (.pu 21 (.st [22,23,24] (.on 22 (.pu 23 (.pu 24 (.nx .dn))))))))))))))))))))))))))))) (.j [(0,.L),(1,.L),(5,.I .i64),(41,.B)] (fun (t:Sl × Sl × Int × Bool)=>Uf self1 t.2.2.1 t.2.2.2) .o))) .o))))) .o))) Go.Proofs.Tryz.func60 rfl rfl ⟨rfl,rfl,trivial⟩ rfl (by kernel_rfl) (by kernel_rfl)
noncomputable def KAH:CalleeS Go.Proofs.Tryz.prog:=mkC qh qo [.L,.L] [.B] (fun (t:Sl × Sl)=>Uj t.1 t.2) (fun (t:Sl × Sl)=>KAG t.1 t.2)
def JQ:M (Bool):=do
 M.pure true
def Zn (C16:ByteArray):M (Bool):=do
 let Xx19←US C16
 M.ite (Xx19.2.2 == 0) (do
  let Xx22←Wt Xx19.1
  let Xx24←M.ite (Xx22.2 != 0) (do
   M.pure true
   ) (do
   M.pure (!(sEq Xx22.1 C16))
   )
  M.ite Xx24 (do
   M.pure false
   ) (do
   JQ
   )
  ) (do
  JQ
  )
def ZP (C15:ByteArray):M (Bool):=do
 let Xx27←J5 C15
 M.ite (Xx27.2.2 == 0) (do
  let Xx30←Ue Xx27.1
  let Xx32←M.ite (Xx30.2 != 0) (do
   M.pure true
   ) (do
   M.pure (!(sEq Xx30.1 C15))
   )
  M.ite Xx32 (do
   M.pure false
   ) (do
   Zn C15
   )
  ) (do
  Zn C15
  )
def ZQ (C13:Sl) (C14:ByteArray):M (Bool):=do
 let Xx35←Wt C13
 M.ite (Xx35.2 == 0) (do
  let Xx38←US Xx35.1
  let Xx40←M.ite (Xx38.2.2 != 0) (do
   M.pure true
   ) (do
   M.pure (Xx38.2.1 != 0)
   )
  let Xx41←M.ite Xx40 (do
   M.pure true
   ) (do
   let Xx42←Uj Xx38.1 C13
   M.pure (!Xx42)
   )
  M.ite Xx41 (do
   M.pure false
   ) (do
   ZP C14
   )
  ) (do
  ZP C14
  )
def U0 (x0:Sl) (x1:Sl) (x2:ByteArray):M (Bool):=do
 let Xx4←WJ x0
 let Xx5←M.ite (!Xx4) (do
  M.pure true
  ) (do
  M.pure (decide ((x1.len:Int) > 100))
  )
 let Xx6←M.ite Xx5 (do
  M.pure true
  ) (do
  let Xx7←Gr x2 (⟨#[10]⟩:ByteArray)
  M.pure (decide (Xx7 > 200))
  )
 M.ite Xx6 (do
  M.pure true
  ) (do
  let Xx11←UQ
  M.ite (!Xx11) (do
   M.pure false
   ) (do
   let Xx45←Ue x0
   M.ite (Xx45.2 == 0) (do
    let Xx48←J5 Xx45.1
    let Xx50←M.ite (Xx48.2.2 != 0) (do
     M.pure true
     ) (do
     M.pure (Xx48.2.1 != 0)
     )
    let Xx51←M.ite Xx50 (do
     M.pure true
     ) (do
     let Xx52←Jt Xx48.1 x0
     M.pure (!Xx52)
     )
    M.ite Xx51 (do
     M.pure false
     ) (do
     ZQ x1 x2
     )
    ) (do
    ZQ x1 x2
    )
   )
  )
theorem GR (x0:Sl) (x1:Sl) (x2:ByteArray):Kn Go.Proofs.Tryz.prog 11 #[(x0:Sl).v,(x1:Sl).v,.string x2] (fun (r:Bool)=>.bool r) (U0 x0 x1 x2) :=
 KM [KAn,z8,KAE,q8,Nm,mkC KBX KBZ [.S,.S] [.I .i64] (fun (t:ByteArray × ByteArray)=>Gr t.1 t.2) (fun (t:ByteArray × ByteArray)=>KCG t.1 t.2),KFR,KA0,KAH] [] [.B] [(0,.L x0),(1,.L x1),(2,.S x2)] (.q .o (.q .o (.q .o (.q .o (.j [(1,.L),(2,.S)] (fun (t:Sl × ByteArray)=>ZQ t.1 t.2) (.q .o (.j [(2,.S)] (fun (t:ByteArray)=>ZP t) (.q .o (.j [(2,.S)] (fun (t:ByteArray)=>Zn t) (.q .o (.j [] (fun (t:Unit)=>JQ) .o))))))))))) Go.Proofs.Tryz.func11 rfl rfl ⟨rfl,rfl,rfl,trivial⟩ rfl (by kernel_rfl) (by kernel_rfl)
def GS (x0:Array Value) (x1:Array Value):M (Bool):=do
 let Xx2←mkB KB x0
 let Xx3←mkB KB x1
 let Xx5←ldG 4 Xx2
 let Xx6←ldG 4 Xx3
 let Xx7←UC Xx5 Xx6
 M.pure (Xx7 == 0)
theorem KBP (x0:Array Value) (x1:Array Value):Kn Go.Proofs.Tryz.prog 15 #[.agg x0,.agg x1] (fun (r:Bool)=>.bool r) (GS x0 x1) :=
 KM [XZ] [] [.B] [(0,.G x0),(1,.G x1)] .o Go.Proofs.Tryz.func15 rfl rfl ⟨rfl,rfl,trivial⟩ rfl (by kernel_rfl) (by kernel_rfl)
noncomputable def KFS:CalleeS Go.Proofs.Tryz.prog:=mkC WA zy [.G,.G] [.B] (fun (t:Array Value × Array Value)=>GS t.1 t.2) (fun (t:Array Value × Array Value)=>KBP t.1 t.2)
def Wu (x0:ByteArray):M (Array Value × Int × Int):=do
 let Xx2←mkB KB (#[.int .i64 0,.int .i64 0,.string ByteArray.empty,.slice none 0 0]:Array Value)
 let Xx4←NQ Go.Proofs.Tryz.prog Y2 #[.string x0] (fun r:Array Value × Int × Bool=>.tuple #[.agg r.1,.int .i64 r.2.1,.bool r.2.2])
 let Xx5←mkB KB (#[.int .i64 0,.int .i64 0,.string ByteArray.empty,.slice none 0 0]:Array Value)
 M.need (Xx4.1.size=4)
 stG Xx5 Xx4.1
 M.ite (!Xx4.2.2) (do
  M.need ((#[.int .i64 0,.int .i64 0,.string ByteArray.empty,.slice none 0 0]:Array Value).size=4)
  stG Xx2 (#[.int .i64 0,.int .i64 0,.string ByteArray.empty,.slice none 0 0]:Array Value)
  let Rr11←ldG 4 Xx2
  M.pure (Rr11,Xx4.2.1,22)
  ) (do
  let Xx13←ldG 4 Xx5
  let Xx14←Vn Xx13
  M.ite (Xx14 != 0) (do
   M.need ((#[.int .i64 0,.int .i64 0,.string ByteArray.empty,.slice none 0 0]:Array Value).size=4)
   stG Xx2 (#[.int .i64 0,.int .i64 0,.string ByteArray.empty,.slice none 0 0]:Array Value)
   let Rr17←ldG 4 Xx2
   M.pure (Rr17,0,20)
   ) (do
   let Xx19←ldG 4 Xx5
   M.need (Xx19.size=4)
   stG Xx2 Xx19
   let Rr21←ldG 4 Xx2
   M.pure (Rr21,0,0)
   )
  )
theorem KAI (x0:ByteArray):Kn Go.Proofs.Tryz.prog 17 #[.string x0] (fun (r:Array Value × Int × Int)=>.tuple #[.agg r.1,.int .i64 r.2.1,.int .i64 r.2.2]) (Wu x0) :=
 KM [Gv,mkC Y2 KEH [.S] [.G,.I .i64,.B] (fun (t:ByteArray)=>NQ Go.Proofs.Tryz.prog Y2 #[.string t] (fun r:Array Value × Int × Bool=>.tuple #[.agg r.1,.int .i64 r.2.1,.bool r.2.2])) (fun (t:ByteArray)=>U8)] [] [.G,.I .i64,.I .i64] [(0,.S x0)] .o Go.Proofs.Tryz.func17 rfl rfl ⟨rfl,trivial⟩ rfl (by kernel_rfl) (by kernel_rfl)
noncomputable def KER:CalleeS Go.Proofs.Tryz.prog:=mkC KC4 qS [.S] [.G,.I .i64,.I .i64] (fun (t:ByteArray)=>Wu t) (fun (t:ByteArray)=>KAI t)
def K0 (x0:Sl):M (Sl):=do
 M.ite ((x0).base.isNone) (do
  M.pure Sl.nil
  ) (do
  let y_7←GL 4 0 (#[.int .i64 0,.int .i64 0,.string ByteArray.empty,.slice none 0 0]:Array Value) []
  let Xx6←bdL KB 0 y_7
  let Xx8←apL KB 4 56 (#[.int .i64 0,.int .i64 0,.string ByteArray.empty,.slice none 0 0]:Array Value) Xx6 x0
  M.pure Xx8
  )
theorem Vb (x0:Sl):Kn Go.Proofs.Tryz.prog 21 #[(x0:Sl).v] (fun (r:Sl)=>(r:Sl).v) (K0 x0) :=
 KM [] [] [.L] [(0,.L x0)] .o Go.Proofs.Tryz.func21 rfl rfl ⟨rfl,trivial⟩ rfl (by kernel_rfl) (by kernel_rfl)
noncomputable def Vc:CalleeS Go.Proofs.Tryz.prog:=mkC VU VW [.L] [.L] (fun (t:Sl)=>K0 t) (fun (t:Sl)=>Vb t)
def KCK (x0:Int):M (Array Value):=do
 let Xx2←mkB KB (#[.int .i64 0,.int .i64 0,.string ByteArray.empty,.slice none 0 0]:Array Value)
 M.need ((#[.int .i64 1,.int .i64 x0,.string ByteArray.empty,.slice none 0 0]:Array Value).size=4)
 stG Xx2 (#[.int .i64 1,.int .i64 x0,.string ByteArray.empty,.slice none 0 0]:Array Value)
 let Rr5←ldG 4 Xx2
 M.pure Rr5
theorem KGP (x0:Int):Kn Go.Proofs.Tryz.prog 26 #[.int .i64 x0] (fun (r:Array Value)=>.agg r) (KCK x0) :=
 KM [] [] [.G] [(0,.I .i64 x0)] .o Go.Proofs.Tryz.func26 rfl rfl ⟨rfl,trivial⟩ rfl (by kernel_rfl) (by kernel_rfl)
def KCL (x0:ByteArray):M (Array Value):=do
 let Xx2←mkB KB (#[.int .i64 0,.int .i64 0,.string ByteArray.empty,.slice none 0 0]:Array Value)
 M.need ((#[.int .i64 2,.int .i64 0,.string x0,.slice none 0 0]:Array Value).size=4)
 stG Xx2 (#[.int .i64 2,.int .i64 0,.string x0,.slice none 0 0]:Array Value)
 let Rr5←ldG 4 Xx2
 M.pure Rr5
theorem KGQ (x0:ByteArray):Kn Go.Proofs.Tryz.prog 28 #[.string x0] (fun (r:Array Value)=>.agg r) (KCL x0) :=
 KM [] [] [.G] [(0,.S x0)] .o Go.Proofs.Tryz.func28 rfl rfl ⟨rfl,trivial⟩ rfl (by kernel_rfl) (by kernel_rfl)
def WR (C6:Addr) (C7:Addr):M (Array Value):=do
 let Xx9←ldG 4 C7
 M.need (Xx9.size=4)
 stG C6 Xx9
 let Rr11←ldG 4 C6
 M.pure Rr11
def GT (x0:Bool):M (Array Value):=do
 let Xx2←mkB KB (#[.int .i64 0,.int .i64 0,.string ByteArray.empty,.slice none 0 0]:Array Value)
 let Xx4←mkB KB (#[.int .i64 0,.int .i64 0,.string ByteArray.empty,.slice none 0 0]:Array Value)
 M.need ((#[.int .i64 3,.int .i64 0,.string ByteArray.empty,.slice none 0 0]:Array Value).size=4)
 stG Xx4 (#[.int .i64 3,.int .i64 0,.string ByteArray.empty,.slice none 0 0]:Array Value)
 M.ite x0 (do
  stV ((Xx4).add 1) (.int .i64 1)
  WR Xx2 Xx4
  ) (do
  WR Xx2 Xx4
  )
theorem KBQ (x0:Bool):Kn Go.Proofs.Tryz.prog 34 #[.bool x0] (fun (r:Array Value)=>.agg r) (GT x0) :=
 KM [] [] [.G] [(0,.B x0)] (.q .o (.q .o (.q .o (.j [(2,.A),(3,.A)] (fun (t:Addr × Addr)=>WR t.1 t.2) .o)))) Go.Proofs.Tryz.func34 rfl rfl ⟨rfl,trivial⟩ rfl (by kernel_rfl) (by kernel_rfl)
def GC (C12:Addr) (C13:Addr) (C14:Int) (self1:(Int)→M (Array Value)):(Int)→M (Array Value):=fun s=>match s with
 | Xx11=>do
  M.ite (decide (Xx11 < C14)) (do
   let Xx20←ldL ((C12).add 3)
   let Xx21←ldL ((C12).add 3)
   let Xx22←ixL Xx21 Xx11 4
   let Xx23←ldG 4 Xx22
   let Xx24←NQ Go.Proofs.Tryz.prog YD #[.agg Xx23] (fun r:Array Value=>.agg r)
   chk (fun h:Heap=>(KN h ((C12).add 3)=some ((Xx20:Sl).v))∧(KN h ((C12).add 3)=some ((Xx21:Sl).v))∧(Xx23.size=4∧∀ i,i < 4→KN h (Addr.add Xx22 i)=Xx23[i]?))
   let Xx25←ixL Xx20 Xx11 4
   M.need (Xx24.size=4)
   stG Xx25 Xx24
   self1 (IntKind.wrap .i64 (Xx11+1))
   ) (do
   let Xx28←ldG 4 C12
   M.need (Xx28.size=4)
   stG C13 Xx28
   let Rr30←ldG 4 C13
   M.pure Rr30
   )
def Xc (x0:Array Value):M (Array Value):=do
 let Xx2←mkB KB x0
 let Xx3←mkB KB (#[.int .i64 0,.int .i64 0,.string ByteArray.empty,.slice none 0 0]:Array Value)
 let Xx5←ldL ((Xx2).add 3)
 let Xx6←K0 Xx5
 stV ((Xx2).add 3) ((Xx6:Sl).v)
 let Xx10←ldL ((Xx2).add 3)
 M.loop (GC Xx2 Xx3 (Xx10.len:Int)) 0
theorem KAJ (x0:Array Value):Kn Go.Proofs.Tryz.prog 39 #[.agg x0] (fun (r:Array Value)=>.agg r) (Xc x0) :=
 KM [Vc,mkC YD qR [.G] [.G] (fun (t:Array Value)=>NQ Go.Proofs.Tryz.prog YD #[.agg t] (fun r:Array Value=>.agg r)) (fun (t:Array Value)=>U8)] [] [.G] [(0,.G x0)] (.q .o (.q .o (.q (.q .o (.b (.l [(1,.A),(2,.A),(10,.I .i64)] [(11,.I .i64)] (fun (t:Addr × Addr × Int)=>GC t.1 t.2.1 t.2.2) (fun _=>.q .o (.q .o (.q (.b (.q .o (.r [0,1,0,0,8,0,48,64,128,511,1023] [0,1,0,0,8,0,48,64,128,6,768] [0,1,0,0,8,0,56,120,248,511,1023] (.pu 0 (.pu 2 (.pu 3 (.pu 5 (.pu 1 (.pu 4 (.pu 6 (.pu 7 (.st [9,10] (.on 8 (.pu 9 (.nx (.on 10 .dn)))))))))))))))) .o)))))) .o))) Go.Proofs.Tryz.func39 rfl rfl ⟨rfl,trivial⟩ rfl (by kernel_rfl) (by kernel_rfl)
noncomputable def KES:CalleeS Go.Proofs.Tryz.prog:=mkC YD qR [.G] [.G] (fun (t:Array Value)=>Xc t) (fun (t:Array Value)=>KAJ t)
def Nn (C14:Addr) (C15:Addr) (C16:Addr) (self1:(Int)→M (Array Value × Bool)):(Int)→M (Array Value × Bool):=fun s=>match s with
 | Xx13=>do
  let Xx20←ldL ((C14).add 3)
  M.ite (decide ((IntKind.wrap .i64 (Xx13+1)) < (Xx20.len:Int))) (do
   let Xx23←ldL ((C14).add 3)
   let Xx24←ixL Xx23 Xx13 4
   let Xx25←ldG 4 Xx24
   let Xx26←ldG 4 C15
   let Xx27←GS Xx25 Xx26
   M.ite Xx27 (do
    let Xx29←ldL ((C14).add 3)
    let Xx30←ixL Xx29 (IntKind.wrap .i64 (Xx13+1)) 4
    let Xx31←ldG 4 Xx30
    let Xx32←Xc Xx31
    M.need (Xx32.size=4)
    stG C16 Xx32
    let Rr34←ldG 4 C16
    M.pure (Rr34,true)
    ) (do
    self1 (IntKind.wrap .i64 (Xx13+2))
    )
   ) (do
   M.need ((#[.int .i64 0,.int .i64 0,.string ByteArray.empty,.slice none 0 0]:Array Value).size=4)
   stG C16 (#[.int .i64 0,.int .i64 0,.string ByteArray.empty,.slice none 0 0]:Array Value)
   let Rr37←ldG 4 C16
   M.pure (Rr37,false)
   )
def No (x0:Array Value) (x1:Array Value):M (Array Value × Bool):=do
 let Xx2←mkB KB x0
 let Xx3←mkB KB x1
 let Xx4←mkB KB (#[.int .i64 0,.int .i64 0,.string ByteArray.empty,.slice none 0 0]:Array Value)
 let Xx7←ldI .i64 ((Xx2).add 0)
 M.ite (Xx7 != 5) (do
  M.need ((#[.int .i64 0,.int .i64 0,.string ByteArray.empty,.slice none 0 0]:Array Value).size=4)
  stG Xx4 (#[.int .i64 0,.int .i64 0,.string ByteArray.empty,.slice none 0 0]:Array Value)
  let Rr10←ldG 4 Xx4
  M.pure (Rr10,false)
  ) (do
  M.loop (Nn Xx2 Xx3 Xx4) 0
  )
theorem KGR (x0:Array Value) (x1:Array Value):Kn Go.Proofs.Tryz.prog 36 #[.agg x0,.agg x1] (fun (r:Array Value × Bool)=>.tuple #[.agg r.1,.bool r.2]) (No x0 x1) :=
 KM [KFS,KES] [] [.G,.B] [(0,.G x0),(1,.G x1)] (.q .o (.q .o (.q (.q .o (.b (.l [(2,.A),(3,.A),(4,.A)] [(6,.I .i64)] (fun (t:Addr × Addr × Addr)=>Nn t.1 t.2.1 t.2.2) (fun _=>.q .o (.q (.b (.q (.r [0,1,0,6,8,0,48] [0,1,0,6,8,0,48] [0,1,0,7,15,0,63] (.pu 0 (.pu 2 (.pu 1 (.pu 3 (.pu 4 (.pu 5 (.st [6] (.on 6 .dn))))))))) .o)) .o))))) .o))) Go.Proofs.Tryz.func36 rfl rfl ⟨rfl,rfl,trivial⟩ rfl (by kernel_rfl) (by kernel_rfl)
noncomputable def KGS:CalleeS Go.Proofs.Tryz.prog:=mkC KFH KFJ [.G,.G] [.G,.B] (fun (t:Array Value × Array Value)=>No t.1 t.2) (fun (t:Array Value × Array Value)=>KGR t.1 t.2)
theorem KM5:KDy Go.Proofs.Tryz.f101 2 [[],[],[0],[],[0,3,0,1,2,3],[4,2,0,1,2,3,4],[5,1,4,0,1,2,3,4],[4,4,0,1,2,3,4]] [[],[],[0],[],[0,3],[2,4],[1,5],[4]] [[],[],[0],[],[0,1,2,3],[0,1,2,3,4],[0,1,2,3,4,5],[0,1,2,3,4]]=true:=by kernel_rfl
def U3 (x0:ByteArray) (x1:Addr):M (Bool):=do
 let Xx3←Wu x0
 let Xx4←mkB KB (#[.int .i64 0,.int .i64 0,.string ByteArray.empty,.slice none 0 0]:Array Value)
 M.need (Xx3.1.size=4)
 stG Xx4 Xx3.1
 let Xx7←ldL x1
 let Xx8←ldG 4 Xx4
 let y_10←GL 4 1 (#[.int .i64 0,.int .i64 0,.string ByteArray.empty,.slice none 0 0]:Array Value) [(0,.agg (#[.int .i64 0,.int .i64 0,.string ByteArray.empty,.slice none 0 0]:Array Value))]
 let Xx9←bdL KB 1 y_10
 chk (fun h:Heap=>(KN h x1=some ((Xx7:Sl).v))∧(Xx8.size=4∧∀ i,i < 4→KN h (Addr.add Xx4 i)=Xx8[i]?))
 let Xx11←apL KB 4 56 (#[.int .i64 0,.int .i64 0,.string ByteArray.empty,.slice none 0 0]:Array Value) Xx7 Xx9
 let Xx12←ixL Xx11 (Xx7.len:Int) 4
 let y_17←do
  M.both (do
   M.need (Xx8.size=4)
   stG Xx12 Xx8
   stV x1 ((Xx11:Sl).v)
   M.pure ()
   ) (do
   stV x1 ((Xx11:Sl).v)
   M.need (Xx8.size=4)
   stG Xx12 Xx8
   M.pure ()
   )
 M.pure (Xx3.2.2 == 0)
theorem qK (x0:ByteArray) (x1:Addr):Kn Go.Proofs.Tryz.prog 101 #[.string x0,.pointer (some x1)] (fun (r:Bool)=>.bool r) (U3 x0 x1):=by
 refine KGs [(0,.string x0),(1,.pointer (some x1))] Go.Proofs.Tryz.func101 rfl rfl (Nat.le_of_ble_eq_true rfl) (Vz ⟨rfl,rfl,trivial⟩) (fun w0 w Q R a hret hE hR H=>?_)
 unfold U3 at H
 refine KW (fun K hK_1=>?_)
 refine KD ?_
 refine KE (v:=.bool false) rfl rfl hE rfl (KZ hE rfl) (fun a hE=>?_)
 refine KU ?_
 refine hK_1 _ _ ?_
 refine KW (fun K hK_2=>?_)
 refine KD ?_
 refine KE (v:=.string x0) rfl rfl hE rfl (KH hE rfl) (fun a hE=>?_)
 refine J9 hE hR qS rfl (KAI x0) (M.unbind H) (fun Xx3 a w ea hR H=>?_)
 have hE:=Env.put_some hE rfl ea; clear ea
 refine KE (v:=.tuple #[.agg Xx3.1,.int .i64 Xx3.2.1,.int .i64 Xx3.2.2]) rfl rfl hE rfl (KH hE rfl) (fun a hE=>?_)
 refine KE (v:=.agg Xx3.1) rfl rfl hE rfl (VA hE rfl rfl) (fun a hE=>?_)
 refine KE (v:=.int .i64 Xx3.2.1) rfl rfl hE rfl (VA hE rfl rfl) (fun a hE=>?_)
 refine KE (v:=.int .i64 Xx3.2.2) rfl rfl hE rfl (VA hE rfl rfl) (fun a hE=>?_)
 obtain ⟨Xx4,qXx4,H⟩:=H
 refine Wi (v:=.pointer (some Xx4)) rfl rfl hE rfl hR (Uv zr24 qXx4) (fun a w hE hR hh=>?_)
 replace H:=M.at hh H; clear hh
 obtain ⟨qz,H⟩:=H
 obtain ⟨u_5,qu_5,H⟩:=H
 refine UF rfl rfl hE hR (Z1 hE rfl rfl sz24 qz qu_5) (fun a w hE hR hh=>?_)
 replace H:=M.at hh H; clear hh
 refine KE (v:=.int .i64 Xx3.2.1) rfl rfl hE rfl (KZ hE rfl) (fun a hE=>?_)
 refine KE (v:=.int .i64 Xx3.2.2) rfl rfl hE rfl (KZ hE rfl) (fun a hE=>?_)
 refine KU ?_
 refine hK_2 _ _ ?_
 refine KW (fun K hK_6=>?_)
 obtain ⟨Xx7,qXx7,H⟩:=H
 obtain ⟨Xx8,qXx8,H⟩:=H
 have hT:=Xv KM5 rfl rfl
 refine Vi (fun w:World=>(fun h:Heap=>(KN h x1=some ((Xx7:Sl).v))∧(Xx8.size=4∧∀ i,i < 4→KN h (Addr.add Xx4 i)=Xx8[i]?)) w.heap) [4,5,6,7] #[false,false,false,false,false,false,false,false] mo hR rfl rfl (fun w' e=>by rw [e]; exact ⟨qXx7,qXx8⟩) (fun w hh hR hs=>?_)
 replace H:=M.at hh H; clear hh
 refine UA (i:=0) (v:=(Xx7:Sl).v) #[true,false,false,false,false,false,false,false] rfl rfl hT (by kernel_rfl) hE rfl (KA rfl) hs (fun w s=>ZR hE rfl sc22 s.1) (fun a hE=>?_)
 refine KC (i:=2) (v:=.int .i64 (Xx7.len:Int)) #[true,false,true,false,false,false,false,false] rfl rfl hT (by kernel_rfl) hE rfl (KA rfl) (fun w=>KHl hE rfl 24 un22) (fun a hE=>?_)
 refine UA (i:=1) (v:=.agg Xx8) #[true,true,true,false,false,false,false,false] rfl rfl hT (by kernel_rfl) hE rfl (KA rfl) hs (fun w s=>qZ hE rfl ag24 s.2) (fun a hE=>?_)
 obtain ⟨y_10,qy_10,H⟩:=H
 obtain ⟨Xx9,qXx9,H⟩:=H
 obtain ⟨_,sA,H⟩:=H
 refine KLu (i:=3) (v:=(Xx9:Sl).v) #[true,true,true,true,false,false,false,false] rfl rfl hT (by kernel_rfl) rfl hE hR rfl (KA rfl) (Gf hE rfl un22 sz24 zr24 rfl qy_10 qXx9)  (fun w' e=>by rw [e]; exact sA) (fun a w hE hR hh hs=>?_)
 replace H:=M.at hh H; clear hh
 refine KNg (i:=4) (fun Xx11=>(Xx11:Sl).v) #[true,true,true,true,true,false,false,false] rfl rfl hT (by kernel_rfl) rfl hR (KA rfl) (M.unbind H) (fun Q H=>KDZ hE rfl rfl ap22 H) (fun Xx11 a w ea hR H=>?_)
 have hE:=Env.put_some hE rfl ea; clear ea
 obtain ⟨Xx12,qXx12,H⟩:=H
 refine KC (i:=5) (v:=.pointer (some Xx12)) #[true,true,true,true,true,true,false,false] rfl rfl hT (by kernel_rfl) hE rfl (KA rfl) (fun w=>U9 hE rfl rfl un22 sz24 qXx12) (fun a hE=>?_)
 refine KD0 (fun w:World=>(fun h:Heap=>True) w.heap) [6,7] (by kernel_rfl) ?_
 have hs:(fun h:Heap=>True) w.heap:=trivial
 refine KLs (n:=(⟨21,[]⟩:Frm)) (w0:=w0) (fun y_17:Unit=>[(0,.string x0),(1,.pointer (some x1)),(3,.bool false),(8,.string x0),(9,.tuple #[.agg Xx3.1,.int .i64 Xx3.2.1,.int .i64 Xx3.2.2]),(7,.tuple #[.agg Xx3.1,.int .i64 Xx3.2.1,.int .i64 Xx3.2.2]),(10,.agg Xx3.1),(11,.int .i64 Xx3.2.1),(12,.int .i64 Xx3.2.2),(4,.pointer (some Xx4)),(5,.int .i64 Xx3.2.1),(6,.int .i64 Xx3.2.2),(13,(Xx7:Sl).v),(15,.int .i64 (Xx7.len:Int)),(14,.agg Xx8),(16,(Xx9:Sl).v),(17,(Xx11:Sl).v),(18,.pointer (some Xx12))]) 0 #[true,true,true,true,true,true,true,true] (M.unbind H) ?_ ?_
 ·intro y_17 a w hE hR H
  refine XL hT (by kernel_rfl) ?_
  refine hK_6 _ _ ?_
  refine KW (fun K hK_18=>?_)
  refine KD ?_
  refine KE (v:=.int .i64 Xx3.2.2) rfl rfl hE rfl (KH hE rfl) (fun a hE=>?_)
  refine KE (v:=.bool (Xx3.2.2 == 0)) rfl rfl hE rfl (ZL hE rfl rfl ZF Gd) (fun a hE=>?_)
  refine KE (v:=.bool (Xx3.2.2 == 0)) rfl rfl hE rfl (KZ hE rfl) (fun a hE=>?_)
  refine KU ?_
  refine hK_18 _ _ ?_
  refine WZ ?_
  exact hret _ _ _ (Xx3.2.2 == 0) _ hE hR (Z2 hE rfl (RV.tmp rfl RV.nil)) rfl H
 ·intro hj H
  refine KLt [6,7] hT (by kernel_rfl) rfl (fun i hi=>?_)
  simp only [List.mem_cons,List.not_mem_nil,or_false] at hi
  rcases hi with rfl | rfl
  ·replace H:=H.1
   obtain ⟨qz,H⟩:=H
   obtain ⟨u_13,qu_13,H⟩:=H
   refine KKt (S:=fun w:World=>(fun h:Heap=>True) w.heap) (i:=6) #[true,true,true,true,true,true,true,false] rfl rfl (by kernel_rfl) hE hR (KA rfl) (Z1 hE rfl rfl sz24 qz qu_13)  (fun _ _=>trivial) (fun a w hE hR hh hs=>?_)
   replace H:=M.at hh H; clear hh
   obtain ⟨u_14,qu_14,H⟩:=H
   refine KDW (i:=7) #[true,true,true,true,true,true,true,true] rfl rfl hT (by kernel_rfl) rfl hE hR (KA rfl) (ZT hE rfl rfl sz22 qu_14)  (fun a w hE hR hh=>?_)
   replace H:=M.at hh H; clear hh
   exact hj () _ _ (hE.cut (.cons rfl (.cons rfl (.cons rfl (.cons rfl (.cons rfl (.cons rfl (.cons rfl (.cons rfl (.cons rfl (.cons rfl (.cons rfl (.cons rfl (.cons rfl (.cons rfl (.cons rfl (.cons rfl (.cons rfl (.cons rfl Subs.nil))))))))))))))))))) hR H
  ·replace H:=H.2
   obtain ⟨u_15,qu_15,H⟩:=H
   refine KKt (S:=fun w:World=>(fun h:Heap=>True) w.heap) (i:=7) #[true,true,true,true,true,true,false,true] rfl rfl (by kernel_rfl) hE hR (KA rfl) (ZT hE rfl rfl sz22 qu_15)  (fun _ _=>trivial) (fun a w hE hR hh hs=>?_)
   replace H:=M.at hh H; clear hh
   obtain ⟨qz,H⟩:=H
   obtain ⟨u_16,qu_16,H⟩:=H
   refine KDW (i:=6) #[true,true,true,true,true,true,true,true] rfl rfl hT (by kernel_rfl) rfl hE hR (KA rfl) (Z1 hE rfl rfl sz24 qz qu_16)  (fun a w hE hR hh=>?_)
   replace H:=M.at hh H; clear hh
   exact hj () _ _ (hE.cut (.cons rfl (.cons rfl (.cons rfl (.cons rfl (.cons rfl (.cons rfl (.cons rfl (.cons rfl (.cons rfl (.cons rfl (.cons rfl (.cons rfl (.cons rfl (.cons rfl (.cons rfl (.cons rfl (.cons rfl (.cons rfl Subs.nil))))))))))))))))))) hR H
def ZH (x0:ByteArray) (x1:ByteArray):M (ByteArray × ByteArray × Bool):=do
 let Xx4←Jz x0 x1
 M.ite (decide (Xx4 ≥ 0)) (do
  let Xx7←slS x0 0 Xx4
  let Xx8←slS x0 (IntKind.wrap .i64 (Xx4+(x1.size:Int))) x0.size
  M.pure (Xx7,Xx8,true)
  ) (do
  M.pure (x0,ByteArray.empty,false)
  )
theorem Xo (x0:ByteArray) (x1:ByteArray):Kn Go.Proofs.Tryz.prog 158 #[.string x0,.string x1] (fun (r:ByteArray × ByteArray × Bool)=>.tuple #[.string r.1,.string r.2.1,.bool r.2.2]) (ZH x0 x1) :=
 KM [mkC Yf Yl [.S,.S] [.I .i64] (fun (t:ByteArray × ByteArray)=>Jz t.1 t.2) (fun (t:ByteArray × ByteArray)=>Y7 t.1 t.2)] [] [.S,.S,.B] [(0,.S x0),(1,.S x1)] (.q .o (.q (.q .o (.q .o (.q (.q (.r [0,0,3,0,0,0,32,80,136,7,1023,2047] [0,0,3,0,0,0,32,80,136,4,256,0] [0,0,3,0,0,0,32,112,248,7,1023,2047] (.pu 0 (.pu 1 (.pu 2 (.pu 3 (.pu 4 (.pu 5 (.pu 6 (.pu 7 (.pu 8 (.pu 9 (.pu 10 (.pu 11 (.st [0,1,2,3,4,5,6,7,8,9,10,11] .dn)))))))))))))) .o) .o))) .o)) Go.Proofs.Tryz.func158 rfl rfl ⟨rfl,rfl,trivial⟩ rfl (by kernel_rfl) (by kernel_rfl)
noncomputable def Xp:CalleeS Go.Proofs.Tryz.prog:=mkC XO XR [.S,.S] [.S,.S,.B] (fun (t:ByteArray × ByteArray)=>ZH t.1 t.2) (fun (t:ByteArray × ByteArray)=>Xo t.1 t.2)
def VL (x0:ByteArray) (x1:ByteArray):M (ByteArray × ByteArray × Bool):=do
 let Xx3←ZH x0 x1
 M.pure (Xx3.1,Xx3.2.1,Xx3.2.2)
theorem KET (x0:ByteArray) (x1:ByteArray):Kn Go.Proofs.Tryz.prog 113 #[.string x0,.string x1] (fun (r:ByteArray × ByteArray × Bool)=>.tuple #[.string r.1,.string r.2.1,.bool r.2.2]) (VL x0 x1) :=
 KM [Xp] [] [.S,.S,.B] [(0,.S x0),(1,.S x1)] .o Go.Proofs.Tryz.func113 rfl rfl ⟨rfl,rfl,trivial⟩ rfl (by kernel_rfl) (by kernel_rfl)
noncomputable def KAK:CalleeS Go.Proofs.Tryz.prog:=mkC KC2 KDA [.S,.S] [.S,.S,.B] (fun (t:ByteArray × ByteArray)=>VL t.1 t.2) (fun (t:ByteArray × ByteArray)=>KET t.1 t.2)
def Wv (x0:ByteArray) (x1:Addr):M (Bool):=do
 let Xx3←VL x0 (⟨#[32]⟩:ByteArray)
 let Xx5←NQ Go.Proofs.Tryz.prog Xy #[.string Xx3.1] (fun r:Int × Int=>.tuple #[.int .i64 r.1,.int .i64 r.2])
 let Xx7←Wu Xx3.2.1
 let Xx8←mkB KB (#[.int .i64 0,.int .i64 0,.string ByteArray.empty,.slice none 0 0]:Array Value)
 M.need (Xx7.1.size=4)
 stG Xx8 Xx7.1
 let Xx11←ldL x1
 let Xx12←ldG 4 Xx8
 let Xx13←KKk [(0,4),(4,1)] (#[.int .i64 0,.int .i64 0,.string ByteArray.empty,.slice none 0 0,.int .i64 0]:Array Value) [(0,.agg Xx12),(1,.int .i64 Xx5.1)]
 let y_15←GL 5 1 (#[.int .i64 0,.int .i64 0,.string ByteArray.empty,.slice none 0 0,.int .i64 0]:Array Value) [(0,.agg Xx13)]
 let Xx14←bdL Jm 1 y_15
 let Xx16←apL Jm 5 64 (#[.int .i64 0,.int .i64 0,.string ByteArray.empty,.slice none 0 0,.int .i64 0]:Array Value) Xx11 Xx14
 stV x1 ((Xx16:Sl).v)
 let Xx19←M.ite Xx3.2.2 (do
  M.pure (Xx5.2 == 0)
  ) (do
  M.pure false
  )
 let Xx20←M.ite Xx19 (do
  M.pure (Xx7.2.2 == 0)
  ) (do
  M.pure false
  )
 let Xx21←M.ite Xx20 (do
  let Xx22←ldL x1
  let Xx23←Uq Xx22
  M.pure (Xx23 == 0)
  ) (do
  M.pure false
  )
 M.pure Xx21
theorem q9 (x0:ByteArray) (x1:Addr):Kn Go.Proofs.Tryz.prog 112 #[.string x0,.pointer (some x1)] (fun (r:Bool)=>.bool r) (Wv x0 x1) :=
 KM [NB,KAK,mkC Xy KBL [.S] [.I .i64,.I .i64] (fun (t:ByteArray)=>NQ Go.Proofs.Tryz.prog Xy #[.string t] (fun r:Int × Int=>.tuple #[.int .i64 r.1,.int .i64 r.2])) (fun (t:ByteArray)=>U8),KER] [] [.B] [(0,.S x0),(1,.A x1)] .o Go.Proofs.Tryz.func112 rfl rfl ⟨rfl,rfl,trivial⟩ rfl (by kernel_rfl) (by kernel_rfl)
def N2 (x0:Int) (x1:Bool):M (Int × Int):=do
 M.ite (!x1) (do
  M.pure (0,7)
  ) (do
  M.pure (x0,0)
  )
theorem KH4 (x0:Int) (x1:Bool):Kn Go.Proofs.Tryz.prog 141 #[.int .i64 x0,.bool x1] (fun (r:Int × Int)=>.tuple #[.int .i64 r.1,.int .i64 r.2]) (N2 x0 x1) :=
 KM [] [] [.I .i64,.I .i64] [(0,.I .i64 x0),(1,.B x1)] .o Go.Proofs.Tryz.func141 rfl rfl ⟨rfl,rfl,trivial⟩ rfl (by kernel_rfl) (by kernel_rfl)
noncomputable def KH5:CalleeS Go.Proofs.Tryz.prog:=mkC KGK KGN [.I .i64,.B] [.I .i64,.I .i64] (fun (t:Int × Bool)=>N2 t.1 t.2) (fun (t:Int × Bool)=>KH4 t.1 t.2)
def JJ (C5:Sl) (C6:Value) (C7:Int) (self1:(Int)→M (Int)):(Int)→M (Int):=fun s=>match s with
 | Xx4=>do
  M.ite (decide (Xx4 < C7)) (do
   let Xx14←ixL C5 Xx4 1
   let Xx15←ldI .u8 Xx14
   let Xx16←VD Go.Proofs.Tryz.prog (fun r:Bool=>.bool r) C6 [.int .u8 Xx15]
   M.ite Xx16 (do
    M.pure Xx4
    ) (do
    self1 (IntKind.wrap .i64 (Xx4+1))
    )
   ) (do
   M.pure (-1)
   )
def Zt (x0:Sl) (x1:Value):M (Int):=do
 M.loop (JJ x0 x1 (x0.len:Int)) 0
theorem YS (x0:Sl) (x1:Value):Kn Go.Proofs.Tryz.prog 200 #[(x0:Sl).v,x1] (fun (r:Int)=>.int .i64 r) (Zt x0 x1) :=
 KM [] [] [.I .i64] [(0,.L x0),(1,.V x1)] (.q .o (.q (.q .o (.b (.l [(0,.L),(1,.V),(7,.I .i64)] [(8,.I .i64)] (fun (t:Sl × Value × Int)=>JJ t.1 t.2.1 t.2.2) (fun _=>.o)))) .o)) Go.Proofs.Tryz.func200 rfl rfl ⟨rfl,rfl,trivial⟩ rfl (by kernel_rfl) (by kernel_rfl)
noncomputable def YT:CalleeS Go.Proofs.Tryz.prog:=mkC Wn Wp [.L,.V] [.I .i64] (fun (t:Sl × Value)=>Zt t.1 t.2) (fun (t:Sl × Value)=>YS t.1 t.2)
end Gx
namespace Gx
open Go
set_option linter.unusedVariables false
set_option maxRecDepth 100000
def ZI (x0:Sl) (x1:Value):M (Bool):=do
 let Xx3←Zt x0 x1
 M.pure (decide (Xx3 ≥ 0))
theorem WS (x0:Sl) (x1:Value):Kn Go.Proofs.Tryz.prog 159 #[(x0:Sl).v,x1] (fun (r:Bool)=>.bool r) (ZI x0 x1) :=
 KM [YT] [] [.B] [(0,.L x0),(1,.V x1)] .o Go.Proofs.Tryz.func159 rfl rfl ⟨rfl,rfl,trivial⟩ rfl (by kernel_rfl) (by kernel_rfl)
noncomputable def WT:CalleeS Go.Proofs.Tryz.prog:=mkC Vx Vy [.L,.V] [.B] (fun (t:Sl × Value)=>ZI t.1 t.2) (fun (t:Sl × Value)=>WS t.1 t.2)
def Zc (x0:ByteArray):M (ByteArray):=do
 M.ite ((x0.size:Int) == 0) (do
  M.pure ByteArray.empty
  ) (do
  let Xx6←mkS K9 1 1 (#[.int .u8 0]:Array Value) (x0.size:Int) (x0.size:Int)
  let Xx8←cpSt Xx6 x0
  let Xx10←ixL Xx6 0 1
  let Xx11←uStr K9 (some Xx10) (Xx6.len:Int)
  M.pure Xx11
  )
theorem Y8 (x0:ByteArray):Kn Go.Proofs.Tryz.prog 253 #[.string x0] (fun (r:ByteArray)=>.string r) (Zc x0) :=
 KM [] [] [.S] [(0,.S x0)] .o Go.Proofs.Tryz.func253 rfl rfl ⟨rfl,trivial⟩ rfl (by kernel_rfl) (by kernel_rfl)
noncomputable def Y9:CalleeS Go.Proofs.Tryz.prog:=mkC Ye Yk [.S] [.S] (fun (t:ByteArray)=>Zc t) (fun (t:ByteArray)=>Y8 t)
def UD (x0:ByteArray) (x1:ByteArray):M (Option Addr):=do
 let Xx3←ldV (⟨5,0,none⟩:Addr)
 let Xx4←Zc x1
 chk (fun h:Heap=>(KN h (⟨5,0,none⟩:Addr)=some (Xx3)))
 let Xx5←KKk [(0,1),(1,1),(2,1)] (#[.string ByteArray.empty,.string ByteArray.empty,.nilIface]:Array Value) [(0,.string x0),(1,.string Xx4),(2,Xx3)]
 let Xx6←mkB ql Xx5
 M.pure (some Xx6)
theorem qL (x0:ByteArray) (x1:ByteArray):Kn Go.Proofs.Tryz.prog 233 #[.string x0,.string x1] (fun (r:Option Addr)=>.pointer r) (UD x0 x1) :=
 KM [Y9] [4] [.P] [(0,.S x0),(1,.S x1)] (.q .o (.q (.r [0,0,2,0,13,16,63] [0,0,2,0,13,16,32] [0,0,2,0,15,31,63] (.pu 0 (.pu 1 (.pu 3 (.st [4,5,6] (.on 2 (.pu 4 (.nx (.on 5 (.pu 6 (.nx .dn))))))))))) .o)) Go.Proofs.Tryz.func233 rfl rfl ⟨rfl,rfl,trivial⟩ rfl (by kernel_rfl) (by kernel_rfl)
noncomputable def qM:CalleeS Go.Proofs.Tryz.prog:=mkC Na Nd [.S,.S] [.P] (fun (t:ByteArray × ByteArray)=>UD t.1 t.2) (fun (t:ByteArray × ByteArray)=>qL t.1 t.2)
def VM (x0:ByteArray) (x1:ByteArray) (x2:Int) (x3:Int) (x4:Value):M (Value):=do
 let Xx5←eqII Kj x4 (Value.iface Kj (.int .i64 2))
 M.ite Xx5 (do
  let Xx7←Vm x0 x1
  M.pure (Value.iface UB (.pointer Xx7))
  ) (do
  let Xx9←eqII Kj x4 (Value.iface Kj (.int .i64 1))
  M.ite Xx9 (do
   let Xx11←UD x0 x1
   M.pure (Value.iface UB (.pointer Xx11))
   ) (do
   let Xx13←eqII Kj x4 (Value.iface Kj (.int .i64 3))
   M.ite Xx13 (do
    let Xx15←Wq x0 x1 x2
    M.pure (Value.iface UB (.pointer Xx15))
    ) (do
    let Xx17←eqII Kj x4 (Value.iface Kj (.int .i64 4))
    M.ite Xx17 (do
     let Xx19←VX x0 x1 x3
     M.pure (Value.iface UB (.pointer Xx19))
     ) (do
     M.pure x4
     )
    )
   )
  )
theorem KA1 (x0:ByteArray) (x1:ByteArray) (x2:Int) (x3:Int) (x4:Value):Kn Go.Proofs.Tryz.prog 202 #[.string x0,.string x1,.int .i64 x2,.int .i64 x3,x4] (fun (r:Value)=>r) (VM x0 x1 x2 x3 x4) :=
 KM [mkC NH NJ [.S,.S] [.P] (fun (t:ByteArray × ByteArray)=>Vm t.1 t.2) (fun (t:ByteArray × ByteArray)=>Ng t.1 t.2),qM,mkC qD qI [.S,.S,.I .i64] [.P] (fun (t:ByteArray × ByteArray × Int)=>Wq t.1 t.2.1 t.2.2) (fun (t:ByteArray × ByteArray × Int)=>qu t.1 t.2.1 t.2.2),mkC Gi Gl [.S,.S,.I .i64] [.P] (fun (t:ByteArray × ByteArray × Int)=>VX t.1 t.2.1 t.2.2) (fun (t:ByteArray × ByteArray × Int)=>NK t.1 t.2.1 t.2.2)] [17,24,32,40] [.V] [(0,.S x0),(1,.S x1),(2,.I .i64 x2),(3,.I .i64 x3),(4,.V x4)] .o Go.Proofs.Tryz.func202 rfl rfl ⟨rfl,rfl,rfl,rfl,rfl,trivial⟩ rfl (by kernel_rfl) (by kernel_rfl)
noncomputable def KA2:CalleeS Go.Proofs.Tryz.prog:=mkC zj zu [.S,.S,.I .i64,.I .i64,.V] [.V] (fun (t:ByteArray × ByteArray × Int × Int × Value)=>VM t.1 t.2.1 t.2.2.1 t.2.2.2.1 t.2.2.2.2) (fun (t:ByteArray × ByteArray × Int × Int × Value)=>KA1 t.1 t.2.1 t.2.2.1 t.2.2.2.1 t.2.2.2.2)
def Uk (x0:ByteArray) (x1:Int) (x2:Int):M (Int × Value):=do
 let Xx3←UH x0 x1 x2
 let Xx6←isNI Xx3.2
 M.ite (!Xx6) (do
  let Xx8←VM (⟨#[80,97,114,115,101,73,110,116]⟩:ByteArray) x0 x1 x2 Xx3.2
  M.pure (Xx3.1,Xx8)
  ) (do
  M.pure (Xx3.1,Value.nilIface)
  )
theorem KAL (x0:ByteArray) (x1:Int) (x2:Int):Kn Go.Proofs.Tryz.prog 161 #[.string x0,.int .i64 x1,.int .i64 x2] (fun (r:Int × Value)=>.tuple #[.int .i64 r.1,r.2]) (Uk x0 x1 x2) :=
 KM [mkC Yy Y4 [.S,.I .i64,.I .i64] [.I .i64,.V] (fun (t:ByteArray × Int × Int)=>UH t.1 t.2.1 t.2.2) (fun (t:ByteArray × Int × Int)=>XS t.1 t.2.1 t.2.2),KA2] [] [.I .i64,.V] [(0,.S x0),(1,.I .i64 x1),(2,.I .i64 x2)] .o Go.Proofs.Tryz.func161 rfl rfl ⟨rfl,rfl,rfl,trivial⟩ rfl (by kernel_rfl) (by kernel_rfl)
noncomputable def KAM:CalleeS Go.Proofs.Tryz.prog:=mkC qk qq [.S,.I .i64,.I .i64] [.I .i64,.V] (fun (t:ByteArray × Int × Int)=>Uk t.1 t.2.1 t.2.2) (fun (t:ByteArray × Int × Int)=>KAL t.1 t.2.1 t.2.2)
def YU (C4:ByteArray) (Xx3:ByteArray):M (Int × Int):=do
 let Xx7←M.ite (sEq Xx3 ByteArray.empty) (do
  M.pure true
  ) (do
  let Xx8←s2b K9 Xx3
  let Xx9←ZI Xx8 (Value.func (.func KCz) #[] #[])
  M.pure Xx9
  )
 let Xx10←M.ite Xx7 (do
  M.pure true
  ) (do
  let Xx11←ixS Xx3 0
  let Xx12←M.ite (Xx11 == 48) (do
   M.pure (!(sEq C4 (⟨#[48]⟩:ByteArray)))
   ) (do
   M.pure false
   )
  M.pure Xx12
  )
 M.ite Xx10 (do
  M.pure (0,10)
  ) (do
  let Xx15←Uk C4 10 64
  let Xx17←isNI Xx15.2
  let Xx18←N2 Xx15.1 Xx17
  M.pure (Xx18.1,Xx18.2)
  )
def KCM (x0:ByteArray):M (Int × Int):=do
 let Xx20←M.ite (!(sEq x0 ByteArray.empty)) (do
  let Xx21←ixS x0 0
  M.pure (Xx21 == 45)
  ) (do
  M.pure false
  )
 M.ite Xx20 (do
  let Xx22←slS x0 1 x0.size
  YU x0 Xx22
  ) (do
  YU x0 x0
  )
theorem KCN (x0:ByteArray):Kn Go.Proofs.Tryz.prog 114 #[.string x0] (fun (r:Int × Int)=>.tuple #[.int .i64 r.1,.int .i64 r.2]) (KCM x0) :=
 KM [KH5,WT,KAM] [] [.I .i64,.I .i64] [(0,.S x0)] (.q .o (.q .o (.q .o (.j [(0,.S),(4,.S)] (fun (t:ByteArray × ByteArray)=>YU t.1 t.2) .o)))) Go.Proofs.Tryz.func114 rfl rfl ⟨rfl,trivial⟩ rfl (by kernel_rfl) (by kernel_rfl)
def Ww (C3:Value) (C4:Addr) (self1:(Int)→M (Unit)):(Int)→M (Unit):=fun s=>match s with
 | Xx2=>do
  let Xx8←ldS C4
  M.ite (!(sEq Xx8 ByteArray.empty)) (do
   let Xx11←ldS C4
   let Xx12←VL Xx11 (⟨#[10]⟩:ByteArray)
   let Xx15←VD Go.Proofs.Tryz.prog (fun r:Bool=>.bool r) C3 [.int .i64 Xx2,.string Xx12.1]
   M.ite (!Xx15) (do
    M.pure ()
    ) (do
    stV C4 (.string Xx12.2.1)
    self1 (IntKind.wrap .i64 (Xx2+1))
    )
   ) (do
   M.pure ()
   )
def qU (x0:Value) (x1:Addr):M (Unit):=do
 M.loop (Ww x0 x1) 1
theorem KBb (x0:Value) (x1:Addr):Kn Go.Proofs.Tryz.prog 119 #[x0,.pointer (some x1)] (fun (r:Unit)=>.tuple #[]) (qU x0 x1) :=
 KM [KAK] [] [] [(0,.V x0),(1,.A x1)] (.q .o (.b (.l [(0,.V),(1,.A)] [(3,.I .i64)] (fun (t:Value × Addr)=>Ww t.1 t.2) (fun _=>.o)))) Go.Proofs.Tryz.func119 rfl rfl ⟨rfl,rfl,trivial⟩ rfl (by kernel_rfl) (by kernel_rfl)
def UT (self1:(Int)→M (Unit)) (C18:Value) (C19:Addr) (C20:Addr) (C23:Int):M (Unit):=do
 let Xx24←ldG 4 C20
 let Xx25←VD Go.Proofs.Tryz.prog (fun r:ByteArray=>.string r) C18 [.agg Xx24]
 let Xx26←KP (some C19) Xx25
 self1 (IntKind.wrap .i64 (C23+1))
def Wx (C5:Value) (C6:Addr) (C7:Sl) (C8:Int) (self1:(Int)→M (Unit)):(Int)→M (Unit):=fun s=>match s with
 | Xx4=>do
  M.ite (decide (Xx4 < C8)) (do
   let Xx14←ixL C7 Xx4 4
   let Xx15←ldG 4 Xx14
   let Xx16←mkB KB (#[.int .i64 0,.int .i64 0,.string ByteArray.empty,.slice none 0 0]:Array Value)
   M.need (Xx15.size=4)
   stG Xx16 Xx15
   M.ite (decide (Xx4 > 0)) (do
    let Xx28←KP (some C6) (⟨#[32,124,32]⟩:ByteArray)
    UT self1 C5 C6 Xx16 Xx4
    ) (do
    UT self1 C5 C6 Xx16 Xx4
    )
   ) (do
   let Xx29←KY (some C6) 10
   M.pure ()
   )
def GD (x0:Value) (x1:Addr) (x2:Addr):M (Unit):=do
 let Xx3←ldL x1
 M.loop (Wx x0 x2 Xx3 (Xx3.len:Int)) 0
theorem NC (x0:Value) (x1:Addr) (x2:Addr):Kn Go.Proofs.Tryz.prog 122 #[x0,.pointer (some x1),.pointer (some x2)] (fun (r:Unit)=>.tuple #[]) (GD x0 x1 x2) :=
 KM [ZO,Js] [] [] [(0,.V x0),(1,.A x1),(2,.A x2)] (.q (.q .o (.b (.l [(0,.V),(2,.A),(6,.L),(7,.I .i64)] [(8,.I .i64)] (fun (t:Value × Addr × Sl × Int)=>Wx t.1 t.2.1 t.2.2.1 t.2.2.2) (fun self1=>.q .o (.q .o (.q (.b (.q .o (.q .o (.j [(0,.V),(2,.A),(5,.A),(6,.L),(7,.I .i64),(8,.I .i64)] (fun (t:Value × Addr × Addr × Sl × Int × Int)=>UT self1 t.1 t.2.1 t.2.2.1 t.2.2.2.2.2) .o)))) .o)))))) .o) Go.Proofs.Tryz.func122 rfl rfl ⟨rfl,rfl,rfl,trivial⟩ rfl (by kernel_rfl) (by kernel_rfl)
def qV (x0:Array Value) (x1:Addr):M (ByteArray):=do
 let Xx2←mkB KB x0
 let Xx5←ldG 4 x1
 let Xx6←ldG 4 Xx2
 let Xx7←No Xx5 Xx6
 let Xx8←mkB KB (#[.int .i64 0,.int .i64 0,.string ByteArray.empty,.slice none 0 0]:Array Value)
 M.need (Xx7.1.size=4)
 stG Xx8 Xx7.1
 M.ite Xx7.2 (do
  let Xx12←ldG 4 Xx8
  let Xx13←Wr Xx12
  M.pure Xx13
  ) (do
  M.pure (⟨#[45]⟩:ByteArray)
  )
theorem KBc (x0:Array Value) (x1:Addr):Kn Go.Proofs.Tryz.prog 123 #[.agg x0,.pointer (some x1)] (fun (r:ByteArray)=>.string r) (qV x0 x1) :=
 KM [Nh,KGS] [] [.S] [(0,.G x0),(1,.A x1)] .o Go.Proofs.Tryz.func123 rfl rfl ⟨rfl,rfl,trivial⟩ rfl (by kernel_rfl) (by kernel_rfl)
def KCO (x0:Array Value) (x1:Addr):M (Bool):=do
 let Xx2←mkB KB x0
 let Xx4←ldG 4 Xx2
 let Xx5←ldI .i64 x1
 let Xx6←Xa Xx4 (IntKind.wrap .i64 (Xx5+1))
 M.pure (!Xx6)
theorem KEU (x0:Array Value) (x1:Addr):Kn Go.Proofs.Tryz.prog 129 #[.agg x0,.pointer (some x1)] (fun (r:Bool)=>.bool r) (KCO x0 x1) :=
 KM [KCJ] [] [.B] [(0,.G x0),(1,.A x1)] .o Go.Proofs.Tryz.func129 rfl rfl ⟨rfl,rfl,trivial⟩ rfl (by kernel_rfl) (by kernel_rfl)
def Kp (x0:Option Addr):M (Value ⊕ (Unit)):=do
 let Xx1←nilP x0
 let Xx2←ldI .i64 ((Xx1).add 1)
 M.pure (.inl (Value.iface Z0 (.agg (#[.int .i64 Xx2]:Array Value))))
theorem ZC (x0:Option Addr):GJ Go.Proofs.Tryz.prog 132 #[.pointer x0] (fun (r:Unit)=>.tuple #[]) (Kp x0):=by
 refine YF [(0,.pointer x0)] Go.Proofs.Tryz.func132 rfl rfl (Nat.le_of_ble_eq_true rfl) (Vz ⟨rfl,trivial⟩) (fun w0 w Q R X a hret hthr hE hR H=>?_)
 unfold Kp at H
 refine KD ?_
 refine KE (v:=.pointer x0) rfl rfl hE rfl (KH hE rfl) (fun a hE=>?_)
 obtain ⟨Xx1,qXx1,H⟩:=H
 refine KE (v:=.pointer (some Xx1)) rfl rfl hE rfl (KO hE (Ja rfl (congrArg Value.pointer qXx1))) (fun a hE=>?_)
 refine KE (v:=.pointer (some ((Xx1).add 1))) rfl rfl hE rfl (KL hE rfl ZU) (fun a hE=>?_)
 obtain ⟨Xx2,qXx2,H⟩:=H
 refine KE (v:=.int .i64 Xx2) rfl rfl hE rfl (ZR hE rfl sc3 qXx2) (fun a hE=>?_)
 refine KE (v:=.agg (#[.int .i64 Xx2]:Array Value)) rfl rfl hE rfl (NW hE rfl KOT KPU (by rfl)) (fun a hE=>?_)
 refine KE (v:=(Value.iface Z0 (.agg (#[.int .i64 Xx2]:Array Value)))) rfl rfl hE rfl (KFC hE rfl KPT) (fun a hE=>?_)
 exact KMj hE rfl (hthr _ _ hR H)
def Kh (x0:Option Addr):M (Int):=do
 let Xx4←nilP x0
 let Xx5←nilP x0
 let Xx6←ldI .i64 ((Xx4).add 1)
 let Xx7←ldS ((Xx5).add 0)
 M.ite (decide (Xx6 < (Xx7.size:Int))) (do
  let Xx9←nilP x0
  let Xx10←nilP x0
  let Xx11←ldS ((Xx9).add 0)
  let Xx12←ldI .i64 ((Xx10).add 1)
  let Xx13←ixS Xx11 Xx12
  M.pure Xx13
  ) (do
  M.pure 0
  )
theorem Ku (x0:Option Addr):Kn Go.Proofs.Tryz.prog 170 #[.pointer x0] (fun (r:Int)=>.int .u8 r) (Kh x0) :=
 KM [] [0,3,7,13,17] [.I .u8] [(0,.P x0)] (.q .o (.q (.q (.r [0,1,2,4,0,16,32,64,128,264] [0,1,2,4,0,16,32,64,128,264] [0,1,3,7,0,16,48,112,240,511] (.pu 0 (.pu 1 (.pu 2 (.pu 4 (.pu 5 (.pu 6 (.pu 3 (.pu 7 (.pu 8 (.pu 9 (.st [9] .dn)))))))))))) (.q (.q (.r [0,1,2,4,0,16,32,64,136,511] [0,1,2,4,0,16,32,64,136,256] [0,1,3,7,0,16,48,112,255,511] (.pu 0 (.pu 1 (.pu 2 (.pu 4 (.pu 5 (.pu 6 (.pu 3 (.pu 7 (.pu 8 (.pu 9 (.st [8,9] .dn)))))))))))) .o) .o)) .o)) Go.Proofs.Tryz.func170 rfl rfl ⟨rfl,trivial⟩ rfl (by kernel_rfl) (by kernel_rfl)
def Wy (x0:Int):M (Bool):=do
 let Xx3←M.ite (decide (x0 ≥ 48)) (do
  M.pure (decide (x0≤57))
  ) (do
  M.pure false
  )
 M.pure Xx3
theorem Gz (x0:Int):Kn Go.Proofs.Tryz.prog 171 #[.int .u8 x0] (fun (r:Bool)=>.bool r) (Wy x0) :=
 KM [] [] [.B] [(0,.I .u8 x0)] .o Go.Proofs.Tryz.func171 rfl rfl ⟨rfl,trivial⟩ rfl (by kernel_rfl) (by kernel_rfl)
noncomputable def KJC:Array Oper:=KKd Go.Proofs.Tryz.f172 9
def KJD:List (List Nat):=[[],[0],[1],[2],[],[],[5],[6],[7],[8],[3,4,9],[10],[11],[12],[12],[13,11,0,1,2,3,4,5,6,7,8,9,10,11,12,13],[14,15,0,1,2,3,4,5,6,7,8,9,10,11,12,13,14,15]]
def KJE:List (List Nat):=[[],[0],[1],[2],[],[],[5],[6],[7],[8],[3,4,9],[10],[11],[12],[12],[13],[14]]
def KJF:List (List Nat):=[[],[0],[0,1],[0,1,2],[],[],[5],[5,6],[5,6,7],[5,6,7,8],[0,1,2,3,4,5,6,7,8,9],[0,1,2,3,4,5,6,7,8,9,10],[0,1,2,3,4,5,6,7,8,9,10,11],[0,1,2,3,4,5,6,7,8,9,10,11,12],[0,1,2,3,4,5,6,7,8,9,10,11,12],[0,1,2,3,4,5,6,7,8,9,10,11,12,13],[0,1,2,3,4,5,6,7,8,9,10,11,12,13,14,15]]
theorem KM6:KDy Go.Proofs.Tryz.f172 9 KJD KJE KJF=true:=by kernel_rfl
theorem KK3:KGB 17 KJD KJE KJF [0,1,2,4,0,0,32,64,128,256,536,1024,2048,4096,4096,16383,65535] [0,1,2,4,0,0,32,64,128,256,536,1024,2048,4096,4096,8192,16384] [0,1,3,7,0,0,32,96,224,480,1023,2047,4095,8191,8191,16383,65535]=true:=by kernel_rfl
def JG (self1:(Int)→M (Value ⊕ (Int))) (C29:Option Addr) (C31:Int) (C32:Int) (C33:Int):M (Value ⊕ (Int)):=do
 M.ite (C33 != 0) (do
  M.pure (.inr C31)
  ) (do
  let Xx38←nilP C29
  let Xx39←ldI .i64 ((Xx38).add 1)
  let Xx40←nilP C29
  stV ((Xx40).add 1) (.int .i64 (IntKind.wrap .i64 (Xx39+1)))
  self1 C32
  )
def Jx (C15:Option Addr) (C16:Int) (self1:(Int)→M (Value ⊕ (Int))):(Int)→M (Value ⊕ (Int)):=fun s=>match s with
 | Xx14=>do
  let Xx20←Kh C15
  let Xx21←Wy Xx20
  M.ite Xx21 (do
   let Xx23←nilP C15
   let Xx24←nilP C15
   let Xx25←ldS ((Xx23).add 0)
   let Xx26←ldI .i64 ((Xx24).add 1)
   let Xx27←slS Xx25 C16 (IntKind.wrap .i64 (Xx26+1))
   let Xx28←NQ Go.Proofs.Tryz.prog Xy #[.string Xx27] (fun r:Int × Int=>.tuple #[.int .i64 r.1,.int .i64 r.2])
   M.ite (Xx28.2 == 7) (do
    thr (Kp C15) fun Xx43=>do
     JG self1 C15 Xx14 Xx28.1 Xx28.2
    ) (do
    JG self1 C15 Xx14 Xx28.1 Xx28.2
    )
   ) (do
   M.pure (.inr Xx14)
   )
def Zk (C10:Option Addr) (C11:Int):M (Value ⊕ (Int)):=do
 M.loop (Jx C10 C11) 0
def Zl (C5:Option Addr) (C6:Int):M (Value ⊕ (Int)):=do
 let Xx8←nilP C5
 let Xx9←ldI .i64 ((Xx8).add 1)
 let Xx46←Kh C5
 let Xx47←Wy Xx46
 let Xx48←M.ite (!Xx47) (do
  M.pure true
  ) (do
  let Xx49←M.ite (decide (Xx9 > C6)) (do
   let Xx50←Kh C5
   M.pure (Xx50 == 48)
   ) (do
   M.pure false
   )
  M.pure Xx49
  )
 M.ite Xx48 (do
  thr (Kp C5) fun Xx51=>do
   Zk C5 C6
  ) (do
  Zk C5 C6
  )
def JK (x0:Option Addr):M (Value ⊕ (Int)):=do
 let Xx3←nilP x0
 let Xx4←ldI .i64 ((Xx3).add 1)
 let Xx53←Kh x0
 M.ite (Xx53 == 45) (do
  let Xx54←nilP x0
  let Xx55←ldI .i64 ((Xx54).add 1)
  let Xx56←nilP x0
  stV ((Xx56).add 1) (.int .i64 (IntKind.wrap .i64 (Xx55+1)))
  Zl x0 Xx4
  ) (do
  Zl x0 Xx4
  )
theorem YV (x0:Option Addr):GJ Go.Proofs.Tryz.prog 172 #[.pointer x0] (fun (r:Int)=>.int .i64 r) (JK x0):=by
 refine YF [(0,.pointer x0)] Go.Proofs.Tryz.func172 rfl rfl (Nat.le_of_ble_eq_true rfl) (Vz ⟨rfl,trivial⟩) (fun w0 w Q R X a hret hthr hE hR H=>?_)
 unfold JK at H
 refine KW (fun K hK_1=>?_)
 refine KD ?_
 refine KE (v:=.int .i64 0) rfl rfl hE rfl (KZ hE rfl) (fun a hE=>?_)
 refine KU ?_
 refine hK_1 _ _ ?_
 refine KW (fun K hK_2=>?_)
 refine KD ?_
 refine KE (v:=.pointer x0) rfl rfl hE rfl (KH hE rfl) (fun a hE=>?_)
 obtain ⟨Xx3,qXx3,H⟩:=H
 refine KE (v:=.pointer (some Xx3)) rfl rfl hE rfl (KO hE (Ja rfl (congrArg Value.pointer qXx3))) (fun a hE=>?_)
 refine KE (v:=.pointer (some ((Xx3).add 1))) rfl rfl hE rfl (KL hE rfl ZU) (fun a hE=>?_)
 obtain ⟨Xx4,qXx4,H⟩:=H
 refine KE (v:=.int .i64 Xx4) rfl rfl hE rfl (ZR hE rfl sc3 qXx4) (fun a hE=>?_)
 refine KE (v:=.int .i64 Xx4) rfl rfl hE rfl (KZ hE rfl) (fun a hE=>?_)
 refine KU ?_
 refine hK_2 _ _ ?_
 refine JW (fun a w=>Env (⟨76,[]⟩:Frm) a [(0,.pointer x0),(3,.int .i64 Xx4)]∧Rest w0 w∧(Zl x0 Xx4).wp w.heap Q) ?_ ?_
 ·rintro a w ⟨hE,hR,H⟩
  unfold Zl at H
  refine KW (fun K hK_7=>?_)
  refine KD ?_
  refine KE (v:=.pointer x0) rfl rfl hE rfl (KH hE rfl) (fun a hE=>?_)
  obtain ⟨Xx8,qXx8,H⟩:=H
  refine KE (v:=.pointer (some Xx8)) rfl rfl hE rfl (KO hE (Ja rfl (congrArg Value.pointer qXx8))) (fun a hE=>?_)
  refine KE (v:=.pointer (some ((Xx8).add 1))) rfl rfl hE rfl (KL hE rfl ZU) (fun a hE=>?_)
  obtain ⟨Xx9,qXx9,H⟩:=H
  refine KE (v:=.int .i64 Xx9) rfl rfl hE rfl (ZR hE rfl sc3 qXx9) (fun a hE=>?_)
  refine KE (v:=.int .i64 Xx4) rfl rfl hE rfl (KH hE rfl) (fun a hE=>?_)
  refine KE (v:=.bool (decide (Xx9 > Xx4))) rfl rfl hE rfl (ZL hE rfl rfl ZF KF8) (fun a hE=>?_)
  refine KE (v:=.bool (decide (Xx9 > Xx4))) rfl rfl hE rfl (KZ hE rfl) (fun a hE=>?_)
  refine KU ?_
  refine hK_7 _ _ ?_
  refine JW (fun a w=>Env (⟨76,[]⟩:Frm) a [(0,.pointer x0),(3,.int .i64 Xx4)]∧Rest w0 w∧(Zk x0 Xx4).wp w.heap Q) ?_ ?_
  ·rintro a w ⟨hE,hR,H⟩
   unfold Zk at H
   refine KW (fun K hK_12=>?_)
   refine KD ?_
   refine KE (v:=.int .i64 0) rfl rfl hE rfl (KZ hE rfl) (fun a hE=>?_)
   refine KU ?_
   refine hK_12 _ _ ?_
   refine KW (fun K hK_13=>?_)
   refine Ut ?_
   refine KBz (fun (s:Int)=>(⟨76,[]⟩:Frm)) (fun (s:Int)=>[(0,.pointer x0),(3,.int .i64 Xx4),(5,.int .i64 s)]) H (hE.cut (.cons rfl (.cons rfl (.cons rfl Subs.nil)))) hR (fun Y self1 hY_17 Xx14 a w hE hR H=>?_)
   replace hE:Env (⟨76,[]⟩:Frm) a [(0,.pointer x0),(3,.int .i64 Xx4),(5,.int .i64 Xx14)]:=hE
   replace H:(Jx x0 Xx4 self1 Xx14).wp w.heap Q:=H
   unfold Jx at H
   refine KW (fun K hK_18=>?_)
   refine KW (fun K hK_19=>?_)
   refine KD ?_
   refine KE (v:=.pointer x0) rfl rfl hE rfl (KH hE rfl) (fun a hE=>?_)
   refine J9 hE hR Ki rfl (Ku x0) (M.unbind H) (fun Xx20 a w ea hR H=>?_)
   have hE:=Env.put_some hE rfl ea; clear ea
   refine J9 hE hR X8 rfl (Gz Xx20) (M.unbind H) (fun Xx21 a w ea hR H=>?_)
   have hE:=Env.put_some hE rfl ea; clear ea
   refine KU ?_
   refine hK_19 _ _ ?_
   refine JE Xx21 hE rfl (fun hb=>?_) (fun hb=>?_)
   ·replace H:=M.ite_t hb H
    refine J7 ?_
    refine hK_18 _ _ ?_
    refine Ut ?_
    refine KW (fun K hK_22=>?_)
    obtain ⟨Xx23,qXx23,H⟩:=H
    obtain ⟨Xx24,qXx24,H⟩:=H
    obtain ⟨Xx25,qXx25,H⟩:=H
    obtain ⟨Xx26,qXx26,H⟩:=H
    obtain ⟨Xx27,qXx27,H⟩:=H
    refine NU (rops:=KJC) (by kernel_rfl) ?_
    have hT:Tab KJC _ _ _:=Xv KM6 rfl (by kernel_rfl)
    have hM:=TabM.of KK3
    refine Vi (m:=17) (fun w:World=>(fun h:Heap=>(KN h ((Xx23).add 0)=some (.string Xx25))∧(KN h ((Xx24).add 1)=some (.int .i64 Xx26))) w.heap) [10,11,12,13,14,15,16] (unb 17 0) mo hR (by kernel_rfl) (by kernel_rfl) (fun w' e=>by rw [e]; exact ⟨qXx25,qXx26⟩) (fun w hh hR hs=>?_)
    replace H:=M.at hh H; clear hh
    refine KC (i:=0) (v:=.pointer x0) (unb 17 1) rfl rfl hT (anyM hM (by kernel_rfl)) hE rfl (KA rfl) (fun w=>KH hE rfl) (fun a hE=>?_)
    refine KC (i:=1) (v:=.pointer (some Xx23)) (unb 17 3) rfl rfl hT (anyM hM (by kernel_rfl)) hE rfl (KA rfl) (fun w=>KO hE (Ja rfl (congrArg Value.pointer qXx23))) (fun a hE=>?_)
    refine KC (i:=2) (v:=.pointer (some ((Xx23).add 0))) (unb 17 7) rfl rfl hT (anyM hM (by kernel_rfl)) hE rfl (KA rfl) (fun w=>KL hE rfl Ym) (fun a hE=>?_)
    refine KC (i:=4) (v:=.int .i64 Xx4) (unb 17 23) rfl rfl hT (anyM hM (by kernel_rfl)) hE rfl (KA rfl) (fun w=>KH hE rfl) (fun a hE=>?_)
    refine KC (i:=5) (v:=.pointer x0) (unb 17 55) rfl rfl hT (anyM hM (by kernel_rfl)) hE rfl (KA rfl) (fun w=>KH hE rfl) (fun a hE=>?_)
    refine KC (i:=6) (v:=.pointer (some Xx24)) (unb 17 119) rfl rfl hT (anyM hM (by kernel_rfl)) hE rfl (KA rfl) (fun w=>KO hE (Ja rfl (congrArg Value.pointer qXx24))) (fun a hE=>?_)
    refine KC (i:=7) (v:=.pointer (some ((Xx24).add 1))) (unb 17 247) rfl rfl hT (anyM hM (by kernel_rfl)) hE rfl (KA rfl) (fun w=>KL hE rfl ZU) (fun a hE=>?_)
    refine UA (i:=3) (v:=.string Xx25) (unb 17 255) rfl rfl hT (YZ hM (by kernel_rfl)) hE rfl (KA rfl) hs (fun w s=>ZR hE rfl sc9 s.1) (fun a hE=>?_)
    refine UA (i:=8) (v:=.int .i64 Xx26) (unb 17 511) rfl rfl hT (YZ hM (by kernel_rfl)) hE rfl (KA rfl) hs (fun w s=>ZR hE rfl sc3 s.2) (fun a hE=>?_)
    refine KC (i:=9) (v:=.int .i64 (IntKind.wrap .i64 (Xx26+1))) (unb 17 1023) rfl rfl hT (anyM hM (by kernel_rfl)) hE rfl (KA rfl) (fun w=>ZL hE rfl rfl ZF NE) (fun a hE=>?_)
    refine KC (i:=10) (v:=.string Xx27) (unb 17 2047) rfl rfl hT (anyM hM (by kernel_rfl)) hE rfl (KA rfl) (fun w=>KB3 hE rfl rfl rfl un9 qXx27) (fun a hE=>?_)
    refine KMR (i:=11) (unb 17 4095) rfl rfl rfl hT (oneM hM (by kernel_rfl)) rfl hE hR (KA rfl) KBL rfl (U8) (M.unbind H) (fun Xx28 a w ea hR H=>?_)
    have hE:=Env.put_some hE rfl ea; clear ea
    refine KC (i:=12) (v:=.tuple #[.int .i64 Xx28.1,.int .i64 Xx28.2]) (unb 17 8191) rfl rfl hT (anyM hM (by kernel_rfl)) hE rfl (KA rfl) (fun w=>KH hE rfl) (fun a hE=>?_)
    refine KC (i:=13) (v:=.int .i64 Xx28.1) (unb 17 16383) rfl rfl hT (anyM hM (by kernel_rfl)) hE rfl (KA rfl) (fun w=>VA hE rfl rfl) (fun a hE=>?_)
    refine KC (i:=14) (v:=.int .i64 Xx28.2) (unb 17 32767) rfl rfl hT (anyM hM (by kernel_rfl)) hE rfl (KA rfl) (fun w=>VA hE rfl rfl) (fun a hE=>?_)
    refine KC (i:=15) (v:=.int .i64 Xx28.1) (unb 17 65535) rfl rfl hT (anyM hM (by kernel_rfl)) hE rfl (KA rfl) (fun w=>KZ hE rfl) (fun a hE=>?_)
    refine KC (i:=16) (v:=.int .i64 Xx28.2) (unb 17 131071) rfl rfl hT (anyM hM (by kernel_rfl)) hE rfl (KA rfl) (fun w=>KZ hE rfl) (fun a hE=>?_)
    refine XL hT (KBV hM (by kernel_rfl)) ?_
    refine hK_22 _ _ ?_
    refine JW (fun a w=>Env (⟨76,[]⟩:Frm) a [(0,.pointer x0),(3,.int .i64 Xx4),(5,.int .i64 Xx14),(6,.int .i64 Xx28.1),(7,.int .i64 Xx28.2)]∧Rest w0 w∧(JG self1 x0 Xx14 Xx28.1 Xx28.2).wp w.heap Q) ?_ ?_
    ·rintro a w ⟨hE,hR,H⟩
     unfold JG at H
     refine KW (fun K hK_34=>?_)
     refine KW (fun K hK_35=>?_)
     refine KD ?_
     refine KE (v:=.int .i64 Xx28.2) rfl rfl hE rfl (KH hE rfl) (fun a hE=>?_)
     refine KE (v:=.bool (Xx28.2 != 0)) rfl rfl hE rfl (ZL hE rfl rfl ZF KCv) (fun a hE=>?_)
     refine KU ?_
     refine hK_35 _ _ ?_
     refine JE (Xx28.2 != 0) hE rfl (fun hb=>?_) (fun hb=>?_)
     ·replace H:=M.ite_t hb H
      refine KW (fun K hK_36=>?_)
      refine KD ?_
      refine KE (v:=.int .i64 Xx14) rfl rfl hE rfl (KH hE rfl) (fun a hE=>?_)
      refine KE (v:=.int .i64 Xx14) rfl rfl hE rfl (KZ hE rfl) (fun a hE=>?_)
      refine KU ?_
      refine hK_36 _ _ ?_
      refine WZ ?_
      exact hret _ _ _ Xx14 _ hE hR (Z2 hE rfl (RV.tmp rfl RV.nil)) rfl H
     ·replace H:=M.ite_f hb H
      refine J7 ?_
      refine hK_34 _ _ ?_
      refine KW (fun K hK_37=>?_)
      refine KD ?_
      refine KE (v:=.int .i64 Xx28.1) rfl rfl hE rfl (KH hE rfl) (fun a hE=>?_)
      refine KE (v:=.int .i64 Xx28.1) rfl rfl hE rfl (KZ hE rfl) (fun a hE=>?_)
      refine KU ?_
      refine hK_37 _ _ ?_
      refine KD ?_
      refine KE (v:=.pointer x0) rfl rfl hE rfl (KH hE rfl) (fun a hE=>?_)
      obtain ⟨Xx38,qXx38,H⟩:=H
      refine KE (v:=.pointer (some Xx38)) rfl rfl hE rfl (KO hE (Ja rfl (congrArg Value.pointer qXx38))) (fun a hE=>?_)
      refine KE (v:=.pointer (some ((Xx38).add 1))) rfl rfl hE rfl (KL hE rfl ZU) (fun a hE=>?_)
      obtain ⟨Xx39,qXx39,H⟩:=H
      refine KE (v:=.int .i64 Xx39) rfl rfl hE rfl (ZR hE rfl sc3 qXx39) (fun a hE=>?_)
      refine KE (v:=.int .i64 (IntKind.wrap .i64 (Xx39+1))) rfl rfl hE rfl (ZL hE rfl rfl ZF NE) (fun a hE=>?_)
      obtain ⟨Xx40,qXx40,H⟩:=H
      refine KE (v:=.pointer (some Xx40)) rfl rfl hE rfl (KO hE (Ja rfl (congrArg Value.pointer qXx40))) (fun a hE=>?_)
      refine KE (v:=.pointer (some ((Xx40).add 1))) rfl rfl hE rfl (KL hE rfl ZU) (fun a hE=>?_)
      obtain ⟨u_41,qu_41,H⟩:=H
      refine UF rfl rfl hE hR (ZT hE rfl rfl sz3 qu_41) (fun a w hE hR hh=>?_)
      replace H:=M.at hh H; clear hh
      refine KU ?_
      exact hY_17 Xx28.1 _ _ (hE.cut (.cons rfl (.cons rfl (.cons rfl Subs.nil)))) hR H
    ·skip
     refine KW (fun K hK_42=>?_)
     refine KD ?_
     refine KE (v:=.int .i64 Xx28.2) rfl rfl hE rfl (KH hE rfl) (fun a hE=>?_)
     refine KE (v:=.bool (Xx28.2 == 7)) rfl rfl hE rfl (ZL hE rfl rfl ZF Gd) (fun a hE=>?_)
     refine KU ?_
     refine hK_42 _ _ ?_
     refine JE (Xx28.2 == 7) hE rfl (fun hb=>?_) (fun hb=>?_)
     ·replace H:=M.ite_t hb H
      refine KD ?_
      refine KE (v:=.pointer x0) rfl rfl hE rfl (KH hE rfl) (fun a hE=>?_)
      refine JH hE hR Kz rfl (ZC x0) H (fun _ _ hR HQ=>Xu.ne rfl (Xu.ne rfl (hthr _ _ hR HQ))) (fun Xx43 a w ea hR H=>?_)
      have hE:=Env.put_some hE rfl ea; clear ea
      refine KU ?_
      exact ⟨hE.cut (.cons rfl (.cons rfl (.cons rfl (.cons rfl (.cons rfl Subs.nil))))),hR,H⟩
     ·replace H:=M.ite_f hb H
      refine J7 ?_
      exact ⟨hE.cut (.cons rfl (.cons rfl (.cons rfl (.cons rfl (.cons rfl Subs.nil))))),hR,H⟩
   ·replace H:=M.ite_f hb H
    refine KBt ?_
    refine Xu.same ?_
    refine hK_13 _ _ ?_
    refine KW (fun K hK_44=>?_)
    refine KD ?_
    refine KE (v:=.int .i64 Xx14) rfl rfl hE rfl (KH hE rfl) (fun a hE=>?_)
    refine KE (v:=.int .i64 Xx14) rfl rfl hE rfl (KZ hE rfl) (fun a hE=>?_)
    refine KU ?_
    refine hK_44 _ _ ?_
    refine WZ ?_
    exact hret _ _ _ Xx14 _ hE hR (Z2 hE rfl (RV.tmp rfl RV.nil)) rfl H
  ·skip
   refine KW (fun K hK_45=>?_)
   refine KD ?_
   refine KE (v:=.pointer x0) rfl rfl hE rfl (KH hE rfl) (fun a hE=>?_)
   refine J9 hE hR Ki rfl (Ku x0) (M.unbind H) (fun Xx46 a w ea hR H=>?_)
   have hE:=Env.put_some hE rfl ea; clear ea
   refine J9 hE hR X8 rfl (Gz Xx46) (M.unbind H) (fun Xx47 a w ea hR H=>?_)
   have hE:=Env.put_some hE rfl ea; clear ea
   refine KE (v:=.bool (!Xx47)) rfl rfl hE rfl (r_un hE rfl KIa) (fun a hE=>?_)
   refine KE (v:=.bool (!Xx47)) rfl rfl hE rfl (KH hE rfl) (fun a hE=>?_)
   refine KE5 (n:=(⟨76,[]⟩:Frm)) (w0:=w0) 7 (fun Xx48:Bool=>[(0,.pointer x0),(3,.int .i64 Xx4),(39,.bool Xx48)]) (M.unbind H) (fun Kr hKr H=>?_) ?_
   ·rcases VT (!Xx47) with hb | hb
    ·replace H:=M.ite_t hb H
     have hE:=hE.reb 32 (!Xx47) true hb rfl
     refine NF rfl hE rfl rfl rfl (fun a ea=>?_)
     have hE:=Env.put_some hE rfl ea; clear ea
     refine NF rfl hE rfl rfl rfl (fun a ea=>?_)
     have hE:=Env.put_some hE rfl ea; clear ea
     refine KGw rfl hE rfl rfl (fun b hb=>by cases hb) (fun a ea=>?_)
     have hE:=Env.put_some hE rfl ea; clear ea
     refine KGw rfl hE rfl rfl (fun b hb=>by cases hb) (fun a ea=>?_)
     have hE:=Env.put_some hE rfl ea; clear ea
     refine KGw rfl hE rfl rfl (fun b hb=>by cases hb) (fun a ea=>?_)
     have hE:=Env.put_some hE rfl ea; clear ea
     refine NF rfl hE rfl rfl rfl (fun a ea=>?_)
     have hE:=Env.put_some hE rfl ea; clear ea
     refine KE rfl rfl hE rfl (J8 hE rfl rfl) (fun a hE=>?_)
     refine KU ?_
     exact hKr _ _ _ (hE.cut (.cons rfl (.cons rfl (.cons rfl Subs.nil)))) hR H
    ·replace H:=M.ite_f hb H
     have hE:=hE.reb 32 (!Xx47) false hb rfl
     refine t_on rfl hE rfl rfl rfl ?_
     refine KE (v:=.bool (decide (Xx9 > Xx4))) rfl rfl hE rfl (KH hE rfl) (fun a hE=>?_)
     refine t_on rfl hE rfl rfl rfl ?_
     refine KE (v:=.bool (decide (Xx9 > Xx4))) rfl rfl hE rfl (KH hE rfl) (fun a hE=>?_)
     refine KE5 (n:=(⟨76,[]⟩:Frm)) (w0:=w0) 4 (fun Xx49:Bool=>[(0,.pointer x0),(3,.int .i64 Xx4),(32,.bool false),(38,.bool Xx49)]) (M.unbind H) (fun Kr hKr H=>?_) ?_
     ·rcases VT (decide (Xx9 > Xx4)) with hb | hb
      ·replace H:=M.ite_t hb H
       have hE:=hE.reb 34 (decide (Xx9 > Xx4)) true hb rfl
       refine t_on rfl hE rfl rfl rfl ?_
       refine KE (v:=.pointer x0) rfl rfl hE rfl (KH hE rfl) (fun a hE=>?_)
       refine t_on rfl hE rfl rfl rfl ?_
       refine J9 hE hR Ki rfl (Ku x0) (M.unbind H) (fun Xx50 a w ea hR H=>?_)
       have hE:=Env.put_some hE rfl ea; clear ea
       refine t_on rfl hE rfl rfl rfl ?_
       refine KE (v:=.bool (Xx50 == 48)) rfl rfl hE rfl (ZL hE rfl rfl ZF Gd) (fun a hE=>?_)
       refine t_on rfl hE rfl rfl rfl ?_
       refine KE rfl rfl hE rfl (J8 hE rfl rfl) (fun a hE=>?_)
       refine KU ?_
       exact hKr _ _ _ (hE.cut (.cons rfl (.cons rfl (.cons rfl (.cons rfl Subs.nil))))) hR H
      ·replace H:=M.ite_f hb H
       have hE:=hE.reb 34 (decide (Xx9 > Xx4)) false hb rfl
       refine NF rfl hE rfl rfl rfl (fun a ea=>?_)
       have hE:=Env.put_some hE rfl ea; clear ea
       refine NF rfl hE rfl rfl rfl (fun a ea=>?_)
       have hE:=Env.put_some hE rfl ea; clear ea
       refine NF rfl hE rfl rfl rfl (fun a ea=>?_)
       have hE:=Env.put_some hE rfl ea; clear ea
       refine t_on rfl hE rfl rfl rfl ?_
       refine KE rfl rfl hE rfl (JP hE rfl rfl) (fun a hE=>?_)
       refine KU ?_
       exact hKr _ _ _ (hE.cut (.cons rfl (.cons rfl (.cons rfl (.cons rfl Subs.nil))))) hR H
     ·intro Xx49 a w hE hR H
      refine KE rfl rfl hE rfl (JP hE rfl rfl) (fun a hE=>?_)
      refine KU ?_
      exact hKr _ _ _ (hE.cut (.cons rfl (.cons rfl (.cons rfl Subs.nil)))) hR H
   ·intro Xx48 a w hE hR H
    refine KU ?_
    refine hK_45 _ _ ?_
    refine JE Xx48 hE rfl (fun hb=>?_) (fun hb=>?_)
    ·replace H:=M.ite_t hb H
     refine KD ?_
     refine KE (v:=.pointer x0) rfl rfl hE rfl (KH hE rfl) (fun a hE=>?_)
     refine JH hE hR Kz rfl (ZC x0) H (fun _ _ hR HQ=>hthr _ _ hR HQ) (fun Xx51 a w ea hR H=>?_)
     have hE:=Env.put_some hE rfl ea; clear ea
     refine KU ?_
     exact ⟨hE.cut (.cons rfl (.cons rfl Subs.nil)),hR,H⟩
    ·replace H:=M.ite_f hb H
     refine J7 ?_
     exact ⟨hE.cut (.cons rfl (.cons rfl Subs.nil)),hR,H⟩
 ·skip
  refine KW (fun K hK_52=>?_)
  refine KD ?_
  refine KE (v:=.pointer x0) rfl rfl hE rfl (KH hE rfl) (fun a hE=>?_)
  refine J9 hE hR Ki rfl (Ku x0) (M.unbind H) (fun Xx53 a w ea hR H=>?_)
  have hE:=Env.put_some hE rfl ea; clear ea
  refine KE (v:=.bool (Xx53 == 45)) rfl rfl hE rfl (ZL hE rfl rfl ZF Gd) (fun a hE=>?_)
  refine KU ?_
  refine hK_52 _ _ ?_
  refine JE (Xx53 == 45) hE rfl (fun hb=>?_) (fun hb=>?_)
  ·replace H:=M.ite_t hb H
   refine KD ?_
   refine KE (v:=.pointer x0) rfl rfl hE rfl (KH hE rfl) (fun a hE=>?_)
   obtain ⟨Xx54,qXx54,H⟩:=H
   refine KE (v:=.pointer (some Xx54)) rfl rfl hE rfl (KO hE (Ja rfl (congrArg Value.pointer qXx54))) (fun a hE=>?_)
   refine KE (v:=.pointer (some ((Xx54).add 1))) rfl rfl hE rfl (KL hE rfl ZU) (fun a hE=>?_)
   obtain ⟨Xx55,qXx55,H⟩:=H
   refine KE (v:=.int .i64 Xx55) rfl rfl hE rfl (ZR hE rfl sc3 qXx55) (fun a hE=>?_)
   refine KE (v:=.int .i64 (IntKind.wrap .i64 (Xx55+1))) rfl rfl hE rfl (ZL hE rfl rfl ZF NE) (fun a hE=>?_)
   obtain ⟨Xx56,qXx56,H⟩:=H
   refine KE (v:=.pointer (some Xx56)) rfl rfl hE rfl (KO hE (Ja rfl (congrArg Value.pointer qXx56))) (fun a hE=>?_)
   refine KE (v:=.pointer (some ((Xx56).add 1))) rfl rfl hE rfl (KL hE rfl ZU) (fun a hE=>?_)
   obtain ⟨u_57,qu_57,H⟩:=H
   refine UF rfl rfl hE hR (ZT hE rfl rfl sz3 qu_57) (fun a w hE hR hh=>?_)
   replace H:=M.at hh H; clear hh
   refine KU ?_
   exact ⟨hE.cut (.cons rfl (.cons rfl Subs.nil)),hR,H⟩
  ·replace H:=M.ite_f hb H
   refine J7 ?_
   exact ⟨hE.cut (.cons rfl (.cons rfl Subs.nil)),hR,H⟩
end Gx
namespace Gx
open Go
set_option linter.unusedVariables false
set_option maxRecDepth 100000
def Jh (self1:(Int)→M (Value ⊕ (Unit))) (C11:Option Addr) (C14:Int):M (Value ⊕ (Unit)):=do
 let Xx15←nilP C11
 let Xx16←ldI .i64 ((Xx15).add 1)
 let Xx17←nilP C11
 stV ((Xx17).add 1) (.int .i64 (IntKind.wrap .i64 (Xx16+1)))
 self1 (IntKind.wrap .i64 (C14+1))
def Zd (self1:(Int)→M (Value ⊕ (Unit))) (C20:Option Addr) (C23:Int) (Xx19:Bool):M (Value ⊕ (Unit)):=do
 M.ite Xx19 (do
  thr (Kp C20) fun Xx24=>do
   Jh self1 C20 C23
  ) (do
  Jh self1 C20 C23
  )
noncomputable def KEV:Array Oper:=KKd Go.Proofs.Tryz.f174 3
def KJG:List (List Nat):=[[],[0],[1],[2],[],[4],[5],[6],[7],[3,8],[9],[10],[11,10],[12,10],[13,10],[10],[15,10],[16,10],[17,10],[14,18,10],[10],[10],[20,21,10],[19,22,10],[10,23]]
def KJH:List (List Nat):=[[],[0],[1],[2],[],[4],[5],[6],[7],[3,8],[9],[10],[10,11],[10,12],[10,13],[10],[10,15],[10,16],[10,17],[10,14,18],[10],[10],[10,20,21],[10,19,22],[10,23]]
def KJI:List (List Nat):=[[],[0],[0,1],[0,1,2],[],[4],[4,5],[4,5,6],[4,5,6,7],[0,1,2,3,4,5,6,7,8],[0,1,2,3,4,5,6,7,8,9],[0,1,2,3,4,5,6,7,8,9,10],[0,1,2,3,4,5,6,7,8,9,10,11],[0,1,2,3,4,5,6,7,8,9,10,11,12],[0,1,2,3,4,5,6,7,8,9,10,11,12,13],[0,1,2,3,4,5,6,7,8,9,10],[0,1,2,3,4,5,6,7,8,9,10,15],[0,1,2,3,4,5,6,7,8,9,10,15,16],[0,1,2,3,4,5,6,7,8,9,10,15,16,17],[0,1,2,3,4,5,6,7,8,9,10,11,12,13,14,15,16,17,18],[0,1,2,3,4,5,6,7,8,9,10],[0,1,2,3,4,5,6,7,8,9,10],[0,1,2,3,4,5,6,7,8,9,10,20,21],[0,1,2,3,4,5,6,7,8,9,10,11,12,13,14,15,16,17,18,19,20,21,22],[0,1,2,3,4,5,6,7,8,9,10,11,12,13,14,15,16,17,18,19,20,21,22,23]]
theorem KJJ:KDy Go.Proofs.Tryz.f174 3 KJG KJH KJI=true:=by kernel_rfl
theorem KHD:KGB 25 KJG KJH KJI [0,1,2,4,0,16,32,64,128,264,512,1024,3072,5120,9216,1024,33792,66560,132096,279552,1024,1024,3146752,4719616,8389632] [0,1,2,4,0,16,32,64,128,264,512,1024,3072,5120,9216,1024,33792,66560,132096,279552,1024,1024,3146752,4719616,8389632] [0,1,3,7,0,16,48,112,240,511,1023,2047,4095,8191,16383,2047,34815,100351,231423,524287,2047,2047,3147775,8388607,16777215]=true:=by kernel_rfl
def UK (C3:Option Addr) (C4:ByteArray) (C5:Int) (self1:(Int)→M (Value ⊕ (Unit))):(Int)→M (Value ⊕ (Unit)):=fun s=>match s with
 | Xx2=>do
  M.ite (decide (Xx2 < C5)) (do
   let Xx25←nilP C3
   let Xx26←nilP C3
   let Xx27←ldI .i64 ((Xx25).add 1)
   let Xx28←ldS ((Xx26).add 0)
   M.ite (decide (Xx27 ≥ (Xx28.size:Int))) (do
    Zd self1 C3 Xx2 true
    ) (do
    let Xx30←nilP C3
    let Xx31←nilP C3
    let Xx32←ixS C4 Xx2
    let Xx33←ldS ((Xx30).add 0)
    let Xx34←ldI .i64 ((Xx31).add 1)
    let Xx35←ixS Xx33 Xx34
    Zd self1 C3 Xx2 (Xx35 != Xx32)
    )
   ) (do
   M.pure (.inr ())
   )
def ZB (x0:Option Addr) (x1:ByteArray):M (Value ⊕ (Unit)):=do
 M.loop (UK x0 x1 (x1.size:Int)) 0
theorem ZZ (x0:Option Addr) (x1:ByteArray):GJ Go.Proofs.Tryz.prog 174 #[.pointer x0,.string x1] (fun (r:Unit)=>.tuple #[]) (ZB x0 x1):=by
 refine YF [(0,.pointer x0),(1,.string x1)] Go.Proofs.Tryz.func174 rfl rfl (Nat.le_of_ble_eq_true rfl) (Vz ⟨rfl,rfl,trivial⟩) (fun w0 w Q R X a hret hthr hE hR H=>?_)
 unfold ZB at H
 refine KW (fun K hK_1=>?_)
 refine KD ?_
 refine KE (v:=.string x1) rfl rfl hE rfl (KH hE rfl) (fun a hE=>?_)
 refine KE (v:=.int .i64 (x1.size:Int)) rfl rfl hE rfl (GK hE rfl un9) (fun a hE=>?_)
 refine KE (v:=.int .i64 0) rfl rfl hE rfl (KH hE rfl) (fun a hE=>?_)
 refine KU ?_
 refine hK_1 _ _ ?_
 refine Ut ?_
 refine KBz (fun (s:Int)=>(⟨45,[]⟩:Frm)) (fun (s:Int)=>[(0,.pointer x0),(1,.string x1),(6,.int .i64 (x1.size:Int)),(7,.int .i64 s)]) H (hE.cut (.cons rfl (.cons rfl (.cons rfl (.cons rfl Subs.nil))))) hR (fun Y self1 hY_6 Xx2 a w hE hR H=>?_)
 replace hE:Env (⟨45,[]⟩:Frm) a [(0,.pointer x0),(1,.string x1),(6,.int .i64 (x1.size:Int)),(7,.int .i64 Xx2)]:=hE
 replace H:(UK x0 x1 (x1.size:Int) self1 Xx2).wp w.heap Q:=H
 unfold UK at H
 refine KW (fun K hK_7=>?_)
 refine KD ?_
 refine KE (v:=.bool (decide (Xx2 < (x1.size:Int)))) rfl rfl hE rfl (ZL hE rfl rfl ZF zP) (fun a hE=>?_)
 refine KU ?_
 refine hK_7 _ _ ?_
 refine KW (fun K hK_8=>?_)
 refine JE (decide (Xx2 < (x1.size:Int))) hE rfl (fun hb=>?_) (fun hb=>?_)
 ·replace H:=M.ite_t hb H
  refine J7 ?_
  refine hK_8 _ _ ?_
  refine KW (fun K hK_9=>?_)
  refine Ut ?_
  refine KW (fun K hK_10=>?_)
  refine KD ?_
  refine KE (v:=.int .i64 Xx2) rfl rfl hE rfl (KH hE rfl) (fun a hE=>?_)
  refine KE (v:=.int .i64 Xx2) rfl rfl hE rfl (KZ hE rfl) (fun a hE=>?_)
  refine KU ?_
  refine hK_10 _ _ ?_
  refine JW (fun a w=>Env (⟨45,[]⟩:Frm) a [(0,.pointer x0),(1,.string x1),(6,.int .i64 (x1.size:Int)),(7,.int .i64 Xx2)]∧Rest w0 w∧(Jh self1 x0 Xx2).wp w.heap Q) ?_ ?_
  ·rintro a w ⟨hE,hR,H⟩
   unfold Jh at H
   refine KD ?_
   refine KE (v:=.pointer x0) rfl rfl hE rfl (KH hE rfl) (fun a hE=>?_)
   obtain ⟨Xx15,qXx15,H⟩:=H
   refine KE (v:=.pointer (some Xx15)) rfl rfl hE rfl (KO hE (Ja rfl (congrArg Value.pointer qXx15))) (fun a hE=>?_)
   refine KE (v:=.pointer (some ((Xx15).add 1))) rfl rfl hE rfl (KL hE rfl ZU) (fun a hE=>?_)
   obtain ⟨Xx16,qXx16,H⟩:=H
   refine KE (v:=.int .i64 Xx16) rfl rfl hE rfl (ZR hE rfl sc3 qXx16) (fun a hE=>?_)
   refine KE (v:=.int .i64 (IntKind.wrap .i64 (Xx16+1))) rfl rfl hE rfl (ZL hE rfl rfl ZF NE) (fun a hE=>?_)
   obtain ⟨Xx17,qXx17,H⟩:=H
   refine KE (v:=.pointer (some Xx17)) rfl rfl hE rfl (KO hE (Ja rfl (congrArg Value.pointer qXx17))) (fun a hE=>?_)
   refine KE (v:=.pointer (some ((Xx17).add 1))) rfl rfl hE rfl (KL hE rfl ZU) (fun a hE=>?_)
   obtain ⟨u_18,qu_18,H⟩:=H
   refine UF rfl rfl hE hR (ZT hE rfl rfl sz3 qu_18) (fun a w hE hR hh=>?_)
   replace H:=M.at hh H; clear hh
   refine KU ?_
   refine hK_9 _ _ ?_
   refine KD ?_
   refine KE (v:=.int .i64 (IntKind.wrap .i64 (Xx2+1))) rfl rfl hE rfl (ZL hE rfl rfl ZF NE) (fun a hE=>?_)
   refine KE (v:=.int .i64 (IntKind.wrap .i64 (Xx2+1))) rfl rfl hE rfl (KH hE rfl) (fun a hE=>?_)
   refine KU ?_
   exact hY_6 (IntKind.wrap .i64 (Xx2+1)) _ _ (hE.cut (.cons rfl (.cons rfl (.cons rfl (.cons rfl Subs.nil))))) hR H
  ·skip
   refine JW (fun a w=>∃ (Xx19:Bool),Env (⟨45,[]⟩:Frm) a [(0,.pointer x0),(1,.string x1),(6,.int .i64 (x1.size:Int)),(7,.int .i64 Xx2),(34,.bool Xx19)]∧Rest w0 w∧(Zd self1 x0 Xx2 Xx19).wp w.heap Q) ?_ ?_
   ·rintro a w ⟨Xx19,hE,hR,H⟩
    unfold Zd at H
    refine JE Xx19 hE rfl (fun hb=>?_) (fun hb=>?_)
    ·replace H:=M.ite_t hb H
     refine KD ?_
     refine KE (v:=.pointer x0) rfl rfl hE rfl (KH hE rfl) (fun a hE=>?_)
     refine JH hE hR Kz rfl (ZC x0) H (fun _ _ hR HQ=>Xu.ne rfl (Xu.ne rfl (hthr _ _ hR HQ))) (fun Xx24 a w ea hR H=>?_)
     have hE:=Env.put_some hE rfl ea; clear ea
     refine KU ?_
     exact ⟨hE.cut (.cons rfl (.cons rfl (.cons rfl (.cons rfl Subs.nil)))),hR,H⟩
    ·replace H:=M.ite_f hb H
     refine J7 ?_
     exact ⟨hE.cut (.cons rfl (.cons rfl (.cons rfl (.cons rfl Subs.nil)))),hR,H⟩
   ·skip
    obtain ⟨Xx25,qXx25,H⟩:=H
    obtain ⟨Xx26,qXx26,H⟩:=H
    obtain ⟨Xx27,qXx27,H⟩:=H
    obtain ⟨Xx28,qXx28,H⟩:=H
    rcases VT (decide (Xx27 ≥ (Xx28.size:Int))) with hb_29 | hb_29
    ·replace H:=M.ite_t hb_29 H
     refine NU (rops:=KEV) (by kernel_rfl) ?_
     have hT:Tab KEV _ _ _:=Xv KJJ rfl (by kernel_rfl)
     have hM:=TabM.of KHD
     refine Vi (m:=25) (fun w:World=>(fun h:Heap=>(KN h ((Xx25).add 1)=some (.int .i64 Xx27))∧(KN h ((Xx26).add 0)=some (.string Xx28))) w.heap) [9,10,11,12,13,14,15,16,17,18,19,20,21,22,23,24] (unb 25 0) mo hR (by kernel_rfl) (by kernel_rfl) (fun w' e=>by rw [e]; exact ⟨qXx27,qXx28⟩) (fun w hh hR hs=>?_)
     replace H:=M.at hh H; clear hh
     refine KC (i:=0) (v:=.pointer x0) (unb 25 1) rfl rfl hT (anyM hM (by kernel_rfl)) hE rfl (KA rfl) (fun w=>KH hE rfl) (fun a hE=>?_)
     refine KC (i:=1) (v:=.pointer (some Xx25)) (unb 25 3) rfl rfl hT (anyM hM (by kernel_rfl)) hE rfl (KA rfl) (fun w=>KO hE (Ja rfl (congrArg Value.pointer qXx25))) (fun a hE=>?_)
     refine KC (i:=2) (v:=.pointer (some ((Xx25).add 1))) (unb 25 7) rfl rfl hT (anyM hM (by kernel_rfl)) hE rfl (KA rfl) (fun w=>KL hE rfl ZU) (fun a hE=>?_)
     refine KC (i:=4) (v:=.pointer x0) (unb 25 23) rfl rfl hT (anyM hM (by kernel_rfl)) hE rfl (KA rfl) (fun w=>KH hE rfl) (fun a hE=>?_)
     refine KC (i:=5) (v:=.pointer (some Xx26)) (unb 25 55) rfl rfl hT (anyM hM (by kernel_rfl)) hE rfl (KA rfl) (fun w=>KO hE (Ja rfl (congrArg Value.pointer qXx26))) (fun a hE=>?_)
     refine KC (i:=6) (v:=.pointer (some ((Xx26).add 0))) (unb 25 119) rfl rfl hT (anyM hM (by kernel_rfl)) hE rfl (KA rfl) (fun w=>KL hE rfl Ym) (fun a hE=>?_)
     refine UA (i:=3) (v:=.int .i64 Xx27) (unb 25 127) rfl rfl hT (YZ hM (by kernel_rfl)) hE rfl (KA rfl) hs (fun w s=>ZR hE rfl sc3 s.1) (fun a hE=>?_)
     refine UA (i:=7) (v:=.string Xx28) (unb 25 255) rfl rfl hT (YZ hM (by kernel_rfl)) hE rfl (KA rfl) hs (fun w s=>ZR hE rfl sc9 s.2) (fun a hE=>?_)
     refine KC (i:=8) (v:=.int .i64 (Xx28.size:Int)) (unb 25 511) rfl rfl hT (anyM hM (by kernel_rfl)) hE rfl (KA rfl) (fun w=>GK hE rfl un9) (fun a hE=>?_)
     refine KC (i:=9) (v:=.bool (decide (Xx27 ≥ (Xx28.size:Int)))) (unb 25 1023) rfl rfl hT (anyM hM (by kernel_rfl)) hE rfl (KA rfl) (fun w=>ZL hE rfl rfl ZF KBx) (fun a hE=>?_)
     refine KC (i:=10) (v:=.bool (decide (Xx27 ≥ (Xx28.size:Int)))) (unb 25 2047) rfl rfl hT (anyM hM (by kernel_rfl)) hE rfl (KA rfl) (fun w=>KH hE rfl) (fun a hE=>?_)
     have hE:=hE.reb 20 (decide (Xx27 ≥ (Xx28.size:Int))) true hb_29 rfl
     replace hE:=hE.cut (l':=[(0,.pointer x0),(1,.string x1),(6,.int .i64 (x1.size:Int)),(7,.int .i64 Xx2),(4,.int .i64 Xx2),(20,.bool true)]) (.cons rfl (.cons rfl (.cons rfl (.cons rfl (.cons rfl (.cons rfl Subs.nil))))))
     refine zV [(11,some 21),(12,some 22),(13,some 23),(14,some 24),(15,some 25),(16,some 26),(17,some 27),(18,some 28),(19,some 29),(20,some 30),(21,some 31),(22,some 32),(23,some 33)] 1 hT hM hE (by kernel_rfl) (m':=16777215) (by kernel_rfl) (fun a hE=>?_)
     refine KC (i:=24) (v:=.bool true) (unb 25 33554431) rfl rfl hT (anyM hM (by kernel_rfl)) hE rfl (KA rfl) (fun w=>J8 hE rfl rfl) (fun a hE=>?_)
     refine XL hT (KBV hM (by kernel_rfl)) ?_
     exact ⟨true,hE.cut (.cons rfl (.cons rfl (.cons rfl (.cons rfl (.cons rfl Subs.nil))))),hR,H⟩
    ·replace H:=M.ite_f hb_29 H
     obtain ⟨Xx30,qXx30,H⟩:=H
     obtain ⟨Xx31,qXx31,H⟩:=H
     obtain ⟨Xx32,qXx32,H⟩:=H
     obtain ⟨Xx33,qXx33,H⟩:=H
     obtain ⟨Xx34,qXx34,H⟩:=H
     obtain ⟨Xx35,qXx35,H⟩:=H
     refine NU (rops:=KEV) (by kernel_rfl) ?_
     have hT:Tab KEV _ _ _:=Xv KJJ rfl (by kernel_rfl)
     have hM:=TabM.of KHD
     refine Vi (m:=25) (fun w:World=>(fun h:Heap=>(KN h ((Xx25).add 1)=some (.int .i64 Xx27))∧(KN h ((Xx26).add 0)=some (.string Xx28))∧(KN h ((Xx30).add 0)=some (.string Xx33))∧(KN h ((Xx31).add 1)=some (.int .i64 Xx34))) w.heap) [19,23,24] (unb 25 0) mo hR (by kernel_rfl) (by kernel_rfl) (fun w' e=>by rw [e]; exact ⟨qXx27,qXx28,qXx33,qXx34⟩) (fun w hh hR hs=>?_)
     replace H:=M.at hh H; clear hh
     refine KC (i:=0) (v:=.pointer x0) (unb 25 1) rfl rfl hT (anyM hM (by kernel_rfl)) hE rfl (KA rfl) (fun w=>KH hE rfl) (fun a hE=>?_)
     refine KC (i:=1) (v:=.pointer (some Xx25)) (unb 25 3) rfl rfl hT (anyM hM (by kernel_rfl)) hE rfl (KA rfl) (fun w=>KO hE (Ja rfl (congrArg Value.pointer qXx25))) (fun a hE=>?_)
     refine KC (i:=2) (v:=.pointer (some ((Xx25).add 1))) (unb 25 7) rfl rfl hT (anyM hM (by kernel_rfl)) hE rfl (KA rfl) (fun w=>KL hE rfl ZU) (fun a hE=>?_)
     refine KC (i:=4) (v:=.pointer x0) (unb 25 23) rfl rfl hT (anyM hM (by kernel_rfl)) hE rfl (KA rfl) (fun w=>KH hE rfl) (fun a hE=>?_)
     refine KC (i:=5) (v:=.pointer (some Xx26)) (unb 25 55) rfl rfl hT (anyM hM (by kernel_rfl)) hE rfl (KA rfl) (fun w=>KO hE (Ja rfl (congrArg Value.pointer qXx26))) (fun a hE=>?_)
     refine KC (i:=6) (v:=.pointer (some ((Xx26).add 0))) (unb 25 119) rfl rfl hT (anyM hM (by kernel_rfl)) hE rfl (KA rfl) (fun w=>KL hE rfl Ym) (fun a hE=>?_)
     refine UA (i:=3) (v:=.int .i64 Xx27) (unb 25 127) rfl rfl hT (YZ hM (by kernel_rfl)) hE rfl (KA rfl) hs (fun w s=>ZR hE rfl sc3 s.1) (fun a hE=>?_)
     refine UA (i:=7) (v:=.string Xx28) (unb 25 255) rfl rfl hT (YZ hM (by kernel_rfl)) hE rfl (KA rfl) hs (fun w s=>ZR hE rfl sc9 s.2.1) (fun a hE=>?_)
     refine KC (i:=8) (v:=.int .i64 (Xx28.size:Int)) (unb 25 511) rfl rfl hT (anyM hM (by kernel_rfl)) hE rfl (KA rfl) (fun w=>GK hE rfl un9) (fun a hE=>?_)
     refine KC (i:=9) (v:=.bool (decide (Xx27 ≥ (Xx28.size:Int)))) (unb 25 1023) rfl rfl hT (anyM hM (by kernel_rfl)) hE rfl (KA rfl) (fun w=>ZL hE rfl rfl ZF KBx) (fun a hE=>?_)
     refine KC (i:=10) (v:=.bool (decide (Xx27 ≥ (Xx28.size:Int)))) (unb 25 2047) rfl rfl hT (anyM hM (by kernel_rfl)) hE rfl (KA rfl) (fun w=>KH hE rfl) (fun a hE=>?_)
     have hE:=hE.reb 20 (decide (Xx27 ≥ (Xx28.size:Int))) false hb_29 rfl
     replace hE:=hE.cut (l':=[(0,.pointer x0),(1,.string x1),(6,.int .i64 (x1.size:Int)),(7,.int .i64 Xx2),(4,.int .i64 Xx2),(20,.bool false)]) (.cons rfl (.cons rfl (.cons rfl (.cons rfl (.cons rfl (.cons rfl Subs.nil))))))
     refine KC (i:=11) (v:=.pointer x0) (unb 25 4095) rfl rfl hT (anyM hM (by kernel_rfl)) hE rfl (KX rfl hE rfl rfl rfl) (fun w=>KH hE rfl) (fun a hE=>?_)
     refine KC (i:=12) (v:=.pointer (some Xx30)) (unb 25 8191) rfl rfl hT (anyM hM (by kernel_rfl)) hE rfl (KX rfl hE rfl rfl rfl) (fun w=>KO hE (Ja rfl (congrArg Value.pointer qXx30))) (fun a hE=>?_)
     refine KC (i:=13) (v:=.pointer (some ((Xx30).add 0))) (unb 25 16383) rfl rfl hT (anyM hM (by kernel_rfl)) hE rfl (KX rfl hE rfl rfl rfl) (fun w=>KL hE rfl Ym) (fun a hE=>?_)
     refine KC (i:=15) (v:=.pointer x0) (unb 25 49151) rfl rfl hT (anyM hM (by kernel_rfl)) hE rfl (KX rfl hE rfl rfl rfl) (fun w=>KH hE rfl) (fun a hE=>?_)
     refine KC (i:=16) (v:=.pointer (some Xx31)) (unb 25 114687) rfl rfl hT (anyM hM (by kernel_rfl)) hE rfl (KX rfl hE rfl rfl rfl) (fun w=>KO hE (Ja rfl (congrArg Value.pointer qXx31))) (fun a hE=>?_)
     refine KC (i:=17) (v:=.pointer (some ((Xx31).add 1))) (unb 25 245759) rfl rfl hT (anyM hM (by kernel_rfl)) hE rfl (KX rfl hE rfl rfl rfl) (fun w=>KL hE rfl ZU) (fun a hE=>?_)
     refine KC (i:=20) (v:=.string x1) (unb 25 1294335) rfl rfl hT (anyM hM (by kernel_rfl)) hE rfl (KX rfl hE rfl rfl rfl) (fun w=>KH hE rfl) (fun a hE=>?_)
     refine KC (i:=21) (v:=.int .i64 Xx2) (unb 25 3391487) rfl rfl hT (anyM hM (by kernel_rfl)) hE rfl (KX rfl hE rfl rfl rfl) (fun w=>KH hE rfl) (fun a hE=>?_)
     refine KC (i:=22) (v:=.int .u8 Xx32) (unb 25 7585791) rfl rfl hT (anyM hM (by kernel_rfl)) hE rfl (KX rfl hE rfl rfl rfl) (fun w=>KDw hE rfl rfl un9 qXx32) (fun a hE=>?_)
     refine UA (i:=14) (v:=.string Xx33) (unb 25 7602175) rfl rfl hT (YZ hM (by kernel_rfl)) hE rfl (KX rfl hE rfl rfl rfl) hs (fun w s=>ZR hE rfl sc9 s.2.2.1) (fun a hE=>?_)
     refine UA (i:=18) (v:=.int .i64 Xx34) (unb 25 7864319) rfl rfl hT (YZ hM (by kernel_rfl)) hE rfl (KX rfl hE rfl rfl rfl) hs (fun w s=>ZR hE rfl sc3 s.2.2.2) (fun a hE=>?_)
     refine KC (i:=19) (v:=.int .u8 Xx35) (unb 25 8388607) rfl rfl hT (anyM hM (by kernel_rfl)) hE rfl (KX rfl hE rfl rfl rfl) (fun w=>KDw hE rfl rfl un9 qXx35) (fun a hE=>?_)
     refine KC (i:=23) (v:=.bool (Xx35 != Xx32)) (unb 25 16777215) rfl rfl hT (anyM hM (by kernel_rfl)) hE rfl (KX rfl hE rfl rfl rfl) (fun w=>ZL hE rfl rfl ZF KCv) (fun a hE=>?_)
     refine KC (i:=24) (v:=.bool (Xx35 != Xx32)) (unb 25 33554431) rfl rfl hT (anyM hM (by kernel_rfl)) hE rfl (KA rfl) (fun w=>JP hE rfl rfl) (fun a hE=>?_)
     refine XL hT (KBV hM (by kernel_rfl)) ?_
     exact ⟨Xx35 != Xx32,hE.cut (.cons rfl (.cons rfl (.cons rfl (.cons rfl (.cons rfl Subs.nil))))),hR,H⟩
 ·replace H:=M.ite_f hb H
  refine KBt ?_
  refine Xu.same ?_
  exact hret _ _ _ () _ hE hR (Z2 hE rfl RV.nil) rfl H
def UU (x0:ByteArray) (x1:Int):M (Int):=do
 let Xx3←Zf x0 x1
 M.pure Xx3
theorem Xd (x0:ByteArray) (x1:Int):Kn Go.Proofs.Tryz.prog 242 #[.string x0,.int .u8 x1] (fun (r:Int)=>.int .i64 r) (UU x0 x1) :=
 KM [mkC V9 WF [.S,.I .u8] [.I .i64] (fun (t:ByteArray × Int)=>Zf t.1 t.2) (fun (t:ByteArray × Int)=>Wf t.1 t.2)] [] [.I .i64] [(0,.S x0),(1,.I .u8 x1)] .o Go.Proofs.Tryz.func242 rfl rfl ⟨rfl,rfl,trivial⟩ rfl (by kernel_rfl) (by kernel_rfl)
end Gx
namespace Gx
open Go
set_option linter.unusedVariables false
set_option maxRecDepth 100000
def Z4 (C28:Option Addr) (C29:Int) (C30:Int):M (Value ⊕ (Int)):=do
 let Xx32←nilP C28
 let Xx33←ldI .i64 ((Xx32).add 1)
 let Xx34←nilP C28
 stV ((Xx34).add 1) (.int .i64 (IntKind.wrap .i64 (Xx33+1)))
 M.pure (.inr (IntKind.wrap .u8 (iOr .i64 (iShl .i64 C29 4) C30)))
def Kk (C38:Option Addr) (C39:Int) (C40:Int) (Xx37:Bool):M (Value ⊕ (Int)):=do
 M.ite Xx37 (do
  thr (Kp C38) fun Xx41=>do
   Z4 C38 C39 C40
  ) (do
  Z4 C38 C39 C40
  )
noncomputable def X2:Array Oper:=KKd Go.Proofs.Tryz.f218 11
def KHE:List (List Nat):=[[],[0],[1],[2],[],[4],[5],[6],[7],[3,8],[9],[10],[11,10],[10,12],[13,10],[14],[15,14],[16,14,14],[17],[18,17],[17,19,14],[14,20]]
def KHF:List (List Nat):=[[],[0],[1],[2],[],[4],[5],[6],[7],[3,8],[9],[10],[10,11],[10,12],[13],[14],[14,15],[14,16],[17],[17,18],[14,17,19],[14,20]]
def KHG:List (List Nat):=[[],[0],[0,1],[0,1,2],[],[4],[4,5],[4,5,6],[4,5,6,7],[0,1,2,3,4,5,6,7,8],[0,1,2,3,4,5,6,7,8,9],[0,1,2,3,4,5,6,7,8,9,10],[0,1,2,3,4,5,6,7,8,9,10,11],[0,1,2,3,4,5,6,7,8,9,10,11,12],[0,1,2,3,4,5,6,7,8,9,10,11,12,13],[0,1,2,3,4,5,6,7,8,9,10,11,12,13,14],[0,1,2,3,4,5,6,7,8,9,10,11,12,13,14,15],[0,1,2,3,4,5,6,7,8,9,10,11,12,13,14,15,16],[0,1,2,3,4,5,6,7,8,9,10,11,12,13,14,15,16,17],[0,1,2,3,4,5,6,7,8,9,10,11,12,13,14,15,16,17,18],[0,1,2,3,4,5,6,7,8,9,10,11,12,13,14,15,16,17,18,19],[0,1,2,3,4,5,6,7,8,9,10,11,12,13,14,15,16,17,18,19,20]]
theorem KBk:KDy Go.Proofs.Tryz.f218 11 KHE KHF KHG=true:=by kernel_rfl
theorem KAN:KGB 22 KHE KHF KHG [0,1,2,4,0,16,32,64,128,264,512,1024,3072,5120,9216,16384,49152,81920,131072,393216,671744,1064960] [0,1,2,4,0,16,32,64,128,264,512,1024,3072,5120,8192,16384,49152,81920,131072,393216,671744,1064960] [0,1,3,7,0,16,48,112,240,511,1023,2047,4095,8191,16383,32767,65535,131071,262143,524287,1048575,2097151]=true:=by kernel_rfl
def Z5 (C18:Option Addr) (C19:Int):M (Value ⊕ (Int)):=do
 let Xx21←nilP C18
 let Xx22←ldI .i64 ((Xx21).add 1)
 let Xx23←nilP C18
 stV ((Xx23).add 1) (.int .i64 (IntKind.wrap .i64 (Xx22+1)))
 let Xx26←Kh C18
 let Xx27←UU (⟨#[48,49,50,51,52,53,54,55,56,57,97,98,99,100,101,102]⟩:ByteArray) Xx26
 let Xx42←nilP C18
 let Xx43←nilP C18
 let Xx44←ldI .i64 ((Xx42).add 1)
 let Xx45←ldS ((Xx43).add 0)
 M.ite (decide (Xx44 ≥ (Xx45.size:Int))) (do
  Kk C18 C19 Xx27 true
  ) (do
  M.ite (decide (Xx27 < 0)) (do
   Kk C18 C19 Xx27 true
   ) (do
   M.ite (C19 == 7) (do
    Kk C18 C19 Xx27 (decide (Xx27 < 15))
    ) (do
    Kk C18 C19 Xx27 false
    )
   )
  )
def Kl (C50:Option Addr) (C51:Int) (Xx49:Bool):M (Value ⊕ (Int)):=do
 M.ite Xx49 (do
  thr (Kp C50) fun Xx52=>do
   Z5 C50 C51
  ) (do
  Z5 C50 C51
  )
noncomputable def Np:Array Oper:=KKd Go.Proofs.Tryz.f218 7
def KJK:List (List Nat):=[[],[0],[1],[2],[],[4],[5],[6],[7],[3,8],[9],[10],[11,10],[10,12],[13,10],[14],[15,14],[16,14,14],[17],[18,17],[17,19,14],[14,20]]
def KJL:List (List Nat):=[[],[0],[1],[2],[],[4],[5],[6],[7],[3,8],[9],[10],[10,11],[10,12],[13],[14],[14,15],[14,16],[17],[17,18],[14,17,19],[14,20]]
def KJM:List (List Nat):=[[],[0],[0,1],[0,1,2],[],[4],[4,5],[4,5,6],[4,5,6,7],[0,1,2,3,4,5,6,7,8],[0,1,2,3,4,5,6,7,8,9],[0,1,2,3,4,5,6,7,8,9,10],[0,1,2,3,4,5,6,7,8,9,10,11],[0,1,2,3,4,5,6,7,8,9,10,11,12],[0,1,2,3,4,5,6,7,8,9,10,11,12,13],[0,1,2,3,4,5,6,7,8,9,10,11,12,13,14],[0,1,2,3,4,5,6,7,8,9,10,11,12,13,14,15],[0,1,2,3,4,5,6,7,8,9,10,11,12,13,14,15,16],[0,1,2,3,4,5,6,7,8,9,10,11,12,13,14,15,16,17],[0,1,2,3,4,5,6,7,8,9,10,11,12,13,14,15,16,17,18],[0,1,2,3,4,5,6,7,8,9,10,11,12,13,14,15,16,17,18,19],[0,1,2,3,4,5,6,7,8,9,10,11,12,13,14,15,16,17,18,19,20]]
theorem KEW:KDy Go.Proofs.Tryz.f218 7 KJK KJL KJM=true:=by kernel_rfl
theorem KBl:KGB 22 KJK KJL KJM [0,1,2,4,0,16,32,64,128,264,512,1024,3072,5120,9216,16384,49152,81920,131072,393216,671744,1064960] [0,1,2,4,0,16,32,64,128,264,512,1024,3072,5120,8192,16384,49152,81920,131072,393216,671744,1064960] [0,1,3,7,0,16,48,112,240,511,1023,2047,4095,8191,16383,32767,65535,131071,262143,524287,1048575,2097151]=true:=by kernel_rfl
def Ji (x0:Option Addr):M (Value ⊕ (Int)):=do
 let Xx4←Kh x0
 let Xx6←M.ite (Xx4 == 39) (do
  M.pure true
  ) (do
  M.pure (Xx4 == 92)
  )
 M.ite Xx6 (do
  let Xx8←nilP x0
  let Xx9←ldI .i64 ((Xx8).add 1)
  let Xx10←nilP x0
  stV ((Xx10).add 1) (.int .i64 (IntKind.wrap .i64 (Xx9+1)))
  M.pure (.inr Xx4)
  ) (do
  thr (ZB x0 (⟨#[120]⟩:ByteArray)) fun Xx14=>do
   let Xx16←Kh x0
   let Xx17←UU (⟨#[48,49,50,51,52,53,54,55,56,57,97,98,99,100,101,102]⟩:ByteArray) Xx16
   let Xx53←nilP x0
   let Xx54←nilP x0
   let Xx55←ldI .i64 ((Xx53).add 1)
   let Xx56←ldS ((Xx54).add 0)
   M.ite (decide (Xx55 ≥ (Xx56.size:Int))) (do
    Kl x0 Xx17 true
    ) (do
    M.ite (decide (Xx17 < 0)) (do
     Kl x0 Xx17 true
     ) (do
     M.ite (decide (Xx17 > 1)) (do
      Kl x0 Xx17 (decide (Xx17 < 7))
      ) (do
      Kl x0 Xx17 false
      )
     )
    )
  )
theorem NP (x0:Option Addr):GJ Go.Proofs.Tryz.prog 218 #[.pointer x0] (fun (r:Int)=>.int .u8 r) (Ji x0):=by
 refine YF [(0,.pointer x0)] Go.Proofs.Tryz.func218 rfl rfl (Nat.le_of_ble_eq_true rfl) (Vz ⟨rfl,trivial⟩) (fun w0 w Q R X a hret hthr hE hR H=>?_)
 unfold Ji at H
 refine KW (fun K hK_1=>?_)
 refine KD ?_
 refine KE (v:=.int .u8 0) rfl rfl hE rfl (KZ hE rfl) (fun a hE=>?_)
 refine KU ?_
 refine hK_1 _ _ ?_
 refine KW (fun K hK_2=>?_)
 refine KW (fun K hK_3=>?_)
 refine KD ?_
 refine KE (v:=.pointer x0) rfl rfl hE rfl (KH hE rfl) (fun a hE=>?_)
 refine J9 hE hR Ki rfl (Ku x0) (M.unbind H) (fun Xx4 a w ea hR H=>?_)
 have hE:=Env.put_some hE rfl ea; clear ea
 refine KE (v:=.int .u8 Xx4) rfl rfl hE rfl (KZ hE rfl) (fun a hE=>?_)
 refine KU ?_
 refine hK_3 _ _ ?_
 refine KW (fun K hK_5=>?_)
 refine KD ?_
 refine KE (v:=.int .u8 Xx4) rfl rfl hE rfl (KH hE rfl) (fun a hE=>?_)
 refine KE (v:=.bool (Xx4 == 39)) rfl rfl hE rfl (ZL hE rfl rfl ZF Gd) (fun a hE=>?_)
 refine KE (v:=.bool (Xx4 == 39)) rfl rfl hE rfl (KH hE rfl) (fun a hE=>?_)
 refine KE5 (n:=(⟨97,[]⟩:Frm)) (w0:=w0) 3 (fun Xx6:Bool=>[(0,.pointer x0),(3,.int .u8 Xx4),(13,.bool Xx6)]) (M.unbind H) (fun Kr hKr H=>?_) ?_
 ·rcases VT (Xx4 == 39) with hb | hb
  ·replace H:=M.ite_t hb H
   have hE:=hE.reb 10 (Xx4 == 39) true hb rfl
   refine NF rfl hE rfl rfl rfl (fun a ea=>?_)
   have hE:=Env.put_some hE rfl ea; clear ea
   refine NF rfl hE rfl rfl rfl (fun a ea=>?_)
   have hE:=Env.put_some hE rfl ea; clear ea
   refine KE rfl rfl hE rfl (J8 hE rfl rfl) (fun a hE=>?_)
   refine KU ?_
   exact hKr _ _ _ (hE.cut (.cons rfl (.cons rfl (.cons rfl Subs.nil)))) hR H
  ·replace H:=M.ite_f hb H
   have hE:=hE.reb 10 (Xx4 == 39) false hb rfl
   refine t_on rfl hE rfl rfl rfl ?_
   refine KE (v:=.int .u8 Xx4) rfl rfl hE rfl (KH hE rfl) (fun a hE=>?_)
   refine t_on rfl hE rfl rfl rfl ?_
   refine KE (v:=.bool (Xx4 == 92)) rfl rfl hE rfl (ZL hE rfl rfl ZF Gd) (fun a hE=>?_)
   refine KE rfl rfl hE rfl (JP hE rfl rfl) (fun a hE=>?_)
   refine KU ?_
   exact hKr _ _ _ (hE.cut (.cons rfl (.cons rfl (.cons rfl Subs.nil)))) hR H
 ·intro Xx6 a w hE hR H
  refine KU ?_
  refine hK_5 _ _ ?_
  refine JE Xx6 hE rfl (fun hb=>?_) (fun hb=>?_)
  ·replace H:=M.ite_t hb H
   refine KW (fun K hK_7=>?_)
   refine KD ?_
   refine KE (v:=.pointer x0) rfl rfl hE rfl (KH hE rfl) (fun a hE=>?_)
   obtain ⟨Xx8,qXx8,H⟩:=H
   refine KE (v:=.pointer (some Xx8)) rfl rfl hE rfl (KO hE (Ja rfl (congrArg Value.pointer qXx8))) (fun a hE=>?_)
   refine KE (v:=.pointer (some ((Xx8).add 1))) rfl rfl hE rfl (KL hE rfl ZU) (fun a hE=>?_)
   obtain ⟨Xx9,qXx9,H⟩:=H
   refine KE (v:=.int .i64 Xx9) rfl rfl hE rfl (ZR hE rfl sc3 qXx9) (fun a hE=>?_)
   refine KE (v:=.int .i64 (IntKind.wrap .i64 (Xx9+1))) rfl rfl hE rfl (ZL hE rfl rfl ZF NE) (fun a hE=>?_)
   obtain ⟨Xx10,qXx10,H⟩:=H
   refine KE (v:=.pointer (some Xx10)) rfl rfl hE rfl (KO hE (Ja rfl (congrArg Value.pointer qXx10))) (fun a hE=>?_)
   refine KE (v:=.pointer (some ((Xx10).add 1))) rfl rfl hE rfl (KL hE rfl ZU) (fun a hE=>?_)
   obtain ⟨u_11,qu_11,H⟩:=H
   refine UF rfl rfl hE hR (ZT hE rfl rfl sz3 qu_11) (fun a w hE hR hh=>?_)
   replace H:=M.at hh H; clear hh
   refine KU ?_
   refine hK_7 _ _ ?_
   refine KW (fun K hK_12=>?_)
   refine KD ?_
   refine KE (v:=.int .u8 Xx4) rfl rfl hE rfl (KH hE rfl) (fun a hE=>?_)
   refine KE (v:=.int .u8 Xx4) rfl rfl hE rfl (KZ hE rfl) (fun a hE=>?_)
   refine KU ?_
   refine hK_12 _ _ ?_
   refine WZ ?_
   exact hret _ _ _ Xx4 _ hE hR (Z2 hE rfl (RV.tmp rfl RV.nil)) rfl H
  ·replace H:=M.ite_f hb H
   refine J7 ?_
   refine hK_2 _ _ ?_
   refine KW (fun K hK_13=>?_)
   refine KD ?_
   refine KE (v:=.pointer x0) rfl rfl hE rfl (KH hE rfl) (fun a hE=>?_)
   refine JH hE hR ZS rfl (ZZ x0 (⟨#[120]⟩:ByteArray)) H (fun _ _ hR HQ=>hthr _ _ hR HQ) (fun Xx14 a w ea hR H=>?_)
   have hE:=Env.put_some hE rfl ea; clear ea
   refine KU ?_
   refine hK_13 _ _ ?_
   refine KW (fun K hK_15=>?_)
   refine KD ?_
   refine KE (v:=.pointer x0) rfl rfl hE rfl (KH hE rfl) (fun a hE=>?_)
   refine J9 hE hR Ki rfl (Ku x0) (M.unbind H) (fun Xx16 a w ea hR H=>?_)
   have hE:=Env.put_some hE rfl ea; clear ea
   refine J9 hE hR Yr rfl (Xd (⟨#[48,49,50,51,52,53,54,55,56,57,97,98,99,100,101,102]⟩:ByteArray) Xx16) (M.unbind H) (fun Xx17 a w ea hR H=>?_)
   have hE:=Env.put_some hE rfl ea; clear ea
   refine KE (v:=.int .i64 Xx17) rfl rfl hE rfl (KZ hE rfl) (fun a hE=>?_)
   refine KU ?_
   refine hK_15 _ _ ?_
   refine JW (fun a w=>Env (⟨97,[]⟩:Frm) a [(0,.pointer x0),(4,.int .i64 Xx17)]∧Rest w0 w∧(Z5 x0 Xx17).wp w.heap Q) ?_ ?_
   ·rintro a w ⟨hE,hR,H⟩
    unfold Z5 at H
    refine KW (fun K hK_20=>?_)
    refine KD ?_
    refine KE (v:=.pointer x0) rfl rfl hE rfl (KH hE rfl) (fun a hE=>?_)
    obtain ⟨Xx21,qXx21,H⟩:=H
    refine KE (v:=.pointer (some Xx21)) rfl rfl hE rfl (KO hE (Ja rfl (congrArg Value.pointer qXx21))) (fun a hE=>?_)
    refine KE (v:=.pointer (some ((Xx21).add 1))) rfl rfl hE rfl (KL hE rfl ZU) (fun a hE=>?_)
    obtain ⟨Xx22,qXx22,H⟩:=H
    refine KE (v:=.int .i64 Xx22) rfl rfl hE rfl (ZR hE rfl sc3 qXx22) (fun a hE=>?_)
    refine KE (v:=.int .i64 (IntKind.wrap .i64 (Xx22+1))) rfl rfl hE rfl (ZL hE rfl rfl ZF NE) (fun a hE=>?_)
    obtain ⟨Xx23,qXx23,H⟩:=H
    refine KE (v:=.pointer (some Xx23)) rfl rfl hE rfl (KO hE (Ja rfl (congrArg Value.pointer qXx23))) (fun a hE=>?_)
    refine KE (v:=.pointer (some ((Xx23).add 1))) rfl rfl hE rfl (KL hE rfl ZU) (fun a hE=>?_)
    obtain ⟨u_24,qu_24,H⟩:=H
    refine UF rfl rfl hE hR (ZT hE rfl rfl sz3 qu_24) (fun a w hE hR hh=>?_)
    replace H:=M.at hh H; clear hh
    refine KU ?_
    refine hK_20 _ _ ?_
    refine KW (fun K hK_25=>?_)
    refine KD ?_
    refine KE (v:=.pointer x0) rfl rfl hE rfl (KH hE rfl) (fun a hE=>?_)
    refine J9 hE hR Ki rfl (Ku x0) (M.unbind H) (fun Xx26 a w ea hR H=>?_)
    have hE:=Env.put_some hE rfl ea; clear ea
    refine J9 hE hR Yr rfl (Xd (⟨#[48,49,50,51,52,53,54,55,56,57,97,98,99,100,101,102]⟩:ByteArray) Xx26) (M.unbind H) (fun Xx27 a w ea hR H=>?_)
    have hE:=Env.put_some hE rfl ea; clear ea
    refine KE (v:=.int .i64 Xx27) rfl rfl hE rfl (KZ hE rfl) (fun a hE=>?_)
    refine KU ?_
    refine hK_25 _ _ ?_
    refine JW (fun a w=>Env (⟨97,[]⟩:Frm) a [(0,.pointer x0),(4,.int .i64 Xx17),(5,.int .i64 Xx27)]∧Rest w0 w∧(Z4 x0 Xx17 Xx27).wp w.heap Q) ?_ ?_
    ·rintro a w ⟨hE,hR,H⟩
     unfold Z4 at H
     refine KW (fun K hK_31=>?_)
     refine KD ?_
     refine KE (v:=.pointer x0) rfl rfl hE rfl (KH hE rfl) (fun a hE=>?_)
     obtain ⟨Xx32,qXx32,H⟩:=H
     refine KE (v:=.pointer (some Xx32)) rfl rfl hE rfl (KO hE (Ja rfl (congrArg Value.pointer qXx32))) (fun a hE=>?_)
     refine KE (v:=.pointer (some ((Xx32).add 1))) rfl rfl hE rfl (KL hE rfl ZU) (fun a hE=>?_)
     obtain ⟨Xx33,qXx33,H⟩:=H
     refine KE (v:=.int .i64 Xx33) rfl rfl hE rfl (ZR hE rfl sc3 qXx33) (fun a hE=>?_)
     refine KE (v:=.int .i64 (IntKind.wrap .i64 (Xx33+1))) rfl rfl hE rfl (ZL hE rfl rfl ZF NE) (fun a hE=>?_)
     obtain ⟨Xx34,qXx34,H⟩:=H
     refine KE (v:=.pointer (some Xx34)) rfl rfl hE rfl (KO hE (Ja rfl (congrArg Value.pointer qXx34))) (fun a hE=>?_)
     refine KE (v:=.pointer (some ((Xx34).add 1))) rfl rfl hE rfl (KL hE rfl ZU) (fun a hE=>?_)
     obtain ⟨u_35,qu_35,H⟩:=H
     refine UF rfl rfl hE hR (ZT hE rfl rfl sz3 qu_35) (fun a w hE hR hh=>?_)
     replace H:=M.at hh H; clear hh
     refine KU ?_
     refine hK_31 _ _ ?_
     refine KW (fun K hK_36=>?_)
     refine KD ?_
     refine KE (v:=.int .i64 Xx17) rfl rfl hE rfl (KH hE rfl) (fun a hE=>?_)
     refine KE (v:=.int .i64 (iShl .i64 Xx17 4)) rfl rfl hE rfl (ZL hE rfl rfl ZF (KML ⟨by decide,rfl⟩)) (fun a hE=>?_)
     refine KE (v:=.int .i64 Xx27) rfl rfl hE rfl (KH hE rfl) (fun a hE=>?_)
     refine KE (v:=.int .i64 (iOr .i64 (iShl .i64 Xx17 4) Xx27)) rfl rfl hE rfl (ZL hE rfl rfl ZF b_or) (fun a hE=>?_)
     refine KE (v:=.int .u8 (IntKind.wrap .u8 (iOr .i64 (iShl .i64 Xx17 4) Xx27))) rfl rfl hE rfl (KIZ hE rfl un3 un5) (fun a hE=>?_)
     refine KE (v:=.int .u8 (IntKind.wrap .u8 (iOr .i64 (iShl .i64 Xx17 4) Xx27))) rfl rfl hE rfl (KZ hE rfl) (fun a hE=>?_)
     refine KU ?_
     refine hK_36 _ _ ?_
     refine WZ ?_
     exact hret _ _ _ (IntKind.wrap .u8 (iOr .i64 (iShl .i64 Xx17 4) Xx27)) _ hE hR (Z2 hE rfl (RV.tmp rfl RV.nil)) rfl H
    ·skip
     refine JW (fun a w=>∃ (Xx37:Bool),Env (⟨97,[]⟩:Frm) a [(0,.pointer x0),(4,.int .i64 Xx17),(5,.int .i64 Xx27),(82,.bool Xx37)]∧Rest w0 w∧(Kk x0 Xx17 Xx27 Xx37).wp w.heap Q) ?_ ?_
     ·rintro a w ⟨Xx37,hE,hR,H⟩
      unfold Kk at H
      refine JE Xx37 hE rfl (fun hb=>?_) (fun hb=>?_)
      ·replace H:=M.ite_t hb H
       refine KD ?_
       refine KE (v:=.pointer x0) rfl rfl hE rfl (KH hE rfl) (fun a hE=>?_)
       refine JH hE hR Kz rfl (ZC x0) H (fun _ _ hR HQ=>hthr _ _ hR HQ) (fun Xx41 a w ea hR H=>?_)
       have hE:=Env.put_some hE rfl ea; clear ea
       refine KU ?_
       exact ⟨hE.cut (.cons rfl (.cons rfl (.cons rfl Subs.nil))),hR,H⟩
      ·replace H:=M.ite_f hb H
       refine J7 ?_
       exact ⟨hE.cut (.cons rfl (.cons rfl (.cons rfl Subs.nil))),hR,H⟩
     ·skip
      obtain ⟨Xx42,qXx42,H⟩:=H
      obtain ⟨Xx43,qXx43,H⟩:=H
      obtain ⟨Xx44,qXx44,H⟩:=H
      obtain ⟨Xx45,qXx45,H⟩:=H
      rcases VT (decide (Xx44 ≥ (Xx45.size:Int))) with hb_46 | hb_46
      ·replace H:=M.ite_t hb_46 H
       refine NU (rops:=X2) (by kernel_rfl) ?_
       have hT:Tab X2 _ _ _:=Xv KBk rfl (by kernel_rfl)
       have hM:=TabM.of KAN
       refine Vi (m:=22) (fun w:World=>(fun h:Heap=>(KN h ((Xx42).add 1)=some (.int .i64 Xx44))∧(KN h ((Xx43).add 0)=some (.string Xx45))) w.heap) [9,10,11,12,13,14,15,16,17,18,19,20,21] (unb 22 0) mo hR (by kernel_rfl) (by kernel_rfl) (fun w' e=>by rw [e]; exact ⟨qXx44,qXx45⟩) (fun w hh hR hs=>?_)
       replace H:=M.at hh H; clear hh
       refine KC (i:=0) (v:=.pointer x0) (unb 22 1) rfl rfl hT (anyM hM (by kernel_rfl)) hE rfl (KA rfl) (fun w=>KH hE rfl) (fun a hE=>?_)
       refine KC (i:=1) (v:=.pointer (some Xx42)) (unb 22 3) rfl rfl hT (anyM hM (by kernel_rfl)) hE rfl (KA rfl) (fun w=>KO hE (Ja rfl (congrArg Value.pointer qXx42))) (fun a hE=>?_)
       refine KC (i:=2) (v:=.pointer (some ((Xx42).add 1))) (unb 22 7) rfl rfl hT (anyM hM (by kernel_rfl)) hE rfl (KA rfl) (fun w=>KL hE rfl ZU) (fun a hE=>?_)
       refine KC (i:=4) (v:=.pointer x0) (unb 22 23) rfl rfl hT (anyM hM (by kernel_rfl)) hE rfl (KA rfl) (fun w=>KH hE rfl) (fun a hE=>?_)
       refine KC (i:=5) (v:=.pointer (some Xx43)) (unb 22 55) rfl rfl hT (anyM hM (by kernel_rfl)) hE rfl (KA rfl) (fun w=>KO hE (Ja rfl (congrArg Value.pointer qXx43))) (fun a hE=>?_)
       refine KC (i:=6) (v:=.pointer (some ((Xx43).add 0))) (unb 22 119) rfl rfl hT (anyM hM (by kernel_rfl)) hE rfl (KA rfl) (fun w=>KL hE rfl Ym) (fun a hE=>?_)
       refine UA (i:=3) (v:=.int .i64 Xx44) (unb 22 127) rfl rfl hT (YZ hM (by kernel_rfl)) hE rfl (KA rfl) hs (fun w s=>ZR hE rfl sc3 s.1) (fun a hE=>?_)
       refine UA (i:=7) (v:=.string Xx45) (unb 22 255) rfl rfl hT (YZ hM (by kernel_rfl)) hE rfl (KA rfl) hs (fun w s=>ZR hE rfl sc9 s.2) (fun a hE=>?_)
       refine KC (i:=8) (v:=.int .i64 (Xx45.size:Int)) (unb 22 511) rfl rfl hT (anyM hM (by kernel_rfl)) hE rfl (KA rfl) (fun w=>GK hE rfl un9) (fun a hE=>?_)
       refine KC (i:=9) (v:=.bool (decide (Xx44 ≥ (Xx45.size:Int)))) (unb 22 1023) rfl rfl hT (anyM hM (by kernel_rfl)) hE rfl (KA rfl) (fun w=>ZL hE rfl rfl ZF KBx) (fun a hE=>?_)
       refine KC (i:=10) (v:=.bool (decide (Xx44 ≥ (Xx45.size:Int)))) (unb 22 2047) rfl rfl hT (anyM hM (by kernel_rfl)) hE rfl (KA rfl) (fun w=>KH hE rfl) (fun a hE=>?_)
       have hE:=hE.reb 71 (decide (Xx44 ≥ (Xx45.size:Int))) true hb_46 rfl
       replace hE:=hE.cut (l':=[(0,.pointer x0),(4,.int .i64 Xx17),(5,.int .i64 Xx27),(71,.bool true)]) (.cons rfl (.cons rfl (.cons rfl (.cons rfl Subs.nil))))
       refine KDz (i:=11) (unb 22 4095) rfl rfl hT (anyM hM (by kernel_rfl)) (UG rfl hE rfl rfl rfl) (fun a ea=>?_)
       have hE:=Env.put_some hE rfl ea; clear ea
       refine KDz (i:=12) (unb 22 8191) rfl rfl hT (anyM hM (by kernel_rfl)) (UG rfl hE rfl rfl rfl) (fun a ea=>?_)
       have hE:=Env.put_some hE rfl ea; clear ea
       refine KC (i:=13) (v:=.bool true) (unb 22 16383) rfl rfl hT (anyM hM (by kernel_rfl)) hE rfl (KA rfl) (fun w=>J8 hE rfl rfl) (fun a hE=>?_)
       refine KC (i:=14) (v:=.bool true) (unb 22 32767) rfl rfl hT (anyM hM (by kernel_rfl)) hE rfl (KA rfl) (fun w=>KH hE rfl) (fun a hE=>?_)
       refine zV [(15,some 76),(16,some 77),(17,some 78),(18,some 79),(19,some 80),(20,some 81)] 1 hT hM hE (by kernel_rfl) (m':=2097151) (by kernel_rfl) (fun a hE=>?_)
       refine KC (i:=21) (v:=.bool true) (unb 22 4194303) rfl rfl hT (anyM hM (by kernel_rfl)) hE rfl (KA rfl) (fun w=>J8 hE rfl rfl) (fun a hE=>?_)
       refine XL hT (KBV hM (by kernel_rfl)) ?_
       exact ⟨true,hE.cut (.cons rfl (.cons rfl (.cons rfl (.cons rfl Subs.nil)))),hR,H⟩
      ·replace H:=M.ite_f hb_46 H
       rcases VT (decide (Xx27 < 0)) with hb_47 | hb_47
       ·replace H:=M.ite_t hb_47 H
        refine NU (rops:=X2) (by kernel_rfl) ?_
        have hT:Tab X2 _ _ _:=Xv KBk rfl (by kernel_rfl)
        have hM:=TabM.of KAN
        refine Vi (m:=22) (fun w:World=>(fun h:Heap=>(KN h ((Xx42).add 1)=some (.int .i64 Xx44))∧(KN h ((Xx43).add 0)=some (.string Xx45))) w.heap) [9,10,11,12,13,14,15,16,17,18,19,20,21] (unb 22 0) mo hR (by kernel_rfl) (by kernel_rfl) (fun w' e=>by rw [e]; exact ⟨qXx44,qXx45⟩) (fun w hh hR hs=>?_)
        replace H:=M.at hh H; clear hh
        refine KC (i:=0) (v:=.pointer x0) (unb 22 1) rfl rfl hT (anyM hM (by kernel_rfl)) hE rfl (KA rfl) (fun w=>KH hE rfl) (fun a hE=>?_)
        refine KC (i:=1) (v:=.pointer (some Xx42)) (unb 22 3) rfl rfl hT (anyM hM (by kernel_rfl)) hE rfl (KA rfl) (fun w=>KO hE (Ja rfl (congrArg Value.pointer qXx42))) (fun a hE=>?_)
        refine KC (i:=2) (v:=.pointer (some ((Xx42).add 1))) (unb 22 7) rfl rfl hT (anyM hM (by kernel_rfl)) hE rfl (KA rfl) (fun w=>KL hE rfl ZU) (fun a hE=>?_)
        refine KC (i:=4) (v:=.pointer x0) (unb 22 23) rfl rfl hT (anyM hM (by kernel_rfl)) hE rfl (KA rfl) (fun w=>KH hE rfl) (fun a hE=>?_)
        refine KC (i:=5) (v:=.pointer (some Xx43)) (unb 22 55) rfl rfl hT (anyM hM (by kernel_rfl)) hE rfl (KA rfl) (fun w=>KO hE (Ja rfl (congrArg Value.pointer qXx43))) (fun a hE=>?_)
        refine KC (i:=6) (v:=.pointer (some ((Xx43).add 0))) (unb 22 119) rfl rfl hT (anyM hM (by kernel_rfl)) hE rfl (KA rfl) (fun w=>KL hE rfl Ym) (fun a hE=>?_)
        refine UA (i:=3) (v:=.int .i64 Xx44) (unb 22 127) rfl rfl hT (YZ hM (by kernel_rfl)) hE rfl (KA rfl) hs (fun w s=>ZR hE rfl sc3 s.1) (fun a hE=>?_)
        refine UA (i:=7) (v:=.string Xx45) (unb 22 255) rfl rfl hT (YZ hM (by kernel_rfl)) hE rfl (KA rfl) hs (fun w s=>ZR hE rfl sc9 s.2) (fun a hE=>?_)
        refine KC (i:=8) (v:=.int .i64 (Xx45.size:Int)) (unb 22 511) rfl rfl hT (anyM hM (by kernel_rfl)) hE rfl (KA rfl) (fun w=>GK hE rfl un9) (fun a hE=>?_)
        refine KC (i:=9) (v:=.bool (decide (Xx44 ≥ (Xx45.size:Int)))) (unb 22 1023) rfl rfl hT (anyM hM (by kernel_rfl)) hE rfl (KA rfl) (fun w=>ZL hE rfl rfl ZF KBx) (fun a hE=>?_)
        refine KC (i:=10) (v:=.bool (decide (Xx44 ≥ (Xx45.size:Int)))) (unb 22 2047) rfl rfl hT (anyM hM (by kernel_rfl)) hE rfl (KA rfl) (fun w=>KH hE rfl) (fun a hE=>?_)
        have hE:=hE.reb 71 (decide (Xx44 ≥ (Xx45.size:Int))) false hb_46 rfl
        replace hE:=hE.cut (l':=[(0,.pointer x0),(4,.int .i64 Xx17),(5,.int .i64 Xx27),(71,.bool false)]) (.cons rfl (.cons rfl (.cons rfl (.cons rfl Subs.nil))))
        refine KC (i:=11) (v:=.int .i64 Xx27) (unb 22 4095) rfl rfl hT (anyM hM (by kernel_rfl)) hE rfl (KX rfl hE rfl rfl rfl) (fun w=>KH hE rfl) (fun a hE=>?_)
        refine KC (i:=12) (v:=.bool (decide (Xx27 < 0))) (unb 22 8191) rfl rfl hT (anyM hM (by kernel_rfl)) hE rfl (KX rfl hE rfl rfl rfl) (fun w=>ZL hE rfl rfl ZF zP) (fun a hE=>?_)
        refine KC (i:=13) (v:=.bool (decide (Xx27 < 0))) (unb 22 16383) rfl rfl hT (anyM hM (by kernel_rfl)) hE rfl (KA rfl) (fun w=>JP hE rfl rfl) (fun a hE=>?_)
        refine KC (i:=14) (v:=.bool (decide (Xx27 < 0))) (unb 22 32767) rfl rfl hT (anyM hM (by kernel_rfl)) hE rfl (KA rfl) (fun w=>KH hE rfl) (fun a hE=>?_)
        have hE:=hE.reb 75 (decide (Xx27 < 0)) true hb_47 rfl
        replace hE:=hE.cut (l':=[(0,.pointer x0),(4,.int .i64 Xx17),(5,.int .i64 Xx27),(75,.bool true)]) (.cons rfl (.cons rfl (.cons rfl (.cons rfl Subs.nil))))
        refine zV [(15,some 76),(16,some 77),(17,some 78),(18,some 79),(19,some 80),(20,some 81)] 1 hT hM hE (by kernel_rfl) (m':=2097151) (by kernel_rfl) (fun a hE=>?_)
        refine KC (i:=21) (v:=.bool true) (unb 22 4194303) rfl rfl hT (anyM hM (by kernel_rfl)) hE rfl (KA rfl) (fun w=>J8 hE rfl rfl) (fun a hE=>?_)
        refine XL hT (KBV hM (by kernel_rfl)) ?_
        exact ⟨true,hE.cut (.cons rfl (.cons rfl (.cons rfl (.cons rfl Subs.nil)))),hR,H⟩
       ·replace H:=M.ite_f hb_47 H
        rcases VT (Xx17 == 7) with hb_48 | hb_48
        ·replace H:=M.ite_t hb_48 H
         refine NU (rops:=X2) (by kernel_rfl) ?_
         have hT:Tab X2 _ _ _:=Xv KBk rfl (by kernel_rfl)
         have hM:=TabM.of KAN
         refine Vi (m:=22) (fun w:World=>(fun h:Heap=>(KN h ((Xx42).add 1)=some (.int .i64 Xx44))∧(KN h ((Xx43).add 0)=some (.string Xx45))) w.heap) [9,10,11,12,13,14,15,16,17,18,19,20,21] (unb 22 0) mo hR (by kernel_rfl) (by kernel_rfl) (fun w' e=>by rw [e]; exact ⟨qXx44,qXx45⟩) (fun w hh hR hs=>?_)
         replace H:=M.at hh H; clear hh
         refine KC (i:=0) (v:=.pointer x0) (unb 22 1) rfl rfl hT (anyM hM (by kernel_rfl)) hE rfl (KA rfl) (fun w=>KH hE rfl) (fun a hE=>?_)
         refine KC (i:=1) (v:=.pointer (some Xx42)) (unb 22 3) rfl rfl hT (anyM hM (by kernel_rfl)) hE rfl (KA rfl) (fun w=>KO hE (Ja rfl (congrArg Value.pointer qXx42))) (fun a hE=>?_)
         refine KC (i:=2) (v:=.pointer (some ((Xx42).add 1))) (unb 22 7) rfl rfl hT (anyM hM (by kernel_rfl)) hE rfl (KA rfl) (fun w=>KL hE rfl ZU) (fun a hE=>?_)
         refine KC (i:=4) (v:=.pointer x0) (unb 22 23) rfl rfl hT (anyM hM (by kernel_rfl)) hE rfl (KA rfl) (fun w=>KH hE rfl) (fun a hE=>?_)
         refine KC (i:=5) (v:=.pointer (some Xx43)) (unb 22 55) rfl rfl hT (anyM hM (by kernel_rfl)) hE rfl (KA rfl) (fun w=>KO hE (Ja rfl (congrArg Value.pointer qXx43))) (fun a hE=>?_)
         refine KC (i:=6) (v:=.pointer (some ((Xx43).add 0))) (unb 22 119) rfl rfl hT (anyM hM (by kernel_rfl)) hE rfl (KA rfl) (fun w=>KL hE rfl Ym) (fun a hE=>?_)
         refine UA (i:=3) (v:=.int .i64 Xx44) (unb 22 127) rfl rfl hT (YZ hM (by kernel_rfl)) hE rfl (KA rfl) hs (fun w s=>ZR hE rfl sc3 s.1) (fun a hE=>?_)
         refine UA (i:=7) (v:=.string Xx45) (unb 22 255) rfl rfl hT (YZ hM (by kernel_rfl)) hE rfl (KA rfl) hs (fun w s=>ZR hE rfl sc9 s.2) (fun a hE=>?_)
         refine KC (i:=8) (v:=.int .i64 (Xx45.size:Int)) (unb 22 511) rfl rfl hT (anyM hM (by kernel_rfl)) hE rfl (KA rfl) (fun w=>GK hE rfl un9) (fun a hE=>?_)
         refine KC (i:=9) (v:=.bool (decide (Xx44 ≥ (Xx45.size:Int)))) (unb 22 1023) rfl rfl hT (anyM hM (by kernel_rfl)) hE rfl (KA rfl) (fun w=>ZL hE rfl rfl ZF KBx) (fun a hE=>?_)
         refine KC (i:=10) (v:=.bool (decide (Xx44 ≥ (Xx45.size:Int)))) (unb 22 2047) rfl rfl hT (anyM hM (by kernel_rfl)) hE rfl (KA rfl) (fun w=>KH hE rfl) (fun a hE=>?_)
         have hE:=hE.reb 71 (decide (Xx44 ≥ (Xx45.size:Int))) false hb_46 rfl
         replace hE:=hE.cut (l':=[(0,.pointer x0),(4,.int .i64 Xx17),(5,.int .i64 Xx27),(71,.bool false)]) (.cons rfl (.cons rfl (.cons rfl (.cons rfl Subs.nil))))
         refine KC (i:=11) (v:=.int .i64 Xx27) (unb 22 4095) rfl rfl hT (anyM hM (by kernel_rfl)) hE rfl (KX rfl hE rfl rfl rfl) (fun w=>KH hE rfl) (fun a hE=>?_)
         refine KC (i:=12) (v:=.bool (decide (Xx27 < 0))) (unb 22 8191) rfl rfl hT (anyM hM (by kernel_rfl)) hE rfl (KX rfl hE rfl rfl rfl) (fun w=>ZL hE rfl rfl ZF zP) (fun a hE=>?_)
         refine KC (i:=13) (v:=.bool (decide (Xx27 < 0))) (unb 22 16383) rfl rfl hT (anyM hM (by kernel_rfl)) hE rfl (KA rfl) (fun w=>JP hE rfl rfl) (fun a hE=>?_)
         refine KC (i:=14) (v:=.bool (decide (Xx27 < 0))) (unb 22 32767) rfl rfl hT (anyM hM (by kernel_rfl)) hE rfl (KA rfl) (fun w=>KH hE rfl) (fun a hE=>?_)
         have hE:=hE.reb 75 (decide (Xx27 < 0)) false hb_47 rfl
         replace hE:=hE.cut (l':=[(0,.pointer x0),(4,.int .i64 Xx17),(5,.int .i64 Xx27),(75,.bool false)]) (.cons rfl (.cons rfl (.cons rfl (.cons rfl Subs.nil))))
         refine KC (i:=15) (v:=.int .i64 Xx17) (unb 22 65535) rfl rfl hT (anyM hM (by kernel_rfl)) hE rfl (KX rfl hE rfl rfl rfl) (fun w=>KH hE rfl) (fun a hE=>?_)
         refine KC (i:=16) (v:=.bool (Xx17 == 7)) (unb 22 131071) rfl rfl hT (anyM hM (by kernel_rfl)) hE rfl (KX rfl hE rfl rfl rfl) (fun w=>ZL hE rfl rfl ZF Gd) (fun a hE=>?_)
         refine KC (i:=17) (v:=.bool (Xx17 == 7)) (unb 22 262143) rfl rfl hT (anyM hM (by kernel_rfl)) hE rfl (KX rfl hE rfl rfl rfl) (fun w=>KH hE rfl) (fun a hE=>?_)
         have hE:=hE.reb 78 (Xx17 == 7) true hb_48 rfl
         replace hE:=hE.cut (l':=[(0,.pointer x0),(4,.int .i64 Xx17),(5,.int .i64 Xx27),(75,.bool false),(78,.bool true)]) (.cons rfl (.cons rfl (.cons rfl (.cons rfl (.cons rfl Subs.nil)))))
         refine KC (i:=18) (v:=.int .i64 Xx27) (unb 22 524287) rfl rfl hT (anyM hM (by kernel_rfl)) hE rfl (KX rfl hE rfl rfl rfl) (fun w=>KH hE rfl) (fun a hE=>?_)
         refine KC (i:=19) (v:=.bool (decide (Xx27 < 15))) (unb 22 1048575) rfl rfl hT (anyM hM (by kernel_rfl)) hE rfl (KX rfl hE rfl rfl rfl) (fun w=>ZL hE rfl rfl ZF zP) (fun a hE=>?_)
         refine KC (i:=20) (v:=.bool (decide (Xx27 < 15))) (unb 22 2097151) rfl rfl hT (anyM hM (by kernel_rfl)) hE rfl (KX rfl hE rfl rfl rfl) (fun w=>J8 hE rfl rfl) (fun a hE=>?_)
         refine KC (i:=21) (v:=.bool (decide (Xx27 < 15))) (unb 22 4194303) rfl rfl hT (anyM hM (by kernel_rfl)) hE rfl (KA rfl) (fun w=>JP hE rfl rfl) (fun a hE=>?_)
         refine XL hT (KBV hM (by kernel_rfl)) ?_
         exact ⟨decide (Xx27 < 15),hE.cut (.cons rfl (.cons rfl (.cons rfl (.cons rfl Subs.nil)))),hR,H⟩
        ·replace H:=M.ite_f hb_48 H
         refine NU (rops:=X2) (by kernel_rfl) ?_
         have hT:Tab X2 _ _ _:=Xv KBk rfl (by kernel_rfl)
         have hM:=TabM.of KAN
         refine Vi (m:=22) (fun w:World=>(fun h:Heap=>(KN h ((Xx42).add 1)=some (.int .i64 Xx44))∧(KN h ((Xx43).add 0)=some (.string Xx45))) w.heap) [9,10,11,12,13,14,15,16,17,18,19,20,21] (unb 22 0) mo hR (by kernel_rfl) (by kernel_rfl) (fun w' e=>by rw [e]; exact ⟨qXx44,qXx45⟩) (fun w hh hR hs=>?_)
         replace H:=M.at hh H; clear hh
         refine KC (i:=0) (v:=.pointer x0) (unb 22 1) rfl rfl hT (anyM hM (by kernel_rfl)) hE rfl (KA rfl) (fun w=>KH hE rfl) (fun a hE=>?_)
         refine KC (i:=1) (v:=.pointer (some Xx42)) (unb 22 3) rfl rfl hT (anyM hM (by kernel_rfl)) hE rfl (KA rfl) (fun w=>KO hE (Ja rfl (congrArg Value.pointer qXx42))) (fun a hE=>?_)
         refine KC (i:=2) (v:=.pointer (some ((Xx42).add 1))) (unb 22 7) rfl rfl hT (anyM hM (by kernel_rfl)) hE rfl (KA rfl) (fun w=>KL hE rfl ZU) (fun a hE=>?_)
         refine KC (i:=4) (v:=.pointer x0) (unb 22 23) rfl rfl hT (anyM hM (by kernel_rfl)) hE rfl (KA rfl) (fun w=>KH hE rfl) (fun a hE=>?_)
         refine KC (i:=5) (v:=.pointer (some Xx43)) (unb 22 55) rfl rfl hT (anyM hM (by kernel_rfl)) hE rfl (KA rfl) (fun w=>KO hE (Ja rfl (congrArg Value.pointer qXx43))) (fun a hE=>?_)
         refine KC (i:=6) (v:=.pointer (some ((Xx43).add 0))) (unb 22 119) rfl rfl hT (anyM hM (by kernel_rfl)) hE rfl (KA rfl) (fun w=>KL hE rfl Ym) (fun a hE=>?_)
         refine UA (i:=3) (v:=.int .i64 Xx44) (unb 22 127) rfl rfl hT (YZ hM (by kernel_rfl)) hE rfl (KA rfl) hs (fun w s=>ZR hE rfl sc3 s.1) (fun a hE=>?_)
         refine UA (i:=7) (v:=.string Xx45) (unb 22 255) rfl rfl hT (YZ hM (by kernel_rfl)) hE rfl (KA rfl) hs (fun w s=>ZR hE rfl sc9 s.2) (fun a hE=>?_)
         refine KC (i:=8) (v:=.int .i64 (Xx45.size:Int)) (unb 22 511) rfl rfl hT (anyM hM (by kernel_rfl)) hE rfl (KA rfl) (fun w=>GK hE rfl un9) (fun a hE=>?_)
         refine KC (i:=9) (v:=.bool (decide (Xx44 ≥ (Xx45.size:Int)))) (unb 22 1023) rfl rfl hT (anyM hM (by kernel_rfl)) hE rfl (KA rfl) (fun w=>ZL hE rfl rfl ZF KBx) (fun a hE=>?_)
         refine KC (i:=10) (v:=.bool (decide (Xx44 ≥ (Xx45.size:Int)))) (unb 22 2047) rfl rfl hT (anyM hM (by kernel_rfl)) hE rfl (KA rfl) (fun w=>KH hE rfl) (fun a hE=>?_)
         have hE:=hE.reb 71 (decide (Xx44 ≥ (Xx45.size:Int))) false hb_46 rfl
         replace hE:=hE.cut (l':=[(0,.pointer x0),(4,.int .i64 Xx17),(5,.int .i64 Xx27),(71,.bool false)]) (.cons rfl (.cons rfl (.cons rfl (.cons rfl Subs.nil))))
         refine KC (i:=11) (v:=.int .i64 Xx27) (unb 22 4095) rfl rfl hT (anyM hM (by kernel_rfl)) hE rfl (KX rfl hE rfl rfl rfl) (fun w=>KH hE rfl) (fun a hE=>?_)
         refine KC (i:=12) (v:=.bool (decide (Xx27 < 0))) (unb 22 8191) rfl rfl hT (anyM hM (by kernel_rfl)) hE rfl (KX rfl hE rfl rfl rfl) (fun w=>ZL hE rfl rfl ZF zP) (fun a hE=>?_)
         refine KC (i:=13) (v:=.bool (decide (Xx27 < 0))) (unb 22 16383) rfl rfl hT (anyM hM (by kernel_rfl)) hE rfl (KA rfl) (fun w=>JP hE rfl rfl) (fun a hE=>?_)
         refine KC (i:=14) (v:=.bool (decide (Xx27 < 0))) (unb 22 32767) rfl rfl hT (anyM hM (by kernel_rfl)) hE rfl (KA rfl) (fun w=>KH hE rfl) (fun a hE=>?_)
         have hE:=hE.reb 75 (decide (Xx27 < 0)) false hb_47 rfl
         replace hE:=hE.cut (l':=[(0,.pointer x0),(4,.int .i64 Xx17),(5,.int .i64 Xx27),(75,.bool false)]) (.cons rfl (.cons rfl (.cons rfl (.cons rfl Subs.nil))))
         refine KC (i:=15) (v:=.int .i64 Xx17) (unb 22 65535) rfl rfl hT (anyM hM (by kernel_rfl)) hE rfl (KX rfl hE rfl rfl rfl) (fun w=>KH hE rfl) (fun a hE=>?_)
         refine KC (i:=16) (v:=.bool (Xx17 == 7)) (unb 22 131071) rfl rfl hT (anyM hM (by kernel_rfl)) hE rfl (KX rfl hE rfl rfl rfl) (fun w=>ZL hE rfl rfl ZF Gd) (fun a hE=>?_)
         refine KC (i:=17) (v:=.bool (Xx17 == 7)) (unb 22 262143) rfl rfl hT (anyM hM (by kernel_rfl)) hE rfl (KX rfl hE rfl rfl rfl) (fun w=>KH hE rfl) (fun a hE=>?_)
         have hE:=hE.reb 78 (Xx17 == 7) false hb_48 rfl
         replace hE:=hE.cut (l':=[(0,.pointer x0),(4,.int .i64 Xx17),(5,.int .i64 Xx27),(75,.bool false),(78,.bool false)]) (.cons rfl (.cons rfl (.cons rfl (.cons rfl (.cons rfl Subs.nil)))))
         refine KDz (i:=18) (unb 22 524287) rfl rfl hT (anyM hM (by kernel_rfl)) (UG rfl hE rfl rfl rfl) (fun a ea=>?_)
         have hE:=Env.put_some hE rfl ea; clear ea
         refine KDz (i:=19) (unb 22 1048575) rfl rfl hT (anyM hM (by kernel_rfl)) (UG rfl hE rfl rfl rfl) (fun a ea=>?_)
         have hE:=Env.put_some hE rfl ea; clear ea
         refine KC (i:=20) (v:=.bool false) (unb 22 2097151) rfl rfl hT (anyM hM (by kernel_rfl)) hE rfl (KX rfl hE rfl rfl rfl) (fun w=>JP hE rfl rfl) (fun a hE=>?_)
         refine KC (i:=21) (v:=.bool false) (unb 22 4194303) rfl rfl hT (anyM hM (by kernel_rfl)) hE rfl (KA rfl) (fun w=>JP hE rfl rfl) (fun a hE=>?_)
         refine XL hT (KBV hM (by kernel_rfl)) ?_
         exact ⟨false,hE.cut (.cons rfl (.cons rfl (.cons rfl (.cons rfl Subs.nil)))),hR,H⟩
   ·skip
    refine JW (fun a w=>∃ (Xx49:Bool),Env (⟨97,[]⟩:Frm) a [(0,.pointer x0),(4,.int .i64 Xx17),(48,.bool Xx49)]∧Rest w0 w∧(Kl x0 Xx17 Xx49).wp w.heap Q) ?_ ?_
    ·rintro a w ⟨Xx49,hE,hR,H⟩
     unfold Kl at H
     refine JE Xx49 hE rfl (fun hb=>?_) (fun hb=>?_)
     ·replace H:=M.ite_t hb H
      refine KD ?_
      refine KE (v:=.pointer x0) rfl rfl hE rfl (KH hE rfl) (fun a hE=>?_)
      refine JH hE hR Kz rfl (ZC x0) H (fun _ _ hR HQ=>hthr _ _ hR HQ) (fun Xx52 a w ea hR H=>?_)
      have hE:=Env.put_some hE rfl ea; clear ea
      refine KU ?_
      exact ⟨hE.cut (.cons rfl (.cons rfl Subs.nil)),hR,H⟩
     ·replace H:=M.ite_f hb H
      refine J7 ?_
      exact ⟨hE.cut (.cons rfl (.cons rfl Subs.nil)),hR,H⟩
    ·skip
     obtain ⟨Xx53,qXx53,H⟩:=H
     obtain ⟨Xx54,qXx54,H⟩:=H
     obtain ⟨Xx55,qXx55,H⟩:=H
     obtain ⟨Xx56,qXx56,H⟩:=H
     rcases VT (decide (Xx55 ≥ (Xx56.size:Int))) with hb_57 | hb_57
     ·replace H:=M.ite_t hb_57 H
      refine NU (rops:=Np) (by kernel_rfl) ?_
      have hT:Tab Np _ _ _:=Xv KEW rfl (by kernel_rfl)
      have hM:=TabM.of KBl
      refine Vi (m:=22) (fun w:World=>(fun h:Heap=>(KN h ((Xx53).add 1)=some (.int .i64 Xx55))∧(KN h ((Xx54).add 0)=some (.string Xx56))) w.heap) [9,10,11,12,13,14,15,16,17,18,19,20,21] (unb 22 0) mo hR (by kernel_rfl) (by kernel_rfl) (fun w' e=>by rw [e]; exact ⟨qXx55,qXx56⟩) (fun w hh hR hs=>?_)
      replace H:=M.at hh H; clear hh
      refine KC (i:=0) (v:=.pointer x0) (unb 22 1) rfl rfl hT (anyM hM (by kernel_rfl)) hE rfl (KA rfl) (fun w=>KH hE rfl) (fun a hE=>?_)
      refine KC (i:=1) (v:=.pointer (some Xx53)) (unb 22 3) rfl rfl hT (anyM hM (by kernel_rfl)) hE rfl (KA rfl) (fun w=>KO hE (Ja rfl (congrArg Value.pointer qXx53))) (fun a hE=>?_)
      refine KC (i:=2) (v:=.pointer (some ((Xx53).add 1))) (unb 22 7) rfl rfl hT (anyM hM (by kernel_rfl)) hE rfl (KA rfl) (fun w=>KL hE rfl ZU) (fun a hE=>?_)
      refine KC (i:=4) (v:=.pointer x0) (unb 22 23) rfl rfl hT (anyM hM (by kernel_rfl)) hE rfl (KA rfl) (fun w=>KH hE rfl) (fun a hE=>?_)
      refine KC (i:=5) (v:=.pointer (some Xx54)) (unb 22 55) rfl rfl hT (anyM hM (by kernel_rfl)) hE rfl (KA rfl) (fun w=>KO hE (Ja rfl (congrArg Value.pointer qXx54))) (fun a hE=>?_)
      refine KC (i:=6) (v:=.pointer (some ((Xx54).add 0))) (unb 22 119) rfl rfl hT (anyM hM (by kernel_rfl)) hE rfl (KA rfl) (fun w=>KL hE rfl Ym) (fun a hE=>?_)
      refine UA (i:=3) (v:=.int .i64 Xx55) (unb 22 127) rfl rfl hT (YZ hM (by kernel_rfl)) hE rfl (KA rfl) hs (fun w s=>ZR hE rfl sc3 s.1) (fun a hE=>?_)
      refine UA (i:=7) (v:=.string Xx56) (unb 22 255) rfl rfl hT (YZ hM (by kernel_rfl)) hE rfl (KA rfl) hs (fun w s=>ZR hE rfl sc9 s.2) (fun a hE=>?_)
      refine KC (i:=8) (v:=.int .i64 (Xx56.size:Int)) (unb 22 511) rfl rfl hT (anyM hM (by kernel_rfl)) hE rfl (KA rfl) (fun w=>GK hE rfl un9) (fun a hE=>?_)
      refine KC (i:=9) (v:=.bool (decide (Xx55 ≥ (Xx56.size:Int)))) (unb 22 1023) rfl rfl hT (anyM hM (by kernel_rfl)) hE rfl (KA rfl) (fun w=>ZL hE rfl rfl ZF KBx) (fun a hE=>?_)
      refine KC (i:=10) (v:=.bool (decide (Xx55 ≥ (Xx56.size:Int)))) (unb 22 2047) rfl rfl hT (anyM hM (by kernel_rfl)) hE rfl (KA rfl) (fun w=>KH hE rfl) (fun a hE=>?_)
      have hE:=hE.reb 37 (decide (Xx55 ≥ (Xx56.size:Int))) true hb_57 rfl
      replace hE:=hE.cut (l':=[(0,.pointer x0),(4,.int .i64 Xx17),(37,.bool true)]) (.cons rfl (.cons rfl (.cons rfl Subs.nil)))
      refine KDz (i:=11) (unb 22 4095) rfl rfl hT (anyM hM (by kernel_rfl)) (UG rfl hE rfl rfl rfl) (fun a ea=>?_)
      have hE:=Env.put_some hE rfl ea; clear ea
      refine KDz (i:=12) (unb 22 8191) rfl rfl hT (anyM hM (by kernel_rfl)) (UG rfl hE rfl rfl rfl) (fun a ea=>?_)
      have hE:=Env.put_some hE rfl ea; clear ea
      refine KC (i:=13) (v:=.bool true) (unb 22 16383) rfl rfl hT (anyM hM (by kernel_rfl)) hE rfl (KA rfl) (fun w=>J8 hE rfl rfl) (fun a hE=>?_)
      refine KC (i:=14) (v:=.bool true) (unb 22 32767) rfl rfl hT (anyM hM (by kernel_rfl)) hE rfl (KA rfl) (fun w=>KH hE rfl) (fun a hE=>?_)
      refine zV [(15,some 42),(16,some 43),(17,some 44),(18,some 45),(19,some 46),(20,some 47)] 1 hT hM hE (by kernel_rfl) (m':=2097151) (by kernel_rfl) (fun a hE=>?_)
      refine KC (i:=21) (v:=.bool true) (unb 22 4194303) rfl rfl hT (anyM hM (by kernel_rfl)) hE rfl (KA rfl) (fun w=>J8 hE rfl rfl) (fun a hE=>?_)
      refine XL hT (KBV hM (by kernel_rfl)) ?_
      exact ⟨true,hE.cut (.cons rfl (.cons rfl (.cons rfl Subs.nil))),hR,H⟩
     ·replace H:=M.ite_f hb_57 H
      rcases VT (decide (Xx17 < 0)) with hb_58 | hb_58
      ·replace H:=M.ite_t hb_58 H
       refine NU (rops:=Np) (by kernel_rfl) ?_
       have hT:Tab Np _ _ _:=Xv KEW rfl (by kernel_rfl)
       have hM:=TabM.of KBl
       refine Vi (m:=22) (fun w:World=>(fun h:Heap=>(KN h ((Xx53).add 1)=some (.int .i64 Xx55))∧(KN h ((Xx54).add 0)=some (.string Xx56))) w.heap) [9,10,11,12,13,14,15,16,17,18,19,20,21] (unb 22 0) mo hR (by kernel_rfl) (by kernel_rfl) (fun w' e=>by rw [e]; exact ⟨qXx55,qXx56⟩) (fun w hh hR hs=>?_)
       replace H:=M.at hh H; clear hh
       refine KC (i:=0) (v:=.pointer x0) (unb 22 1) rfl rfl hT (anyM hM (by kernel_rfl)) hE rfl (KA rfl) (fun w=>KH hE rfl) (fun a hE=>?_)
       refine KC (i:=1) (v:=.pointer (some Xx53)) (unb 22 3) rfl rfl hT (anyM hM (by kernel_rfl)) hE rfl (KA rfl) (fun w=>KO hE (Ja rfl (congrArg Value.pointer qXx53))) (fun a hE=>?_)
       refine KC (i:=2) (v:=.pointer (some ((Xx53).add 1))) (unb 22 7) rfl rfl hT (anyM hM (by kernel_rfl)) hE rfl (KA rfl) (fun w=>KL hE rfl ZU) (fun a hE=>?_)
       refine KC (i:=4) (v:=.pointer x0) (unb 22 23) rfl rfl hT (anyM hM (by kernel_rfl)) hE rfl (KA rfl) (fun w=>KH hE rfl) (fun a hE=>?_)
       refine KC (i:=5) (v:=.pointer (some Xx54)) (unb 22 55) rfl rfl hT (anyM hM (by kernel_rfl)) hE rfl (KA rfl) (fun w=>KO hE (Ja rfl (congrArg Value.pointer qXx54))) (fun a hE=>?_)
       refine KC (i:=6) (v:=.pointer (some ((Xx54).add 0))) (unb 22 119) rfl rfl hT (anyM hM (by kernel_rfl)) hE rfl (KA rfl) (fun w=>KL hE rfl Ym) (fun a hE=>?_)
       refine UA (i:=3) (v:=.int .i64 Xx55) (unb 22 127) rfl rfl hT (YZ hM (by kernel_rfl)) hE rfl (KA rfl) hs (fun w s=>ZR hE rfl sc3 s.1) (fun a hE=>?_)
       refine UA (i:=7) (v:=.string Xx56) (unb 22 255) rfl rfl hT (YZ hM (by kernel_rfl)) hE rfl (KA rfl) hs (fun w s=>ZR hE rfl sc9 s.2) (fun a hE=>?_)
       refine KC (i:=8) (v:=.int .i64 (Xx56.size:Int)) (unb 22 511) rfl rfl hT (anyM hM (by kernel_rfl)) hE rfl (KA rfl) (fun w=>GK hE rfl un9) (fun a hE=>?_)
       refine KC (i:=9) (v:=.bool (decide (Xx55 ≥ (Xx56.size:Int)))) (unb 22 1023) rfl rfl hT (anyM hM (by kernel_rfl)) hE rfl (KA rfl) (fun w=>ZL hE rfl rfl ZF KBx) (fun a hE=>?_)
       refine KC (i:=10) (v:=.bool (decide (Xx55 ≥ (Xx56.size:Int)))) (unb 22 2047) rfl rfl hT (anyM hM (by kernel_rfl)) hE rfl (KA rfl) (fun w=>KH hE rfl) (fun a hE=>?_)
       have hE:=hE.reb 37 (decide (Xx55 ≥ (Xx56.size:Int))) false hb_57 rfl
       replace hE:=hE.cut (l':=[(0,.pointer x0),(4,.int .i64 Xx17),(37,.bool false)]) (.cons rfl (.cons rfl (.cons rfl Subs.nil)))
       refine KC (i:=11) (v:=.int .i64 Xx17) (unb 22 4095) rfl rfl hT (anyM hM (by kernel_rfl)) hE rfl (KX rfl hE rfl rfl rfl) (fun w=>KH hE rfl) (fun a hE=>?_)
       refine KC (i:=12) (v:=.bool (decide (Xx17 < 0))) (unb 22 8191) rfl rfl hT (anyM hM (by kernel_rfl)) hE rfl (KX rfl hE rfl rfl rfl) (fun w=>ZL hE rfl rfl ZF zP) (fun a hE=>?_)
       refine KC (i:=13) (v:=.bool (decide (Xx17 < 0))) (unb 22 16383) rfl rfl hT (anyM hM (by kernel_rfl)) hE rfl (KA rfl) (fun w=>JP hE rfl rfl) (fun a hE=>?_)
       refine KC (i:=14) (v:=.bool (decide (Xx17 < 0))) (unb 22 32767) rfl rfl hT (anyM hM (by kernel_rfl)) hE rfl (KA rfl) (fun w=>KH hE rfl) (fun a hE=>?_)
       have hE:=hE.reb 41 (decide (Xx17 < 0)) true hb_58 rfl
       replace hE:=hE.cut (l':=[(0,.pointer x0),(4,.int .i64 Xx17),(41,.bool true)]) (.cons rfl (.cons rfl (.cons rfl Subs.nil)))
       refine zV [(15,some 42),(16,some 43),(17,some 44),(18,some 45),(19,some 46),(20,some 47)] 1 hT hM hE (by kernel_rfl) (m':=2097151) (by kernel_rfl) (fun a hE=>?_)
       refine KC (i:=21) (v:=.bool true) (unb 22 4194303) rfl rfl hT (anyM hM (by kernel_rfl)) hE rfl (KA rfl) (fun w=>J8 hE rfl rfl) (fun a hE=>?_)
       refine XL hT (KBV hM (by kernel_rfl)) ?_
       exact ⟨true,hE.cut (.cons rfl (.cons rfl (.cons rfl Subs.nil))),hR,H⟩
      ·replace H:=M.ite_f hb_58 H
       rcases VT (decide (Xx17 > 1)) with hb_59 | hb_59
       ·replace H:=M.ite_t hb_59 H
        refine NU (rops:=Np) (by kernel_rfl) ?_
        have hT:Tab Np _ _ _:=Xv KEW rfl (by kernel_rfl)
        have hM:=TabM.of KBl
        refine Vi (m:=22) (fun w:World=>(fun h:Heap=>(KN h ((Xx53).add 1)=some (.int .i64 Xx55))∧(KN h ((Xx54).add 0)=some (.string Xx56))) w.heap) [9,10,11,12,13,14,15,16,17,18,19,20,21] (unb 22 0) mo hR (by kernel_rfl) (by kernel_rfl) (fun w' e=>by rw [e]; exact ⟨qXx55,qXx56⟩) (fun w hh hR hs=>?_)
        replace H:=M.at hh H; clear hh
        refine KC (i:=0) (v:=.pointer x0) (unb 22 1) rfl rfl hT (anyM hM (by kernel_rfl)) hE rfl (KA rfl) (fun w=>KH hE rfl) (fun a hE=>?_)
        refine KC (i:=1) (v:=.pointer (some Xx53)) (unb 22 3) rfl rfl hT (anyM hM (by kernel_rfl)) hE rfl (KA rfl) (fun w=>KO hE (Ja rfl (congrArg Value.pointer qXx53))) (fun a hE=>?_)
        refine KC (i:=2) (v:=.pointer (some ((Xx53).add 1))) (unb 22 7) rfl rfl hT (anyM hM (by kernel_rfl)) hE rfl (KA rfl) (fun w=>KL hE rfl ZU) (fun a hE=>?_)
        refine KC (i:=4) (v:=.pointer x0) (unb 22 23) rfl rfl hT (anyM hM (by kernel_rfl)) hE rfl (KA rfl) (fun w=>KH hE rfl) (fun a hE=>?_)
        refine KC (i:=5) (v:=.pointer (some Xx54)) (unb 22 55) rfl rfl hT (anyM hM (by kernel_rfl)) hE rfl (KA rfl) (fun w=>KO hE (Ja rfl (congrArg Value.pointer qXx54))) (fun a hE=>?_)
        refine KC (i:=6) (v:=.pointer (some ((Xx54).add 0))) (unb 22 119) rfl rfl hT (anyM hM (by kernel_rfl)) hE rfl (KA rfl) (fun w=>KL hE rfl Ym) (fun a hE=>?_)
        refine UA (i:=3) (v:=.int .i64 Xx55) (unb 22 127) rfl rfl hT (YZ hM (by kernel_rfl)) hE rfl (KA rfl) hs (fun w s=>ZR hE rfl sc3 s.1) (fun a hE=>?_)
        refine UA (i:=7) (v:=.string Xx56) (unb 22 255) rfl rfl hT (YZ hM (by kernel_rfl)) hE rfl (KA rfl) hs (fun w s=>ZR hE rfl sc9 s.2) (fun a hE=>?_)
        refine KC (i:=8) (v:=.int .i64 (Xx56.size:Int)) (unb 22 511) rfl rfl hT (anyM hM (by kernel_rfl)) hE rfl (KA rfl) (fun w=>GK hE rfl un9) (fun a hE=>?_)
        refine KC (i:=9) (v:=.bool (decide (Xx55 ≥ (Xx56.size:Int)))) (unb 22 1023) rfl rfl hT (anyM hM (by kernel_rfl)) hE rfl (KA rfl) (fun w=>ZL hE rfl rfl ZF KBx) (fun a hE=>?_)
        refine KC (i:=10) (v:=.bool (decide (Xx55 ≥ (Xx56.size:Int)))) (unb 22 2047) rfl rfl hT (anyM hM (by kernel_rfl)) hE rfl (KA rfl) (fun w=>KH hE rfl) (fun a hE=>?_)
        have hE:=hE.reb 37 (decide (Xx55 ≥ (Xx56.size:Int))) false hb_57 rfl
        replace hE:=hE.cut (l':=[(0,.pointer x0),(4,.int .i64 Xx17),(37,.bool false)]) (.cons rfl (.cons rfl (.cons rfl Subs.nil)))
        refine KC (i:=11) (v:=.int .i64 Xx17) (unb 22 4095) rfl rfl hT (anyM hM (by kernel_rfl)) hE rfl (KX rfl hE rfl rfl rfl) (fun w=>KH hE rfl) (fun a hE=>?_)
        refine KC (i:=12) (v:=.bool (decide (Xx17 < 0))) (unb 22 8191) rfl rfl hT (anyM hM (by kernel_rfl)) hE rfl (KX rfl hE rfl rfl rfl) (fun w=>ZL hE rfl rfl ZF zP) (fun a hE=>?_)
        refine KC (i:=13) (v:=.bool (decide (Xx17 < 0))) (unb 22 16383) rfl rfl hT (anyM hM (by kernel_rfl)) hE rfl (KA rfl) (fun w=>JP hE rfl rfl) (fun a hE=>?_)
        refine KC (i:=14) (v:=.bool (decide (Xx17 < 0))) (unb 22 32767) rfl rfl hT (anyM hM (by kernel_rfl)) hE rfl (KA rfl) (fun w=>KH hE rfl) (fun a hE=>?_)
        have hE:=hE.reb 41 (decide (Xx17 < 0)) false hb_58 rfl
        replace hE:=hE.cut (l':=[(0,.pointer x0),(4,.int .i64 Xx17),(41,.bool false)]) (.cons rfl (.cons rfl (.cons rfl Subs.nil)))
        refine KC (i:=15) (v:=.int .i64 Xx17) (unb 22 65535) rfl rfl hT (anyM hM (by kernel_rfl)) hE rfl (KX rfl hE rfl rfl rfl) (fun w=>KH hE rfl) (fun a hE=>?_)
        refine KC (i:=16) (v:=.bool (decide (Xx17 > 1))) (unb 22 131071) rfl rfl hT (anyM hM (by kernel_rfl)) hE rfl (KX rfl hE rfl rfl rfl) (fun w=>ZL hE rfl rfl ZF KF8) (fun a hE=>?_)
        refine KC (i:=17) (v:=.bool (decide (Xx17 > 1))) (unb 22 262143) rfl rfl hT (anyM hM (by kernel_rfl)) hE rfl (KX rfl hE rfl rfl rfl) (fun w=>KH hE rfl) (fun a hE=>?_)
        have hE:=hE.reb 44 (decide (Xx17 > 1)) true hb_59 rfl
        replace hE:=hE.cut (l':=[(0,.pointer x0),(4,.int .i64 Xx17),(41,.bool false),(44,.bool true)]) (.cons rfl (.cons rfl (.cons rfl (.cons rfl Subs.nil))))
        refine KC (i:=18) (v:=.int .i64 Xx17) (unb 22 524287) rfl rfl hT (anyM hM (by kernel_rfl)) hE rfl (KX rfl hE rfl rfl rfl) (fun w=>KH hE rfl) (fun a hE=>?_)
        refine KC (i:=19) (v:=.bool (decide (Xx17 < 7))) (unb 22 1048575) rfl rfl hT (anyM hM (by kernel_rfl)) hE rfl (KX rfl hE rfl rfl rfl) (fun w=>ZL hE rfl rfl ZF zP) (fun a hE=>?_)
        refine KC (i:=20) (v:=.bool (decide (Xx17 < 7))) (unb 22 2097151) rfl rfl hT (anyM hM (by kernel_rfl)) hE rfl (KX rfl hE rfl rfl rfl) (fun w=>J8 hE rfl rfl) (fun a hE=>?_)
        refine KC (i:=21) (v:=.bool (decide (Xx17 < 7))) (unb 22 4194303) rfl rfl hT (anyM hM (by kernel_rfl)) hE rfl (KA rfl) (fun w=>JP hE rfl rfl) (fun a hE=>?_)
        refine XL hT (KBV hM (by kernel_rfl)) ?_
        exact ⟨decide (Xx17 < 7),hE.cut (.cons rfl (.cons rfl (.cons rfl Subs.nil))),hR,H⟩
       ·replace H:=M.ite_f hb_59 H
        refine NU (rops:=Np) (by kernel_rfl) ?_
        have hT:Tab Np _ _ _:=Xv KEW rfl (by kernel_rfl)
        have hM:=TabM.of KBl
        refine Vi (m:=22) (fun w:World=>(fun h:Heap=>(KN h ((Xx53).add 1)=some (.int .i64 Xx55))∧(KN h ((Xx54).add 0)=some (.string Xx56))) w.heap) [9,10,11,12,13,14,15,16,17,18,19,20,21] (unb 22 0) mo hR (by kernel_rfl) (by kernel_rfl) (fun w' e=>by rw [e]; exact ⟨qXx55,qXx56⟩) (fun w hh hR hs=>?_)
        replace H:=M.at hh H; clear hh
        refine KC (i:=0) (v:=.pointer x0) (unb 22 1) rfl rfl hT (anyM hM (by kernel_rfl)) hE rfl (KA rfl) (fun w=>KH hE rfl) (fun a hE=>?_)
        refine KC (i:=1) (v:=.pointer (some Xx53)) (unb 22 3) rfl rfl hT (anyM hM (by kernel_rfl)) hE rfl (KA rfl) (fun w=>KO hE (Ja rfl (congrArg Value.pointer qXx53))) (fun a hE=>?_)
        refine KC (i:=2) (v:=.pointer (some ((Xx53).add 1))) (unb 22 7) rfl rfl hT (anyM hM (by kernel_rfl)) hE rfl (KA rfl) (fun w=>KL hE rfl ZU) (fun a hE=>?_)
        refine KC (i:=4) (v:=.pointer x0) (unb 22 23) rfl rfl hT (anyM hM (by kernel_rfl)) hE rfl (KA rfl) (fun w=>KH hE rfl) (fun a hE=>?_)
        refine KC (i:=5) (v:=.pointer (some Xx54)) (unb 22 55) rfl rfl hT (anyM hM (by kernel_rfl)) hE rfl (KA rfl) (fun w=>KO hE (Ja rfl (congrArg Value.pointer qXx54))) (fun a hE=>?_)
        refine KC (i:=6) (v:=.pointer (some ((Xx54).add 0))) (unb 22 119) rfl rfl hT (anyM hM (by kernel_rfl)) hE rfl (KA rfl) (fun w=>KL hE rfl Ym) (fun a hE=>?_)
        refine UA (i:=3) (v:=.int .i64 Xx55) (unb 22 127) rfl rfl hT (YZ hM (by kernel_rfl)) hE rfl (KA rfl) hs (fun w s=>ZR hE rfl sc3 s.1) (fun a hE=>?_)
        refine UA (i:=7) (v:=.string Xx56) (unb 22 255) rfl rfl hT (YZ hM (by kernel_rfl)) hE rfl (KA rfl) hs (fun w s=>ZR hE rfl sc9 s.2) (fun a hE=>?_)
        refine KC (i:=8) (v:=.int .i64 (Xx56.size:Int)) (unb 22 511) rfl rfl hT (anyM hM (by kernel_rfl)) hE rfl (KA rfl) (fun w=>GK hE rfl un9) (fun a hE=>?_)
        refine KC (i:=9) (v:=.bool (decide (Xx55 ≥ (Xx56.size:Int)))) (unb 22 1023) rfl rfl hT (anyM hM (by kernel_rfl)) hE rfl (KA rfl) (fun w=>ZL hE rfl rfl ZF KBx) (fun a hE=>?_)
        refine KC (i:=10) (v:=.bool (decide (Xx55 ≥ (Xx56.size:Int)))) (unb 22 2047) rfl rfl hT (anyM hM (by kernel_rfl)) hE rfl (KA rfl) (fun w=>KH hE rfl) (fun a hE=>?_)
        have hE:=hE.reb 37 (decide (Xx55 ≥ (Xx56.size:Int))) false hb_57 rfl
        replace hE:=hE.cut (l':=[(0,.pointer x0),(4,.int .i64 Xx17),(37,.bool false)]) (.cons rfl (.cons rfl (.cons rfl Subs.nil)))
        refine KC (i:=11) (v:=.int .i64 Xx17) (unb 22 4095) rfl rfl hT (anyM hM (by kernel_rfl)) hE rfl (KX rfl hE rfl rfl rfl) (fun w=>KH hE rfl) (fun a hE=>?_)
        refine KC (i:=12) (v:=.bool (decide (Xx17 < 0))) (unb 22 8191) rfl rfl hT (anyM hM (by kernel_rfl)) hE rfl (KX rfl hE rfl rfl rfl) (fun w=>ZL hE rfl rfl ZF zP) (fun a hE=>?_)
        refine KC (i:=13) (v:=.bool (decide (Xx17 < 0))) (unb 22 16383) rfl rfl hT (anyM hM (by kernel_rfl)) hE rfl (KA rfl) (fun w=>JP hE rfl rfl) (fun a hE=>?_)
        refine KC (i:=14) (v:=.bool (decide (Xx17 < 0))) (unb 22 32767) rfl rfl hT (anyM hM (by kernel_rfl)) hE rfl (KA rfl) (fun w=>KH hE rfl) (fun a hE=>?_)
        have hE:=hE.reb 41 (decide (Xx17 < 0)) false hb_58 rfl
        replace hE:=hE.cut (l':=[(0,.pointer x0),(4,.int .i64 Xx17),(41,.bool false)]) (.cons rfl (.cons rfl (.cons rfl Subs.nil)))
        refine KC (i:=15) (v:=.int .i64 Xx17) (unb 22 65535) rfl rfl hT (anyM hM (by kernel_rfl)) hE rfl (KX rfl hE rfl rfl rfl) (fun w=>KH hE rfl) (fun a hE=>?_)
        refine KC (i:=16) (v:=.bool (decide (Xx17 > 1))) (unb 22 131071) rfl rfl hT (anyM hM (by kernel_rfl)) hE rfl (KX rfl hE rfl rfl rfl) (fun w=>ZL hE rfl rfl ZF KF8) (fun a hE=>?_)
        refine KC (i:=17) (v:=.bool (decide (Xx17 > 1))) (unb 22 262143) rfl rfl hT (anyM hM (by kernel_rfl)) hE rfl (KX rfl hE rfl rfl rfl) (fun w=>KH hE rfl) (fun a hE=>?_)
        have hE:=hE.reb 44 (decide (Xx17 > 1)) false hb_59 rfl
        replace hE:=hE.cut (l':=[(0,.pointer x0),(4,.int .i64 Xx17),(41,.bool false),(44,.bool false)]) (.cons rfl (.cons rfl (.cons rfl (.cons rfl Subs.nil))))
        refine KDz (i:=18) (unb 22 524287) rfl rfl hT (anyM hM (by kernel_rfl)) (UG rfl hE rfl rfl rfl) (fun a ea=>?_)
        have hE:=Env.put_some hE rfl ea; clear ea
        refine KDz (i:=19) (unb 22 1048575) rfl rfl hT (anyM hM (by kernel_rfl)) (UG rfl hE rfl rfl rfl) (fun a ea=>?_)
        have hE:=Env.put_some hE rfl ea; clear ea
        refine KC (i:=20) (v:=.bool false) (unb 22 2097151) rfl rfl hT (anyM hM (by kernel_rfl)) hE rfl (KX rfl hE rfl rfl rfl) (fun w=>JP hE rfl rfl) (fun a hE=>?_)
        refine KC (i:=21) (v:=.bool false) (unb 22 4194303) rfl rfl hT (anyM hM (by kernel_rfl)) hE rfl (KA rfl) (fun w=>JP hE rfl rfl) (fun a hE=>?_)
        refine XL hT (KBV hM (by kernel_rfl)) ?_
        exact ⟨false,hE.cut (.cons rfl (.cons rfl (.cons rfl Subs.nil))),hR,H⟩
end Gx
