/- Printed by program: Go functions as Lean programs, each tied to its code. No condition. -/
import Derived.Test.YtpibdohdkfkcnaaGreatDoorP0
import Derived.Test.YtpibdohdkfkcnaaGreatDoorP1
import Derived.Test.YtpibdohdkfkcnaaGreatDoorP2
import Derived.Test.YtpibdohdkfkcnaaGreatDoorP3
set_option linter.unusedVariables false
set_option linter.unusedSimpArgs false
namespace Gx
open Go
set_option linter.unusedVariables false
set_option maxRecDepth 100000
def KAi (x0:Int):M (Array Value):=do
 let Xx2←mkB KF (#[.int .i64 0,.int .i64 0,.string ByteArray.empty,.slice none 0 0]:Array Value)
 M.need ((#[.int .i64 1,.int .i64 x0,.string ByteArray.empty,.slice none 0 0]:Array Value).size=4)
 stG Xx2 (#[.int .i64 1,.int .i64 x0,.string ByteArray.empty,.slice none 0 0]:Array Value)
 let Rr5←ldG 4 Xx2
 M.pure Rr5
theorem KER (x0:Int):Ky Go.Proofs.Tryz.prog 51 #[.int .i64 x0] (fun (r:Array Value)=>.agg r) (KAi x0) :=
 KQ [] [] [.G] [(0,.I .i64 x0)] .o Go.Proofs.Tryz.func51 rfl rfl ⟨rfl,trivial⟩ rfl (by kernel_rfl) (by kernel_rfl)
def KAj (x0:ByteArray):M (Array Value):=do
 let Xx2←mkB KF (#[.int .i64 0,.int .i64 0,.string ByteArray.empty,.slice none 0 0]:Array Value)
 M.need ((#[.int .i64 2,.int .i64 0,.string x0,.slice none 0 0]:Array Value).size=4)
 stG Xx2 (#[.int .i64 2,.int .i64 0,.string x0,.slice none 0 0]:Array Value)
 let Rr5←ldG 4 Xx2
 M.pure Rr5
theorem KES (x0:ByteArray):Ky Go.Proofs.Tryz.prog 52 #[.string x0] (fun (r:Array Value)=>.agg r) (KAj x0) :=
 KQ [] [] [.G] [(0,.S x0)] .o Go.Proofs.Tryz.func52 rfl rfl ⟨rfl,trivial⟩ rfl (by kernel_rfl) (by kernel_rfl)
def XW (C6:Int) (C7:Sl) (C8:Int) (self1:(Int)→M (Int)):(Int)→M (Int):=fun s=>match s with
 | Xx5=>do
  M.ite (decide (Xx5 < C8)) (do
   let Xx14←ixL C7 Xx5 1
   let Xx15←ldI .i64 Xx14
   M.ite (Xx15 != C6) (do
    M.pure Xx15
    ) (do
    self1 (IntKind.wrap .i64 (Xx5+1))
    )
   ) (do
   M.pure C6
   )
def XB (x0:Sl):M (Int):=do
 M.loop (XW 0 x0 (x0.len:Int)) 0
theorem KDX (x0:Sl):Ky Go.Proofs.Tryz.prog 171 #[(x0:Sl).v] (fun (r:Int)=>.int .i64 r) (XB x0) :=
 KQ [] [] [.I .i64] [(0,.L x0)] (.q .o (.q .o (.q (.q .o (.b (.l [(3,.I .i64),(6,.L),(7,.I .i64)] [(8,.I .i64)] (fun (t:Int × Sl × Int)=>XW t.1 t.2.1 t.2.2) (fun _=>.o)))) .o))) Go.Proofs.Tryz.func171 rfl rfl ⟨rfl,trivial⟩ rfl (by kernel_rfl) (by kernel_rfl)
noncomputable def KDY:CalleeS Go.Proofs.Tryz.prog:=mkC KCI KCN [.L] [.I .i64] (fun (t:Sl)=>XB t) (fun (t:Sl)=>KDX t)
def V8 (x0:Int):M (Bool):=do
 M.pure (x0 != x0)
theorem KAk (x0:Int):Ky Go.Proofs.Tryz.prog 209 #[.int .i64 x0] (fun (r:Bool)=>.bool r) (V8 x0) :=
 KQ [] [] [.B] [(0,.I .i64 x0)] .o Go.Proofs.Tryz.func209 rfl rfl ⟨rfl,trivial⟩ rfl (by kernel_rfl) (by kernel_rfl)
noncomputable def KAl:CalleeS Go.Proofs.Tryz.prog:=mkC zx zy [.I .i64] [.B] (fun (t:Int)=>V8 t) (fun (t:Int)=>KAk t)
def U7 (x0:Int) (x1:Int):M (Int):=do
 let Xx3←V8 x0
 let Xx5←V8 x1
 M.ite Xx3 (do
  M.ite Xx5 (do
   M.pure 0
   ) (do
   M.pure (-1)
   )
  ) (do
  M.ite Xx5 (do
   M.pure 1
   ) (do
   M.ite (decide (x0 < x1)) (do
    M.pure (-1)
    ) (do
    M.ite (decide (x0 > x1)) (do
     M.pure 1
     ) (do
     M.pure 0
     )
    )
   )
  )
theorem zQ (x0:Int) (x1:Int):Ky Go.Proofs.Tryz.prog 172 #[.int .i64 x0,.int .i64 x1] (fun (r:Int)=>.int .i64 r) (U7 x0 x1) :=
 KQ [KAl] [] [.I .i64] [(0,.I .i64 x0),(1,.I .i64 x1)] .o Go.Proofs.Tryz.func172 rfl rfl ⟨rfl,rfl,trivial⟩ rfl (by kernel_rfl) (by kernel_rfl)
noncomputable def zR:CalleeS Go.Proofs.Tryz.prog:=mkC qF qP [.I .i64,.I .i64] [.I .i64] (fun (t:Int × Int)=>U7 t.1 t.2) (fun (t:Int × Int)=>zQ t.1 t.2)
def U8 (x0:Int):M (Bool):=do
 M.pure (x0 != x0)
theorem zS (x0:Int):Ky Go.Proofs.Tryz.prog 210 #[.int .i64 x0] (fun (r:Bool)=>.bool r) (U8 x0) :=
 KQ [] [] [.B] [(0,.I .i64 x0)] .o Go.Proofs.Tryz.func210 rfl rfl ⟨rfl,trivial⟩ rfl (by kernel_rfl) (by kernel_rfl)
noncomputable def zT:CalleeS Go.Proofs.Tryz.prog:=mkC qG qQ [.I .i64] [.B] (fun (t:Int)=>U8 t) (fun (t:Int)=>zS t)
def UW (x0:Int) (x1:Int):M (Int):=do
 let Xx3←U8 x0
 let Xx5←U8 x1
 M.ite Xx3 (do
  M.ite Xx5 (do
   M.pure 0
   ) (do
   M.pure (-1)
   )
  ) (do
  M.ite Xx5 (do
   M.pure 1
   ) (do
   M.ite (decide (x0 < x1)) (do
    M.pure (-1)
    ) (do
    M.ite (decide (x0 > x1)) (do
     M.pure 1
     ) (do
     M.pure 0
     )
    )
   )
  )
theorem Nx (x0:Int) (x1:Int):Ky Go.Proofs.Tryz.prog 173 #[.int .i64 x0,.int .i64 x1] (fun (r:Int)=>.int .i64 r) (UW x0 x1) :=
 KQ [zT] [] [.I .i64] [(0,.I .i64 x0),(1,.I .i64 x1)] .o Go.Proofs.Tryz.func173 rfl rfl ⟨rfl,rfl,trivial⟩ rfl (by kernel_rfl) (by kernel_rfl)
noncomputable def Ny:CalleeS Go.Proofs.Tryz.prog:=mkC GW Gh [.I .i64,.I .i64] [.I .i64] (fun (t:Int × Int)=>UW t.1 t.2) (fun (t:Int × Int)=>Nx t.1 t.2)
def V9 (x0:ByteArray) (x1:ByteArray):M (Int):=do
 let Xx3←Zk x0 x1
 M.pure Xx3
theorem zU (x0:ByteArray) (x1:ByteArray):Ky Go.Proofs.Tryz.prog 174 #[.string x0,.string x1] (fun (r:Int)=>.int .i64 r) (V9 x0 x1) :=
 KQ [mkC Vv Vx [.S,.S] [.I .i64] (fun (t:ByteArray × ByteArray)=>Zk t.1 t.2) (fun (t:ByteArray × ByteArray)=>WG t.1 t.2)] [] [.I .i64] [(0,.S x0),(1,.S x1)] .o Go.Proofs.Tryz.func174 rfl rfl ⟨rfl,rfl,trivial⟩ rfl (by kernel_rfl) (by kernel_rfl)
noncomputable def zV:CalleeS Go.Proofs.Tryz.prog:=mkC qN qZ [.S,.S] [.I .i64] (fun (t:ByteArray × ByteArray)=>V9 t.1 t.2) (fun (t:ByteArray × ByteArray)=>zU t.1 t.2)
def Kc (C5:Sl) (C6:Sl) (C7:Value) (C8:Sl) (C9:Int) (self1:(Int)→M (Int)):(Int)→M (Int):=fun s=>match s with
 | Xx4=>do
  M.ite (decide (Xx4 < C9)) (do
   let Xx15←ixL C8 Xx4 4
   let Xx16←ldG 4 Xx15
   let Xx17←mkB KF (#[.int .i64 0,.int .i64 0,.string ByteArray.empty,.slice none 0 0]:Array Value)
   M.need (Xx16.size=4)
   stG Xx17 Xx16
   M.ite (decide (Xx4 ≥ (C6.len:Int))) (do
    M.pure 1
    ) (do
    let Xx23←ixL C6 Xx4 4
    let Xx24←ldG 4 Xx23
    let Xx25←mkB KF (#[.int .i64 0,.int .i64 0,.string ByteArray.empty,.slice none 0 0]:Array Value)
    M.need (Xx24.size=4)
    stG Xx25 Xx24
    let Xx28←ldG 4 Xx17
    let Xx29←ldG 4 Xx25
    let Xx30←Vu Go.Proofs.Tryz.prog (fun r:Int=>.int .i64 r) C7 [.agg Xx28,.agg Xx29]
    M.ite (Xx30 != 0) (do
     M.pure Xx30
     ) (do
     self1 (IntKind.wrap .i64 (Xx4+1))
     )
    )
   ) (do
   M.ite (decide ((C5.len:Int) < (C6.len:Int))) (do
    M.pure (-1)
    ) (do
    M.pure 0
    )
   )
def KW (x0:Sl) (x1:Sl) (x2:Value):M (Int):=do
 M.loop (Kc x0 x1 x2 x0 (x0.len:Int)) 0
theorem Zx (x0:Sl) (x1:Sl) (x2:Value):Ky Go.Proofs.Tryz.prog 175 #[(x0:Sl).v,(x1:Sl).v,x2] (fun (r:Int)=>.int .i64 r) (KW x0 x1 x2) :=
 KQ [] [] [.I .i64] [(0,.L x0),(1,.L x1),(2,.V x2)] (.q .o (.q (.q .o (.b (.l [(0,.L),(1,.L),(2,.V),(11,.L),(12,.I .i64)] [(13,.I .i64)] (fun (t:Sl × Sl × Value × Sl × Int)=>Kc t.1 t.2.1 t.2.2.1 t.2.2.2.1 t.2.2.2.2) (fun _=>.o)))) .o)) Go.Proofs.Tryz.func175 rfl rfl ⟨rfl,rfl,rfl,trivial⟩ rfl (by kernel_rfl) (by kernel_rfl)
noncomputable def Zy:CalleeS Go.Proofs.Tryz.prog:=mkC Zv Zw [.L,.L,.V] [.I .i64] (fun (t:Sl × Sl × Value)=>KW t.1 t.2.1 t.2.2) (fun (t:Sl × Sl × Value)=>Zx t.1 t.2.1 t.2.2)
def VC (x0:Array Value) (x1:Array Value):M (Int):=do
 let Xx2←mkB KF x0
 let Xx3←mkB KF x1
 let Xx5←ldI .i64 ((Xx2).add 0)
 let Xx6←ldI .i64 ((Xx3).add 0)
 let Xx7←ldI .i64 ((Xx2).add 1)
 let Xx8←ldI .i64 ((Xx3).add 1)
 let Xx9←ldS ((Xx2).add 2)
 let Xx10←ldS ((Xx3).add 2)
 let Xx11←ldL ((Xx2).add 3)
 let Xx12←ldL ((Xx3).add 3)
 let Xx13←U7 Xx5 Xx6
 chk (fun h:Heap=>(KV h ((Xx2).add 0)=some (.int .i64 Xx5))∧(KV h ((Xx3).add 0)=some (.int .i64 Xx6))∧(KV h ((Xx2).add 1)=some (.int .i64 Xx7))∧(KV h ((Xx3).add 1)=some (.int .i64 Xx8))∧(KV h ((Xx2).add 2)=some (.string Xx9))∧(KV h ((Xx3).add 2)=some (.string Xx10))∧(KV h ((Xx2).add 3)=some ((Xx11:Sl).v))∧(KV h ((Xx3).add 3)=some ((Xx12:Sl).v)))
 let Xx14←UW Xx7 Xx8
 chk (fun h:Heap=>(KV h ((Xx2).add 0)=some (.int .i64 Xx5))∧(KV h ((Xx3).add 0)=some (.int .i64 Xx6))∧(KV h ((Xx2).add 1)=some (.int .i64 Xx7))∧(KV h ((Xx3).add 1)=some (.int .i64 Xx8))∧(KV h ((Xx2).add 2)=some (.string Xx9))∧(KV h ((Xx3).add 2)=some (.string Xx10))∧(KV h ((Xx2).add 3)=some ((Xx11:Sl).v))∧(KV h ((Xx3).add 3)=some ((Xx12:Sl).v)))
 let Xx15←V9 Xx9 Xx10
 chk (fun h:Heap=>(KV h ((Xx2).add 0)=some (.int .i64 Xx5))∧(KV h ((Xx3).add 0)=some (.int .i64 Xx6))∧(KV h ((Xx2).add 1)=some (.int .i64 Xx7))∧(KV h ((Xx3).add 1)=some (.int .i64 Xx8))∧(KV h ((Xx2).add 2)=some (.string Xx9))∧(KV h ((Xx3).add 2)=some (.string Xx10))∧(KV h ((Xx2).add 3)=some ((Xx11:Sl).v))∧(KV h ((Xx3).add 3)=some ((Xx12:Sl).v)))
 let Xx16←KW Xx11 Xx12 (Value.func (.func Xb) #[] #[])
 let Xx17←bdL YD 4 #[.int .i64 Xx13,.int .i64 Xx14,.int .i64 Xx15,.int .i64 Xx16]
 let Xx18←XB Xx17
 M.pure Xx18
theorem GF (x0:Array Value) (x1:Array Value):Ky Go.Proofs.Tryz.prog 124 #[.agg x0,.agg x1] (fun (r:Int)=>.int .i64 r) (VC x0 x1) :=
 KQ [KDY,zR,Ny,zV,Zy] [] [.I .i64] [(0,.G x0),(1,.G x1)] (.q .o (.q (.r [0,1,0,4,10,0,32,0,128,336,0,1024,0,4096,10752,0,32768,0,131072,344064,541200,1572864,4194303] [0,1,0,4,10,0,32,0,128,320,0,1024,0,4096,10240,0,32768,0,131072,327680,541200,1048576,2097152] [0,1,0,4,15,0,32,0,128,511,0,1024,0,4096,16383,0,32768,0,131072,524287,1048575,2097151,4194303] (.pu 0 (.pu 2 (.pu 5 (.pu 7 (.pu 10 (.pu 12 (.pu 15 (.pu 17 (.pu 1 (.pu 3 (.pu 6 (.pu 8 (.pu 11 (.pu 13 (.pu 16 (.pu 18 (.st [19,20,21,22] (.on 4 (.on 9 (.on 14 (.on 19 (.on 20 (.on 21 (.pu 22 (.nx .dn)))))))))))))))))))))))))) .o)) Go.Proofs.Tryz.func124 rfl rfl ⟨rfl,rfl,trivial⟩ rfl (by kernel_rfl) (by kernel_rfl)
noncomputable def KAm:CalleeS Go.Proofs.Tryz.prog:=mkC Xb Xc [.G,.G] [.I .i64] (fun (t:Array Value × Array Value)=>VC t.1 t.2) (fun (t:Array Value × Array Value)=>GF t.1 t.2)
def Vo (x0:Int):M (Bool):=do
 let Xx3←M.ite (decide (x0 ≥ 97)) (do
  M.pure (decide (x0≤122))
  ) (do
  M.pure false
  )
 let Xx4←M.ite Xx3 (do
  M.pure true
  ) (do
  let Xx5←M.ite (decide (x0 ≥ 65)) (do
   M.pure (decide (x0≤90))
   ) (do
   M.pure false
   )
  M.pure Xx5
  )
 let Xx6←M.ite Xx4 (do
  M.pure true
  ) (do
  M.pure (x0 == 95)
  )
 M.pure Xx6
theorem KBS (x0:Int):Ky Go.Proofs.Tryz.prog 177 #[.int .u8 x0] (fun (r:Bool)=>.bool r) (Vo x0) :=
 KQ [] [] [.B] [(0,.I .u8 x0)] .o Go.Proofs.Tryz.func177 rfl rfl ⟨rfl,trivial⟩ rfl (by kernel_rfl) (by kernel_rfl)
noncomputable def NJ:CalleeS Go.Proofs.Tryz.prog:=mkC KAc KAg [.I .u8] [.B] (fun (t:Int)=>Vo t) (fun (t:Int)=>KBS t)
def XC (x0:Int):M (Bool):=do
 let Xx3←Vo x0
 let Xx4←M.ite Xx3 (do
  M.pure true
  ) (do
  let Xx5←M.ite (decide (x0 ≥ 48)) (do
   M.pure (decide (x0≤57))
   ) (do
   M.pure false
   )
  M.pure Xx5
  )
 M.pure Xx4
theorem KDZ (x0:Int):Ky Go.Proofs.Tryz.prog 212 #[.int .u8 x0] (fun (r:Bool)=>.bool r) (XC x0) :=
 KQ [NJ] [] [.B] [(0,.I .u8 x0)] .o Go.Proofs.Tryz.func212 rfl rfl ⟨rfl,trivial⟩ rfl (by kernel_rfl) (by kernel_rfl)
noncomputable def KDa:CalleeS Go.Proofs.Tryz.prog:=mkC KCL KCQ [.I .u8] [.B] (fun (t:Int)=>XC t) (fun (t:Int)=>KDZ t)
def GG (C5:ByteArray) (C6:Int) (self1:(Int)→M (Int)):(Int)→M (Int):=fun s=>match s with
 | Xx4=>do
  let Xx10←M.ite (decide (Xx4 < (C5.size:Int))) (do
   let Xx11←ixS C5 Xx4
   let Xx12←XC Xx11
   M.pure Xx12
   ) (do
   M.pure false
   )
  M.ite Xx10 (do
   self1 (IntKind.wrap .i64 (Xx4+1))
   ) (do
   M.pure (IntKind.wrap .i64 (Xx4 - C6))
   )
def YJ (x0:ByteArray) (x1:Int):M (Int):=do
 M.loop (GG x0 x1) x1
theorem KET (x0:ByteArray) (x1:Int):Ky Go.Proofs.Tryz.prog 178 #[.string x0,.int .i64 x1] (fun (r:Int)=>.int .i64 r) (YJ x0 x1) :=
 KQ [KDa] [] [.I .i64] [(0,.S x0),(1,.I .i64 x1)] (.q .o (.q .o (.q (.b (.l [(0,.S),(1,.I .i64)] [(5,.I .i64)] (fun (t:ByteArray × Int)=>GG t.1 t.2) (fun _=>.o))) .o))) Go.Proofs.Tryz.func178 rfl rfl ⟨rfl,rfl,trivial⟩ rfl (by kernel_rfl) (by kernel_rfl)
noncomputable def KEU:CalleeS Go.Proofs.Tryz.prog:=mkC KDJ KDN [.S,.I .i64] [.I .i64] (fun (t:ByteArray × Int)=>YJ t.1 t.2) (fun (t:ByteArray × Int)=>KET t.1 t.2)
def W8 (self1:(Int)→M (Int)) (Xx9:Int):M (Int):=do
 self1 (IntKind.wrap .i64 (Xx9+1))
def XX (C5:ByteArray) (self1:(Int)→M (Int)):(Int)→M (Int):=fun s=>match s with
 | Xx4=>do
  M.ite (decide (Xx4 < (C5.size:Int))) (do
   let Xx12←ixS C5 Xx4
   M.ite (Xx12 == 92) (do
    W8 self1 (IntKind.wrap .i64 (Xx4+1))
    ) (do
    M.ite (Xx12 == 39) (do
     M.pure (IntKind.wrap .i64 (Xx4+1))
     ) (do
     W8 self1 Xx4
     )
    )
   ) (do
   M.pure 0
   )
def XD (x0:ByteArray):M (Int):=do
 M.loop (XX x0) 1
theorem KDb (x0:ByteArray):Ky Go.Proofs.Tryz.prog 179 #[.string x0] (fun (r:Int)=>.int .i64 r) (XD x0) :=
 KQ [] [] [.I .i64] [(0,.S x0)] (.q .o (.q (.q .o (.b (.l [(0,.S)] [(3,.I .i64)] (fun (t:ByteArray)=>XX t) (fun self1=>.q .o (.q .o (.j [(0,.S),(3,.I .i64)] (fun (t:ByteArray × Int)=>W8 self1 t.2) .o)))))) .o)) Go.Proofs.Tryz.func179 rfl rfl ⟨rfl,trivial⟩ rfl (by kernel_rfl) (by kernel_rfl)
noncomputable def KDc:CalleeS Go.Proofs.Tryz.prog:=mkC KCJ KCO [.S] [.I .i64] (fun (t:ByteArray)=>XD t) (fun (t:ByteArray)=>KDb t)
def ZU (C5:Sl) (C6:Value) (C7:Int) (self1:(Int)→M (Int)):(Int)→M (Int):=fun s=>match s with
 | Xx4=>do
  M.ite (decide (Xx4 < C7)) (do
   let Xx14←ixL C5 Xx4 4
   let Xx15←ldG 4 Xx14
   let Xx16←Vu Go.Proofs.Tryz.prog (fun r:Bool=>.bool r) C6 [.agg Xx15]
   M.ite Xx16 (do
    M.pure Xx4
    ) (do
    self1 (IntKind.wrap .i64 (Xx4+1))
    )
   ) (do
   M.pure (-1)
   )
def ZF (x0:Sl) (x1:Value):M (Int):=do
 M.loop (ZU x0 x1 (x0.len:Int)) 0
theorem Ut (x0:Sl) (x1:Value):Ky Go.Proofs.Tryz.prog 205 #[(x0:Sl).v,x1] (fun (r:Int)=>.int .i64 r) (ZF x0 x1) :=
 KQ [] [] [.I .i64] [(0,.L x0),(1,.V x1)] (.q .o (.q (.q .o (.b (.l [(0,.L),(1,.V),(7,.I .i64)] [(8,.I .i64)] (fun (t:Sl × Value × Int)=>ZU t.1 t.2.1 t.2.2) (fun _=>.o)))) .o)) Go.Proofs.Tryz.func205 rfl rfl ⟨rfl,rfl,trivial⟩ rfl (by kernel_rfl) (by kernel_rfl)
noncomputable def Uu:CalleeS Go.Proofs.Tryz.prog:=mkC Uo Up [.L,.V] [.I .i64] (fun (t:Sl × Value)=>ZF t.1 t.2) (fun (t:Sl × Value)=>Ut t.1 t.2)
def Kg (x0:Sl) (x1:Value):M (Bool):=do
 let Xx3←ZF x0 x1
 M.pure (decide (Xx3 ≥ 0))
theorem Ud (x0:Sl) (x1:Value):Ky Go.Proofs.Tryz.prog 165 #[(x0:Sl).v,x1] (fun (r:Bool)=>.bool r) (Kg x0 x1) :=
 KQ [Uu] [] [.B] [(0,.L x0),(1,.V x1)] .o Go.Proofs.Tryz.func165 rfl rfl ⟨rfl,rfl,trivial⟩ rfl (by kernel_rfl) (by kernel_rfl)
noncomputable def Ue:CalleeS Go.Proofs.Tryz.prog:=mkC UY UZ [.L,.V] [.B] (fun (t:Sl × Value)=>Kg t.1 t.2) (fun (t:Sl × Value)=>Ud t.1 t.2)
def WY (C12:Addr) (C13:Addr):M (Bool):=do
 let Xx15←ldI .i64 ((C12).add 1)
 let Xx16←M.ite (Xx15 == 0) (do
  let Xx17←ldS ((C12).add 2)
  M.pure (sEq Xx17 ByteArray.empty)
  ) (do
  M.pure false
  )
 let Xx18←M.ite Xx16 (do
  let Xx19←ldL ((C12).add 3)
  let Xx20←Kg Xx19 (Value.func (.func KBK) #[] #[.pointer (some C13)])
  M.pure (!Xx20)
  ) (do
  M.pure false
  )
 M.pure Xx18
def GH (C61:Addr) (C62:Addr) (self1:(Int)→M (Bool)):(Int)→M (Bool):=fun s=>match s with
 | Xx60=>do
  let Xx66←ldL ((C61).add 3)
  M.ite (decide (Xx60 < (Xx66.len:Int))) (do
   let Xx69←ldL ((C61).add 3)
   let Xx70←ixL Xx69 (IntKind.wrap .i64 (Xx60 - 2)) 4
   let Xx71←ldG 4 Xx70
   let Xx72←ldL ((C61).add 3)
   let Xx73←ixL Xx72 Xx60 4
   let Xx74←ldG 4 Xx73
   let Xx75←VC Xx71 Xx74
   M.ite (decide (Xx75 ≥ 0)) (do
    M.pure false
    ) (do
    self1 (IntKind.wrap .i64 (Xx60+2))
    )
   ) (do
   WY C61 C62
   )
def WZ (C32:Addr) (C33:Addr) (C34:Bool) (C35:Int) (Xx31:Bool):M (Bool):=do
 M.ite Xx31 (do
  let Xx37←M.ite C34 (do
   let Xx38←ldI .i64 ((C32).add 1)
   M.pure (decide (Xx38 ≥ 1))
   ) (do
   M.pure false
   )
  let Xx39←M.ite Xx37 (do
   let Xx40←ldI .i64 ((C32).add 1)
   M.pure (decide (Xx40≤281474976710656))
   ) (do
   M.pure false
   )
  M.pure Xx39
  ) (do
  M.ite (C35 == 2) (do
   let Xx43←ldI .i64 ((C32).add 1)
   let Xx44←M.ite (Xx43 == 0) (do
    let Xx45←ldL ((C32).add 3)
    M.pure ((Xx45.len:Int) == 0)
    ) (do
    M.pure false
    )
   let Xx46←M.ite Xx44 (do
    let Xx47←ldS ((C32).add 2)
    M.pure (decide ((Xx47.size:Int)≤128))
    ) (do
    M.pure false
    )
   M.pure Xx46
   ) (do
   M.ite (C35 == 4) (do
    let Xx50←ldL ((C32).add 3)
    M.ite (decide ((Xx50.len:Int) > 256)) (do
     M.pure false
     ) (do
     WY C32 C33
     )
    ) (do
    M.ite (C35 == 5) (do
     let Xx55←ldL ((C32).add 3)
     let Xx56←M.ite (decide ((Xx55.len:Int) > 512)) (do
      M.pure true
      ) (do
      let Xx57←ldL ((C32).add 3)
      M.pure ((Int.tmod (Xx57.len:Int) 2) == 1)
      )
     M.ite Xx56 (do
      M.pure false
      ) (do
      M.loop (GH C32 C33) 2
      )
     ) (do
     M.pure false
     )
    )
   )
  )
def YK (x0:Array Value) (x1:Int):M (Bool):=do
 let Xx2←mkB KF x0
 let Xx3←mkB YD #[.int .i64 x1]
 let Xx6←ldI .i64 Xx3
 M.ite (decide (Xx6 > 8)) (do
  M.pure false
  ) (do
  let Xx9←ldS ((Xx2).add 2)
  let Xx10←M.ite (sEq Xx9 ByteArray.empty) (do
   let Xx11←ldL ((Xx2).add 3)
   M.pure ((Xx11.len:Int) == 0)
   ) (do
   M.pure false
   )
  let Xx22←ldI .i64 ((Xx2).add 0)
  M.ite (Xx22 == 1) (do
   M.pure Xx10
   ) (do
   M.ite (Xx22 == 3) (do
    let Xx27←M.ite Xx10 (do
     let Xx28←ldI .i64 ((Xx2).add 1)
     let Xx29←M.ite (Xx28 == 0) (do
      M.pure true
      ) (do
      let Xx30←ldI .i64 ((Xx2).add 1)
      M.pure (Xx30 == 1)
      )
     M.pure Xx29
     ) (do
     M.pure false
     )
    M.pure Xx27
    ) (do
    M.ite (Xx22 == 6) (do
     WZ Xx2 Xx3 Xx10 Xx22 (Xx22 == 6)
     ) (do
     WZ Xx2 Xx3 Xx10 Xx22 (Xx22 == 7)
     )
    )
   )
  )
theorem KEV (x0:Array Value) (x1:Int):Ky Go.Proofs.Tryz.prog 201 #[.agg x0,.int .i64 x1] (fun (r:Bool)=>.bool r) (YK x0 x1) :=
 KQ [KAm,Ue] [] [.B] [(0,.G x0),(1,.I .i64 x1)] (.q .o (.q .o (.q .o (.q (.q .o (.b (.q .o (.q .o (.q .o (.q .o (.q .o (.j [(2,.A),(3,.A),(5,.B),(19,.I .i64),(36,.B)] (fun (t:Addr × Addr × Bool × Int × Bool)=>WZ t.1 t.2.1 t.2.2.1 t.2.2.2.1 t.2.2.2.2) (.q .o (.q .o (.q .o (.q .o (.q .o (.q .o (.q (.q .o (.q .o (.b (.l [(2,.A),(3,.A)] [(6,.I .i64)] (fun (t:Addr × Addr)=>GH t.1 t.2) (fun _=>.q .o (.q (.b (.q (.r [0,1,0,4,10,16,0,64,0,384,512,1056,2048] [0,1,0,4,10,16,0,64,0,384,512,1056,2048] [0,1,0,4,15,31,0,64,0,448,960,2047,4095] (.pu 0 (.pu 2 (.pu 3 (.pu 6 (.pu 8 (.pu 1 (.pu 4 (.pu 5 (.pu 7 (.pu 9 (.pu 10 (.st [11,12] (.on 11 (.pu 12 (.nx .dn)))))))))))))))) .o)) .o)))))) .o))))))))))))))) (.j [(2,.A),(3,.A)] (fun (t:Addr × Addr)=>WY t.1 t.2) .o))))) Go.Proofs.Tryz.func201 rfl rfl ⟨rfl,rfl,trivial⟩ rfl (by kernel_rfl) (by kernel_rfl)
noncomputable def KAn:CalleeS Go.Proofs.Tryz.prog:=mkC KDL KDR [.G,.I .i64] [.B] (fun (t:Array Value × Int)=>YK t.1 t.2) (fun (t:Array Value × Int)=>KEV t.1 t.2)
def YL (x0:Array Value):M (Int):=do
 let Xx2←mkB KF x0
 let Xx5←ldG 4 Xx2
 let Xx6←YK Xx5 1
 M.ite (!Xx6) (do
  M.pure 20
  ) (do
  M.pure 0
  )
theorem KCW (x0:Array Value):Ky Go.Proofs.Tryz.prog 153 #[.agg x0] (fun (r:Int)=>.int .i64 r) (YL x0) :=
 KQ [KAn] [] [.I .i64] [(0,.G x0)] .o Go.Proofs.Tryz.func153 rfl rfl ⟨rfl,trivial⟩ rfl (by kernel_rfl) (by kernel_rfl)
noncomputable def KCX:CalleeS Go.Proofs.Tryz.prog:=mkC KBI KBM [.G] [.I .i64] (fun (t:Array Value)=>YL t) (fun (t:Array Value)=>KCW t)
def WQ (x0:ByteArray):M (Array Value × Int × Int):=do
 let Xx2←mkB KF (#[.int .i64 0,.int .i64 0,.string ByteArray.empty,.slice none 0 0]:Array Value)
 let Xx4←XN Go.Proofs.Tryz.prog Wz #[.string x0] (fun r:Array Value × Int × Bool=>.tuple #[.agg r.1,.int .i64 r.2.1,.bool r.2.2])
 let Xx5←mkB KF (#[.int .i64 0,.int .i64 0,.string ByteArray.empty,.slice none 0 0]:Array Value)
 M.need (Xx4.1.size=4)
 stG Xx5 Xx4.1
 M.ite (!Xx4.2.2) (do
  M.need ((#[.int .i64 0,.int .i64 0,.string ByteArray.empty,.slice none 0 0]:Array Value).size=4)
  stG Xx2 (#[.int .i64 0,.int .i64 0,.string ByteArray.empty,.slice none 0 0]:Array Value)
  let Rr11←ldG 4 Xx2
  M.pure (Rr11,Xx4.2.1,22)
  ) (do
  let Xx13←ldG 4 Xx5
  let Xx14←YL Xx13
  M.ite (Xx14 != 0) (do
   M.need ((#[.int .i64 0,.int .i64 0,.string ByteArray.empty,.slice none 0 0]:Array Value).size=4)
   stG Xx2 (#[.int .i64 0,.int .i64 0,.string ByteArray.empty,.slice none 0 0]:Array Value)
   let Rr17←ldG 4 Xx2
   M.pure (Rr17,0,20)
   ) (do
   let Xx19←ldG 4 Xx5
   M.need (Xx19.size=4)
   stG Xx2 Xx19
   let Rr21←ldG 4 Xx2
   M.pure (Rr21,0,0)
   )
  )
theorem KCY (x0:ByteArray):Ky Go.Proofs.Tryz.prog 180 #[.string x0] (fun (r:Array Value × Int × Int)=>.tuple #[.agg r.1,.int .i64 r.2.1,.int .i64 r.2.2]) (WQ x0) :=
 KQ [KCX,mkC Wz KCS [.S] [.G,.I .i64,.B] (fun (t:ByteArray)=>XN Go.Proofs.Tryz.prog Wz #[.string t] (fun r:Array Value × Int × Bool=>.tuple #[.agg r.1,.int .i64 r.2.1,.bool r.2.2])) (fun (t:ByteArray)=>Va)] [] [.G,.I .i64,.I .i64] [(0,.S x0)] .o Go.Proofs.Tryz.func180 rfl rfl ⟨rfl,trivial⟩ rfl (by kernel_rfl) (by kernel_rfl)
noncomputable def KCZ:CalleeS Go.Proofs.Tryz.prog:=mkC KBJ KBN [.S] [.G,.I .i64,.I .i64] (fun (t:ByteArray)=>WQ t) (fun (t:ByteArray)=>KCY t)
def XE (C42:ByteArray) (C43:Addr) (Xx41:Int):M (Array Value × Int):=do
 let Xx45←slS C42 0 Xx41
 let Xx46←WQ Xx45
 let Xx47←mkB KF (#[.int .i64 0,.int .i64 0,.string ByteArray.empty,.slice none 0 0]:Array Value)
 M.need (Xx46.1.size=4)
 stG Xx47 Xx46.1
 let Xx51←M.ite (Xx46.2.2 != 0) (do
  M.pure true
  ) (do
  let Xx52←ldI .i64 ((Xx47).add 0)
  M.pure (Xx52 != 1)
  )
 M.ite Xx51 (do
  M.need ((#[.int .i64 0,.string ByteArray.empty,.int .i64 0,.int .i64 0]:Array Value).size=4)
  stG C43 (#[.int .i64 0,.string ByteArray.empty,.int .i64 0,.int .i64 0]:Array Value)
  let Rr55←ldG 4 C43
  M.pure (Rr55,0)
  ) (do
  let Xx57←ldI .i64 ((Xx47).add 1)
  M.need ((#[.int .i64 2,.string ByteArray.empty,.int .i64 Xx57,.int .i64 0]:Array Value).size=4)
  stG C43 (#[.int .i64 2,.string ByteArray.empty,.int .i64 Xx57,.int .i64 0]:Array Value)
  let Rr59←ldG 4 C43
  M.pure (Rr59,Xx41)
  )
def KAo (x0:ByteArray):M (Array Value × Int):=do
 let Xx2←mkB KM (#[.int .i64 0,.string ByteArray.empty,.int .i64 0,.int .i64 0]:Array Value)
 let Xx5←ixS x0 0
 let Xx7←YB Xx5
 M.ite Xx7 (do
  let Xx9←slS x0 0 1
  M.need ((#[.int .i64 4,.string Xx9,.int .i64 0,.int .i64 0]:Array Value).size=4)
  stG Xx2 (#[.int .i64 4,.string Xx9,.int .i64 0,.int .i64 0]:Array Value)
  let Rr11←ldG 4 Xx2
  M.pure (Rr11,1)
  ) (do
  let Xx13←Vo Xx5
  M.ite Xx13 (do
   let Xx15←YJ x0 0
   let Xx17←slS x0 0 Xx15
   M.need ((#[.int .i64 1,.string Xx17,.int .i64 0,.int .i64 0]:Array Value).size=4)
   stG Xx2 (#[.int .i64 1,.string Xx17,.int .i64 0,.int .i64 0]:Array Value)
   let Rr19←ldG 4 Xx2
   M.pure (Rr19,Xx15)
   ) (do
   M.ite (Xx5 == 39) (do
    let Xx22←XD x0
    let Xx24←slS x0 0 Xx22
    let Xx25←WQ Xx24
    let Xx26←mkB KF (#[.int .i64 0,.int .i64 0,.string ByteArray.empty,.slice none 0 0]:Array Value)
    M.need (Xx25.1.size=4)
    stG Xx26 Xx25.1
    let Xx30←M.ite (Xx25.2.2 != 0) (do
     M.pure true
     ) (do
     let Xx31←ldI .i64 ((Xx26).add 0)
     M.pure (Xx31 != 2)
     )
    M.ite Xx30 (do
     M.need ((#[.int .i64 0,.string ByteArray.empty,.int .i64 0,.int .i64 0]:Array Value).size=4)
     stG Xx2 (#[.int .i64 0,.string ByteArray.empty,.int .i64 0,.int .i64 0]:Array Value)
     let Rr34←ldG 4 Xx2
     M.pure (Rr34,0)
     ) (do
     let Xx36←ldS ((Xx26).add 2)
     M.need ((#[.int .i64 3,.string Xx36,.int .i64 0,.int .i64 0]:Array Value).size=4)
     stG Xx2 (#[.int .i64 3,.string Xx36,.int .i64 0,.int .i64 0]:Array Value)
     let Rr38←ldG 4 Xx2
     M.pure (Rr38,Xx22)
     )
    ) (do
    let Xx40←YJ x0 0
    let Xx61←ixS x0 0
    M.ite (Xx61 == 45) (do
     let Xx62←YJ x0 1
     XE x0 Xx2 (IntKind.wrap .i64 (1+Xx62))
     ) (do
     XE x0 Xx2 Xx40
     )
    )
   )
  )
theorem KDd (x0:ByteArray):Ky Go.Proofs.Tryz.prog 126 #[.string x0] (fun (r:Array Value × Int)=>.tuple #[.agg r.1,.int .i64 r.2]) (KAo x0) :=
 KQ [NJ,KEU,KDc,KCZ,zo] [] [.G,.I .i64] [(0,.S x0)] (.q .o (.q .o (.q .o (.q .o (.j [(0,.S),(2,.A),(10,.I .i64)] (fun (t:ByteArray × Addr × Int)=>XE t.1 t.2.1 t.2.2) .o))))) Go.Proofs.Tryz.func126 rfl rfl ⟨rfl,trivial⟩ rfl (by kernel_rfl) (by kernel_rfl)
noncomputable def KJK:Array Oper:=KFj Go.Proofs.Tryz.f93 3
def KJL:List (List Nat):=[[],[0],[1],[2],[],[4],[5],[6],[3,7],[8],[9],[10],[10],[],[13,11,9,0,1,2,3,4,5,6,7,8,9,10,11,13],[12,14,0,1,2,3,4,5,6,7,8,9,10,11,12,13,14]]
def KJM:List (List Nat):=[[],[0],[1],[2],[],[4],[5],[6],[3,7],[8],[9],[10],[10],[],[11,13],[12]]
def KJN:List (List Nat):=[[],[0],[0,1],[0,1,2],[],[4],[4,5],[4,5,6],[0,1,2,3,4,5,6,7],[0,1,2,3,4,5,6,7,8],[0,1,2,3,4,5,6,7,8,9],[0,1,2,3,4,5,6,7,8,9,10],[0,1,2,3,4,5,6,7,8,9,10],[],[0,1,2,3,4,5,6,7,8,9,10,11,13],[0,1,2,3,4,5,6,7,8,9,10,11,12,13,14]]
theorem KLh:KAP Go.Proofs.Tryz.f93 3 KJL KJM KJN=true:=by kernel_rfl
theorem KKH:KB6 16 KJL KJM KJN [0,1,2,4,0,16,32,64,136,256,512,1024,1024,0,12287,32767] [0,1,2,4,0,16,32,64,136,256,512,1024,1024,0,10240,4096] [0,1,3,7,0,16,48,112,255,511,1023,2047,2047,0,12287,32767]=true:=by kernel_rfl
def J3 (x0:Option Addr):M (Array Value × Bool):=do
 let Xx2←mkB KM (#[.int .i64 0,.string ByteArray.empty,.int .i64 0,.int .i64 0]:Array Value)
 let Xx5←J7 x0
 M.ite (!Xx5) (do
  M.need ((#[.int .i64 0,.string ByteArray.empty,.int .i64 0,.int .i64 0]:Array Value).size=4)
  stG Xx2 (#[.int .i64 0,.string ByteArray.empty,.int .i64 0,.int .i64 0]:Array Value)
  let Rr8←ldG 4 Xx2
  M.pure (Rr8,false)
  ) (do
  let Xx10←nilP x0
  let Xx11←nilP x0
  let Xx12←ldS ((Xx10).add 0)
  let Xx13←ldI .i64 ((Xx11).add 1)
  let Xx14←slS Xx12 Xx13 Xx12.size
  let y_19←do
   M.both (do
    let Xx15←KAo Xx14
    chk (fun h:Heap=>(KV h ((Xx10).add 0)=some (.string Xx12))∧(KV h ((Xx11).add 1)=some (.int .i64 Xx13)))
    let Xx16←mkB KM (#[.int .i64 0,.string ByteArray.empty,.int .i64 0,.int .i64 0]:Array Value)
    chk (fun h:Heap=>(KV h ((Xx10).add 0)=some (.string Xx12))∧(KV h ((Xx11).add 1)=some (.int .i64 Xx13)))
    M.pure (Xx16,Xx15,Xx15,Xx15.1,Xx15.2)
    ) (do
    let Xx17←mkB KM (#[.int .i64 0,.string ByteArray.empty,.int .i64 0,.int .i64 0]:Array Value)
    chk (fun h:Heap=>(KV h ((Xx10).add 0)=some (.string Xx12))∧(KV h ((Xx11).add 1)=some (.int .i64 Xx13)))
    let Xx18←KAo Xx14
    M.pure (Xx17,Xx18,Xx18,Xx18.1,Xx18.2)
    )
  M.need (y_19.2.2.2.1.size=4)
  stG y_19.1 y_19.2.2.2.1
  let Xx22←nilP x0
  let Xx23←ldI .i64 ((Xx22).add 1)
  stV ((y_19.1).add 3) (.int .i64 Xx23)
  let Xx27←M.ite (y_19.2.2.2.2 == 0) (do
   M.pure true
   ) (do
   let Xx28←ldG 4 y_19.1
   let Xx29←GD Xx28
   M.pure (Xx29 != 0)
   )
  M.ite Xx27 (do
   M.need ((#[.int .i64 0,.string ByteArray.empty,.int .i64 0,.int .i64 0]:Array Value).size=4)
   stG Xx2 (#[.int .i64 0,.string ByteArray.empty,.int .i64 0,.int .i64 0]:Array Value)
   let Rr32←ldG 4 Xx2
   M.pure (Rr32,false)
   ) (do
   let Xx34←nilP x0
   let Xx35←ldI .i64 ((Xx34).add 1)
   let Xx36←nilP x0
   stV ((Xx36).add 1) (.int .i64 (IntKind.wrap .i64 (Xx35+y_19.2.2.2.2)))
   let Xx39←ldG 4 y_19.1
   M.need (Xx39.size=4)
   stG Xx2 Xx39
   let Rr41←ldG 4 Xx2
   M.pure (Rr41,true)
   )
  )
theorem qo (x0:Option Addr):Ky Go.Proofs.Tryz.prog 93 #[.pointer x0] (fun (r:Array Value × Bool)=>.tuple #[.agg r.1,.bool r.2]) (J3 x0):=by
 refine KBw [(0,.pointer x0)] Go.Proofs.Tryz.func93 rfl rfl (Nat.le_of_ble_eq_true rfl) (VI ⟨rfl,trivial⟩) (fun w0 w Q R a hret hE hR H=>?_)
 unfold J3 at H
 refine KZ (fun K hK_1=>?_)
 refine KE ?_
 obtain ⟨Xx2,qXx2,H⟩:=H
 refine Uv (v:=.pointer (some Xx2)) rfl rfl hE rfl hR (UM zr29 qXx2) (fun a w hE hR hh=>?_)
 replace H:=M.at hh H; clear hh
 refine KD (v:=.bool false) rfl rfl hE rfl (Ka hE rfl) (fun a hE=>?_)
 refine KY ?_
 refine hK_1 _ _ ?_
 refine KZ (fun K hK_3=>?_)
 refine KZ (fun K hK_4=>?_)
 refine KE ?_
 refine KD (v:=.pointer x0) rfl rfl hE rfl (KG hE rfl) (fun a hE=>?_)
 refine UO hE hR WW rfl (Ws x0) (M.unbind H) (fun Xx5 a w ea hR H=>?_)
 have hE:=Env.put_some hE rfl ea; clear ea
 refine KD (v:=.bool (!Xx5)) rfl rfl hE rfl (r_un hE rfl KGH) (fun a hE=>?_)
 refine KY ?_
 refine hK_4 _ _ ?_
 refine Z0 (!Xx5) hE rfl (fun hb=>?_) (fun hb=>?_)
 ·replace H:=M.ite_t hb H
  refine KZ (fun K hK_6=>?_)
  refine KE ?_
  refine KD (v:=.agg (#[.int .i64 0,.string ByteArray.empty,.int .i64 0,.int .i64 0]:Array Value)) rfl rfl hE rfl (z8 bd29) (fun a hE=>?_)
  obtain ⟨qz,H⟩:=H
  obtain ⟨u_7,qu_7,H⟩:=H
  refine UN rfl rfl hE hR (Z1 hE rfl rfl sz29 qz qu_7) (fun a w hE hR hh=>?_)
  replace H:=M.at hh H; clear hh
  refine KD (v:=.bool false) rfl rfl hE rfl (Ka hE rfl) (fun a hE=>?_)
  refine KY ?_
  refine hK_6 _ _ ?_
  refine VT ?_
  obtain ⟨Rr8,qRr8,H⟩:=H
  exact hret _ _ _ (Rr8,false) _ hE hR (Zc hE rfl (RV.cellG rfl ag29 qRr8 (RV.tmp rfl RV.nil))) rfl H
 ·replace H:=M.ite_f hb H
  refine Jm ?_
  refine hK_3 _ _ ?_
  refine KZ (fun K hK_9=>?_)
  obtain ⟨Xx10,qXx10,H⟩:=H
  obtain ⟨Xx11,qXx11,H⟩:=H
  obtain ⟨Xx12,qXx12,H⟩:=H
  obtain ⟨Xx13,qXx13,H⟩:=H
  obtain ⟨Xx14,qXx14,H⟩:=H
  refine Y0 (rops:=KJK) (by kernel_rfl) ?_
  have hT:Tab KJK _ _ _:=Wo KLh rfl (by kernel_rfl)
  have hM:=TabM.of KKH
  refine Ux (m:=16) (fun w:World=>(fun h:Heap=>(KV h ((Xx10).add 0)=some (.string Xx12))∧(KV h ((Xx11).add 1)=some (.int .i64 Xx13))) w.heap) [8,9,10,11,12,14,15] (unb 16 0) mo hR (by kernel_rfl) (by kernel_rfl) (fun w' e=>by rw [e]; exact ⟨qXx12,qXx13⟩) (fun w hh hR hs=>?_)
  replace H:=M.at hh H; clear hh
  refine KB (i:=0) (v:=.pointer x0) (unb 16 1) rfl rfl hT (anyM hM (by kernel_rfl)) hE rfl (KA rfl) (fun w=>KG hE rfl) (fun a hE=>?_)
  refine KB (i:=1) (v:=.pointer (some Xx10)) (unb 16 3) rfl rfl hT (anyM hM (by kernel_rfl)) hE rfl (KA rfl) (fun w=>KN hE (JC rfl (congrArg Value.pointer qXx10))) (fun a hE=>?_)
  refine KB (i:=2) (v:=.pointer (some ((Xx10).add 0))) (unb 16 7) rfl rfl hT (anyM hM (by kernel_rfl)) hE rfl (KA rfl) (fun w=>KL hE rfl KLa) (fun a hE=>?_)
  refine KB (i:=4) (v:=.pointer x0) (unb 16 23) rfl rfl hT (anyM hM (by kernel_rfl)) hE rfl (KA rfl) (fun w=>KG hE rfl) (fun a hE=>?_)
  refine KB (i:=5) (v:=.pointer (some Xx11)) (unb 16 55) rfl rfl hT (anyM hM (by kernel_rfl)) hE rfl (KA rfl) (fun w=>KN hE (JC rfl (congrArg Value.pointer qXx11))) (fun a hE=>?_)
  refine KB (i:=6) (v:=.pointer (some ((Xx11).add 1))) (unb 16 119) rfl rfl hT (anyM hM (by kernel_rfl)) hE rfl (KA rfl) (fun w=>KL hE rfl KDS) (fun a hE=>?_)
  refine J4 (i:=3) (v:=.string Xx12) (unb 16 127) rfl rfl hT (WL hM (by kernel_rfl)) hE rfl (KA rfl) hs (fun w s=>ZB hE rfl sc9 s.1) (fun a hE=>?_)
  refine J4 (i:=7) (v:=.int .i64 Xx13) (unb 16 255) rfl rfl hT (WL hM (by kernel_rfl)) hE rfl (KA rfl) hs (fun w s=>ZB hE rfl sc3 s.2) (fun a hE=>?_)
  refine KB (i:=8) (v:=.string Xx14) (unb 16 511) rfl rfl hT (anyM hM (by kernel_rfl)) hE rfl (KA rfl) (fun w=>KBc hE rfl rfl un9 qXx14) (fun a hE=>?_)
  refine KKk (n:=(⟨45,[]⟩:Frm)) (w0:=w0) (fun y_19:Addr × (Array Value × Int) × (Array Value × Int) × Array Value × Int=>[(0,.pointer x0),(2,.pointer (some Xx2)),(3,.bool false),(6,.pointer x0),(7,.bool Xx5),(8,.bool (!Xx5)),(11,.pointer x0),(12,.pointer (some Xx10)),(13,.pointer (some ((Xx10).add 0))),(15,.pointer x0),(16,.pointer (some Xx11)),(17,.pointer (some ((Xx11).add 1))),(14,.string Xx12),(18,.int .i64 Xx13),(19,.string Xx14),(4,.pointer (some y_19.1)),(10,.tuple #[.agg y_19.2.1.1,.int .i64 y_19.2.1.2]),(20,.tuple #[.agg y_19.2.2.1.1,.int .i64 y_19.2.2.1.2]),(21,.agg y_19.2.2.2.1),(22,.int .i64 y_19.2.2.2.2)]) 2 (unb 16 16383) (M.unbind H) ?_ ?_
  ·intro y_19 a w hE hR H
   obtain ⟨qz,H⟩:=H
   obtain ⟨u_20,qu_20,H⟩:=H
   refine KAR (i:=14) (unb 16 32767) rfl rfl hT (oneM hM (by kernel_rfl)) rfl hE hR (KA rfl) (Z1 hE rfl rfl sz29 qz qu_20)  (fun a w hE hR hh=>?_)
   replace H:=M.at hh H; clear hh
   refine KB (i:=15) (v:=.int .i64 y_19.2.2.2.2) (unb 16 65535) rfl rfl hT (anyM hM (by kernel_rfl)) hE rfl (KA rfl) (fun w=>Ka hE rfl) (fun a hE=>?_)
   refine Vt hT (GU hM (by kernel_rfl)) ?_
   refine hK_9 _ _ ?_
   refine KZ (fun K hK_21=>?_)
   refine KE ?_
   refine KD (v:=.pointer x0) rfl rfl hE rfl (KG hE rfl) (fun a hE=>?_)
   obtain ⟨Xx22,qXx22,H⟩:=H
   refine KD (v:=.pointer (some Xx22)) rfl rfl hE rfl (KN hE (JC rfl (congrArg Value.pointer qXx22))) (fun a hE=>?_)
   refine KD (v:=.pointer (some ((Xx22).add 1))) rfl rfl hE rfl (KL hE rfl KDS) (fun a hE=>?_)
   obtain ⟨Xx23,qXx23,H⟩:=H
   refine KD (v:=.int .i64 Xx23) rfl rfl hE rfl (ZB hE rfl sc3 qXx23) (fun a hE=>?_)
   refine KD (v:=.pointer (some ((y_19.1).add 3))) rfl rfl hE rfl (KL hE rfl KJJ) (fun a hE=>?_)
   obtain ⟨u_24,qu_24,H⟩:=H
   refine UN rfl rfl hE hR (Zb hE rfl rfl sz3 qu_24) (fun a w hE hR hh=>?_)
   replace H:=M.at hh H; clear hh
   refine KY ?_
   refine hK_21 _ _ ?_
   refine KZ (fun K hK_25=>?_)
   refine KZ (fun K hK_26=>?_)
   refine KE ?_
   refine KD (v:=.int .i64 y_19.2.2.2.2) rfl rfl hE rfl (KG hE rfl) (fun a hE=>?_)
   refine KD (v:=.bool (y_19.2.2.2.2 == 0)) rfl rfl hE rfl (ZK hE rfl rfl ZG Yp) (fun a hE=>?_)
   refine KD (v:=.bool (y_19.2.2.2.2 == 0)) rfl rfl hE rfl (KG hE rfl) (fun a hE=>?_)
   refine KB1 (n:=(⟨45,[]⟩:Frm)) (w0:=w0) 4 (fun Xx27:Bool=>[(0,.pointer x0),(2,.pointer (some Xx2)),(4,.pointer (some y_19.1)),(5,.int .i64 y_19.2.2.2.2),(34,.bool Xx27)]) (M.unbind H) (fun Kr hKr H=>?_) ?_
   ·rcases Ub (y_19.2.2.2.2 == 0) with hb | hb
    ·replace H:=M.ite_t hb H
     have hE:=hE.reb 30 (y_19.2.2.2.2 == 0) true hb rfl
     refine YS rfl hE rfl rfl rfl (fun a ea=>?_)
     have hE:=Env.put_some hE rfl ea; clear ea
     refine YS rfl hE rfl rfl rfl (fun a ea=>?_)
     have hE:=Env.put_some hE rfl ea; clear ea
     refine YS rfl hE rfl rfl rfl (fun a ea=>?_)
     have hE:=Env.put_some hE rfl ea; clear ea
     refine KD rfl rfl hE rfl (JQ hE rfl rfl) (fun a hE=>?_)
     refine KY ?_
     exact hKr _ _ _ (hE.cut (.cons rfl (.cons rfl (.cons rfl (.cons rfl (.cons rfl Subs.nil)))))) hR H
    ·replace H:=M.ite_f hb H
     have hE:=hE.reb 30 (y_19.2.2.2.2 == 0) false hb rfl
     refine t_on rfl hE rfl rfl rfl ?_
     obtain ⟨Xx28,qXx28,H⟩:=H
     refine KD (v:=.agg Xx28) rfl rfl hE rfl (Xk hE rfl ag29 qXx28) (fun a hE=>?_)
     refine t_on rfl hE rfl rfl rfl ?_
     refine UO hE hR KDM rfl (KEQ Xx28) (M.unbind H) (fun Xx29 a w ea hR H=>?_)
     have hE:=Env.put_some hE rfl ea; clear ea
     refine t_on rfl hE rfl rfl rfl ?_
     refine KD (v:=.bool (Xx29 != 0)) rfl rfl hE rfl (ZK hE rfl rfl ZG KC6) (fun a hE=>?_)
     refine KD rfl rfl hE rfl (Zr hE rfl rfl) (fun a hE=>?_)
     refine KY ?_
     exact hKr _ _ _ (hE.cut (.cons rfl (.cons rfl (.cons rfl (.cons rfl (.cons rfl Subs.nil)))))) hR H
   ·intro Xx27 a w hE hR H
    refine KY ?_
    refine hK_26 _ _ ?_
    refine Z0 Xx27 hE rfl (fun hb=>?_) (fun hb=>?_)
    ·replace H:=M.ite_t hb H
     refine KZ (fun K hK_30=>?_)
     refine KE ?_
     refine KD (v:=.agg (#[.int .i64 0,.string ByteArray.empty,.int .i64 0,.int .i64 0]:Array Value)) rfl rfl hE rfl (z8 bd29) (fun a hE=>?_)
     obtain ⟨qz,H⟩:=H
     obtain ⟨u_31,qu_31,H⟩:=H
     refine UN rfl rfl hE hR (Z1 hE rfl rfl sz29 qz qu_31) (fun a w hE hR hh=>?_)
     replace H:=M.at hh H; clear hh
     refine KD (v:=.bool false) rfl rfl hE rfl (Ka hE rfl) (fun a hE=>?_)
     refine KY ?_
     refine hK_30 _ _ ?_
     refine VT ?_
     obtain ⟨Rr32,qRr32,H⟩:=H
     exact hret _ _ _ (Rr32,false) _ hE hR (Zc hE rfl (RV.cellG rfl ag29 qRr32 (RV.tmp rfl RV.nil))) rfl H
    ·replace H:=M.ite_f hb H
     refine Jm ?_
     refine hK_25 _ _ ?_
     refine KZ (fun K hK_33=>?_)
     refine KE ?_
     refine KD (v:=.pointer x0) rfl rfl hE rfl (KG hE rfl) (fun a hE=>?_)
     obtain ⟨Xx34,qXx34,H⟩:=H
     refine KD (v:=.pointer (some Xx34)) rfl rfl hE rfl (KN hE (JC rfl (congrArg Value.pointer qXx34))) (fun a hE=>?_)
     refine KD (v:=.pointer (some ((Xx34).add 1))) rfl rfl hE rfl (KL hE rfl KDS) (fun a hE=>?_)
     obtain ⟨Xx35,qXx35,H⟩:=H
     refine KD (v:=.int .i64 Xx35) rfl rfl hE rfl (ZB hE rfl sc3 qXx35) (fun a hE=>?_)
     refine KD (v:=.int .i64 y_19.2.2.2.2) rfl rfl hE rfl (KG hE rfl) (fun a hE=>?_)
     refine KD (v:=.int .i64 (IntKind.wrap .i64 (Xx35+y_19.2.2.2.2))) rfl rfl hE rfl (ZK hE rfl rfl ZG Xl) (fun a hE=>?_)
     obtain ⟨Xx36,qXx36,H⟩:=H
     refine KD (v:=.pointer (some Xx36)) rfl rfl hE rfl (KN hE (JC rfl (congrArg Value.pointer qXx36))) (fun a hE=>?_)
     refine KD (v:=.pointer (some ((Xx36).add 1))) rfl rfl hE rfl (KL hE rfl KDS) (fun a hE=>?_)
     obtain ⟨u_37,qu_37,H⟩:=H
     refine UN rfl rfl hE hR (Zb hE rfl rfl sz3 qu_37) (fun a w hE hR hh=>?_)
     replace H:=M.at hh H; clear hh
     refine KY ?_
     refine hK_33 _ _ ?_
     refine KZ (fun K hK_38=>?_)
     refine KE ?_
     obtain ⟨Xx39,qXx39,H⟩:=H
     refine KD (v:=.agg Xx39) rfl rfl hE rfl (Xk hE rfl ag29 qXx39) (fun a hE=>?_)
     obtain ⟨qz,H⟩:=H
     obtain ⟨u_40,qu_40,H⟩:=H
     refine UN rfl rfl hE hR (Z1 hE rfl rfl sz29 qz qu_40) (fun a w hE hR hh=>?_)
     replace H:=M.at hh H; clear hh
     refine KD (v:=.bool true) rfl rfl hE rfl (Ka hE rfl) (fun a hE=>?_)
     refine KY ?_
     refine hK_38 _ _ ?_
     refine VT ?_
     obtain ⟨Rr41,qRr41,H⟩:=H
     exact hret _ _ _ (Rr41,true) _ hE hR (Zc hE rfl (RV.cellG rfl ag29 qRr41 (RV.tmp rfl RV.nil))) rfl H
  ·intro hj H
   refine KKl [9,13] hT (by kernel_rfl) rfl (fun i hi=>?_)
   simp only [List.mem_cons,List.not_mem_nil,or_false] at hi
   rcases hi with rfl | rfl
   ·replace H:=H.1
    refine KKm (S:=fun w:World=>(fun h:Heap=>(KV h ((Xx10).add 0)=some (.string Xx12))∧(KV h ((Xx11).add 1)=some (.int .i64 Xx13))) w.heap) (i:=9) (unb 16 1023) rfl rfl rfl (by kernel_rfl) hE hR (KA rfl) KBj rfl (KDd Xx14) (M.unbind H) (fun r h H w' e=>by obtain ⟨_,sA,H⟩:=H; rw [e]; exact sA) (fun Xx15 a w ea hR H hs=>?_)
    obtain ⟨_,sA,H⟩:=H; clear sA
    have hE:=Env.put_some hE rfl ea; clear ea
    refine KB (i:=10) (v:=.tuple #[.agg Xx15.1,.int .i64 Xx15.2]) (unb 16 2047) rfl rfl hT (anyM hM (by kernel_rfl)) hE rfl (KA rfl) (fun w=>KG hE rfl) (fun a hE=>?_)
    refine KB (i:=11) (v:=.agg Xx15.1) (unb 16 4095) rfl rfl hT (anyM hM (by kernel_rfl)) hE rfl (KA rfl) (fun w=>Uh hE rfl rfl) (fun a hE=>?_)
    refine KB (i:=12) (v:=.int .i64 Xx15.2) (unb 16 8191) rfl rfl hT (anyM hM (by kernel_rfl)) hE rfl (KA rfl) (fun w=>Uh hE rfl rfl) (fun a hE=>?_)
    obtain ⟨Xx16,qXx16,H⟩:=H
    obtain ⟨_,sA,H⟩:=H
    refine KKn (i:=13) (v:=.pointer (some Xx16)) (unb 16 16383) rfl rfl hT (oneM hM (by kernel_rfl)) rfl hE hR rfl (KA rfl) (UM zr29 qXx16)  (fun w' e=>by rw [e]; exact sA) (fun a w hE hR hh hs=>?_)
    replace H:=M.at hh H; clear hh
    exact hj _ _ _ (hE.cut (.cons rfl (.cons rfl (.cons rfl (.cons rfl (.cons rfl (.cons rfl (.cons rfl (.cons rfl (.cons rfl (.cons rfl (.cons rfl (.cons rfl (.cons rfl (.cons rfl (.cons rfl (.cons rfl (.cons rfl (.cons rfl (.cons rfl (.cons rfl Subs.nil))))))))))))))))))))) hR H
   ·replace H:=H.2
    obtain ⟨Xx17,qXx17,H⟩:=H
    obtain ⟨_,sA,H⟩:=H
    refine KKo (S:=fun w:World=>(fun h:Heap=>(KV h ((Xx10).add 0)=some (.string Xx12))∧(KV h ((Xx11).add 1)=some (.int .i64 Xx13))) w.heap) (i:=13) (v:=.pointer (some Xx17)) (unb 16 8703) rfl rfl (by kernel_rfl) hE hR rfl (KA rfl) (UM zr29 qXx17)  (fun w' e=>by rw [e]; exact sA) (fun a w hE hR hh hs=>?_)
    replace H:=M.at hh H; clear hh
    refine XQ (i:=9) (unb 16 9215) rfl rfl rfl hT (oneM hM (by kernel_rfl)) rfl hE hR (KA rfl) KBj rfl (KDd Xx14) (M.unbind H) (fun Xx18 a w ea hR H=>?_)
    have hE:=Env.put_some hE rfl ea; clear ea
    refine KB (i:=10) (v:=.tuple #[.agg Xx18.1,.int .i64 Xx18.2]) (unb 16 10239) rfl rfl hT (anyM hM (by kernel_rfl)) hE rfl (KA rfl) (fun w=>KG hE rfl) (fun a hE=>?_)
    refine KB (i:=11) (v:=.agg Xx18.1) (unb 16 12287) rfl rfl hT (anyM hM (by kernel_rfl)) hE rfl (KA rfl) (fun w=>Uh hE rfl rfl) (fun a hE=>?_)
    refine KB (i:=12) (v:=.int .i64 Xx18.2) (unb 16 16383) rfl rfl hT (anyM hM (by kernel_rfl)) hE rfl (KA rfl) (fun w=>Uh hE rfl rfl) (fun a hE=>?_)
    exact hj _ _ _ (hE.cut (.cons rfl (.cons rfl (.cons rfl (.cons rfl (.cons rfl (.cons rfl (.cons rfl (.cons rfl (.cons rfl (.cons rfl (.cons rfl (.cons rfl (.cons rfl (.cons rfl (.cons rfl (.cons rfl (.cons rfl (.cons rfl (.cons rfl (.cons rfl Subs.nil))))))))))))))))))))) hR H
noncomputable def qp:CalleeS Go.Proofs.Tryz.prog:=mkC NN NV [.P] [.G,.B] (fun (t:Option Addr)=>J3 t) (fun (t:Option Addr)=>qo t)
end Gx
namespace Gx
open Go
set_option linter.unusedVariables false
set_option maxRecDepth 100000
def VS (C1:Value) (C2:Addr) (self1:(Unit)→M (Unit)):(Unit)→M (Unit):=fun s=>match s with
 | ()=>do
  let Xx5←ldP C2
  let Xx6←J3 Xx5
  let Xx7←mkB KM (#[.int .i64 0,.string ByteArray.empty,.int .i64 0,.int .i64 0]:Array Value)
  M.need (Xx6.1.size=4)
  stG Xx7 Xx6.1
  let Xx10←M.ite (!Xx6.2) (do
   M.pure true
   ) (do
   let Xx11←ldG 4 Xx7
   let Xx12←Vu Go.Proofs.Tryz.prog (fun r:Bool=>.bool r) C1 [.agg Xx11]
   M.pure (!Xx12)
   )
  M.ite Xx10 (do
   M.pure ()
   ) (do
   self1 ()
   )
def XF (x0:Value) (x1:Addr):M (Unit):=do
 M.loop (VS x0 x1) ()
theorem Nz (x0:Value) (x1:Addr):Ky Go.Proofs.Tryz.prog 92 #[x0,.pointer (some x1)] (fun (r:Unit)=>.tuple #[]) (XF x0 x1) :=
 KQ [qp] [6] [] [(0,.V x0),(1,.A x1)] (.b (.l [(0,.V),(1,.A)] [] (fun (t:Value × Addr)=>VS t.1 t.2) (fun _=>.o))) Go.Proofs.Tryz.func92 rfl rfl ⟨rfl,rfl,trivial⟩ rfl (by kernel_rfl) (by kernel_rfl)
def WA (C5:Sl) (C6:Int) (self1:(Int)→M (Bool)):(Int)→M (Bool):=fun s=>match s with
 | Xx4=>do
  M.ite (decide (Xx4 < (C5.len:Int))) (do
   let Xx12←ixL C5 Xx4 4
   let Xx13←ldG 4 Xx12
   let Xx14←XN Go.Proofs.Tryz.prog Ur #[.agg Xx13,.int .i64 (IntKind.wrap .i64 (C6+1))] (fun r:Bool=>.bool r)
   M.ite (!Xx14) (do
    M.pure false
    ) (do
    self1 (IntKind.wrap .i64 (Xx4+1))
    )
   ) (do
   M.pure true
   )
def YM (x0:Sl) (x1:Int):M (Bool):=do
 M.loop (WA x0 x1) 0
theorem zW (x0:Sl) (x1:Int):Ky Go.Proofs.Tryz.prog 109 #[(x0:Sl).v,.int .i64 x1] (fun (r:Bool)=>.bool r) (YM x0 x1) :=
 KQ [mkC Ur Yi [.G,.I .i64] [.B] (fun (t:Array Value × Int)=>XN Go.Proofs.Tryz.prog Ur #[.agg t.1,.int .i64 t.2] (fun r:Bool=>.bool r)) (fun (t:Array Value × Int)=>Va)] [] [.B] [(0,.L x0),(1,.I .i64 x1)] (.q .o (.q (.q .o (.b (.l [(0,.L),(1,.I .i64)] [(5,.I .i64)] (fun (t:Sl × Int)=>WA t.1 t.2) (fun _=>.o)))) .o)) Go.Proofs.Tryz.func109 rfl rfl ⟨rfl,rfl,trivial⟩ rfl (by kernel_rfl) (by kernel_rfl)
def WB (C6:Addr) (C7:Addr):M (Array Value):=do
 let Xx9←ldG 4 C7
 M.need (Xx9.size=4)
 stG C6 Xx9
 let Rr11←ldG 4 C6
 M.pure Rr11
def XG (x0:Bool):M (Array Value):=do
 let Xx2←mkB KF (#[.int .i64 0,.int .i64 0,.string ByteArray.empty,.slice none 0 0]:Array Value)
 let Xx4←mkB KF (#[.int .i64 0,.int .i64 0,.string ByteArray.empty,.slice none 0 0]:Array Value)
 M.need ((#[.int .i64 3,.int .i64 0,.string ByteArray.empty,.slice none 0 0]:Array Value).size=4)
 stG Xx4 (#[.int .i64 3,.int .i64 0,.string ByteArray.empty,.slice none 0 0]:Array Value)
 M.ite x0 (do
  stV ((Xx4).add 1) (.int .i64 1)
  WB Xx2 Xx4
  ) (do
  WB Xx2 Xx4
  )
theorem zp (x0:Bool):Ky Go.Proofs.Tryz.prog 152 #[.bool x0] (fun (r:Array Value)=>.agg r) (XG x0) :=
 KQ [] [] [.G] [(0,.B x0)] (.q .o (.q .o (.q .o (.j [(2,.A),(3,.A)] (fun (t:Addr × Addr)=>WB t.1 t.2) .o)))) Go.Proofs.Tryz.func152 rfl rfl ⟨rfl,trivial⟩ rfl (by kernel_rfl) (by kernel_rfl)
def Jx (C14:Option Addr) (C15:Int) (C16:ByteArray) (C17:Int) (self1:(Sl)→M (Sl)):(Sl)→M (Sl):=fun s=>match s with
 | Xx13=>do
  let Xx21←nilP C14
  let Xx22←ldI .i64 ((Xx21).add 2)
  M.ite (decide (Xx22 < 0)) (do
   let Xx24←XN Go.Proofs.Tryz.prog ZY #[.pointer C14,.int .i64 (IntKind.wrap .i64 (C15+1))] (fun r:Array Value=>.agg r)
   let y_26←GV 4 1 (#[.int .i64 0,.int .i64 0,.string ByteArray.empty,.slice none 0 0]:Array Value) [(0,.agg Xx24)]
   let Xx25←bdL KF 1 y_26
   let Xx27←apL KF 4 56 (#[.int .i64 0,.int .i64 0,.string ByteArray.empty,.slice none 0 0]:Array Value) Xx13 Xx25
   let Xx29←M.ite (sEq C16 (⟨#[44,32]⟩:ByteArray)) (do
    M.pure true
    ) (do
    M.pure ((Int.tmod (Xx27.len:Int) 2) == 0)
    )
   let Xx32←M.ite Xx29 (do
    let Xx33←KS C14
    M.pure (Xx33 == C17)
    ) (do
    M.pure false
    )
   M.ite Xx32 (do
    let Xx35←nilP C14
    let Xx36←ldI .i64 ((Xx35).add 1)
    let Xx37←nilP C14
    stV ((Xx37).add 1) (.int .i64 (IntKind.wrap .i64 (Xx36+1)))
    M.pure Xx27
    ) (do
    M.ite ((Int.tmod (Xx27.len:Int) 2) == 1) (do
     let Xx41←KO C14 C16
     self1 Xx27
     ) (do
     let Xx42←KO C14 (⟨#[44,32]⟩:ByteArray)
     self1 Xx27
     )
    )
   ) (do
   M.pure Sl.nil
   )
def Uf (x0:Option Addr) (x1:Int) (x2:ByteArray) (x3:Int):M (Sl):=do
 let Xx5←KS x0
 M.ite (Xx5 == x3) (do
  let Xx7←nilP x0
  let Xx8←ldI .i64 ((Xx7).add 1)
  let Xx9←nilP x0
  stV ((Xx9).add 1) (.int .i64 (IntKind.wrap .i64 (Xx8+1)))
  M.pure Sl.nil
  ) (do
  M.loop (Jx x0 x1 x2 x3) Sl.nil
  )
theorem VV (x0:Option Addr) (x1:Int) (x2:ByteArray) (x3:Int):Ky Go.Proofs.Tryz.prog 187 #[.pointer x0,.int .i64 x1,.string x2,.int .u8 x3] (fun (r:Sl)=>(r:Sl).v) (Uf x0 x1 x2 x3) :=
 KQ [mkC ZY U1 [.P,.I .i64] [.G] (fun (t:Option Addr × Int)=>XN Go.Proofs.Tryz.prog ZY #[.pointer t.1,.int .i64 t.2] (fun r:Array Value=>.agg r)) (fun (t:Option Addr × Int)=>Va),ZP,JR] [0,11,15,22,28,44,49,61,64] [.L] [(0,.P x0),(1,.I .i64 x1),(2,.S x2),(3,.I .u8 x3)] (.q .o (.q .o (.q .o (.q (.b (.l [(0,.P),(1,.I .i64),(2,.S),(3,.I .u8)] [(9,.L)] (fun (t:Option Addr × Int × ByteArray × Int)=>Jx t.1 t.2.1 t.2.2.1 t.2.2.2) (fun _=>.o))) .o)))) Go.Proofs.Tryz.func187 rfl rfl ⟨rfl,rfl,rfl,rfl,trivial⟩ rfl (by kernel_rfl) (by kernel_rfl)
def KAp (x0:Array Value) (x1:Addr):M (Bool):=do
 let Xx2←mkB KF x0
 let Xx4←ldG 4 Xx2
 let Xx5←ldI .i64 x1
 let Xx6←YK Xx4 (IntKind.wrap .i64 (Xx5+1))
 M.pure (!Xx6)
theorem KCa (x0:Array Value) (x1:Addr):Ky Go.Proofs.Tryz.prog 221 #[.agg x0,.pointer (some x1)] (fun (r:Bool)=>.bool r) (KAp x0 x1) :=
 KQ [KAn] [] [.B] [(0,.G x0),(1,.A x1)] .o Go.Proofs.Tryz.func221 rfl rfl ⟨rfl,rfl,trivial⟩ rfl (by kernel_rfl) (by kernel_rfl)
def Kt (x0:Option Addr):M (Value ⊕ (Unit)):=do
 let Xx1←nilP x0
 let Xx2←ldI .i64 ((Xx1).add 1)
 M.pure (.inl (Value.iface Zz (.agg (#[.int .i64 Xx2]:Array Value))))
theorem ZD (x0:Option Addr):Yz Go.Proofs.Tryz.prog 228 #[.pointer x0] (fun (r:Unit)=>.tuple #[]) (Kt x0):=by
 refine WU [(0,.pointer x0)] Go.Proofs.Tryz.func228 rfl rfl (Nat.le_of_ble_eq_true rfl) (VI ⟨rfl,trivial⟩) (fun w0 w Q R X a hret hthr hE hR H=>?_)
 unfold Kt at H
 refine KE ?_
 refine KD (v:=.pointer x0) rfl rfl hE rfl (KG hE rfl) (fun a hE=>?_)
 obtain ⟨Xx1,qXx1,H⟩:=H
 refine KD (v:=.pointer (some Xx1)) rfl rfl hE rfl (KN hE (JC rfl (congrArg Value.pointer qXx1))) (fun a hE=>?_)
 refine KD (v:=.pointer (some ((Xx1).add 1))) rfl rfl hE rfl (KL hE rfl ZT) (fun a hE=>?_)
 obtain ⟨Xx2,qXx2,H⟩:=H
 refine KD (v:=.int .i64 Xx2) rfl rfl hE rfl (ZB hE rfl sc3 qXx2) (fun a hE=>?_)
 refine KD (v:=.agg (#[.int .i64 Xx2]:Array Value)) rfl rfl hE rfl (Yq hE rfl KLZ KMd (by rfl)) (fun a hE=>?_)
 refine KD (v:=(Value.iface Zz (.agg (#[.int .i64 Xx2]:Array Value)))) rfl rfl hE rfl (KDC hE rfl KMc) (fun a hE=>?_)
 exact KJx hE rfl (hthr _ _ hR H)
def Ki (x0:Option Addr):M (Int):=do
 let Xx4←nilP x0
 let Xx5←nilP x0
 let Xx6←ldI .i64 ((Xx4).add 1)
 let Xx7←ldS ((Xx5).add 0)
 M.ite (decide (Xx6 < (Xx7.size:Int))) (do
  let Xx9←nilP x0
  let Xx10←nilP x0
  let Xx11←ldS ((Xx9).add 0)
  let Xx12←ldI .i64 ((Xx10).add 1)
  let Xx13←ixS Xx11 Xx12
  M.pure Xx13
  ) (do
  M.pure 0
  )
theorem Kv (x0:Option Addr):Ky Go.Proofs.Tryz.prog 240 #[.pointer x0] (fun (r:Int)=>.int .u8 r) (Ki x0) :=
 KQ [] [0,3,7,13,17] [.I .u8] [(0,.P x0)] (.q .o (.q (.q (.r [0,1,2,4,0,16,32,64,128,264] [0,1,2,4,0,16,32,64,128,264] [0,1,3,7,0,16,48,112,240,511] (.pu 0 (.pu 1 (.pu 2 (.pu 4 (.pu 5 (.pu 6 (.pu 3 (.pu 7 (.pu 8 (.pu 9 (.st [9] .dn)))))))))))) (.q (.q (.r [0,1,2,4,0,16,32,64,136,511] [0,1,2,4,0,16,32,64,136,256] [0,1,3,7,0,16,48,112,255,511] (.pu 0 (.pu 1 (.pu 2 (.pu 4 (.pu 5 (.pu 6 (.pu 3 (.pu 7 (.pu 8 (.pu 9 (.st [8,9] .dn)))))))))))) .o) .o)) .o)) Go.Proofs.Tryz.func240 rfl rfl ⟨rfl,trivial⟩ rfl (by kernel_rfl) (by kernel_rfl)
def WR (x0:Int):M (Bool):=do
 let Xx3←M.ite (decide (x0 ≥ 48)) (do
  M.pure (decide (x0≤57))
  ) (do
  M.pure false
  )
 M.pure Xx3
theorem XY (x0:Int):Ky Go.Proofs.Tryz.prog 241 #[.int .u8 x0] (fun (r:Bool)=>.bool r) (WR x0) :=
 KQ [] [] [.B] [(0,.I .u8 x0)] .o Go.Proofs.Tryz.func241 rfl rfl ⟨rfl,trivial⟩ rfl (by kernel_rfl) (by kernel_rfl)
end Gx
namespace Gx
open Go
set_option linter.unusedVariables false
set_option maxRecDepth 100000
noncomputable def KGu:Array Oper:=KFj Go.Proofs.Tryz.f242 9
def KGv:List (List Nat):=[[],[0],[1],[2],[],[],[5],[6],[7],[8],[3,4,9],[10],[11],[12],[12],[13,11,0,1,2,3,4,5,6,7,8,9,10,11,12,13],[14,15,0,1,2,3,4,5,6,7,8,9,10,11,12,13,14,15]]
def KGw:List (List Nat):=[[],[0],[1],[2],[],[],[5],[6],[7],[8],[3,4,9],[10],[11],[12],[12],[13],[14]]
def KGx:List (List Nat):=[[],[0],[0,1],[0,1,2],[],[],[5],[5,6],[5,6,7],[5,6,7,8],[0,1,2,3,4,5,6,7,8,9],[0,1,2,3,4,5,6,7,8,9,10],[0,1,2,3,4,5,6,7,8,9,10,11],[0,1,2,3,4,5,6,7,8,9,10,11,12],[0,1,2,3,4,5,6,7,8,9,10,11,12],[0,1,2,3,4,5,6,7,8,9,10,11,12,13],[0,1,2,3,4,5,6,7,8,9,10,11,12,13,14,15]]
theorem KKI:KAP Go.Proofs.Tryz.f242 9 KGv KGw KGx=true:=by kernel_rfl
theorem KIQ:KB6 17 KGv KGw KGx [0,1,2,4,0,0,32,64,128,256,536,1024,2048,4096,4096,16383,65535] [0,1,2,4,0,0,32,64,128,256,536,1024,2048,4096,4096,8192,16384] [0,1,3,7,0,0,32,96,224,480,1023,2047,4095,8191,8191,16383,65535]=true:=by kernel_rfl
def JH (self1:(Int)→M (Value ⊕ (Int))) (C29:Option Addr) (C31:Int) (C32:Int) (C33:Int):M (Value ⊕ (Int)):=do
 M.ite (C33 != 0) (do
  M.pure (.inr C31)
  ) (do
  let Xx38←nilP C29
  let Xx39←ldI .i64 ((Xx38).add 1)
  let Xx40←nilP C29
  stV ((Xx40).add 1) (.int .i64 (IntKind.wrap .i64 (Xx39+1)))
  self1 C32
  )
def Jv (C15:Option Addr) (C16:Int) (self1:(Int)→M (Value ⊕ (Int))):(Int)→M (Value ⊕ (Int)):=fun s=>match s with
 | Xx14=>do
  let Xx20←Ki C15
  let Xx21←WR Xx20
  M.ite Xx21 (do
   let Xx23←nilP C15
   let Xx24←nilP C15
   let Xx25←ldS ((Xx23).add 0)
   let Xx26←ldI .i64 ((Xx24).add 1)
   let Xx27←slS Xx25 C16 (IntKind.wrap .i64 (Xx26+1))
   let Xx28←XN Go.Proofs.Tryz.prog KDK #[.string Xx27] (fun r:Int × Int=>.tuple #[.int .i64 r.1,.int .i64 r.2])
   M.ite (Xx28.2 == 7) (do
    thr (Kt C15) fun Xx43=>do
     JH self1 C15 Xx14 Xx28.1 Xx28.2
    ) (do
    JH self1 C15 Xx14 Xx28.1 Xx28.2
    )
   ) (do
   M.pure (.inr Xx14)
   )
def Zm (C10:Option Addr) (C11:Int):M (Value ⊕ (Int)):=do
 M.loop (Jv C10 C11) 0
def Zn (C5:Option Addr) (C6:Int):M (Value ⊕ (Int)):=do
 let Xx8←nilP C5
 let Xx9←ldI .i64 ((Xx8).add 1)
 let Xx46←Ki C5
 let Xx47←WR Xx46
 let Xx48←M.ite (!Xx47) (do
  M.pure true
  ) (do
  let Xx49←M.ite (decide (Xx9 > C6)) (do
   let Xx50←Ki C5
   M.pure (Xx50 == 48)
   ) (do
   M.pure false
   )
  M.pure Xx49
  )
 M.ite Xx48 (do
  thr (Kt C5) fun Xx51=>do
   Zm C5 C6
  ) (do
  Zm C5 C6
  )
def JK (x0:Option Addr):M (Value ⊕ (Int)):=do
 let Xx3←nilP x0
 let Xx4←ldI .i64 ((Xx3).add 1)
 let Xx53←Ki x0
 M.ite (Xx53 == 45) (do
  let Xx54←nilP x0
  let Xx55←ldI .i64 ((Xx54).add 1)
  let Xx56←nilP x0
  stV ((Xx56).add 1) (.int .i64 (IntKind.wrap .i64 (Xx55+1)))
  Zn x0 Xx4
  ) (do
  Zn x0 Xx4
  )
theorem Wa (x0:Option Addr):Yz Go.Proofs.Tryz.prog 242 #[.pointer x0] (fun (r:Int)=>.int .i64 r) (JK x0):=by
 refine WU [(0,.pointer x0)] Go.Proofs.Tryz.func242 rfl rfl (Nat.le_of_ble_eq_true rfl) (VI ⟨rfl,trivial⟩) (fun w0 w Q R X a hret hthr hE hR H=>?_)
 unfold JK at H
 refine KZ (fun K hK_1=>?_)
 refine KE ?_
 refine KD (v:=.int .i64 0) rfl rfl hE rfl (Ka hE rfl) (fun a hE=>?_)
 refine KY ?_
 refine hK_1 _ _ ?_
 refine KZ (fun K hK_2=>?_)
 refine KE ?_
 refine KD (v:=.pointer x0) rfl rfl hE rfl (KG hE rfl) (fun a hE=>?_)
 obtain ⟨Xx3,qXx3,H⟩:=H
 refine KD (v:=.pointer (some Xx3)) rfl rfl hE rfl (KN hE (JC rfl (congrArg Value.pointer qXx3))) (fun a hE=>?_)
 refine KD (v:=.pointer (some ((Xx3).add 1))) rfl rfl hE rfl (KL hE rfl ZT) (fun a hE=>?_)
 obtain ⟨Xx4,qXx4,H⟩:=H
 refine KD (v:=.int .i64 Xx4) rfl rfl hE rfl (ZB hE rfl sc3 qXx4) (fun a hE=>?_)
 refine KD (v:=.int .i64 Xx4) rfl rfl hE rfl (Ka hE rfl) (fun a hE=>?_)
 refine KY ?_
 refine hK_2 _ _ ?_
 refine Z6 (fun a w=>Env (⟨76,[]⟩:Frm) a [(0,.pointer x0),(3,.int .i64 Xx4)]∧Rest w0 w∧(Zn x0 Xx4).wp w.heap Q) ?_ ?_
 ·rintro a w ⟨hE,hR,H⟩
  unfold Zn at H
  refine KZ (fun K hK_7=>?_)
  refine KE ?_
  refine KD (v:=.pointer x0) rfl rfl hE rfl (KG hE rfl) (fun a hE=>?_)
  obtain ⟨Xx8,qXx8,H⟩:=H
  refine KD (v:=.pointer (some Xx8)) rfl rfl hE rfl (KN hE (JC rfl (congrArg Value.pointer qXx8))) (fun a hE=>?_)
  refine KD (v:=.pointer (some ((Xx8).add 1))) rfl rfl hE rfl (KL hE rfl ZT) (fun a hE=>?_)
  obtain ⟨Xx9,qXx9,H⟩:=H
  refine KD (v:=.int .i64 Xx9) rfl rfl hE rfl (ZB hE rfl sc3 qXx9) (fun a hE=>?_)
  refine KD (v:=.int .i64 Xx4) rfl rfl hE rfl (KG hE rfl) (fun a hE=>?_)
  refine KD (v:=.bool (decide (Xx9 > Xx4))) rfl rfl hE rfl (ZK hE rfl rfl ZG KB0) (fun a hE=>?_)
  refine KD (v:=.bool (decide (Xx9 > Xx4))) rfl rfl hE rfl (Ka hE rfl) (fun a hE=>?_)
  refine KY ?_
  refine hK_7 _ _ ?_
  refine Z6 (fun a w=>Env (⟨76,[]⟩:Frm) a [(0,.pointer x0),(3,.int .i64 Xx4)]∧Rest w0 w∧(Zm x0 Xx4).wp w.heap Q) ?_ ?_
  ·rintro a w ⟨hE,hR,H⟩
   unfold Zm at H
   refine KZ (fun K hK_12=>?_)
   refine KE ?_
   refine KD (v:=.int .i64 0) rfl rfl hE rfl (Ka hE rfl) (fun a hE=>?_)
   refine KY ?_
   refine hK_12 _ _ ?_
   refine KZ (fun K hK_13=>?_)
   refine VG ?_
   refine KC7 (fun (s:Int)=>(⟨76,[]⟩:Frm)) (fun (s:Int)=>[(0,.pointer x0),(3,.int .i64 Xx4),(5,.int .i64 s)]) H (hE.cut (.cons rfl (.cons rfl (.cons rfl Subs.nil)))) hR (fun Y self1 hY_17 Xx14 a w hE hR H=>?_)
   replace hE:Env (⟨76,[]⟩:Frm) a [(0,.pointer x0),(3,.int .i64 Xx4),(5,.int .i64 Xx14)]:=hE
   replace H:(Jv x0 Xx4 self1 Xx14).wp w.heap Q:=H
   unfold Jv at H
   refine KZ (fun K hK_18=>?_)
   refine KZ (fun K hK_19=>?_)
   refine KE ?_
   refine KD (v:=.pointer x0) rfl rfl hE rfl (KG hE rfl) (fun a hE=>?_)
   refine UO hE hR Kj rfl (Kv x0) (M.unbind H) (fun Xx20 a w ea hR H=>?_)
   have hE:=Env.put_some hE rfl ea; clear ea
   refine UO hE hR Yu rfl (XY Xx20) (M.unbind H) (fun Xx21 a w ea hR H=>?_)
   have hE:=Env.put_some hE rfl ea; clear ea
   refine KY ?_
   refine hK_19 _ _ ?_
   refine Z0 Xx21 hE rfl (fun hb=>?_) (fun hb=>?_)
   ·replace H:=M.ite_t hb H
    refine Jm ?_
    refine hK_18 _ _ ?_
    refine VG ?_
    refine KZ (fun K hK_22=>?_)
    obtain ⟨Xx23,qXx23,H⟩:=H
    obtain ⟨Xx24,qXx24,H⟩:=H
    obtain ⟨Xx25,qXx25,H⟩:=H
    obtain ⟨Xx26,qXx26,H⟩:=H
    obtain ⟨Xx27,qXx27,H⟩:=H
    refine Y0 (rops:=KGu) (by kernel_rfl) ?_
    have hT:Tab KGu _ _ _:=Wo KKI rfl (by kernel_rfl)
    have hM:=TabM.of KIQ
    refine Ux (m:=17) (fun w:World=>(fun h:Heap=>(KV h ((Xx23).add 0)=some (.string Xx25))∧(KV h ((Xx24).add 1)=some (.int .i64 Xx26))) w.heap) [10,11,12,13,14,15,16] (unb 17 0) mo hR (by kernel_rfl) (by kernel_rfl) (fun w' e=>by rw [e]; exact ⟨qXx25,qXx26⟩) (fun w hh hR hs=>?_)
    replace H:=M.at hh H; clear hh
    refine KB (i:=0) (v:=.pointer x0) (unb 17 1) rfl rfl hT (anyM hM (by kernel_rfl)) hE rfl (KA rfl) (fun w=>KG hE rfl) (fun a hE=>?_)
    refine KB (i:=1) (v:=.pointer (some Xx23)) (unb 17 3) rfl rfl hT (anyM hM (by kernel_rfl)) hE rfl (KA rfl) (fun w=>KN hE (JC rfl (congrArg Value.pointer qXx23))) (fun a hE=>?_)
    refine KB (i:=2) (v:=.pointer (some ((Xx23).add 0))) (unb 17 7) rfl rfl hT (anyM hM (by kernel_rfl)) hE rfl (KA rfl) (fun w=>KL hE rfl Wm) (fun a hE=>?_)
    refine KB (i:=4) (v:=.int .i64 Xx4) (unb 17 23) rfl rfl hT (anyM hM (by kernel_rfl)) hE rfl (KA rfl) (fun w=>KG hE rfl) (fun a hE=>?_)
    refine KB (i:=5) (v:=.pointer x0) (unb 17 55) rfl rfl hT (anyM hM (by kernel_rfl)) hE rfl (KA rfl) (fun w=>KG hE rfl) (fun a hE=>?_)
    refine KB (i:=6) (v:=.pointer (some Xx24)) (unb 17 119) rfl rfl hT (anyM hM (by kernel_rfl)) hE rfl (KA rfl) (fun w=>KN hE (JC rfl (congrArg Value.pointer qXx24))) (fun a hE=>?_)
    refine KB (i:=7) (v:=.pointer (some ((Xx24).add 1))) (unb 17 247) rfl rfl hT (anyM hM (by kernel_rfl)) hE rfl (KA rfl) (fun w=>KL hE rfl ZT) (fun a hE=>?_)
    refine J4 (i:=3) (v:=.string Xx25) (unb 17 255) rfl rfl hT (WL hM (by kernel_rfl)) hE rfl (KA rfl) hs (fun w s=>ZB hE rfl sc9 s.1) (fun a hE=>?_)
    refine J4 (i:=8) (v:=.int .i64 Xx26) (unb 17 511) rfl rfl hT (WL hM (by kernel_rfl)) hE rfl (KA rfl) hs (fun w s=>ZB hE rfl sc3 s.2) (fun a hE=>?_)
    refine KB (i:=9) (v:=.int .i64 (IntKind.wrap .i64 (Xx26+1))) (unb 17 1023) rfl rfl hT (anyM hM (by kernel_rfl)) hE rfl (KA rfl) (fun w=>ZK hE rfl rfl ZG Xl) (fun a hE=>?_)
    refine KB (i:=10) (v:=.string Xx27) (unb 17 2047) rfl rfl hT (anyM hM (by kernel_rfl)) hE rfl (KA rfl) (fun w=>KAT hE rfl rfl rfl un9 qXx27) (fun a hE=>?_)
    refine XQ (i:=11) (unb 17 4095) rfl rfl rfl hT (oneM hM (by kernel_rfl)) rfl hE hR (KA rfl) KDO rfl (Va) (M.unbind H) (fun Xx28 a w ea hR H=>?_)
    have hE:=Env.put_some hE rfl ea; clear ea
    refine KB (i:=12) (v:=.tuple #[.int .i64 Xx28.1,.int .i64 Xx28.2]) (unb 17 8191) rfl rfl hT (anyM hM (by kernel_rfl)) hE rfl (KA rfl) (fun w=>KG hE rfl) (fun a hE=>?_)
    refine KB (i:=13) (v:=.int .i64 Xx28.1) (unb 17 16383) rfl rfl hT (anyM hM (by kernel_rfl)) hE rfl (KA rfl) (fun w=>Uh hE rfl rfl) (fun a hE=>?_)
    refine KB (i:=14) (v:=.int .i64 Xx28.2) (unb 17 32767) rfl rfl hT (anyM hM (by kernel_rfl)) hE rfl (KA rfl) (fun w=>Uh hE rfl rfl) (fun a hE=>?_)
    refine KB (i:=15) (v:=.int .i64 Xx28.1) (unb 17 65535) rfl rfl hT (anyM hM (by kernel_rfl)) hE rfl (KA rfl) (fun w=>Ka hE rfl) (fun a hE=>?_)
    refine KB (i:=16) (v:=.int .i64 Xx28.2) (unb 17 131071) rfl rfl hT (anyM hM (by kernel_rfl)) hE rfl (KA rfl) (fun w=>Ka hE rfl) (fun a hE=>?_)
    refine Vt hT (GU hM (by kernel_rfl)) ?_
    refine hK_22 _ _ ?_
    refine Z6 (fun a w=>Env (⟨76,[]⟩:Frm) a [(0,.pointer x0),(3,.int .i64 Xx4),(5,.int .i64 Xx14),(6,.int .i64 Xx28.1),(7,.int .i64 Xx28.2)]∧Rest w0 w∧(JH self1 x0 Xx14 Xx28.1 Xx28.2).wp w.heap Q) ?_ ?_
    ·rintro a w ⟨hE,hR,H⟩
     unfold JH at H
     refine KZ (fun K hK_34=>?_)
     refine KZ (fun K hK_35=>?_)
     refine KE ?_
     refine KD (v:=.int .i64 Xx28.2) rfl rfl hE rfl (KG hE rfl) (fun a hE=>?_)
     refine KD (v:=.bool (Xx28.2 != 0)) rfl rfl hE rfl (ZK hE rfl rfl ZG KC6) (fun a hE=>?_)
     refine KY ?_
     refine hK_35 _ _ ?_
     refine Z0 (Xx28.2 != 0) hE rfl (fun hb=>?_) (fun hb=>?_)
     ·replace H:=M.ite_t hb H
      refine KZ (fun K hK_36=>?_)
      refine KE ?_
      refine KD (v:=.int .i64 Xx14) rfl rfl hE rfl (KG hE rfl) (fun a hE=>?_)
      refine KD (v:=.int .i64 Xx14) rfl rfl hE rfl (Ka hE rfl) (fun a hE=>?_)
      refine KY ?_
      refine hK_36 _ _ ?_
      refine VT ?_
      exact hret _ _ _ Xx14 _ hE hR (Zc hE rfl (RV.tmp rfl RV.nil)) rfl H
     ·replace H:=M.ite_f hb H
      refine Jm ?_
      refine hK_34 _ _ ?_
      refine KZ (fun K hK_37=>?_)
      refine KE ?_
      refine KD (v:=.int .i64 Xx28.1) rfl rfl hE rfl (KG hE rfl) (fun a hE=>?_)
      refine KD (v:=.int .i64 Xx28.1) rfl rfl hE rfl (Ka hE rfl) (fun a hE=>?_)
      refine KY ?_
      refine hK_37 _ _ ?_
      refine KE ?_
      refine KD (v:=.pointer x0) rfl rfl hE rfl (KG hE rfl) (fun a hE=>?_)
      obtain ⟨Xx38,qXx38,H⟩:=H
      refine KD (v:=.pointer (some Xx38)) rfl rfl hE rfl (KN hE (JC rfl (congrArg Value.pointer qXx38))) (fun a hE=>?_)
      refine KD (v:=.pointer (some ((Xx38).add 1))) rfl rfl hE rfl (KL hE rfl ZT) (fun a hE=>?_)
      obtain ⟨Xx39,qXx39,H⟩:=H
      refine KD (v:=.int .i64 Xx39) rfl rfl hE rfl (ZB hE rfl sc3 qXx39) (fun a hE=>?_)
      refine KD (v:=.int .i64 (IntKind.wrap .i64 (Xx39+1))) rfl rfl hE rfl (ZK hE rfl rfl ZG Xl) (fun a hE=>?_)
      obtain ⟨Xx40,qXx40,H⟩:=H
      refine KD (v:=.pointer (some Xx40)) rfl rfl hE rfl (KN hE (JC rfl (congrArg Value.pointer qXx40))) (fun a hE=>?_)
      refine KD (v:=.pointer (some ((Xx40).add 1))) rfl rfl hE rfl (KL hE rfl ZT) (fun a hE=>?_)
      obtain ⟨u_41,qu_41,H⟩:=H
      refine UN rfl rfl hE hR (Zb hE rfl rfl sz3 qu_41) (fun a w hE hR hh=>?_)
      replace H:=M.at hh H; clear hh
      refine KY ?_
      exact hY_17 Xx28.1 _ _ (hE.cut (.cons rfl (.cons rfl (.cons rfl Subs.nil)))) hR H
    ·skip
     refine KZ (fun K hK_42=>?_)
     refine KE ?_
     refine KD (v:=.int .i64 Xx28.2) rfl rfl hE rfl (KG hE rfl) (fun a hE=>?_)
     refine KD (v:=.bool (Xx28.2 == 7)) rfl rfl hE rfl (ZK hE rfl rfl ZG Yp) (fun a hE=>?_)
     refine KY ?_
     refine hK_42 _ _ ?_
     refine Z0 (Xx28.2 == 7) hE rfl (fun hb=>?_) (fun hb=>?_)
     ·replace H:=M.ite_t hb H
      refine KE ?_
      refine KD (v:=.pointer x0) rfl rfl hE rfl (KG hE rfl) (fun a hE=>?_)
      refine JI hE hR K0 rfl (ZD x0) H (fun _ _ hR HQ=>Xu.ne rfl (Xu.ne rfl (hthr _ _ hR HQ))) (fun Xx43 a w ea hR H=>?_)
      have hE:=Env.put_some hE rfl ea; clear ea
      refine KY ?_
      exact ⟨hE.cut (.cons rfl (.cons rfl (.cons rfl (.cons rfl (.cons rfl Subs.nil))))),hR,H⟩
     ·replace H:=M.ite_f hb H
      refine Jm ?_
      exact ⟨hE.cut (.cons rfl (.cons rfl (.cons rfl (.cons rfl (.cons rfl Subs.nil))))),hR,H⟩
   ·replace H:=M.ite_f hb H
    refine KAJ ?_
    refine Xu.same ?_
    refine hK_13 _ _ ?_
    refine KZ (fun K hK_44=>?_)
    refine KE ?_
    refine KD (v:=.int .i64 Xx14) rfl rfl hE rfl (KG hE rfl) (fun a hE=>?_)
    refine KD (v:=.int .i64 Xx14) rfl rfl hE rfl (Ka hE rfl) (fun a hE=>?_)
    refine KY ?_
    refine hK_44 _ _ ?_
    refine VT ?_
    exact hret _ _ _ Xx14 _ hE hR (Zc hE rfl (RV.tmp rfl RV.nil)) rfl H
  ·skip
   refine KZ (fun K hK_45=>?_)
   refine KE ?_
   refine KD (v:=.pointer x0) rfl rfl hE rfl (KG hE rfl) (fun a hE=>?_)
   refine UO hE hR Kj rfl (Kv x0) (M.unbind H) (fun Xx46 a w ea hR H=>?_)
   have hE:=Env.put_some hE rfl ea; clear ea
   refine UO hE hR Yu rfl (XY Xx46) (M.unbind H) (fun Xx47 a w ea hR H=>?_)
   have hE:=Env.put_some hE rfl ea; clear ea
   refine KD (v:=.bool (!Xx47)) rfl rfl hE rfl (r_un hE rfl KGH) (fun a hE=>?_)
   refine KD (v:=.bool (!Xx47)) rfl rfl hE rfl (KG hE rfl) (fun a hE=>?_)
   refine KB1 (n:=(⟨76,[]⟩:Frm)) (w0:=w0) 7 (fun Xx48:Bool=>[(0,.pointer x0),(3,.int .i64 Xx4),(39,.bool Xx48)]) (M.unbind H) (fun Kr hKr H=>?_) ?_
   ·rcases Ub (!Xx47) with hb | hb
    ·replace H:=M.ite_t hb H
     have hE:=hE.reb 32 (!Xx47) true hb rfl
     refine YS rfl hE rfl rfl rfl (fun a ea=>?_)
     have hE:=Env.put_some hE rfl ea; clear ea
     refine YS rfl hE rfl rfl rfl (fun a ea=>?_)
     have hE:=Env.put_some hE rfl ea; clear ea
     refine KEx rfl hE rfl rfl (fun b hb=>by cases hb) (fun a ea=>?_)
     have hE:=Env.put_some hE rfl ea; clear ea
     refine KEx rfl hE rfl rfl (fun b hb=>by cases hb) (fun a ea=>?_)
     have hE:=Env.put_some hE rfl ea; clear ea
     refine KEx rfl hE rfl rfl (fun b hb=>by cases hb) (fun a ea=>?_)
     have hE:=Env.put_some hE rfl ea; clear ea
     refine YS rfl hE rfl rfl rfl (fun a ea=>?_)
     have hE:=Env.put_some hE rfl ea; clear ea
     refine KD rfl rfl hE rfl (JQ hE rfl rfl) (fun a hE=>?_)
     refine KY ?_
     exact hKr _ _ _ (hE.cut (.cons rfl (.cons rfl (.cons rfl Subs.nil)))) hR H
    ·replace H:=M.ite_f hb H
     have hE:=hE.reb 32 (!Xx47) false hb rfl
     refine t_on rfl hE rfl rfl rfl ?_
     refine KD (v:=.bool (decide (Xx9 > Xx4))) rfl rfl hE rfl (KG hE rfl) (fun a hE=>?_)
     refine t_on rfl hE rfl rfl rfl ?_
     refine KD (v:=.bool (decide (Xx9 > Xx4))) rfl rfl hE rfl (KG hE rfl) (fun a hE=>?_)
     refine KB1 (n:=(⟨76,[]⟩:Frm)) (w0:=w0) 4 (fun Xx49:Bool=>[(0,.pointer x0),(3,.int .i64 Xx4),(32,.bool false),(38,.bool Xx49)]) (M.unbind H) (fun Kr hKr H=>?_) ?_
     ·rcases Ub (decide (Xx9 > Xx4)) with hb | hb
      ·replace H:=M.ite_t hb H
       have hE:=hE.reb 34 (decide (Xx9 > Xx4)) true hb rfl
       refine t_on rfl hE rfl rfl rfl ?_
       refine KD (v:=.pointer x0) rfl rfl hE rfl (KG hE rfl) (fun a hE=>?_)
       refine t_on rfl hE rfl rfl rfl ?_
       refine UO hE hR Kj rfl (Kv x0) (M.unbind H) (fun Xx50 a w ea hR H=>?_)
       have hE:=Env.put_some hE rfl ea; clear ea
       refine t_on rfl hE rfl rfl rfl ?_
       refine KD (v:=.bool (Xx50 == 48)) rfl rfl hE rfl (ZK hE rfl rfl ZG Yp) (fun a hE=>?_)
       refine t_on rfl hE rfl rfl rfl ?_
       refine KD rfl rfl hE rfl (JQ hE rfl rfl) (fun a hE=>?_)
       refine KY ?_
       exact hKr _ _ _ (hE.cut (.cons rfl (.cons rfl (.cons rfl (.cons rfl Subs.nil))))) hR H
      ·replace H:=M.ite_f hb H
       have hE:=hE.reb 34 (decide (Xx9 > Xx4)) false hb rfl
       refine YS rfl hE rfl rfl rfl (fun a ea=>?_)
       have hE:=Env.put_some hE rfl ea; clear ea
       refine YS rfl hE rfl rfl rfl (fun a ea=>?_)
       have hE:=Env.put_some hE rfl ea; clear ea
       refine YS rfl hE rfl rfl rfl (fun a ea=>?_)
       have hE:=Env.put_some hE rfl ea; clear ea
       refine t_on rfl hE rfl rfl rfl ?_
       refine KD rfl rfl hE rfl (Zr hE rfl rfl) (fun a hE=>?_)
       refine KY ?_
       exact hKr _ _ _ (hE.cut (.cons rfl (.cons rfl (.cons rfl (.cons rfl Subs.nil))))) hR H
     ·intro Xx49 a w hE hR H
      refine KD rfl rfl hE rfl (Zr hE rfl rfl) (fun a hE=>?_)
      refine KY ?_
      exact hKr _ _ _ (hE.cut (.cons rfl (.cons rfl (.cons rfl Subs.nil)))) hR H
   ·intro Xx48 a w hE hR H
    refine KY ?_
    refine hK_45 _ _ ?_
    refine Z0 Xx48 hE rfl (fun hb=>?_) (fun hb=>?_)
    ·replace H:=M.ite_t hb H
     refine KE ?_
     refine KD (v:=.pointer x0) rfl rfl hE rfl (KG hE rfl) (fun a hE=>?_)
     refine JI hE hR K0 rfl (ZD x0) H (fun _ _ hR HQ=>hthr _ _ hR HQ) (fun Xx51 a w ea hR H=>?_)
     have hE:=Env.put_some hE rfl ea; clear ea
     refine KY ?_
     exact ⟨hE.cut (.cons rfl (.cons rfl Subs.nil)),hR,H⟩
    ·replace H:=M.ite_f hb H
     refine Jm ?_
     exact ⟨hE.cut (.cons rfl (.cons rfl Subs.nil)),hR,H⟩
 ·skip
  refine KZ (fun K hK_52=>?_)
  refine KE ?_
  refine KD (v:=.pointer x0) rfl rfl hE rfl (KG hE rfl) (fun a hE=>?_)
  refine UO hE hR Kj rfl (Kv x0) (M.unbind H) (fun Xx53 a w ea hR H=>?_)
  have hE:=Env.put_some hE rfl ea; clear ea
  refine KD (v:=.bool (Xx53 == 45)) rfl rfl hE rfl (ZK hE rfl rfl ZG Yp) (fun a hE=>?_)
  refine KY ?_
  refine hK_52 _ _ ?_
  refine Z0 (Xx53 == 45) hE rfl (fun hb=>?_) (fun hb=>?_)
  ·replace H:=M.ite_t hb H
   refine KE ?_
   refine KD (v:=.pointer x0) rfl rfl hE rfl (KG hE rfl) (fun a hE=>?_)
   obtain ⟨Xx54,qXx54,H⟩:=H
   refine KD (v:=.pointer (some Xx54)) rfl rfl hE rfl (KN hE (JC rfl (congrArg Value.pointer qXx54))) (fun a hE=>?_)
   refine KD (v:=.pointer (some ((Xx54).add 1))) rfl rfl hE rfl (KL hE rfl ZT) (fun a hE=>?_)
   obtain ⟨Xx55,qXx55,H⟩:=H
   refine KD (v:=.int .i64 Xx55) rfl rfl hE rfl (ZB hE rfl sc3 qXx55) (fun a hE=>?_)
   refine KD (v:=.int .i64 (IntKind.wrap .i64 (Xx55+1))) rfl rfl hE rfl (ZK hE rfl rfl ZG Xl) (fun a hE=>?_)
   obtain ⟨Xx56,qXx56,H⟩:=H
   refine KD (v:=.pointer (some Xx56)) rfl rfl hE rfl (KN hE (JC rfl (congrArg Value.pointer qXx56))) (fun a hE=>?_)
   refine KD (v:=.pointer (some ((Xx56).add 1))) rfl rfl hE rfl (KL hE rfl ZT) (fun a hE=>?_)
   obtain ⟨u_57,qu_57,H⟩:=H
   refine UN rfl rfl hE hR (Zb hE rfl rfl sz3 qu_57) (fun a w hE hR hh=>?_)
   replace H:=M.at hh H; clear hh
   refine KY ?_
   exact ⟨hE.cut (.cons rfl (.cons rfl Subs.nil)),hR,H⟩
  ·replace H:=M.ite_f hb H
   refine Jm ?_
   exact ⟨hE.cut (.cons rfl (.cons rfl Subs.nil)),hR,H⟩
def Jg (self1:(Int)→M (Value ⊕ (Unit))) (C11:Option Addr) (C14:Int):M (Value ⊕ (Unit)):=do
 let Xx15←nilP C11
 let Xx16←ldI .i64 ((Xx15).add 1)
 let Xx17←nilP C11
 stV ((Xx17).add 1) (.int .i64 (IntKind.wrap .i64 (Xx16+1)))
 self1 (IntKind.wrap .i64 (C14+1))
def Zj (self1:(Int)→M (Value ⊕ (Unit))) (C20:Option Addr) (C23:Int) (Xx19:Bool):M (Value ⊕ (Unit)):=do
 M.ite Xx19 (do
  thr (Kt C20) fun Xx24=>do
   Jg self1 C20 C23
  ) (do
  Jg self1 C20 C23
  )
noncomputable def KCb:Array Oper:=KFj Go.Proofs.Tryz.f244 3
def KGy:List (List Nat):=[[],[0],[1],[2],[],[4],[5],[6],[7],[3,8],[9],[10],[11,10],[12,10],[13,10],[10],[15,10],[16,10],[17,10],[14,18,10],[10],[10],[20,21,10],[19,22,10],[10,23]]
def KGz:List (List Nat):=[[],[0],[1],[2],[],[4],[5],[6],[7],[3,8],[9],[10],[10,11],[10,12],[10,13],[10],[10,15],[10,16],[10,17],[10,14,18],[10],[10],[10,20,21],[10,19,22],[10,23]]
def KG0:List (List Nat):=[[],[0],[0,1],[0,1,2],[],[4],[4,5],[4,5,6],[4,5,6,7],[0,1,2,3,4,5,6,7,8],[0,1,2,3,4,5,6,7,8,9],[0,1,2,3,4,5,6,7,8,9,10],[0,1,2,3,4,5,6,7,8,9,10,11],[0,1,2,3,4,5,6,7,8,9,10,11,12],[0,1,2,3,4,5,6,7,8,9,10,11,12,13],[0,1,2,3,4,5,6,7,8,9,10],[0,1,2,3,4,5,6,7,8,9,10,15],[0,1,2,3,4,5,6,7,8,9,10,15,16],[0,1,2,3,4,5,6,7,8,9,10,15,16,17],[0,1,2,3,4,5,6,7,8,9,10,11,12,13,14,15,16,17,18],[0,1,2,3,4,5,6,7,8,9,10],[0,1,2,3,4,5,6,7,8,9,10],[0,1,2,3,4,5,6,7,8,9,10,20,21],[0,1,2,3,4,5,6,7,8,9,10,11,12,13,14,15,16,17,18,19,20,21,22],[0,1,2,3,4,5,6,7,8,9,10,11,12,13,14,15,16,17,18,19,20,21,22,23]]
theorem KG1:KAP Go.Proofs.Tryz.f244 3 KGy KGz KG0=true:=by kernel_rfl
theorem KFE:KB6 25 KGy KGz KG0 [0,1,2,4,0,16,32,64,128,264,512,1024,3072,5120,9216,1024,33792,66560,132096,279552,1024,1024,3146752,4719616,8389632] [0,1,2,4,0,16,32,64,128,264,512,1024,3072,5120,9216,1024,33792,66560,132096,279552,1024,1024,3146752,4719616,8389632] [0,1,3,7,0,16,48,112,240,511,1023,2047,4095,8191,16383,2047,34815,100351,231423,524287,2047,2047,3147775,8388607,16777215]=true:=by kernel_rfl
def UJ (C3:Option Addr) (C4:ByteArray) (C5:Int) (self1:(Int)→M (Value ⊕ (Unit))):(Int)→M (Value ⊕ (Unit)):=fun s=>match s with
 | Xx2=>do
  M.ite (decide (Xx2 < C5)) (do
   let Xx25←nilP C3
   let Xx26←nilP C3
   let Xx27←ldI .i64 ((Xx25).add 1)
   let Xx28←ldS ((Xx26).add 0)
   M.ite (decide (Xx27 ≥ (Xx28.size:Int))) (do
    Zj self1 C3 Xx2 true
    ) (do
    let Xx30←nilP C3
    let Xx31←nilP C3
    let Xx32←ixS C4 Xx2
    let Xx33←ldS ((Xx30).add 0)
    let Xx34←ldI .i64 ((Xx31).add 1)
    let Xx35←ixS Xx33 Xx34
    Zj self1 C3 Xx2 (Xx35 != Xx32)
    )
   ) (do
   M.pure (.inr ())
   )
def ZA (x0:Option Addr) (x1:ByteArray):M (Value ⊕ (Unit)):=do
 M.loop (UJ x0 x1 (x1.size:Int)) 0
theorem Za (x0:Option Addr) (x1:ByteArray):Yz Go.Proofs.Tryz.prog 244 #[.pointer x0,.string x1] (fun (r:Unit)=>.tuple #[]) (ZA x0 x1):=by
 refine WU [(0,.pointer x0),(1,.string x1)] Go.Proofs.Tryz.func244 rfl rfl (Nat.le_of_ble_eq_true rfl) (VI ⟨rfl,rfl,trivial⟩) (fun w0 w Q R X a hret hthr hE hR H=>?_)
 unfold ZA at H
 refine KZ (fun K hK_1=>?_)
 refine KE ?_
 refine KD (v:=.string x1) rfl rfl hE rfl (KG hE rfl) (fun a hE=>?_)
 refine KD (v:=.int .i64 (x1.size:Int)) rfl rfl hE rfl (Wn hE rfl un9) (fun a hE=>?_)
 refine KD (v:=.int .i64 0) rfl rfl hE rfl (KG hE rfl) (fun a hE=>?_)
 refine KY ?_
 refine hK_1 _ _ ?_
 refine VG ?_
 refine KC7 (fun (s:Int)=>(⟨45,[]⟩:Frm)) (fun (s:Int)=>[(0,.pointer x0),(1,.string x1),(6,.int .i64 (x1.size:Int)),(7,.int .i64 s)]) H (hE.cut (.cons rfl (.cons rfl (.cons rfl (.cons rfl Subs.nil))))) hR (fun Y self1 hY_6 Xx2 a w hE hR H=>?_)
 replace hE:Env (⟨45,[]⟩:Frm) a [(0,.pointer x0),(1,.string x1),(6,.int .i64 (x1.size:Int)),(7,.int .i64 Xx2)]:=hE
 replace H:(UJ x0 x1 (x1.size:Int) self1 Xx2).wp w.heap Q:=H
 unfold UJ at H
 refine KZ (fun K hK_7=>?_)
 refine KE ?_
 refine KD (v:=.bool (decide (Xx2 < (x1.size:Int)))) rfl rfl hE rfl (ZK hE rfl rfl ZG zu) (fun a hE=>?_)
 refine KY ?_
 refine hK_7 _ _ ?_
 refine KZ (fun K hK_8=>?_)
 refine Z0 (decide (Xx2 < (x1.size:Int))) hE rfl (fun hb=>?_) (fun hb=>?_)
 ·replace H:=M.ite_t hb H
  refine Jm ?_
  refine hK_8 _ _ ?_
  refine KZ (fun K hK_9=>?_)
  refine VG ?_
  refine KZ (fun K hK_10=>?_)
  refine KE ?_
  refine KD (v:=.int .i64 Xx2) rfl rfl hE rfl (KG hE rfl) (fun a hE=>?_)
  refine KD (v:=.int .i64 Xx2) rfl rfl hE rfl (Ka hE rfl) (fun a hE=>?_)
  refine KY ?_
  refine hK_10 _ _ ?_
  refine Z6 (fun a w=>Env (⟨45,[]⟩:Frm) a [(0,.pointer x0),(1,.string x1),(6,.int .i64 (x1.size:Int)),(7,.int .i64 Xx2)]∧Rest w0 w∧(Jg self1 x0 Xx2).wp w.heap Q) ?_ ?_
  ·rintro a w ⟨hE,hR,H⟩
   unfold Jg at H
   refine KE ?_
   refine KD (v:=.pointer x0) rfl rfl hE rfl (KG hE rfl) (fun a hE=>?_)
   obtain ⟨Xx15,qXx15,H⟩:=H
   refine KD (v:=.pointer (some Xx15)) rfl rfl hE rfl (KN hE (JC rfl (congrArg Value.pointer qXx15))) (fun a hE=>?_)
   refine KD (v:=.pointer (some ((Xx15).add 1))) rfl rfl hE rfl (KL hE rfl ZT) (fun a hE=>?_)
   obtain ⟨Xx16,qXx16,H⟩:=H
   refine KD (v:=.int .i64 Xx16) rfl rfl hE rfl (ZB hE rfl sc3 qXx16) (fun a hE=>?_)
   refine KD (v:=.int .i64 (IntKind.wrap .i64 (Xx16+1))) rfl rfl hE rfl (ZK hE rfl rfl ZG Xl) (fun a hE=>?_)
   obtain ⟨Xx17,qXx17,H⟩:=H
   refine KD (v:=.pointer (some Xx17)) rfl rfl hE rfl (KN hE (JC rfl (congrArg Value.pointer qXx17))) (fun a hE=>?_)
   refine KD (v:=.pointer (some ((Xx17).add 1))) rfl rfl hE rfl (KL hE rfl ZT) (fun a hE=>?_)
   obtain ⟨u_18,qu_18,H⟩:=H
   refine UN rfl rfl hE hR (Zb hE rfl rfl sz3 qu_18) (fun a w hE hR hh=>?_)
   replace H:=M.at hh H; clear hh
   refine KY ?_
   refine hK_9 _ _ ?_
   refine KE ?_
   refine KD (v:=.int .i64 (IntKind.wrap .i64 (Xx2+1))) rfl rfl hE rfl (ZK hE rfl rfl ZG Xl) (fun a hE=>?_)
   refine KD (v:=.int .i64 (IntKind.wrap .i64 (Xx2+1))) rfl rfl hE rfl (KG hE rfl) (fun a hE=>?_)
   refine KY ?_
   exact hY_6 (IntKind.wrap .i64 (Xx2+1)) _ _ (hE.cut (.cons rfl (.cons rfl (.cons rfl (.cons rfl Subs.nil))))) hR H
  ·skip
   refine Z6 (fun a w=>∃ (Xx19:Bool),Env (⟨45,[]⟩:Frm) a [(0,.pointer x0),(1,.string x1),(6,.int .i64 (x1.size:Int)),(7,.int .i64 Xx2),(34,.bool Xx19)]∧Rest w0 w∧(Zj self1 x0 Xx2 Xx19).wp w.heap Q) ?_ ?_
   ·rintro a w ⟨Xx19,hE,hR,H⟩
    unfold Zj at H
    refine Z0 Xx19 hE rfl (fun hb=>?_) (fun hb=>?_)
    ·replace H:=M.ite_t hb H
     refine KE ?_
     refine KD (v:=.pointer x0) rfl rfl hE rfl (KG hE rfl) (fun a hE=>?_)
     refine JI hE hR K0 rfl (ZD x0) H (fun _ _ hR HQ=>Xu.ne rfl (Xu.ne rfl (hthr _ _ hR HQ))) (fun Xx24 a w ea hR H=>?_)
     have hE:=Env.put_some hE rfl ea; clear ea
     refine KY ?_
     exact ⟨hE.cut (.cons rfl (.cons rfl (.cons rfl (.cons rfl Subs.nil)))),hR,H⟩
    ·replace H:=M.ite_f hb H
     refine Jm ?_
     exact ⟨hE.cut (.cons rfl (.cons rfl (.cons rfl (.cons rfl Subs.nil)))),hR,H⟩
   ·skip
    obtain ⟨Xx25,qXx25,H⟩:=H
    obtain ⟨Xx26,qXx26,H⟩:=H
    obtain ⟨Xx27,qXx27,H⟩:=H
    obtain ⟨Xx28,qXx28,H⟩:=H
    rcases Ub (decide (Xx27 ≥ (Xx28.size:Int))) with hb_29 | hb_29
    ·replace H:=M.ite_t hb_29 H
     refine Y0 (rops:=KCb) (by kernel_rfl) ?_
     have hT:Tab KCb _ _ _:=Wo KG1 rfl (by kernel_rfl)
     have hM:=TabM.of KFE
     refine Ux (m:=25) (fun w:World=>(fun h:Heap=>(KV h ((Xx25).add 1)=some (.int .i64 Xx27))∧(KV h ((Xx26).add 0)=some (.string Xx28))) w.heap) [9,10,11,12,13,14,15,16,17,18,19,20,21,22,23,24] (unb 25 0) mo hR (by kernel_rfl) (by kernel_rfl) (fun w' e=>by rw [e]; exact ⟨qXx27,qXx28⟩) (fun w hh hR hs=>?_)
     replace H:=M.at hh H; clear hh
     refine KB (i:=0) (v:=.pointer x0) (unb 25 1) rfl rfl hT (anyM hM (by kernel_rfl)) hE rfl (KA rfl) (fun w=>KG hE rfl) (fun a hE=>?_)
     refine KB (i:=1) (v:=.pointer (some Xx25)) (unb 25 3) rfl rfl hT (anyM hM (by kernel_rfl)) hE rfl (KA rfl) (fun w=>KN hE (JC rfl (congrArg Value.pointer qXx25))) (fun a hE=>?_)
     refine KB (i:=2) (v:=.pointer (some ((Xx25).add 1))) (unb 25 7) rfl rfl hT (anyM hM (by kernel_rfl)) hE rfl (KA rfl) (fun w=>KL hE rfl ZT) (fun a hE=>?_)
     refine KB (i:=4) (v:=.pointer x0) (unb 25 23) rfl rfl hT (anyM hM (by kernel_rfl)) hE rfl (KA rfl) (fun w=>KG hE rfl) (fun a hE=>?_)
     refine KB (i:=5) (v:=.pointer (some Xx26)) (unb 25 55) rfl rfl hT (anyM hM (by kernel_rfl)) hE rfl (KA rfl) (fun w=>KN hE (JC rfl (congrArg Value.pointer qXx26))) (fun a hE=>?_)
     refine KB (i:=6) (v:=.pointer (some ((Xx26).add 0))) (unb 25 119) rfl rfl hT (anyM hM (by kernel_rfl)) hE rfl (KA rfl) (fun w=>KL hE rfl Wm) (fun a hE=>?_)
     refine J4 (i:=3) (v:=.int .i64 Xx27) (unb 25 127) rfl rfl hT (WL hM (by kernel_rfl)) hE rfl (KA rfl) hs (fun w s=>ZB hE rfl sc3 s.1) (fun a hE=>?_)
     refine J4 (i:=7) (v:=.string Xx28) (unb 25 255) rfl rfl hT (WL hM (by kernel_rfl)) hE rfl (KA rfl) hs (fun w s=>ZB hE rfl sc9 s.2) (fun a hE=>?_)
     refine KB (i:=8) (v:=.int .i64 (Xx28.size:Int)) (unb 25 511) rfl rfl hT (anyM hM (by kernel_rfl)) hE rfl (KA rfl) (fun w=>Wn hE rfl un9) (fun a hE=>?_)
     refine KB (i:=9) (v:=.bool (decide (Xx27 ≥ (Xx28.size:Int)))) (unb 25 1023) rfl rfl hT (anyM hM (by kernel_rfl)) hE rfl (KA rfl) (fun w=>ZK hE rfl rfl ZG zw) (fun a hE=>?_)
     refine KB (i:=10) (v:=.bool (decide (Xx27 ≥ (Xx28.size:Int)))) (unb 25 2047) rfl rfl hT (anyM hM (by kernel_rfl)) hE rfl (KA rfl) (fun w=>KG hE rfl) (fun a hE=>?_)
     have hE:=hE.reb 20 (decide (Xx27 ≥ (Xx28.size:Int))) true hb_29 rfl
     replace hE:=hE.cut (l':=[(0,.pointer x0),(1,.string x1),(6,.int .i64 (x1.size:Int)),(7,.int .i64 Xx2),(4,.int .i64 Xx2),(20,.bool true)]) (.cons rfl (.cons rfl (.cons rfl (.cons rfl (.cons rfl (.cons rfl Subs.nil))))))
     refine Yf [(11,some 21),(12,some 22),(13,some 23),(14,some 24),(15,some 25),(16,some 26),(17,some 27),(18,some 28),(19,some 29),(20,some 30),(21,some 31),(22,some 32),(23,some 33)] 1 hT hM hE (by kernel_rfl) (m':=16777215) (by kernel_rfl) (fun a hE=>?_)
     refine KB (i:=24) (v:=.bool true) (unb 25 33554431) rfl rfl hT (anyM hM (by kernel_rfl)) hE rfl (KA rfl) (fun w=>JQ hE rfl rfl) (fun a hE=>?_)
     refine Vt hT (GU hM (by kernel_rfl)) ?_
     exact ⟨true,hE.cut (.cons rfl (.cons rfl (.cons rfl (.cons rfl (.cons rfl Subs.nil))))),hR,H⟩
    ·replace H:=M.ite_f hb_29 H
     obtain ⟨Xx30,qXx30,H⟩:=H
     obtain ⟨Xx31,qXx31,H⟩:=H
     obtain ⟨Xx32,qXx32,H⟩:=H
     obtain ⟨Xx33,qXx33,H⟩:=H
     obtain ⟨Xx34,qXx34,H⟩:=H
     obtain ⟨Xx35,qXx35,H⟩:=H
     refine Y0 (rops:=KCb) (by kernel_rfl) ?_
     have hT:Tab KCb _ _ _:=Wo KG1 rfl (by kernel_rfl)
     have hM:=TabM.of KFE
     refine Ux (m:=25) (fun w:World=>(fun h:Heap=>(KV h ((Xx25).add 1)=some (.int .i64 Xx27))∧(KV h ((Xx26).add 0)=some (.string Xx28))∧(KV h ((Xx30).add 0)=some (.string Xx33))∧(KV h ((Xx31).add 1)=some (.int .i64 Xx34))) w.heap) [19,23,24] (unb 25 0) mo hR (by kernel_rfl) (by kernel_rfl) (fun w' e=>by rw [e]; exact ⟨qXx27,qXx28,qXx33,qXx34⟩) (fun w hh hR hs=>?_)
     replace H:=M.at hh H; clear hh
     refine KB (i:=0) (v:=.pointer x0) (unb 25 1) rfl rfl hT (anyM hM (by kernel_rfl)) hE rfl (KA rfl) (fun w=>KG hE rfl) (fun a hE=>?_)
     refine KB (i:=1) (v:=.pointer (some Xx25)) (unb 25 3) rfl rfl hT (anyM hM (by kernel_rfl)) hE rfl (KA rfl) (fun w=>KN hE (JC rfl (congrArg Value.pointer qXx25))) (fun a hE=>?_)
     refine KB (i:=2) (v:=.pointer (some ((Xx25).add 1))) (unb 25 7) rfl rfl hT (anyM hM (by kernel_rfl)) hE rfl (KA rfl) (fun w=>KL hE rfl ZT) (fun a hE=>?_)
     refine KB (i:=4) (v:=.pointer x0) (unb 25 23) rfl rfl hT (anyM hM (by kernel_rfl)) hE rfl (KA rfl) (fun w=>KG hE rfl) (fun a hE=>?_)
     refine KB (i:=5) (v:=.pointer (some Xx26)) (unb 25 55) rfl rfl hT (anyM hM (by kernel_rfl)) hE rfl (KA rfl) (fun w=>KN hE (JC rfl (congrArg Value.pointer qXx26))) (fun a hE=>?_)
     refine KB (i:=6) (v:=.pointer (some ((Xx26).add 0))) (unb 25 119) rfl rfl hT (anyM hM (by kernel_rfl)) hE rfl (KA rfl) (fun w=>KL hE rfl Wm) (fun a hE=>?_)
     refine J4 (i:=3) (v:=.int .i64 Xx27) (unb 25 127) rfl rfl hT (WL hM (by kernel_rfl)) hE rfl (KA rfl) hs (fun w s=>ZB hE rfl sc3 s.1) (fun a hE=>?_)
     refine J4 (i:=7) (v:=.string Xx28) (unb 25 255) rfl rfl hT (WL hM (by kernel_rfl)) hE rfl (KA rfl) hs (fun w s=>ZB hE rfl sc9 s.2.1) (fun a hE=>?_)
     refine KB (i:=8) (v:=.int .i64 (Xx28.size:Int)) (unb 25 511) rfl rfl hT (anyM hM (by kernel_rfl)) hE rfl (KA rfl) (fun w=>Wn hE rfl un9) (fun a hE=>?_)
     refine KB (i:=9) (v:=.bool (decide (Xx27 ≥ (Xx28.size:Int)))) (unb 25 1023) rfl rfl hT (anyM hM (by kernel_rfl)) hE rfl (KA rfl) (fun w=>ZK hE rfl rfl ZG zw) (fun a hE=>?_)
     refine KB (i:=10) (v:=.bool (decide (Xx27 ≥ (Xx28.size:Int)))) (unb 25 2047) rfl rfl hT (anyM hM (by kernel_rfl)) hE rfl (KA rfl) (fun w=>KG hE rfl) (fun a hE=>?_)
     have hE:=hE.reb 20 (decide (Xx27 ≥ (Xx28.size:Int))) false hb_29 rfl
     replace hE:=hE.cut (l':=[(0,.pointer x0),(1,.string x1),(6,.int .i64 (x1.size:Int)),(7,.int .i64 Xx2),(4,.int .i64 Xx2),(20,.bool false)]) (.cons rfl (.cons rfl (.cons rfl (.cons rfl (.cons rfl (.cons rfl Subs.nil))))))
     refine KB (i:=11) (v:=.pointer x0) (unb 25 4095) rfl rfl hT (anyM hM (by kernel_rfl)) hE rfl (KP rfl hE rfl rfl rfl) (fun w=>KG hE rfl) (fun a hE=>?_)
     refine KB (i:=12) (v:=.pointer (some Xx30)) (unb 25 8191) rfl rfl hT (anyM hM (by kernel_rfl)) hE rfl (KP rfl hE rfl rfl rfl) (fun w=>KN hE (JC rfl (congrArg Value.pointer qXx30))) (fun a hE=>?_)
     refine KB (i:=13) (v:=.pointer (some ((Xx30).add 0))) (unb 25 16383) rfl rfl hT (anyM hM (by kernel_rfl)) hE rfl (KP rfl hE rfl rfl rfl) (fun w=>KL hE rfl Wm) (fun a hE=>?_)
     refine KB (i:=15) (v:=.pointer x0) (unb 25 49151) rfl rfl hT (anyM hM (by kernel_rfl)) hE rfl (KP rfl hE rfl rfl rfl) (fun w=>KG hE rfl) (fun a hE=>?_)
     refine KB (i:=16) (v:=.pointer (some Xx31)) (unb 25 114687) rfl rfl hT (anyM hM (by kernel_rfl)) hE rfl (KP rfl hE rfl rfl rfl) (fun w=>KN hE (JC rfl (congrArg Value.pointer qXx31))) (fun a hE=>?_)
     refine KB (i:=17) (v:=.pointer (some ((Xx31).add 1))) (unb 25 245759) rfl rfl hT (anyM hM (by kernel_rfl)) hE rfl (KP rfl hE rfl rfl rfl) (fun w=>KL hE rfl ZT) (fun a hE=>?_)
     refine KB (i:=20) (v:=.string x1) (unb 25 1294335) rfl rfl hT (anyM hM (by kernel_rfl)) hE rfl (KP rfl hE rfl rfl rfl) (fun w=>KG hE rfl) (fun a hE=>?_)
     refine KB (i:=21) (v:=.int .i64 Xx2) (unb 25 3391487) rfl rfl hT (anyM hM (by kernel_rfl)) hE rfl (KP rfl hE rfl rfl rfl) (fun w=>KG hE rfl) (fun a hE=>?_)
     refine KB (i:=22) (v:=.int .u8 Xx32) (unb 25 7585791) rfl rfl hT (anyM hM (by kernel_rfl)) hE rfl (KP rfl hE rfl rfl rfl) (fun w=>KBy hE rfl rfl un9 qXx32) (fun a hE=>?_)
     refine J4 (i:=14) (v:=.string Xx33) (unb 25 7602175) rfl rfl hT (WL hM (by kernel_rfl)) hE rfl (KP rfl hE rfl rfl rfl) hs (fun w s=>ZB hE rfl sc9 s.2.2.1) (fun a hE=>?_)
     refine J4 (i:=18) (v:=.int .i64 Xx34) (unb 25 7864319) rfl rfl hT (WL hM (by kernel_rfl)) hE rfl (KP rfl hE rfl rfl rfl) hs (fun w s=>ZB hE rfl sc3 s.2.2.2) (fun a hE=>?_)
     refine KB (i:=19) (v:=.int .u8 Xx35) (unb 25 8388607) rfl rfl hT (anyM hM (by kernel_rfl)) hE rfl (KP rfl hE rfl rfl rfl) (fun w=>KBy hE rfl rfl un9 qXx35) (fun a hE=>?_)
     refine KB (i:=23) (v:=.bool (Xx35 != Xx32)) (unb 25 16777215) rfl rfl hT (anyM hM (by kernel_rfl)) hE rfl (KP rfl hE rfl rfl rfl) (fun w=>ZK hE rfl rfl ZG KC6) (fun a hE=>?_)
     refine KB (i:=24) (v:=.bool (Xx35 != Xx32)) (unb 25 33554431) rfl rfl hT (anyM hM (by kernel_rfl)) hE rfl (KA rfl) (fun w=>Zr hE rfl rfl) (fun a hE=>?_)
     refine Vt hT (GU hM (by kernel_rfl)) ?_
     exact ⟨Xx35 != Xx32,hE.cut (.cons rfl (.cons rfl (.cons rfl (.cons rfl (.cons rfl Subs.nil))))),hR,H⟩
 ·replace H:=M.ite_f hb H
  refine KAJ ?_
  refine Xu.same ?_
  exact hret _ _ _ () _ hE hR (Zc hE rfl RV.nil) rfl H
end Gx
namespace Gx
open Go
set_option linter.unusedVariables false
set_option maxRecDepth 100000
def Z3 (C28:Option Addr) (C29:Int) (C30:Int):M (Value ⊕ (Int)):=do
 let Xx32←nilP C28
 let Xx33←ldI .i64 ((Xx32).add 1)
 let Xx34←nilP C28
 stV ((Xx34).add 1) (.int .i64 (IntKind.wrap .i64 (Xx33+1)))
 M.pure (.inr (IntKind.wrap .u8 (iOr .i64 (iShl .i64 C29 4) C30)))
def Kl (C38:Option Addr) (C39:Int) (C40:Int) (Xx37:Bool):M (Value ⊕ (Int)):=do
 M.ite Xx37 (do
  thr (Kt C38) fun Xx41=>do
   Z3 C38 C39 C40
  ) (do
  Z3 C38 C39 C40
  )
noncomputable def Yl:Array Oper:=KFj Go.Proofs.Tryz.f254 11
def KFF:List (List Nat):=[[],[0],[1],[2],[],[4],[5],[6],[7],[3,8],[9],[10],[11,10],[10,12],[13,10],[14],[15,14],[16,14,14],[17],[18,17],[17,19,14],[14,20]]
def KFG:List (List Nat):=[[],[0],[1],[2],[],[4],[5],[6],[7],[3,8],[9],[10],[10,11],[10,12],[13],[14],[14,15],[14,16],[17],[17,18],[14,17,19],[14,20]]
def KFH:List (List Nat):=[[],[0],[0,1],[0,1,2],[],[4],[4,5],[4,5,6],[4,5,6,7],[0,1,2,3,4,5,6,7,8],[0,1,2,3,4,5,6,7,8,9],[0,1,2,3,4,5,6,7,8,9,10],[0,1,2,3,4,5,6,7,8,9,10,11],[0,1,2,3,4,5,6,7,8,9,10,11,12],[0,1,2,3,4,5,6,7,8,9,10,11,12,13],[0,1,2,3,4,5,6,7,8,9,10,11,12,13,14],[0,1,2,3,4,5,6,7,8,9,10,11,12,13,14,15],[0,1,2,3,4,5,6,7,8,9,10,11,12,13,14,15,16],[0,1,2,3,4,5,6,7,8,9,10,11,12,13,14,15,16,17],[0,1,2,3,4,5,6,7,8,9,10,11,12,13,14,15,16,17,18],[0,1,2,3,4,5,6,7,8,9,10,11,12,13,14,15,16,17,18,19],[0,1,2,3,4,5,6,7,8,9,10,11,12,13,14,15,16,17,18,19,20]]
theorem KAD:KAP Go.Proofs.Tryz.f254 11 KFF KFG KFH=true:=by kernel_rfl
theorem qq:KB6 22 KFF KFG KFH [0,1,2,4,0,16,32,64,128,264,512,1024,3072,5120,9216,16384,49152,81920,131072,393216,671744,1064960] [0,1,2,4,0,16,32,64,128,264,512,1024,3072,5120,8192,16384,49152,81920,131072,393216,671744,1064960] [0,1,3,7,0,16,48,112,240,511,1023,2047,4095,8191,16383,32767,65535,131071,262143,524287,1048575,2097151]=true:=by kernel_rfl
def Z4 (C18:Option Addr) (C19:Int):M (Value ⊕ (Int)):=do
 let Xx21←nilP C18
 let Xx22←ldI .i64 ((Xx21).add 1)
 let Xx23←nilP C18
 stV ((Xx23).add 1) (.int .i64 (IntKind.wrap .i64 (Xx22+1)))
 let Xx26←Ki C18
 let Xx27←Zt (⟨#[48,49,50,51,52,53,54,55,56,57,97,98,99,100,101,102]⟩:ByteArray) Xx26
 let Xx42←nilP C18
 let Xx43←nilP C18
 let Xx44←ldI .i64 ((Xx42).add 1)
 let Xx45←ldS ((Xx43).add 0)
 M.ite (decide (Xx44 ≥ (Xx45.size:Int))) (do
  Kl C18 C19 Xx27 true
  ) (do
  M.ite (decide (Xx27 < 0)) (do
   Kl C18 C19 Xx27 true
   ) (do
   M.ite (C19 == 7) (do
    Kl C18 C19 Xx27 (decide (Xx27 < 15))
    ) (do
    Kl C18 C19 Xx27 false
    )
   )
  )
def Kn (C50:Option Addr) (C51:Int) (Xx49:Bool):M (Value ⊕ (Int)):=do
 M.ite Xx49 (do
  thr (Kt C50) fun Xx52=>do
   Z4 C50 C51
  ) (do
  Z4 C50 C51
  )
noncomputable def GI:Array Oper:=KFj Go.Proofs.Tryz.f254 7
def KG2:List (List Nat):=[[],[0],[1],[2],[],[4],[5],[6],[7],[3,8],[9],[10],[11,10],[10,12],[13,10],[14],[15,14],[16,14,14],[17],[18,17],[17,19,14],[14,20]]
def KG3:List (List Nat):=[[],[0],[1],[2],[],[4],[5],[6],[7],[3,8],[9],[10],[10,11],[10,12],[13],[14],[14,15],[14,16],[17],[17,18],[14,17,19],[14,20]]
def KG4:List (List Nat):=[[],[0],[0,1],[0,1,2],[],[4],[4,5],[4,5,6],[4,5,6,7],[0,1,2,3,4,5,6,7,8],[0,1,2,3,4,5,6,7,8,9],[0,1,2,3,4,5,6,7,8,9,10],[0,1,2,3,4,5,6,7,8,9,10,11],[0,1,2,3,4,5,6,7,8,9,10,11,12],[0,1,2,3,4,5,6,7,8,9,10,11,12,13],[0,1,2,3,4,5,6,7,8,9,10,11,12,13,14],[0,1,2,3,4,5,6,7,8,9,10,11,12,13,14,15],[0,1,2,3,4,5,6,7,8,9,10,11,12,13,14,15,16],[0,1,2,3,4,5,6,7,8,9,10,11,12,13,14,15,16,17],[0,1,2,3,4,5,6,7,8,9,10,11,12,13,14,15,16,17,18],[0,1,2,3,4,5,6,7,8,9,10,11,12,13,14,15,16,17,18,19],[0,1,2,3,4,5,6,7,8,9,10,11,12,13,14,15,16,17,18,19,20]]
theorem KCc:KAP Go.Proofs.Tryz.f254 7 KG2 KG3 KG4=true:=by kernel_rfl
theorem KAE:KB6 22 KG2 KG3 KG4 [0,1,2,4,0,16,32,64,128,264,512,1024,3072,5120,9216,16384,49152,81920,131072,393216,671744,1064960] [0,1,2,4,0,16,32,64,128,264,512,1024,3072,5120,8192,16384,49152,81920,131072,393216,671744,1064960] [0,1,3,7,0,16,48,112,240,511,1023,2047,4095,8191,16383,32767,65535,131071,262143,524287,1048575,2097151]=true:=by kernel_rfl
def Jh (x0:Option Addr):M (Value ⊕ (Int)):=do
 let Xx4←Ki x0
 let Xx6←M.ite (Xx4 == 39) (do
  M.pure true
  ) (do
  M.pure (Xx4 == 92)
  )
 M.ite Xx6 (do
  let Xx8←nilP x0
  let Xx9←ldI .i64 ((Xx8).add 1)
  let Xx10←nilP x0
  stV ((Xx10).add 1) (.int .i64 (IntKind.wrap .i64 (Xx9+1)))
  M.pure (.inr Xx4)
  ) (do
  thr (ZA x0 (⟨#[120]⟩:ByteArray)) fun Xx14=>do
   let Xx16←Ki x0
   let Xx17←Zt (⟨#[48,49,50,51,52,53,54,55,56,57,97,98,99,100,101,102]⟩:ByteArray) Xx16
   let Xx53←nilP x0
   let Xx54←nilP x0
   let Xx55←ldI .i64 ((Xx53).add 1)
   let Xx56←ldS ((Xx54).add 0)
   M.ite (decide (Xx55 ≥ (Xx56.size:Int))) (do
    Kn x0 Xx17 true
    ) (do
    M.ite (decide (Xx17 < 0)) (do
     Kn x0 Xx17 true
     ) (do
     M.ite (decide (Xx17 > 1)) (do
      Kn x0 Xx17 (decide (Xx17 < 7))
      ) (do
      Kn x0 Xx17 false
      )
     )
    )
  )
theorem Xh (x0:Option Addr):Yz Go.Proofs.Tryz.prog 254 #[.pointer x0] (fun (r:Int)=>.int .u8 r) (Jh x0):=by
 refine WU [(0,.pointer x0)] Go.Proofs.Tryz.func254 rfl rfl (Nat.le_of_ble_eq_true rfl) (VI ⟨rfl,trivial⟩) (fun w0 w Q R X a hret hthr hE hR H=>?_)
 unfold Jh at H
 refine KZ (fun K hK_1=>?_)
 refine KE ?_
 refine KD (v:=.int .u8 0) rfl rfl hE rfl (Ka hE rfl) (fun a hE=>?_)
 refine KY ?_
 refine hK_1 _ _ ?_
 refine KZ (fun K hK_2=>?_)
 refine KZ (fun K hK_3=>?_)
 refine KE ?_
 refine KD (v:=.pointer x0) rfl rfl hE rfl (KG hE rfl) (fun a hE=>?_)
 refine UO hE hR Kj rfl (Kv x0) (M.unbind H) (fun Xx4 a w ea hR H=>?_)
 have hE:=Env.put_some hE rfl ea; clear ea
 refine KD (v:=.int .u8 Xx4) rfl rfl hE rfl (Ka hE rfl) (fun a hE=>?_)
 refine KY ?_
 refine hK_3 _ _ ?_
 refine KZ (fun K hK_5=>?_)
 refine KE ?_
 refine KD (v:=.int .u8 Xx4) rfl rfl hE rfl (KG hE rfl) (fun a hE=>?_)
 refine KD (v:=.bool (Xx4 == 39)) rfl rfl hE rfl (ZK hE rfl rfl ZG Yp) (fun a hE=>?_)
 refine KD (v:=.bool (Xx4 == 39)) rfl rfl hE rfl (KG hE rfl) (fun a hE=>?_)
 refine KB1 (n:=(⟨97,[]⟩:Frm)) (w0:=w0) 3 (fun Xx6:Bool=>[(0,.pointer x0),(3,.int .u8 Xx4),(13,.bool Xx6)]) (M.unbind H) (fun Kr hKr H=>?_) ?_
 ·rcases Ub (Xx4 == 39) with hb | hb
  ·replace H:=M.ite_t hb H
   have hE:=hE.reb 10 (Xx4 == 39) true hb rfl
   refine YS rfl hE rfl rfl rfl (fun a ea=>?_)
   have hE:=Env.put_some hE rfl ea; clear ea
   refine YS rfl hE rfl rfl rfl (fun a ea=>?_)
   have hE:=Env.put_some hE rfl ea; clear ea
   refine KD rfl rfl hE rfl (JQ hE rfl rfl) (fun a hE=>?_)
   refine KY ?_
   exact hKr _ _ _ (hE.cut (.cons rfl (.cons rfl (.cons rfl Subs.nil)))) hR H
  ·replace H:=M.ite_f hb H
   have hE:=hE.reb 10 (Xx4 == 39) false hb rfl
   refine t_on rfl hE rfl rfl rfl ?_
   refine KD (v:=.int .u8 Xx4) rfl rfl hE rfl (KG hE rfl) (fun a hE=>?_)
   refine t_on rfl hE rfl rfl rfl ?_
   refine KD (v:=.bool (Xx4 == 92)) rfl rfl hE rfl (ZK hE rfl rfl ZG Yp) (fun a hE=>?_)
   refine KD rfl rfl hE rfl (Zr hE rfl rfl) (fun a hE=>?_)
   refine KY ?_
   exact hKr _ _ _ (hE.cut (.cons rfl (.cons rfl (.cons rfl Subs.nil)))) hR H
 ·intro Xx6 a w hE hR H
  refine KY ?_
  refine hK_5 _ _ ?_
  refine Z0 Xx6 hE rfl (fun hb=>?_) (fun hb=>?_)
  ·replace H:=M.ite_t hb H
   refine KZ (fun K hK_7=>?_)
   refine KE ?_
   refine KD (v:=.pointer x0) rfl rfl hE rfl (KG hE rfl) (fun a hE=>?_)
   obtain ⟨Xx8,qXx8,H⟩:=H
   refine KD (v:=.pointer (some Xx8)) rfl rfl hE rfl (KN hE (JC rfl (congrArg Value.pointer qXx8))) (fun a hE=>?_)
   refine KD (v:=.pointer (some ((Xx8).add 1))) rfl rfl hE rfl (KL hE rfl ZT) (fun a hE=>?_)
   obtain ⟨Xx9,qXx9,H⟩:=H
   refine KD (v:=.int .i64 Xx9) rfl rfl hE rfl (ZB hE rfl sc3 qXx9) (fun a hE=>?_)
   refine KD (v:=.int .i64 (IntKind.wrap .i64 (Xx9+1))) rfl rfl hE rfl (ZK hE rfl rfl ZG Xl) (fun a hE=>?_)
   obtain ⟨Xx10,qXx10,H⟩:=H
   refine KD (v:=.pointer (some Xx10)) rfl rfl hE rfl (KN hE (JC rfl (congrArg Value.pointer qXx10))) (fun a hE=>?_)
   refine KD (v:=.pointer (some ((Xx10).add 1))) rfl rfl hE rfl (KL hE rfl ZT) (fun a hE=>?_)
   obtain ⟨u_11,qu_11,H⟩:=H
   refine UN rfl rfl hE hR (Zb hE rfl rfl sz3 qu_11) (fun a w hE hR hh=>?_)
   replace H:=M.at hh H; clear hh
   refine KY ?_
   refine hK_7 _ _ ?_
   refine KZ (fun K hK_12=>?_)
   refine KE ?_
   refine KD (v:=.int .u8 Xx4) rfl rfl hE rfl (KG hE rfl) (fun a hE=>?_)
   refine KD (v:=.int .u8 Xx4) rfl rfl hE rfl (Ka hE rfl) (fun a hE=>?_)
   refine KY ?_
   refine hK_12 _ _ ?_
   refine VT ?_
   exact hret _ _ _ Xx4 _ hE hR (Zc hE rfl (RV.tmp rfl RV.nil)) rfl H
  ·replace H:=M.ite_f hb H
   refine Jm ?_
   refine hK_2 _ _ ?_
   refine KZ (fun K hK_13=>?_)
   refine KE ?_
   refine KD (v:=.pointer x0) rfl rfl hE rfl (KG hE rfl) (fun a hE=>?_)
   refine JI hE hR ZQ rfl (Za x0 (⟨#[120]⟩:ByteArray)) H (fun _ _ hR HQ=>hthr _ _ hR HQ) (fun Xx14 a w ea hR H=>?_)
   have hE:=Env.put_some hE rfl ea; clear ea
   refine KY ?_
   refine hK_13 _ _ ?_
   refine KZ (fun K hK_15=>?_)
   refine KE ?_
   refine KD (v:=.pointer x0) rfl rfl hE rfl (KG hE rfl) (fun a hE=>?_)
   refine UO hE hR Kj rfl (Kv x0) (M.unbind H) (fun Xx16 a w ea hR H=>?_)
   have hE:=Env.put_some hE rfl ea; clear ea
   refine UO hE hR VL rfl (Vi (⟨#[48,49,50,51,52,53,54,55,56,57,97,98,99,100,101,102]⟩:ByteArray) Xx16) (M.unbind H) (fun Xx17 a w ea hR H=>?_)
   have hE:=Env.put_some hE rfl ea; clear ea
   refine KD (v:=.int .i64 Xx17) rfl rfl hE rfl (Ka hE rfl) (fun a hE=>?_)
   refine KY ?_
   refine hK_15 _ _ ?_
   refine Z6 (fun a w=>Env (⟨97,[]⟩:Frm) a [(0,.pointer x0),(4,.int .i64 Xx17)]∧Rest w0 w∧(Z4 x0 Xx17).wp w.heap Q) ?_ ?_
   ·rintro a w ⟨hE,hR,H⟩
    unfold Z4 at H
    refine KZ (fun K hK_20=>?_)
    refine KE ?_
    refine KD (v:=.pointer x0) rfl rfl hE rfl (KG hE rfl) (fun a hE=>?_)
    obtain ⟨Xx21,qXx21,H⟩:=H
    refine KD (v:=.pointer (some Xx21)) rfl rfl hE rfl (KN hE (JC rfl (congrArg Value.pointer qXx21))) (fun a hE=>?_)
    refine KD (v:=.pointer (some ((Xx21).add 1))) rfl rfl hE rfl (KL hE rfl ZT) (fun a hE=>?_)
    obtain ⟨Xx22,qXx22,H⟩:=H
    refine KD (v:=.int .i64 Xx22) rfl rfl hE rfl (ZB hE rfl sc3 qXx22) (fun a hE=>?_)
    refine KD (v:=.int .i64 (IntKind.wrap .i64 (Xx22+1))) rfl rfl hE rfl (ZK hE rfl rfl ZG Xl) (fun a hE=>?_)
    obtain ⟨Xx23,qXx23,H⟩:=H
    refine KD (v:=.pointer (some Xx23)) rfl rfl hE rfl (KN hE (JC rfl (congrArg Value.pointer qXx23))) (fun a hE=>?_)
    refine KD (v:=.pointer (some ((Xx23).add 1))) rfl rfl hE rfl (KL hE rfl ZT) (fun a hE=>?_)
    obtain ⟨u_24,qu_24,H⟩:=H
    refine UN rfl rfl hE hR (Zb hE rfl rfl sz3 qu_24) (fun a w hE hR hh=>?_)
    replace H:=M.at hh H; clear hh
    refine KY ?_
    refine hK_20 _ _ ?_
    refine KZ (fun K hK_25=>?_)
    refine KE ?_
    refine KD (v:=.pointer x0) rfl rfl hE rfl (KG hE rfl) (fun a hE=>?_)
    refine UO hE hR Kj rfl (Kv x0) (M.unbind H) (fun Xx26 a w ea hR H=>?_)
    have hE:=Env.put_some hE rfl ea; clear ea
    refine UO hE hR VL rfl (Vi (⟨#[48,49,50,51,52,53,54,55,56,57,97,98,99,100,101,102]⟩:ByteArray) Xx26) (M.unbind H) (fun Xx27 a w ea hR H=>?_)
    have hE:=Env.put_some hE rfl ea; clear ea
    refine KD (v:=.int .i64 Xx27) rfl rfl hE rfl (Ka hE rfl) (fun a hE=>?_)
    refine KY ?_
    refine hK_25 _ _ ?_
    refine Z6 (fun a w=>Env (⟨97,[]⟩:Frm) a [(0,.pointer x0),(4,.int .i64 Xx17),(5,.int .i64 Xx27)]∧Rest w0 w∧(Z3 x0 Xx17 Xx27).wp w.heap Q) ?_ ?_
    ·rintro a w ⟨hE,hR,H⟩
     unfold Z3 at H
     refine KZ (fun K hK_31=>?_)
     refine KE ?_
     refine KD (v:=.pointer x0) rfl rfl hE rfl (KG hE rfl) (fun a hE=>?_)
     obtain ⟨Xx32,qXx32,H⟩:=H
     refine KD (v:=.pointer (some Xx32)) rfl rfl hE rfl (KN hE (JC rfl (congrArg Value.pointer qXx32))) (fun a hE=>?_)
     refine KD (v:=.pointer (some ((Xx32).add 1))) rfl rfl hE rfl (KL hE rfl ZT) (fun a hE=>?_)
     obtain ⟨Xx33,qXx33,H⟩:=H
     refine KD (v:=.int .i64 Xx33) rfl rfl hE rfl (ZB hE rfl sc3 qXx33) (fun a hE=>?_)
     refine KD (v:=.int .i64 (IntKind.wrap .i64 (Xx33+1))) rfl rfl hE rfl (ZK hE rfl rfl ZG Xl) (fun a hE=>?_)
     obtain ⟨Xx34,qXx34,H⟩:=H
     refine KD (v:=.pointer (some Xx34)) rfl rfl hE rfl (KN hE (JC rfl (congrArg Value.pointer qXx34))) (fun a hE=>?_)
     refine KD (v:=.pointer (some ((Xx34).add 1))) rfl rfl hE rfl (KL hE rfl ZT) (fun a hE=>?_)
     obtain ⟨u_35,qu_35,H⟩:=H
     refine UN rfl rfl hE hR (Zb hE rfl rfl sz3 qu_35) (fun a w hE hR hh=>?_)
     replace H:=M.at hh H; clear hh
     refine KY ?_
     refine hK_31 _ _ ?_
     refine KZ (fun K hK_36=>?_)
     refine KE ?_
     refine KD (v:=.int .i64 Xx17) rfl rfl hE rfl (KG hE rfl) (fun a hE=>?_)
     refine KD (v:=.int .i64 (iShl .i64 Xx17 4)) rfl rfl hE rfl (ZK hE rfl rfl ZG (KJX ⟨by decide,rfl⟩)) (fun a hE=>?_)
     refine KD (v:=.int .i64 Xx27) rfl rfl hE rfl (KG hE rfl) (fun a hE=>?_)
     refine KD (v:=.int .i64 (iOr .i64 (iShl .i64 Xx17 4) Xx27)) rfl rfl hE rfl (ZK hE rfl rfl ZG b_or) (fun a hE=>?_)
     refine KD (v:=.int .u8 (IntKind.wrap .u8 (iOr .i64 (iShl .i64 Xx17 4) Xx27))) rfl rfl hE rfl (KBz hE rfl un3 un5) (fun a hE=>?_)
     refine KD (v:=.int .u8 (IntKind.wrap .u8 (iOr .i64 (iShl .i64 Xx17 4) Xx27))) rfl rfl hE rfl (Ka hE rfl) (fun a hE=>?_)
     refine KY ?_
     refine hK_36 _ _ ?_
     refine VT ?_
     exact hret _ _ _ (IntKind.wrap .u8 (iOr .i64 (iShl .i64 Xx17 4) Xx27)) _ hE hR (Zc hE rfl (RV.tmp rfl RV.nil)) rfl H
    ·skip
     refine Z6 (fun a w=>∃ (Xx37:Bool),Env (⟨97,[]⟩:Frm) a [(0,.pointer x0),(4,.int .i64 Xx17),(5,.int .i64 Xx27),(82,.bool Xx37)]∧Rest w0 w∧(Kl x0 Xx17 Xx27 Xx37).wp w.heap Q) ?_ ?_
     ·rintro a w ⟨Xx37,hE,hR,H⟩
      unfold Kl at H
      refine Z0 Xx37 hE rfl (fun hb=>?_) (fun hb=>?_)
      ·replace H:=M.ite_t hb H
       refine KE ?_
       refine KD (v:=.pointer x0) rfl rfl hE rfl (KG hE rfl) (fun a hE=>?_)
       refine JI hE hR K0 rfl (ZD x0) H (fun _ _ hR HQ=>hthr _ _ hR HQ) (fun Xx41 a w ea hR H=>?_)
       have hE:=Env.put_some hE rfl ea; clear ea
       refine KY ?_
       exact ⟨hE.cut (.cons rfl (.cons rfl (.cons rfl Subs.nil))),hR,H⟩
      ·replace H:=M.ite_f hb H
       refine Jm ?_
       exact ⟨hE.cut (.cons rfl (.cons rfl (.cons rfl Subs.nil))),hR,H⟩
     ·skip
      obtain ⟨Xx42,qXx42,H⟩:=H
      obtain ⟨Xx43,qXx43,H⟩:=H
      obtain ⟨Xx44,qXx44,H⟩:=H
      obtain ⟨Xx45,qXx45,H⟩:=H
      rcases Ub (decide (Xx44 ≥ (Xx45.size:Int))) with hb_46 | hb_46
      ·replace H:=M.ite_t hb_46 H
       refine Y0 (rops:=Yl) (by kernel_rfl) ?_
       have hT:Tab Yl _ _ _:=Wo KAD rfl (by kernel_rfl)
       have hM:=TabM.of qq
       refine Ux (m:=22) (fun w:World=>(fun h:Heap=>(KV h ((Xx42).add 1)=some (.int .i64 Xx44))∧(KV h ((Xx43).add 0)=some (.string Xx45))) w.heap) [9,10,11,12,13,14,15,16,17,18,19,20,21] (unb 22 0) mo hR (by kernel_rfl) (by kernel_rfl) (fun w' e=>by rw [e]; exact ⟨qXx44,qXx45⟩) (fun w hh hR hs=>?_)
       replace H:=M.at hh H; clear hh
       refine KB (i:=0) (v:=.pointer x0) (unb 22 1) rfl rfl hT (anyM hM (by kernel_rfl)) hE rfl (KA rfl) (fun w=>KG hE rfl) (fun a hE=>?_)
       refine KB (i:=1) (v:=.pointer (some Xx42)) (unb 22 3) rfl rfl hT (anyM hM (by kernel_rfl)) hE rfl (KA rfl) (fun w=>KN hE (JC rfl (congrArg Value.pointer qXx42))) (fun a hE=>?_)
       refine KB (i:=2) (v:=.pointer (some ((Xx42).add 1))) (unb 22 7) rfl rfl hT (anyM hM (by kernel_rfl)) hE rfl (KA rfl) (fun w=>KL hE rfl ZT) (fun a hE=>?_)
       refine KB (i:=4) (v:=.pointer x0) (unb 22 23) rfl rfl hT (anyM hM (by kernel_rfl)) hE rfl (KA rfl) (fun w=>KG hE rfl) (fun a hE=>?_)
       refine KB (i:=5) (v:=.pointer (some Xx43)) (unb 22 55) rfl rfl hT (anyM hM (by kernel_rfl)) hE rfl (KA rfl) (fun w=>KN hE (JC rfl (congrArg Value.pointer qXx43))) (fun a hE=>?_)
       refine KB (i:=6) (v:=.pointer (some ((Xx43).add 0))) (unb 22 119) rfl rfl hT (anyM hM (by kernel_rfl)) hE rfl (KA rfl) (fun w=>KL hE rfl Wm) (fun a hE=>?_)
       refine J4 (i:=3) (v:=.int .i64 Xx44) (unb 22 127) rfl rfl hT (WL hM (by kernel_rfl)) hE rfl (KA rfl) hs (fun w s=>ZB hE rfl sc3 s.1) (fun a hE=>?_)
       refine J4 (i:=7) (v:=.string Xx45) (unb 22 255) rfl rfl hT (WL hM (by kernel_rfl)) hE rfl (KA rfl) hs (fun w s=>ZB hE rfl sc9 s.2) (fun a hE=>?_)
       refine KB (i:=8) (v:=.int .i64 (Xx45.size:Int)) (unb 22 511) rfl rfl hT (anyM hM (by kernel_rfl)) hE rfl (KA rfl) (fun w=>Wn hE rfl un9) (fun a hE=>?_)
       refine KB (i:=9) (v:=.bool (decide (Xx44 ≥ (Xx45.size:Int)))) (unb 22 1023) rfl rfl hT (anyM hM (by kernel_rfl)) hE rfl (KA rfl) (fun w=>ZK hE rfl rfl ZG zw) (fun a hE=>?_)
       refine KB (i:=10) (v:=.bool (decide (Xx44 ≥ (Xx45.size:Int)))) (unb 22 2047) rfl rfl hT (anyM hM (by kernel_rfl)) hE rfl (KA rfl) (fun w=>KG hE rfl) (fun a hE=>?_)
       have hE:=hE.reb 71 (decide (Xx44 ≥ (Xx45.size:Int))) true hb_46 rfl
       replace hE:=hE.cut (l':=[(0,.pointer x0),(4,.int .i64 Xx17),(5,.int .i64 Xx27),(71,.bool true)]) (.cons rfl (.cons rfl (.cons rfl (.cons rfl Subs.nil))))
       refine KB3 (i:=11) (unb 22 4095) rfl rfl hT (anyM hM (by kernel_rfl)) (UF rfl hE rfl rfl rfl) (fun a ea=>?_)
       have hE:=Env.put_some hE rfl ea; clear ea
       refine KB3 (i:=12) (unb 22 8191) rfl rfl hT (anyM hM (by kernel_rfl)) (UF rfl hE rfl rfl rfl) (fun a ea=>?_)
       have hE:=Env.put_some hE rfl ea; clear ea
       refine KB (i:=13) (v:=.bool true) (unb 22 16383) rfl rfl hT (anyM hM (by kernel_rfl)) hE rfl (KA rfl) (fun w=>JQ hE rfl rfl) (fun a hE=>?_)
       refine KB (i:=14) (v:=.bool true) (unb 22 32767) rfl rfl hT (anyM hM (by kernel_rfl)) hE rfl (KA rfl) (fun w=>KG hE rfl) (fun a hE=>?_)
       refine Yf [(15,some 76),(16,some 77),(17,some 78),(18,some 79),(19,some 80),(20,some 81)] 1 hT hM hE (by kernel_rfl) (m':=2097151) (by kernel_rfl) (fun a hE=>?_)
       refine KB (i:=21) (v:=.bool true) (unb 22 4194303) rfl rfl hT (anyM hM (by kernel_rfl)) hE rfl (KA rfl) (fun w=>JQ hE rfl rfl) (fun a hE=>?_)
       refine Vt hT (GU hM (by kernel_rfl)) ?_
       exact ⟨true,hE.cut (.cons rfl (.cons rfl (.cons rfl (.cons rfl Subs.nil)))),hR,H⟩
      ·replace H:=M.ite_f hb_46 H
       rcases Ub (decide (Xx27 < 0)) with hb_47 | hb_47
       ·replace H:=M.ite_t hb_47 H
        refine Y0 (rops:=Yl) (by kernel_rfl) ?_
        have hT:Tab Yl _ _ _:=Wo KAD rfl (by kernel_rfl)
        have hM:=TabM.of qq
        refine Ux (m:=22) (fun w:World=>(fun h:Heap=>(KV h ((Xx42).add 1)=some (.int .i64 Xx44))∧(KV h ((Xx43).add 0)=some (.string Xx45))) w.heap) [9,10,11,12,13,14,15,16,17,18,19,20,21] (unb 22 0) mo hR (by kernel_rfl) (by kernel_rfl) (fun w' e=>by rw [e]; exact ⟨qXx44,qXx45⟩) (fun w hh hR hs=>?_)
        replace H:=M.at hh H; clear hh
        refine KB (i:=0) (v:=.pointer x0) (unb 22 1) rfl rfl hT (anyM hM (by kernel_rfl)) hE rfl (KA rfl) (fun w=>KG hE rfl) (fun a hE=>?_)
        refine KB (i:=1) (v:=.pointer (some Xx42)) (unb 22 3) rfl rfl hT (anyM hM (by kernel_rfl)) hE rfl (KA rfl) (fun w=>KN hE (JC rfl (congrArg Value.pointer qXx42))) (fun a hE=>?_)
        refine KB (i:=2) (v:=.pointer (some ((Xx42).add 1))) (unb 22 7) rfl rfl hT (anyM hM (by kernel_rfl)) hE rfl (KA rfl) (fun w=>KL hE rfl ZT) (fun a hE=>?_)
        refine KB (i:=4) (v:=.pointer x0) (unb 22 23) rfl rfl hT (anyM hM (by kernel_rfl)) hE rfl (KA rfl) (fun w=>KG hE rfl) (fun a hE=>?_)
        refine KB (i:=5) (v:=.pointer (some Xx43)) (unb 22 55) rfl rfl hT (anyM hM (by kernel_rfl)) hE rfl (KA rfl) (fun w=>KN hE (JC rfl (congrArg Value.pointer qXx43))) (fun a hE=>?_)
        refine KB (i:=6) (v:=.pointer (some ((Xx43).add 0))) (unb 22 119) rfl rfl hT (anyM hM (by kernel_rfl)) hE rfl (KA rfl) (fun w=>KL hE rfl Wm) (fun a hE=>?_)
        refine J4 (i:=3) (v:=.int .i64 Xx44) (unb 22 127) rfl rfl hT (WL hM (by kernel_rfl)) hE rfl (KA rfl) hs (fun w s=>ZB hE rfl sc3 s.1) (fun a hE=>?_)
        refine J4 (i:=7) (v:=.string Xx45) (unb 22 255) rfl rfl hT (WL hM (by kernel_rfl)) hE rfl (KA rfl) hs (fun w s=>ZB hE rfl sc9 s.2) (fun a hE=>?_)
        refine KB (i:=8) (v:=.int .i64 (Xx45.size:Int)) (unb 22 511) rfl rfl hT (anyM hM (by kernel_rfl)) hE rfl (KA rfl) (fun w=>Wn hE rfl un9) (fun a hE=>?_)
        refine KB (i:=9) (v:=.bool (decide (Xx44 ≥ (Xx45.size:Int)))) (unb 22 1023) rfl rfl hT (anyM hM (by kernel_rfl)) hE rfl (KA rfl) (fun w=>ZK hE rfl rfl ZG zw) (fun a hE=>?_)
        refine KB (i:=10) (v:=.bool (decide (Xx44 ≥ (Xx45.size:Int)))) (unb 22 2047) rfl rfl hT (anyM hM (by kernel_rfl)) hE rfl (KA rfl) (fun w=>KG hE rfl) (fun a hE=>?_)
        have hE:=hE.reb 71 (decide (Xx44 ≥ (Xx45.size:Int))) false hb_46 rfl
        replace hE:=hE.cut (l':=[(0,.pointer x0),(4,.int .i64 Xx17),(5,.int .i64 Xx27),(71,.bool false)]) (.cons rfl (.cons rfl (.cons rfl (.cons rfl Subs.nil))))
        refine KB (i:=11) (v:=.int .i64 Xx27) (unb 22 4095) rfl rfl hT (anyM hM (by kernel_rfl)) hE rfl (KP rfl hE rfl rfl rfl) (fun w=>KG hE rfl) (fun a hE=>?_)
        refine KB (i:=12) (v:=.bool (decide (Xx27 < 0))) (unb 22 8191) rfl rfl hT (anyM hM (by kernel_rfl)) hE rfl (KP rfl hE rfl rfl rfl) (fun w=>ZK hE rfl rfl ZG zu) (fun a hE=>?_)
        refine KB (i:=13) (v:=.bool (decide (Xx27 < 0))) (unb 22 16383) rfl rfl hT (anyM hM (by kernel_rfl)) hE rfl (KA rfl) (fun w=>Zr hE rfl rfl) (fun a hE=>?_)
        refine KB (i:=14) (v:=.bool (decide (Xx27 < 0))) (unb 22 32767) rfl rfl hT (anyM hM (by kernel_rfl)) hE rfl (KA rfl) (fun w=>KG hE rfl) (fun a hE=>?_)
        have hE:=hE.reb 75 (decide (Xx27 < 0)) true hb_47 rfl
        replace hE:=hE.cut (l':=[(0,.pointer x0),(4,.int .i64 Xx17),(5,.int .i64 Xx27),(75,.bool true)]) (.cons rfl (.cons rfl (.cons rfl (.cons rfl Subs.nil))))
        refine Yf [(15,some 76),(16,some 77),(17,some 78),(18,some 79),(19,some 80),(20,some 81)] 1 hT hM hE (by kernel_rfl) (m':=2097151) (by kernel_rfl) (fun a hE=>?_)
        refine KB (i:=21) (v:=.bool true) (unb 22 4194303) rfl rfl hT (anyM hM (by kernel_rfl)) hE rfl (KA rfl) (fun w=>JQ hE rfl rfl) (fun a hE=>?_)
        refine Vt hT (GU hM (by kernel_rfl)) ?_
        exact ⟨true,hE.cut (.cons rfl (.cons rfl (.cons rfl (.cons rfl Subs.nil)))),hR,H⟩
       ·replace H:=M.ite_f hb_47 H
        rcases Ub (Xx17 == 7) with hb_48 | hb_48
        ·replace H:=M.ite_t hb_48 H
         refine Y0 (rops:=Yl) (by kernel_rfl) ?_
         have hT:Tab Yl _ _ _:=Wo KAD rfl (by kernel_rfl)
         have hM:=TabM.of qq
         refine Ux (m:=22) (fun w:World=>(fun h:Heap=>(KV h ((Xx42).add 1)=some (.int .i64 Xx44))∧(KV h ((Xx43).add 0)=some (.string Xx45))) w.heap) [9,10,11,12,13,14,15,16,17,18,19,20,21] (unb 22 0) mo hR (by kernel_rfl) (by kernel_rfl) (fun w' e=>by rw [e]; exact ⟨qXx44,qXx45⟩) (fun w hh hR hs=>?_)
         replace H:=M.at hh H; clear hh
         refine KB (i:=0) (v:=.pointer x0) (unb 22 1) rfl rfl hT (anyM hM (by kernel_rfl)) hE rfl (KA rfl) (fun w=>KG hE rfl) (fun a hE=>?_)
         refine KB (i:=1) (v:=.pointer (some Xx42)) (unb 22 3) rfl rfl hT (anyM hM (by kernel_rfl)) hE rfl (KA rfl) (fun w=>KN hE (JC rfl (congrArg Value.pointer qXx42))) (fun a hE=>?_)
         refine KB (i:=2) (v:=.pointer (some ((Xx42).add 1))) (unb 22 7) rfl rfl hT (anyM hM (by kernel_rfl)) hE rfl (KA rfl) (fun w=>KL hE rfl ZT) (fun a hE=>?_)
         refine KB (i:=4) (v:=.pointer x0) (unb 22 23) rfl rfl hT (anyM hM (by kernel_rfl)) hE rfl (KA rfl) (fun w=>KG hE rfl) (fun a hE=>?_)
         refine KB (i:=5) (v:=.pointer (some Xx43)) (unb 22 55) rfl rfl hT (anyM hM (by kernel_rfl)) hE rfl (KA rfl) (fun w=>KN hE (JC rfl (congrArg Value.pointer qXx43))) (fun a hE=>?_)
         refine KB (i:=6) (v:=.pointer (some ((Xx43).add 0))) (unb 22 119) rfl rfl hT (anyM hM (by kernel_rfl)) hE rfl (KA rfl) (fun w=>KL hE rfl Wm) (fun a hE=>?_)
         refine J4 (i:=3) (v:=.int .i64 Xx44) (unb 22 127) rfl rfl hT (WL hM (by kernel_rfl)) hE rfl (KA rfl) hs (fun w s=>ZB hE rfl sc3 s.1) (fun a hE=>?_)
         refine J4 (i:=7) (v:=.string Xx45) (unb 22 255) rfl rfl hT (WL hM (by kernel_rfl)) hE rfl (KA rfl) hs (fun w s=>ZB hE rfl sc9 s.2) (fun a hE=>?_)
         refine KB (i:=8) (v:=.int .i64 (Xx45.size:Int)) (unb 22 511) rfl rfl hT (anyM hM (by kernel_rfl)) hE rfl (KA rfl) (fun w=>Wn hE rfl un9) (fun a hE=>?_)
         refine KB (i:=9) (v:=.bool (decide (Xx44 ≥ (Xx45.size:Int)))) (unb 22 1023) rfl rfl hT (anyM hM (by kernel_rfl)) hE rfl (KA rfl) (fun w=>ZK hE rfl rfl ZG zw) (fun a hE=>?_)
         refine KB (i:=10) (v:=.bool (decide (Xx44 ≥ (Xx45.size:Int)))) (unb 22 2047) rfl rfl hT (anyM hM (by kernel_rfl)) hE rfl (KA rfl) (fun w=>KG hE rfl) (fun a hE=>?_)
         have hE:=hE.reb 71 (decide (Xx44 ≥ (Xx45.size:Int))) false hb_46 rfl
         replace hE:=hE.cut (l':=[(0,.pointer x0),(4,.int .i64 Xx17),(5,.int .i64 Xx27),(71,.bool false)]) (.cons rfl (.cons rfl (.cons rfl (.cons rfl Subs.nil))))
         refine KB (i:=11) (v:=.int .i64 Xx27) (unb 22 4095) rfl rfl hT (anyM hM (by kernel_rfl)) hE rfl (KP rfl hE rfl rfl rfl) (fun w=>KG hE rfl) (fun a hE=>?_)
         refine KB (i:=12) (v:=.bool (decide (Xx27 < 0))) (unb 22 8191) rfl rfl hT (anyM hM (by kernel_rfl)) hE rfl (KP rfl hE rfl rfl rfl) (fun w=>ZK hE rfl rfl ZG zu) (fun a hE=>?_)
         refine KB (i:=13) (v:=.bool (decide (Xx27 < 0))) (unb 22 16383) rfl rfl hT (anyM hM (by kernel_rfl)) hE rfl (KA rfl) (fun w=>Zr hE rfl rfl) (fun a hE=>?_)
         refine KB (i:=14) (v:=.bool (decide (Xx27 < 0))) (unb 22 32767) rfl rfl hT (anyM hM (by kernel_rfl)) hE rfl (KA rfl) (fun w=>KG hE rfl) (fun a hE=>?_)
         have hE:=hE.reb 75 (decide (Xx27 < 0)) false hb_47 rfl
         replace hE:=hE.cut (l':=[(0,.pointer x0),(4,.int .i64 Xx17),(5,.int .i64 Xx27),(75,.bool false)]) (.cons rfl (.cons rfl (.cons rfl (.cons rfl Subs.nil))))
         refine KB (i:=15) (v:=.int .i64 Xx17) (unb 22 65535) rfl rfl hT (anyM hM (by kernel_rfl)) hE rfl (KP rfl hE rfl rfl rfl) (fun w=>KG hE rfl) (fun a hE=>?_)
         refine KB (i:=16) (v:=.bool (Xx17 == 7)) (unb 22 131071) rfl rfl hT (anyM hM (by kernel_rfl)) hE rfl (KP rfl hE rfl rfl rfl) (fun w=>ZK hE rfl rfl ZG Yp) (fun a hE=>?_)
         refine KB (i:=17) (v:=.bool (Xx17 == 7)) (unb 22 262143) rfl rfl hT (anyM hM (by kernel_rfl)) hE rfl (KP rfl hE rfl rfl rfl) (fun w=>KG hE rfl) (fun a hE=>?_)
         have hE:=hE.reb 78 (Xx17 == 7) true hb_48 rfl
         replace hE:=hE.cut (l':=[(0,.pointer x0),(4,.int .i64 Xx17),(5,.int .i64 Xx27),(75,.bool false),(78,.bool true)]) (.cons rfl (.cons rfl (.cons rfl (.cons rfl (.cons rfl Subs.nil)))))
         refine KB (i:=18) (v:=.int .i64 Xx27) (unb 22 524287) rfl rfl hT (anyM hM (by kernel_rfl)) hE rfl (KP rfl hE rfl rfl rfl) (fun w=>KG hE rfl) (fun a hE=>?_)
         refine KB (i:=19) (v:=.bool (decide (Xx27 < 15))) (unb 22 1048575) rfl rfl hT (anyM hM (by kernel_rfl)) hE rfl (KP rfl hE rfl rfl rfl) (fun w=>ZK hE rfl rfl ZG zu) (fun a hE=>?_)
         refine KB (i:=20) (v:=.bool (decide (Xx27 < 15))) (unb 22 2097151) rfl rfl hT (anyM hM (by kernel_rfl)) hE rfl (KP rfl hE rfl rfl rfl) (fun w=>JQ hE rfl rfl) (fun a hE=>?_)
         refine KB (i:=21) (v:=.bool (decide (Xx27 < 15))) (unb 22 4194303) rfl rfl hT (anyM hM (by kernel_rfl)) hE rfl (KA rfl) (fun w=>Zr hE rfl rfl) (fun a hE=>?_)
         refine Vt hT (GU hM (by kernel_rfl)) ?_
         exact ⟨decide (Xx27 < 15),hE.cut (.cons rfl (.cons rfl (.cons rfl (.cons rfl Subs.nil)))),hR,H⟩
        ·replace H:=M.ite_f hb_48 H
         refine Y0 (rops:=Yl) (by kernel_rfl) ?_
         have hT:Tab Yl _ _ _:=Wo KAD rfl (by kernel_rfl)
         have hM:=TabM.of qq
         refine Ux (m:=22) (fun w:World=>(fun h:Heap=>(KV h ((Xx42).add 1)=some (.int .i64 Xx44))∧(KV h ((Xx43).add 0)=some (.string Xx45))) w.heap) [9,10,11,12,13,14,15,16,17,18,19,20,21] (unb 22 0) mo hR (by kernel_rfl) (by kernel_rfl) (fun w' e=>by rw [e]; exact ⟨qXx44,qXx45⟩) (fun w hh hR hs=>?_)
         replace H:=M.at hh H; clear hh
         refine KB (i:=0) (v:=.pointer x0) (unb 22 1) rfl rfl hT (anyM hM (by kernel_rfl)) hE rfl (KA rfl) (fun w=>KG hE rfl) (fun a hE=>?_)
         refine KB (i:=1) (v:=.pointer (some Xx42)) (unb 22 3) rfl rfl hT (anyM hM (by kernel_rfl)) hE rfl (KA rfl) (fun w=>KN hE (JC rfl (congrArg Value.pointer qXx42))) (fun a hE=>?_)
         refine KB (i:=2) (v:=.pointer (some ((Xx42).add 1))) (unb 22 7) rfl rfl hT (anyM hM (by kernel_rfl)) hE rfl (KA rfl) (fun w=>KL hE rfl ZT) (fun a hE=>?_)
         refine KB (i:=4) (v:=.pointer x0) (unb 22 23) rfl rfl hT (anyM hM (by kernel_rfl)) hE rfl (KA rfl) (fun w=>KG hE rfl) (fun a hE=>?_)
         refine KB (i:=5) (v:=.pointer (some Xx43)) (unb 22 55) rfl rfl hT (anyM hM (by kernel_rfl)) hE rfl (KA rfl) (fun w=>KN hE (JC rfl (congrArg Value.pointer qXx43))) (fun a hE=>?_)
         refine KB (i:=6) (v:=.pointer (some ((Xx43).add 0))) (unb 22 119) rfl rfl hT (anyM hM (by kernel_rfl)) hE rfl (KA rfl) (fun w=>KL hE rfl Wm) (fun a hE=>?_)
         refine J4 (i:=3) (v:=.int .i64 Xx44) (unb 22 127) rfl rfl hT (WL hM (by kernel_rfl)) hE rfl (KA rfl) hs (fun w s=>ZB hE rfl sc3 s.1) (fun a hE=>?_)
         refine J4 (i:=7) (v:=.string Xx45) (unb 22 255) rfl rfl hT (WL hM (by kernel_rfl)) hE rfl (KA rfl) hs (fun w s=>ZB hE rfl sc9 s.2) (fun a hE=>?_)
         refine KB (i:=8) (v:=.int .i64 (Xx45.size:Int)) (unb 22 511) rfl rfl hT (anyM hM (by kernel_rfl)) hE rfl (KA rfl) (fun w=>Wn hE rfl un9) (fun a hE=>?_)
         refine KB (i:=9) (v:=.bool (decide (Xx44 ≥ (Xx45.size:Int)))) (unb 22 1023) rfl rfl hT (anyM hM (by kernel_rfl)) hE rfl (KA rfl) (fun w=>ZK hE rfl rfl ZG zw) (fun a hE=>?_)
         refine KB (i:=10) (v:=.bool (decide (Xx44 ≥ (Xx45.size:Int)))) (unb 22 2047) rfl rfl hT (anyM hM (by kernel_rfl)) hE rfl (KA rfl) (fun w=>KG hE rfl) (fun a hE=>?_)
         have hE:=hE.reb 71 (decide (Xx44 ≥ (Xx45.size:Int))) false hb_46 rfl
         replace hE:=hE.cut (l':=[(0,.pointer x0),(4,.int .i64 Xx17),(5,.int .i64 Xx27),(71,.bool false)]) (.cons rfl (.cons rfl (.cons rfl (.cons rfl Subs.nil))))
         refine KB (i:=11) (v:=.int .i64 Xx27) (unb 22 4095) rfl rfl hT (anyM hM (by kernel_rfl)) hE rfl (KP rfl hE rfl rfl rfl) (fun w=>KG hE rfl) (fun a hE=>?_)
         refine KB (i:=12) (v:=.bool (decide (Xx27 < 0))) (unb 22 8191) rfl rfl hT (anyM hM (by kernel_rfl)) hE rfl (KP rfl hE rfl rfl rfl) (fun w=>ZK hE rfl rfl ZG zu) (fun a hE=>?_)
         refine KB (i:=13) (v:=.bool (decide (Xx27 < 0))) (unb 22 16383) rfl rfl hT (anyM hM (by kernel_rfl)) hE rfl (KA rfl) (fun w=>Zr hE rfl rfl) (fun a hE=>?_)
         refine KB (i:=14) (v:=.bool (decide (Xx27 < 0))) (unb 22 32767) rfl rfl hT (anyM hM (by kernel_rfl)) hE rfl (KA rfl) (fun w=>KG hE rfl) (fun a hE=>?_)
         have hE:=hE.reb 75 (decide (Xx27 < 0)) false hb_47 rfl
         replace hE:=hE.cut (l':=[(0,.pointer x0),(4,.int .i64 Xx17),(5,.int .i64 Xx27),(75,.bool false)]) (.cons rfl (.cons rfl (.cons rfl (.cons rfl Subs.nil))))
         refine KB (i:=15) (v:=.int .i64 Xx17) (unb 22 65535) rfl rfl hT (anyM hM (by kernel_rfl)) hE rfl (KP rfl hE rfl rfl rfl) (fun w=>KG hE rfl) (fun a hE=>?_)
         refine KB (i:=16) (v:=.bool (Xx17 == 7)) (unb 22 131071) rfl rfl hT (anyM hM (by kernel_rfl)) hE rfl (KP rfl hE rfl rfl rfl) (fun w=>ZK hE rfl rfl ZG Yp) (fun a hE=>?_)
         refine KB (i:=17) (v:=.bool (Xx17 == 7)) (unb 22 262143) rfl rfl hT (anyM hM (by kernel_rfl)) hE rfl (KP rfl hE rfl rfl rfl) (fun w=>KG hE rfl) (fun a hE=>?_)
         have hE:=hE.reb 78 (Xx17 == 7) false hb_48 rfl
         replace hE:=hE.cut (l':=[(0,.pointer x0),(4,.int .i64 Xx17),(5,.int .i64 Xx27),(75,.bool false),(78,.bool false)]) (.cons rfl (.cons rfl (.cons rfl (.cons rfl (.cons rfl Subs.nil)))))
         refine KB3 (i:=18) (unb 22 524287) rfl rfl hT (anyM hM (by kernel_rfl)) (UF rfl hE rfl rfl rfl) (fun a ea=>?_)
         have hE:=Env.put_some hE rfl ea; clear ea
         refine KB3 (i:=19) (unb 22 1048575) rfl rfl hT (anyM hM (by kernel_rfl)) (UF rfl hE rfl rfl rfl) (fun a ea=>?_)
         have hE:=Env.put_some hE rfl ea; clear ea
         refine KB (i:=20) (v:=.bool false) (unb 22 2097151) rfl rfl hT (anyM hM (by kernel_rfl)) hE rfl (KP rfl hE rfl rfl rfl) (fun w=>Zr hE rfl rfl) (fun a hE=>?_)
         refine KB (i:=21) (v:=.bool false) (unb 22 4194303) rfl rfl hT (anyM hM (by kernel_rfl)) hE rfl (KA rfl) (fun w=>Zr hE rfl rfl) (fun a hE=>?_)
         refine Vt hT (GU hM (by kernel_rfl)) ?_
         exact ⟨false,hE.cut (.cons rfl (.cons rfl (.cons rfl (.cons rfl Subs.nil)))),hR,H⟩
   ·skip
    refine Z6 (fun a w=>∃ (Xx49:Bool),Env (⟨97,[]⟩:Frm) a [(0,.pointer x0),(4,.int .i64 Xx17),(48,.bool Xx49)]∧Rest w0 w∧(Kn x0 Xx17 Xx49).wp w.heap Q) ?_ ?_
    ·rintro a w ⟨Xx49,hE,hR,H⟩
     unfold Kn at H
     refine Z0 Xx49 hE rfl (fun hb=>?_) (fun hb=>?_)
     ·replace H:=M.ite_t hb H
      refine KE ?_
      refine KD (v:=.pointer x0) rfl rfl hE rfl (KG hE rfl) (fun a hE=>?_)
      refine JI hE hR K0 rfl (ZD x0) H (fun _ _ hR HQ=>hthr _ _ hR HQ) (fun Xx52 a w ea hR H=>?_)
      have hE:=Env.put_some hE rfl ea; clear ea
      refine KY ?_
      exact ⟨hE.cut (.cons rfl (.cons rfl Subs.nil)),hR,H⟩
     ·replace H:=M.ite_f hb H
      refine Jm ?_
      exact ⟨hE.cut (.cons rfl (.cons rfl Subs.nil)),hR,H⟩
    ·skip
     obtain ⟨Xx53,qXx53,H⟩:=H
     obtain ⟨Xx54,qXx54,H⟩:=H
     obtain ⟨Xx55,qXx55,H⟩:=H
     obtain ⟨Xx56,qXx56,H⟩:=H
     rcases Ub (decide (Xx55 ≥ (Xx56.size:Int))) with hb_57 | hb_57
     ·replace H:=M.ite_t hb_57 H
      refine Y0 (rops:=GI) (by kernel_rfl) ?_
      have hT:Tab GI _ _ _:=Wo KCc rfl (by kernel_rfl)
      have hM:=TabM.of KAE
      refine Ux (m:=22) (fun w:World=>(fun h:Heap=>(KV h ((Xx53).add 1)=some (.int .i64 Xx55))∧(KV h ((Xx54).add 0)=some (.string Xx56))) w.heap) [9,10,11,12,13,14,15,16,17,18,19,20,21] (unb 22 0) mo hR (by kernel_rfl) (by kernel_rfl) (fun w' e=>by rw [e]; exact ⟨qXx55,qXx56⟩) (fun w hh hR hs=>?_)
      replace H:=M.at hh H; clear hh
      refine KB (i:=0) (v:=.pointer x0) (unb 22 1) rfl rfl hT (anyM hM (by kernel_rfl)) hE rfl (KA rfl) (fun w=>KG hE rfl) (fun a hE=>?_)
      refine KB (i:=1) (v:=.pointer (some Xx53)) (unb 22 3) rfl rfl hT (anyM hM (by kernel_rfl)) hE rfl (KA rfl) (fun w=>KN hE (JC rfl (congrArg Value.pointer qXx53))) (fun a hE=>?_)
      refine KB (i:=2) (v:=.pointer (some ((Xx53).add 1))) (unb 22 7) rfl rfl hT (anyM hM (by kernel_rfl)) hE rfl (KA rfl) (fun w=>KL hE rfl ZT) (fun a hE=>?_)
      refine KB (i:=4) (v:=.pointer x0) (unb 22 23) rfl rfl hT (anyM hM (by kernel_rfl)) hE rfl (KA rfl) (fun w=>KG hE rfl) (fun a hE=>?_)
      refine KB (i:=5) (v:=.pointer (some Xx54)) (unb 22 55) rfl rfl hT (anyM hM (by kernel_rfl)) hE rfl (KA rfl) (fun w=>KN hE (JC rfl (congrArg Value.pointer qXx54))) (fun a hE=>?_)
      refine KB (i:=6) (v:=.pointer (some ((Xx54).add 0))) (unb 22 119) rfl rfl hT (anyM hM (by kernel_rfl)) hE rfl (KA rfl) (fun w=>KL hE rfl Wm) (fun a hE=>?_)
      refine J4 (i:=3) (v:=.int .i64 Xx55) (unb 22 127) rfl rfl hT (WL hM (by kernel_rfl)) hE rfl (KA rfl) hs (fun w s=>ZB hE rfl sc3 s.1) (fun a hE=>?_)
      refine J4 (i:=7) (v:=.string Xx56) (unb 22 255) rfl rfl hT (WL hM (by kernel_rfl)) hE rfl (KA rfl) hs (fun w s=>ZB hE rfl sc9 s.2) (fun a hE=>?_)
      refine KB (i:=8) (v:=.int .i64 (Xx56.size:Int)) (unb 22 511) rfl rfl hT (anyM hM (by kernel_rfl)) hE rfl (KA rfl) (fun w=>Wn hE rfl un9) (fun a hE=>?_)
      refine KB (i:=9) (v:=.bool (decide (Xx55 ≥ (Xx56.size:Int)))) (unb 22 1023) rfl rfl hT (anyM hM (by kernel_rfl)) hE rfl (KA rfl) (fun w=>ZK hE rfl rfl ZG zw) (fun a hE=>?_)
      refine KB (i:=10) (v:=.bool (decide (Xx55 ≥ (Xx56.size:Int)))) (unb 22 2047) rfl rfl hT (anyM hM (by kernel_rfl)) hE rfl (KA rfl) (fun w=>KG hE rfl) (fun a hE=>?_)
      have hE:=hE.reb 37 (decide (Xx55 ≥ (Xx56.size:Int))) true hb_57 rfl
      replace hE:=hE.cut (l':=[(0,.pointer x0),(4,.int .i64 Xx17),(37,.bool true)]) (.cons rfl (.cons rfl (.cons rfl Subs.nil)))
      refine KB3 (i:=11) (unb 22 4095) rfl rfl hT (anyM hM (by kernel_rfl)) (UF rfl hE rfl rfl rfl) (fun a ea=>?_)
      have hE:=Env.put_some hE rfl ea; clear ea
      refine KB3 (i:=12) (unb 22 8191) rfl rfl hT (anyM hM (by kernel_rfl)) (UF rfl hE rfl rfl rfl) (fun a ea=>?_)
      have hE:=Env.put_some hE rfl ea; clear ea
      refine KB (i:=13) (v:=.bool true) (unb 22 16383) rfl rfl hT (anyM hM (by kernel_rfl)) hE rfl (KA rfl) (fun w=>JQ hE rfl rfl) (fun a hE=>?_)
      refine KB (i:=14) (v:=.bool true) (unb 22 32767) rfl rfl hT (anyM hM (by kernel_rfl)) hE rfl (KA rfl) (fun w=>KG hE rfl) (fun a hE=>?_)
      refine Yf [(15,some 42),(16,some 43),(17,some 44),(18,some 45),(19,some 46),(20,some 47)] 1 hT hM hE (by kernel_rfl) (m':=2097151) (by kernel_rfl) (fun a hE=>?_)
      refine KB (i:=21) (v:=.bool true) (unb 22 4194303) rfl rfl hT (anyM hM (by kernel_rfl)) hE rfl (KA rfl) (fun w=>JQ hE rfl rfl) (fun a hE=>?_)
      refine Vt hT (GU hM (by kernel_rfl)) ?_
      exact ⟨true,hE.cut (.cons rfl (.cons rfl (.cons rfl Subs.nil))),hR,H⟩
     ·replace H:=M.ite_f hb_57 H
      rcases Ub (decide (Xx17 < 0)) with hb_58 | hb_58
      ·replace H:=M.ite_t hb_58 H
       refine Y0 (rops:=GI) (by kernel_rfl) ?_
       have hT:Tab GI _ _ _:=Wo KCc rfl (by kernel_rfl)
       have hM:=TabM.of KAE
       refine Ux (m:=22) (fun w:World=>(fun h:Heap=>(KV h ((Xx53).add 1)=some (.int .i64 Xx55))∧(KV h ((Xx54).add 0)=some (.string Xx56))) w.heap) [9,10,11,12,13,14,15,16,17,18,19,20,21] (unb 22 0) mo hR (by kernel_rfl) (by kernel_rfl) (fun w' e=>by rw [e]; exact ⟨qXx55,qXx56⟩) (fun w hh hR hs=>?_)
       replace H:=M.at hh H; clear hh
       refine KB (i:=0) (v:=.pointer x0) (unb 22 1) rfl rfl hT (anyM hM (by kernel_rfl)) hE rfl (KA rfl) (fun w=>KG hE rfl) (fun a hE=>?_)
       refine KB (i:=1) (v:=.pointer (some Xx53)) (unb 22 3) rfl rfl hT (anyM hM (by kernel_rfl)) hE rfl (KA rfl) (fun w=>KN hE (JC rfl (congrArg Value.pointer qXx53))) (fun a hE=>?_)
       refine KB (i:=2) (v:=.pointer (some ((Xx53).add 1))) (unb 22 7) rfl rfl hT (anyM hM (by kernel_rfl)) hE rfl (KA rfl) (fun w=>KL hE rfl ZT) (fun a hE=>?_)
       refine KB (i:=4) (v:=.pointer x0) (unb 22 23) rfl rfl hT (anyM hM (by kernel_rfl)) hE rfl (KA rfl) (fun w=>KG hE rfl) (fun a hE=>?_)
       refine KB (i:=5) (v:=.pointer (some Xx54)) (unb 22 55) rfl rfl hT (anyM hM (by kernel_rfl)) hE rfl (KA rfl) (fun w=>KN hE (JC rfl (congrArg Value.pointer qXx54))) (fun a hE=>?_)
       refine KB (i:=6) (v:=.pointer (some ((Xx54).add 0))) (unb 22 119) rfl rfl hT (anyM hM (by kernel_rfl)) hE rfl (KA rfl) (fun w=>KL hE rfl Wm) (fun a hE=>?_)
       refine J4 (i:=3) (v:=.int .i64 Xx55) (unb 22 127) rfl rfl hT (WL hM (by kernel_rfl)) hE rfl (KA rfl) hs (fun w s=>ZB hE rfl sc3 s.1) (fun a hE=>?_)
       refine J4 (i:=7) (v:=.string Xx56) (unb 22 255) rfl rfl hT (WL hM (by kernel_rfl)) hE rfl (KA rfl) hs (fun w s=>ZB hE rfl sc9 s.2) (fun a hE=>?_)
       refine KB (i:=8) (v:=.int .i64 (Xx56.size:Int)) (unb 22 511) rfl rfl hT (anyM hM (by kernel_rfl)) hE rfl (KA rfl) (fun w=>Wn hE rfl un9) (fun a hE=>?_)
       refine KB (i:=9) (v:=.bool (decide (Xx55 ≥ (Xx56.size:Int)))) (unb 22 1023) rfl rfl hT (anyM hM (by kernel_rfl)) hE rfl (KA rfl) (fun w=>ZK hE rfl rfl ZG zw) (fun a hE=>?_)
       refine KB (i:=10) (v:=.bool (decide (Xx55 ≥ (Xx56.size:Int)))) (unb 22 2047) rfl rfl hT (anyM hM (by kernel_rfl)) hE rfl (KA rfl) (fun w=>KG hE rfl) (fun a hE=>?_)
       have hE:=hE.reb 37 (decide (Xx55 ≥ (Xx56.size:Int))) false hb_57 rfl
       replace hE:=hE.cut (l':=[(0,.pointer x0),(4,.int .i64 Xx17),(37,.bool false)]) (.cons rfl (.cons rfl (.cons rfl Subs.nil)))
       refine KB (i:=11) (v:=.int .i64 Xx17) (unb 22 4095) rfl rfl hT (anyM hM (by kernel_rfl)) hE rfl (KP rfl hE rfl rfl rfl) (fun w=>KG hE rfl) (fun a hE=>?_)
       refine KB (i:=12) (v:=.bool (decide (Xx17 < 0))) (unb 22 8191) rfl rfl hT (anyM hM (by kernel_rfl)) hE rfl (KP rfl hE rfl rfl rfl) (fun w=>ZK hE rfl rfl ZG zu) (fun a hE=>?_)
       refine KB (i:=13) (v:=.bool (decide (Xx17 < 0))) (unb 22 16383) rfl rfl hT (anyM hM (by kernel_rfl)) hE rfl (KA rfl) (fun w=>Zr hE rfl rfl) (fun a hE=>?_)
       refine KB (i:=14) (v:=.bool (decide (Xx17 < 0))) (unb 22 32767) rfl rfl hT (anyM hM (by kernel_rfl)) hE rfl (KA rfl) (fun w=>KG hE rfl) (fun a hE=>?_)
       have hE:=hE.reb 41 (decide (Xx17 < 0)) true hb_58 rfl
       replace hE:=hE.cut (l':=[(0,.pointer x0),(4,.int .i64 Xx17),(41,.bool true)]) (.cons rfl (.cons rfl (.cons rfl Subs.nil)))
       refine Yf [(15,some 42),(16,some 43),(17,some 44),(18,some 45),(19,some 46),(20,some 47)] 1 hT hM hE (by kernel_rfl) (m':=2097151) (by kernel_rfl) (fun a hE=>?_)
       refine KB (i:=21) (v:=.bool true) (unb 22 4194303) rfl rfl hT (anyM hM (by kernel_rfl)) hE rfl (KA rfl) (fun w=>JQ hE rfl rfl) (fun a hE=>?_)
       refine Vt hT (GU hM (by kernel_rfl)) ?_
       exact ⟨true,hE.cut (.cons rfl (.cons rfl (.cons rfl Subs.nil))),hR,H⟩
      ·replace H:=M.ite_f hb_58 H
       rcases Ub (decide (Xx17 > 1)) with hb_59 | hb_59
       ·replace H:=M.ite_t hb_59 H
        refine Y0 (rops:=GI) (by kernel_rfl) ?_
        have hT:Tab GI _ _ _:=Wo KCc rfl (by kernel_rfl)
        have hM:=TabM.of KAE
        refine Ux (m:=22) (fun w:World=>(fun h:Heap=>(KV h ((Xx53).add 1)=some (.int .i64 Xx55))∧(KV h ((Xx54).add 0)=some (.string Xx56))) w.heap) [9,10,11,12,13,14,15,16,17,18,19,20,21] (unb 22 0) mo hR (by kernel_rfl) (by kernel_rfl) (fun w' e=>by rw [e]; exact ⟨qXx55,qXx56⟩) (fun w hh hR hs=>?_)
        replace H:=M.at hh H; clear hh
        refine KB (i:=0) (v:=.pointer x0) (unb 22 1) rfl rfl hT (anyM hM (by kernel_rfl)) hE rfl (KA rfl) (fun w=>KG hE rfl) (fun a hE=>?_)
        refine KB (i:=1) (v:=.pointer (some Xx53)) (unb 22 3) rfl rfl hT (anyM hM (by kernel_rfl)) hE rfl (KA rfl) (fun w=>KN hE (JC rfl (congrArg Value.pointer qXx53))) (fun a hE=>?_)
        refine KB (i:=2) (v:=.pointer (some ((Xx53).add 1))) (unb 22 7) rfl rfl hT (anyM hM (by kernel_rfl)) hE rfl (KA rfl) (fun w=>KL hE rfl ZT) (fun a hE=>?_)
        refine KB (i:=4) (v:=.pointer x0) (unb 22 23) rfl rfl hT (anyM hM (by kernel_rfl)) hE rfl (KA rfl) (fun w=>KG hE rfl) (fun a hE=>?_)
        refine KB (i:=5) (v:=.pointer (some Xx54)) (unb 22 55) rfl rfl hT (anyM hM (by kernel_rfl)) hE rfl (KA rfl) (fun w=>KN hE (JC rfl (congrArg Value.pointer qXx54))) (fun a hE=>?_)
        refine KB (i:=6) (v:=.pointer (some ((Xx54).add 0))) (unb 22 119) rfl rfl hT (anyM hM (by kernel_rfl)) hE rfl (KA rfl) (fun w=>KL hE rfl Wm) (fun a hE=>?_)
        refine J4 (i:=3) (v:=.int .i64 Xx55) (unb 22 127) rfl rfl hT (WL hM (by kernel_rfl)) hE rfl (KA rfl) hs (fun w s=>ZB hE rfl sc3 s.1) (fun a hE=>?_)
        refine J4 (i:=7) (v:=.string Xx56) (unb 22 255) rfl rfl hT (WL hM (by kernel_rfl)) hE rfl (KA rfl) hs (fun w s=>ZB hE rfl sc9 s.2) (fun a hE=>?_)
        refine KB (i:=8) (v:=.int .i64 (Xx56.size:Int)) (unb 22 511) rfl rfl hT (anyM hM (by kernel_rfl)) hE rfl (KA rfl) (fun w=>Wn hE rfl un9) (fun a hE=>?_)
        refine KB (i:=9) (v:=.bool (decide (Xx55 ≥ (Xx56.size:Int)))) (unb 22 1023) rfl rfl hT (anyM hM (by kernel_rfl)) hE rfl (KA rfl) (fun w=>ZK hE rfl rfl ZG zw) (fun a hE=>?_)
        refine KB (i:=10) (v:=.bool (decide (Xx55 ≥ (Xx56.size:Int)))) (unb 22 2047) rfl rfl hT (anyM hM (by kernel_rfl)) hE rfl (KA rfl) (fun w=>KG hE rfl) (fun a hE=>?_)
        have hE:=hE.reb 37 (decide (Xx55 ≥ (Xx56.size:Int))) false hb_57 rfl
        replace hE:=hE.cut (l':=[(0,.pointer x0),(4,.int .i64 Xx17),(37,.bool false)]) (.cons rfl (.cons rfl (.cons rfl Subs.nil)))
        refine KB (i:=11) (v:=.int .i64 Xx17) (unb 22 4095) rfl rfl hT (anyM hM (by kernel_rfl)) hE rfl (KP rfl hE rfl rfl rfl) (fun w=>KG hE rfl) (fun a hE=>?_)
        refine KB (i:=12) (v:=.bool (decide (Xx17 < 0))) (unb 22 8191) rfl rfl hT (anyM hM (by kernel_rfl)) hE rfl (KP rfl hE rfl rfl rfl) (fun w=>ZK hE rfl rfl ZG zu) (fun a hE=>?_)
        refine KB (i:=13) (v:=.bool (decide (Xx17 < 0))) (unb 22 16383) rfl rfl hT (anyM hM (by kernel_rfl)) hE rfl (KA rfl) (fun w=>Zr hE rfl rfl) (fun a hE=>?_)
        refine KB (i:=14) (v:=.bool (decide (Xx17 < 0))) (unb 22 32767) rfl rfl hT (anyM hM (by kernel_rfl)) hE rfl (KA rfl) (fun w=>KG hE rfl) (fun a hE=>?_)
        have hE:=hE.reb 41 (decide (Xx17 < 0)) false hb_58 rfl
        replace hE:=hE.cut (l':=[(0,.pointer x0),(4,.int .i64 Xx17),(41,.bool false)]) (.cons rfl (.cons rfl (.cons rfl Subs.nil)))
        refine KB (i:=15) (v:=.int .i64 Xx17) (unb 22 65535) rfl rfl hT (anyM hM (by kernel_rfl)) hE rfl (KP rfl hE rfl rfl rfl) (fun w=>KG hE rfl) (fun a hE=>?_)
        refine KB (i:=16) (v:=.bool (decide (Xx17 > 1))) (unb 22 131071) rfl rfl hT (anyM hM (by kernel_rfl)) hE rfl (KP rfl hE rfl rfl rfl) (fun w=>ZK hE rfl rfl ZG KB0) (fun a hE=>?_)
        refine KB (i:=17) (v:=.bool (decide (Xx17 > 1))) (unb 22 262143) rfl rfl hT (anyM hM (by kernel_rfl)) hE rfl (KP rfl hE rfl rfl rfl) (fun w=>KG hE rfl) (fun a hE=>?_)
        have hE:=hE.reb 44 (decide (Xx17 > 1)) true hb_59 rfl
        replace hE:=hE.cut (l':=[(0,.pointer x0),(4,.int .i64 Xx17),(41,.bool false),(44,.bool true)]) (.cons rfl (.cons rfl (.cons rfl (.cons rfl Subs.nil))))
        refine KB (i:=18) (v:=.int .i64 Xx17) (unb 22 524287) rfl rfl hT (anyM hM (by kernel_rfl)) hE rfl (KP rfl hE rfl rfl rfl) (fun w=>KG hE rfl) (fun a hE=>?_)
        refine KB (i:=19) (v:=.bool (decide (Xx17 < 7))) (unb 22 1048575) rfl rfl hT (anyM hM (by kernel_rfl)) hE rfl (KP rfl hE rfl rfl rfl) (fun w=>ZK hE rfl rfl ZG zu) (fun a hE=>?_)
        refine KB (i:=20) (v:=.bool (decide (Xx17 < 7))) (unb 22 2097151) rfl rfl hT (anyM hM (by kernel_rfl)) hE rfl (KP rfl hE rfl rfl rfl) (fun w=>JQ hE rfl rfl) (fun a hE=>?_)
        refine KB (i:=21) (v:=.bool (decide (Xx17 < 7))) (unb 22 4194303) rfl rfl hT (anyM hM (by kernel_rfl)) hE rfl (KA rfl) (fun w=>Zr hE rfl rfl) (fun a hE=>?_)
        refine Vt hT (GU hM (by kernel_rfl)) ?_
        exact ⟨decide (Xx17 < 7),hE.cut (.cons rfl (.cons rfl (.cons rfl Subs.nil))),hR,H⟩
       ·replace H:=M.ite_f hb_59 H
        refine Y0 (rops:=GI) (by kernel_rfl) ?_
        have hT:Tab GI _ _ _:=Wo KCc rfl (by kernel_rfl)
        have hM:=TabM.of KAE
        refine Ux (m:=22) (fun w:World=>(fun h:Heap=>(KV h ((Xx53).add 1)=some (.int .i64 Xx55))∧(KV h ((Xx54).add 0)=some (.string Xx56))) w.heap) [9,10,11,12,13,14,15,16,17,18,19,20,21] (unb 22 0) mo hR (by kernel_rfl) (by kernel_rfl) (fun w' e=>by rw [e]; exact ⟨qXx55,qXx56⟩) (fun w hh hR hs=>?_)
        replace H:=M.at hh H; clear hh
        refine KB (i:=0) (v:=.pointer x0) (unb 22 1) rfl rfl hT (anyM hM (by kernel_rfl)) hE rfl (KA rfl) (fun w=>KG hE rfl) (fun a hE=>?_)
        refine KB (i:=1) (v:=.pointer (some Xx53)) (unb 22 3) rfl rfl hT (anyM hM (by kernel_rfl)) hE rfl (KA rfl) (fun w=>KN hE (JC rfl (congrArg Value.pointer qXx53))) (fun a hE=>?_)
        refine KB (i:=2) (v:=.pointer (some ((Xx53).add 1))) (unb 22 7) rfl rfl hT (anyM hM (by kernel_rfl)) hE rfl (KA rfl) (fun w=>KL hE rfl ZT) (fun a hE=>?_)
        refine KB (i:=4) (v:=.pointer x0) (unb 22 23) rfl rfl hT (anyM hM (by kernel_rfl)) hE rfl (KA rfl) (fun w=>KG hE rfl) (fun a hE=>?_)
        refine KB (i:=5) (v:=.pointer (some Xx54)) (unb 22 55) rfl rfl hT (anyM hM (by kernel_rfl)) hE rfl (KA rfl) (fun w=>KN hE (JC rfl (congrArg Value.pointer qXx54))) (fun a hE=>?_)
        refine KB (i:=6) (v:=.pointer (some ((Xx54).add 0))) (unb 22 119) rfl rfl hT (anyM hM (by kernel_rfl)) hE rfl (KA rfl) (fun w=>KL hE rfl Wm) (fun a hE=>?_)
        refine J4 (i:=3) (v:=.int .i64 Xx55) (unb 22 127) rfl rfl hT (WL hM (by kernel_rfl)) hE rfl (KA rfl) hs (fun w s=>ZB hE rfl sc3 s.1) (fun a hE=>?_)
        refine J4 (i:=7) (v:=.string Xx56) (unb 22 255) rfl rfl hT (WL hM (by kernel_rfl)) hE rfl (KA rfl) hs (fun w s=>ZB hE rfl sc9 s.2) (fun a hE=>?_)
        refine KB (i:=8) (v:=.int .i64 (Xx56.size:Int)) (unb 22 511) rfl rfl hT (anyM hM (by kernel_rfl)) hE rfl (KA rfl) (fun w=>Wn hE rfl un9) (fun a hE=>?_)
        refine KB (i:=9) (v:=.bool (decide (Xx55 ≥ (Xx56.size:Int)))) (unb 22 1023) rfl rfl hT (anyM hM (by kernel_rfl)) hE rfl (KA rfl) (fun w=>ZK hE rfl rfl ZG zw) (fun a hE=>?_)
        refine KB (i:=10) (v:=.bool (decide (Xx55 ≥ (Xx56.size:Int)))) (unb 22 2047) rfl rfl hT (anyM hM (by kernel_rfl)) hE rfl (KA rfl) (fun w=>KG hE rfl) (fun a hE=>?_)
        have hE:=hE.reb 37 (decide (Xx55 ≥ (Xx56.size:Int))) false hb_57 rfl
        replace hE:=hE.cut (l':=[(0,.pointer x0),(4,.int .i64 Xx17),(37,.bool false)]) (.cons rfl (.cons rfl (.cons rfl Subs.nil)))
        refine KB (i:=11) (v:=.int .i64 Xx17) (unb 22 4095) rfl rfl hT (anyM hM (by kernel_rfl)) hE rfl (KP rfl hE rfl rfl rfl) (fun w=>KG hE rfl) (fun a hE=>?_)
        refine KB (i:=12) (v:=.bool (decide (Xx17 < 0))) (unb 22 8191) rfl rfl hT (anyM hM (by kernel_rfl)) hE rfl (KP rfl hE rfl rfl rfl) (fun w=>ZK hE rfl rfl ZG zu) (fun a hE=>?_)
        refine KB (i:=13) (v:=.bool (decide (Xx17 < 0))) (unb 22 16383) rfl rfl hT (anyM hM (by kernel_rfl)) hE rfl (KA rfl) (fun w=>Zr hE rfl rfl) (fun a hE=>?_)
        refine KB (i:=14) (v:=.bool (decide (Xx17 < 0))) (unb 22 32767) rfl rfl hT (anyM hM (by kernel_rfl)) hE rfl (KA rfl) (fun w=>KG hE rfl) (fun a hE=>?_)
        have hE:=hE.reb 41 (decide (Xx17 < 0)) false hb_58 rfl
        replace hE:=hE.cut (l':=[(0,.pointer x0),(4,.int .i64 Xx17),(41,.bool false)]) (.cons rfl (.cons rfl (.cons rfl Subs.nil)))
        refine KB (i:=15) (v:=.int .i64 Xx17) (unb 22 65535) rfl rfl hT (anyM hM (by kernel_rfl)) hE rfl (KP rfl hE rfl rfl rfl) (fun w=>KG hE rfl) (fun a hE=>?_)
        refine KB (i:=16) (v:=.bool (decide (Xx17 > 1))) (unb 22 131071) rfl rfl hT (anyM hM (by kernel_rfl)) hE rfl (KP rfl hE rfl rfl rfl) (fun w=>ZK hE rfl rfl ZG KB0) (fun a hE=>?_)
        refine KB (i:=17) (v:=.bool (decide (Xx17 > 1))) (unb 22 262143) rfl rfl hT (anyM hM (by kernel_rfl)) hE rfl (KP rfl hE rfl rfl rfl) (fun w=>KG hE rfl) (fun a hE=>?_)
        have hE:=hE.reb 44 (decide (Xx17 > 1)) false hb_59 rfl
        replace hE:=hE.cut (l':=[(0,.pointer x0),(4,.int .i64 Xx17),(41,.bool false),(44,.bool false)]) (.cons rfl (.cons rfl (.cons rfl (.cons rfl Subs.nil))))
        refine KB3 (i:=18) (unb 22 524287) rfl rfl hT (anyM hM (by kernel_rfl)) (UF rfl hE rfl rfl rfl) (fun a ea=>?_)
        have hE:=Env.put_some hE rfl ea; clear ea
        refine KB3 (i:=19) (unb 22 1048575) rfl rfl hT (anyM hM (by kernel_rfl)) (UF rfl hE rfl rfl rfl) (fun a ea=>?_)
        have hE:=Env.put_some hE rfl ea; clear ea
        refine KB (i:=20) (v:=.bool false) (unb 22 2097151) rfl rfl hT (anyM hM (by kernel_rfl)) hE rfl (KP rfl hE rfl rfl rfl) (fun w=>Zr hE rfl rfl) (fun a hE=>?_)
        refine KB (i:=21) (v:=.bool false) (unb 22 4194303) rfl rfl hT (anyM hM (by kernel_rfl)) hE rfl (KA rfl) (fun w=>Zr hE rfl rfl) (fun a hE=>?_)
        refine Vt hT (GU hM (by kernel_rfl)) ?_
        exact ⟨false,hE.cut (.cons rfl (.cons rfl (.cons rfl Subs.nil))),hR,H⟩
end Gx
