/- Printed by program: Go functions as Lean programs, each tied to its code. No condition. -/
import Derived.Test.YtpibdohdkfkcnaaGreatDoorP0
import Derived.Test.YtpibdohdkfkcnaaGreatDoorP1
import Derived.Test.YtpibdohdkfkcnaaGreatDoorP2
import Derived.Test.YtpibdohdkfkcnaaGreatDoorP3
set_option linter.unusedVariables false
set_option linter.unusedSimpArgs false
namespace Gx
open Go
set_option linter.unusedVariables false
set_option maxRecDepth 100000
def VH (x0:Int):M (Bool):=do
 let Xx3←M.ite (decide (x0 ≥ 97)) (do
  M.pure (decide (x0≤122))
  ) (do
  M.pure false
  )
 let Xx4←M.ite Xx3 (do
  M.pure true
  ) (do
  let Xx5←M.ite (decide (x0 ≥ 65)) (do
   M.pure (decide (x0≤90))
   ) (do
   M.pure false
   )
  M.pure Xx5
  )
 let Xx6←M.ite Xx4 (do
  M.pure true
  ) (do
  M.pure (x0 == 95)
  )
 M.pure Xx6
theorem KBo (x0:Int):Kn Go.Proofs.Tryz.prog 177 #[.int .u8 x0] (fun (r:Bool)=>.bool r) (VH x0) :=
 KN [] [] [.B] [(0,.I .u8 x0)] .o Go.Proofs.Tryz.func177 rfl rfl ⟨rfl,trivial⟩ rfl (by kernel_rfl) (by kernel_rfl)
noncomputable def NL:CalleeS Go.Proofs.Tryz.prog:=mkC KAl KAp [.I .u8] [.B] (fun (t:Int)=>VH t) (fun (t:Int)=>KBo t)
def XM (x0:Int):M (Bool):=do
 let Xx3←VH x0
 let Xx4←M.ite Xx3 (do
  M.pure true
  ) (do
  let Xx5←M.ite (decide (x0 ≥ 48)) (do
   M.pure (decide (x0≤57))
   ) (do
   M.pure false
   )
  M.pure Xx5
  )
 M.pure Xx4
theorem KDv (x0:Int):Kn Go.Proofs.Tryz.prog 212 #[.int .u8 x0] (fun (r:Bool)=>.bool r) (XM x0) :=
 KN [NL] [] [.B] [(0,.I .u8 x0)] .o Go.Proofs.Tryz.func212 rfl rfl ⟨rfl,trivial⟩ rfl (by kernel_rfl) (by kernel_rfl)
noncomputable def KDw:CalleeS Go.Proofs.Tryz.prog:=mkC KCY KCe [.I .u8] [.B] (fun (t:Int)=>XM t) (fun (t:Int)=>KDv t)
def GR (C5:ByteArray) (C6:Int) (self1:(Int)→M (Int)):(Int)→M (Int):=fun s=>match s with
 | Xx4=>do
  let Xx10←M.ite (decide (Xx4 < (C5.size:Int))) (do
   let Xx11←ixS C5 Xx4
   let Xx12←XM Xx11
   M.pure Xx12
   ) (do
   M.pure false
   )
  M.ite Xx10 (do
   self1 (IntKind.wrap .i64 (Xx4+1))
   ) (do
   M.pure (IntKind.wrap .i64 (Xx4 - C6))
   )
def Yg (x0:ByteArray) (x1:Int):M (Int):=do
 M.loop (GR x0 x1) x1
theorem KEp (x0:ByteArray) (x1:Int):Kn Go.Proofs.Tryz.prog 178 #[.string x0,.int .i64 x1] (fun (r:Int)=>.int .i64 r) (Yg x0 x1) :=
 KN [KDw] [] [.I .i64] [(0,.S x0),(1,.I .i64 x1)] (.q .o (.q .o (.q (.b (.l [(0,.S),(1,.I .i64)] [(5,.I .i64)] (fun (t:ByteArray × Int)=>GR t.1 t.2) (fun _=>.o))) .o))) Go.Proofs.Tryz.func178 rfl rfl ⟨rfl,rfl,trivial⟩ rfl (by kernel_rfl) (by kernel_rfl)
noncomputable def KEq:CalleeS Go.Proofs.Tryz.prog:=mkC KDd KDj [.S,.I .i64] [.I .i64] (fun (t:ByteArray × Int)=>Yg t.1 t.2) (fun (t:ByteArray × Int)=>KEp t.1 t.2)
def YE (self1:(Int)→M (Int)) (Xx9:Int):M (Int):=do
 self1 (IntKind.wrap .i64 (Xx9+1))
def Xm (C5:ByteArray) (self1:(Int)→M (Int)):(Int)→M (Int):=fun s=>match s with
 | Xx4=>do
  M.ite (decide (Xx4 < (C5.size:Int))) (do
   let Xx12←ixS C5 Xx4
   M.ite (Xx12 == 92) (do
    YE self1 (IntKind.wrap .i64 (Xx4+1))
    ) (do
    M.ite (Xx12 == 39) (do
     M.pure (IntKind.wrap .i64 (Xx4+1))
     ) (do
     YE self1 Xx4
     )
    )
   ) (do
   M.pure 0
   )
def XN (x0:ByteArray):M (Int):=do
 M.loop (Xm x0) 1
theorem KDx (x0:ByteArray):Kn Go.Proofs.Tryz.prog 179 #[.string x0] (fun (r:Int)=>.int .i64 r) (XN x0) :=
 KN [] [] [.I .i64] [(0,.S x0)] (.q .o (.q (.q .o (.b (.l [(0,.S)] [(3,.I .i64)] (fun (t:ByteArray)=>Xm t) (fun self1=>.q .o (.q .o (.j [(0,.S),(3,.I .i64)] (fun (t:ByteArray × Int)=>YE self1 t.2) .o)))))) .o)) Go.Proofs.Tryz.func179 rfl rfl ⟨rfl,trivial⟩ rfl (by kernel_rfl) (by kernel_rfl)
noncomputable def KDy:CalleeS Go.Proofs.Tryz.prog:=mkC KCW KCc [.S] [.I .i64] (fun (t:ByteArray)=>XN t) (fun (t:ByteArray)=>KDx t)
def ZK (C5:Sl) (C6:Value) (C7:Int) (self1:(Int)→M (Int)):(Int)→M (Int):=fun s=>match s with
 | Xx4=>do
  M.ite (decide (Xx4 < C7)) (do
   let Xx14←ixL C5 Xx4 4
   let Xx15←ldG 4 Xx14
   let Xx16←Yq Go.Proofs.Tryz.prog (fun r:Bool=>.bool r) C6 [.agg Xx15]
   M.ite Xx16 (do
    M.pure Xx4
    ) (do
    self1 (IntKind.wrap .i64 (Xx4+1))
    )
   ) (do
   M.pure (-1)
   )
def Kx (x0:Sl) (x1:Value):M (Int):=do
 M.loop (ZK x0 x1 (x0.len:Int)) 0
theorem Ud (x0:Sl) (x1:Value):Kn Go.Proofs.Tryz.prog 205 #[(x0:Sl).v,x1] (fun (r:Int)=>.int .i64 r) (Kx x0 x1) :=
 KN [] [] [.I .i64] [(0,.L x0),(1,.V x1)] (.q .o (.q (.q .o (.b (.l [(0,.L),(1,.V),(7,.I .i64)] [(8,.I .i64)] (fun (t:Sl × Value × Int)=>ZK t.1 t.2.1 t.2.2) (fun _=>.o)))) .o)) Go.Proofs.Tryz.func205 rfl rfl ⟨rfl,rfl,trivial⟩ rfl (by kernel_rfl) (by kernel_rfl)
noncomputable def Ue:CalleeS Go.Proofs.Tryz.prog:=mkC UX UY [.L,.V] [.I .i64] (fun (t:Sl × Value)=>Kx t.1 t.2) (fun (t:Sl × Value)=>Ud t.1 t.2)
def Kf (x0:Sl) (x1:Value):M (Bool):=do
 let Xx3←Kx x0 x1
 M.pure (decide (Xx3 ≥ 0))
theorem UJ (x0:Sl) (x1:Value):Kn Go.Proofs.Tryz.prog 165 #[(x0:Sl).v,x1] (fun (r:Bool)=>.bool r) (Kf x0 x1) :=
 KN [Ue] [] [.B] [(0,.L x0),(1,.V x1)] .o Go.Proofs.Tryz.func165 rfl rfl ⟨rfl,rfl,trivial⟩ rfl (by kernel_rfl) (by kernel_rfl)
noncomputable def UK:CalleeS Go.Proofs.Tryz.prog:=mkC UD UE [.L,.V] [.B] (fun (t:Sl × Value)=>Kf t.1 t.2) (fun (t:Sl × Value)=>UJ t.1 t.2)
def WP (C12:Addr) (C13:Addr):M (Bool):=do
 let Xx15←ldI .i64 ((C12).add 1)
 let Xx16←M.ite (Xx15 == 0) (do
  let Xx17←ldS ((C12).add 2)
  M.pure (sEq Xx17 ByteArray.empty)
  ) (do
  M.pure false
  )
 let Xx18←M.ite Xx16 (do
  let Xx19←ldL ((C12).add 3)
  let Xx20←Kf Xx19 (Value.func (.func KBc) #[] #[.pointer (some C13)])
  M.pure (!Xx20)
  ) (do
  M.pure false
  )
 M.pure Xx18
def GS (C61:Addr) (C62:Addr) (self1:(Int)→M (Bool)):(Int)→M (Bool):=fun s=>match s with
 | Xx60=>do
  let Xx66←ldL ((C61).add 3)
  M.ite (decide (Xx60 < (Xx66.len:Int))) (do
   let Xx69←ldL ((C61).add 3)
   let Xx70←ixL Xx69 (IntKind.wrap .i64 (Xx60 - 2)) 4
   let Xx71←ldG 4 Xx70
   let Xx72←ldL ((C61).add 3)
   let Xx73←ixL Xx72 Xx60 4
   let Xx74←ldG 4 Xx73
   let Xx75←Us Xx71 Xx74
   M.ite (decide (Xx75 ≥ 0)) (do
    M.pure false
    ) (do
    self1 (IntKind.wrap .i64 (Xx60+2))
    )
   ) (do
   WP C61 C62
   )
def WQ (C32:Addr) (C33:Addr) (C34:Bool) (C35:Int) (Xx31:Bool):M (Bool):=do
 M.ite Xx31 (do
  let Xx37←M.ite C34 (do
   let Xx38←ldI .i64 ((C32).add 1)
   M.pure (decide (Xx38 ≥ 1))
   ) (do
   M.pure false
   )
  let Xx39←M.ite Xx37 (do
   let Xx40←ldI .i64 ((C32).add 1)
   M.pure (decide (Xx40≤281474976710656))
   ) (do
   M.pure false
   )
  M.pure Xx39
  ) (do
  M.ite (C35 == 2) (do
   let Xx43←ldI .i64 ((C32).add 1)
   let Xx44←M.ite (Xx43 == 0) (do
    let Xx45←ldL ((C32).add 3)
    M.pure ((Xx45.len:Int) == 0)
    ) (do
    M.pure false
    )
   let Xx46←M.ite Xx44 (do
    let Xx47←ldS ((C32).add 2)
    M.pure (decide ((Xx47.size:Int)≤128))
    ) (do
    M.pure false
    )
   M.pure Xx46
   ) (do
   M.ite (C35 == 4) (do
    let Xx50←ldL ((C32).add 3)
    M.ite (decide ((Xx50.len:Int) > 256)) (do
     M.pure false
     ) (do
     WP C32 C33
     )
    ) (do
    M.ite (C35 == 5) (do
     let Xx55←ldL ((C32).add 3)
     let Xx56←M.ite (decide ((Xx55.len:Int) > 512)) (do
      M.pure true
      ) (do
      let Xx57←ldL ((C32).add 3)
      M.pure ((Int.tmod (Xx57.len:Int) 2) == 1)
      )
     M.ite Xx56 (do
      M.pure false
      ) (do
      M.loop (GS C32 C33) 2
      )
     ) (do
     M.pure false
     )
    )
   )
  )
def Yh (x0:Array Value) (x1:Int):M (Bool):=do
 let Xx2←mkB KI x0
 let Xx3←mkB Vo #[.int .i64 x1]
 let Xx6←ldI .i64 Xx3
 M.ite (decide (Xx6 > 8)) (do
  M.pure false
  ) (do
  let Xx9←ldS ((Xx2).add 2)
  let Xx10←M.ite (sEq Xx9 ByteArray.empty) (do
   let Xx11←ldL ((Xx2).add 3)
   M.pure ((Xx11.len:Int) == 0)
   ) (do
   M.pure false
   )
  let Xx22←ldI .i64 ((Xx2).add 0)
  M.ite (Xx22 == 1) (do
   M.pure Xx10
   ) (do
   M.ite (Xx22 == 3) (do
    let Xx27←M.ite Xx10 (do
     let Xx28←ldI .i64 ((Xx2).add 1)
     let Xx29←M.ite (Xx28 == 0) (do
      M.pure true
      ) (do
      let Xx30←ldI .i64 ((Xx2).add 1)
      M.pure (Xx30 == 1)
      )
     M.pure Xx29
     ) (do
     M.pure false
     )
    M.pure Xx27
    ) (do
    M.ite (Xx22 == 6) (do
     WQ Xx2 Xx3 Xx10 Xx22 (Xx22 == 6)
     ) (do
     WQ Xx2 Xx3 Xx10 Xx22 (Xx22 == 7)
     )
    )
   )
  )
theorem KEr (x0:Array Value) (x1:Int):Kn Go.Proofs.Tryz.prog 201 #[.agg x0,.int .i64 x1] (fun (r:Bool)=>.bool r) (Yh x0 x1) :=
 KN [KAz,UK] [] [.B] [(0,.G x0),(1,.I .i64 x1)] (.q .o (.q .o (.q .o (.q (.q .o (.b (.q .o (.q .o (.q .o (.q .o (.q .o (.j [(2,.A),(3,.A),(5,.B),(19,.I .i64),(36,.B)] (fun (t:Addr × Addr × Bool × Int × Bool)=>WQ t.1 t.2.1 t.2.2.1 t.2.2.2.1 t.2.2.2.2) (.q .o (.q .o (.q .o (.q .o (.q .o (.q .o (.q (.q .o (.q .o (.b (.l [(2,.A),(3,.A)] [(6,.I .i64)] (fun (t:Addr × Addr)=>GS t.1 t.2) (fun _=>.q .o (.q (.b (.q (.r [0,1,0,4,10,16,0,64,0,384,512,1056,2048] [0,1,0,4,10,16,0,64,0,384,512,1056,2048] [0,1,0,4,15,31,0,64,0,448,960,2047,4095] (.pu 0 (.pu 2 (.pu 3 (.pu 6 (.pu 8 (.pu 1 (.pu 4 (.pu 5 (.pu 7 (.pu 9 (.pu 10 (.st [11,12] (.on 11 (.pu 12 (.nx .dn)))))))))))))))) .o)) .o)))))) .o))))))))))))))) (.j [(2,.A),(3,.A)] (fun (t:Addr × Addr)=>WP t.1 t.2) .o))))) Go.Proofs.Tryz.func201 rfl rfl ⟨rfl,rfl,trivial⟩ rfl (by kernel_rfl) (by kernel_rfl)
noncomputable def KA0:CalleeS Go.Proofs.Tryz.prog:=mkC KDh KDl [.G,.I .i64] [.B] (fun (t:Array Value × Int)=>Yh t.1 t.2) (fun (t:Array Value × Int)=>KEr t.1 t.2)
def Yi (x0:Array Value):M (Int):=do
 let Xx2←mkB KI x0
 let Xx5←ldG 4 Xx2
 let Xx6←Yh Xx5 1
 M.ite (!Xx6) (do
  M.pure 20
  ) (do
  M.pure 0
  )
theorem KCn (x0:Array Value):Kn Go.Proofs.Tryz.prog 153 #[.agg x0] (fun (r:Int)=>.int .i64 r) (Yi x0) :=
 KN [KA0] [] [.I .i64] [(0,.G x0)] .o Go.Proofs.Tryz.func153 rfl rfl ⟨rfl,trivial⟩ rfl (by kernel_rfl) (by kernel_rfl)
noncomputable def KCo:CalleeS Go.Proofs.Tryz.prog:=mkC KBa KBf [.G] [.I .i64] (fun (t:Array Value)=>Yi t) (fun (t:Array Value)=>KCn t)
def V1 (x0:ByteArray):M (Array Value × Int × Int):=do
 let Xx2←mkB KI (#[.int .i64 0,.int .i64 0,.string ByteArray.empty,.slice none 0 0]:Array Value)
 let Xx4←N7 Go.Proofs.Tryz.prog W9 #[.string x0] (fun r:Array Value × Int × Bool=>.tuple #[.agg r.1,.int .i64 r.2.1,.bool r.2.2])
 let Xx5←mkB KI (#[.int .i64 0,.int .i64 0,.string ByteArray.empty,.slice none 0 0]:Array Value)
 M.need (Xx4.1.size=4)
 stG Xx5 Xx4.1
 M.ite (!Xx4.2.2) (do
  M.need ((#[.int .i64 0,.int .i64 0,.string ByteArray.empty,.slice none 0 0]:Array Value).size=4)
  stG Xx2 (#[.int .i64 0,.int .i64 0,.string ByteArray.empty,.slice none 0 0]:Array Value)
  let Rr11←ldG 4 Xx2
  M.pure (Rr11,Xx4.2.1,22)
  ) (do
  let Xx13←ldG 4 Xx5
  let Xx14←Yi Xx13
  M.ite (Xx14 != 0) (do
   M.need ((#[.int .i64 0,.int .i64 0,.string ByteArray.empty,.slice none 0 0]:Array Value).size=4)
   stG Xx2 (#[.int .i64 0,.int .i64 0,.string ByteArray.empty,.slice none 0 0]:Array Value)
   let Rr17←ldG 4 Xx2
   M.pure (Rr17,0,20)
   ) (do
   let Xx19←ldG 4 Xx5
   M.need (Xx19.size=4)
   stG Xx2 Xx19
   let Rr21←ldG 4 Xx2
   M.pure (Rr21,0,0)
   )
  )
theorem KCp (x0:ByteArray):Kn Go.Proofs.Tryz.prog 180 #[.string x0] (fun (r:Array Value × Int × Int)=>.tuple #[.agg r.1,.int .i64 r.2.1,.int .i64 r.2.2]) (V1 x0) :=
 KN [KCo,mkC W9 KCh [.S] [.G,.I .i64,.B] (fun (t:ByteArray)=>N7 Go.Proofs.Tryz.prog W9 #[.string t] (fun r:Array Value × Int × Bool=>.tuple #[.agg r.1,.int .i64 r.2.1,.bool r.2.2])) (fun (t:ByteArray)=>Vr)] [] [.G,.I .i64,.I .i64] [(0,.S x0)] .o Go.Proofs.Tryz.func180 rfl rfl ⟨rfl,trivial⟩ rfl (by kernel_rfl) (by kernel_rfl)
noncomputable def KCq:CalleeS Go.Proofs.Tryz.prog:=mkC KBb KBg [.S] [.G,.I .i64,.I .i64] (fun (t:ByteArray)=>V1 t) (fun (t:ByteArray)=>KCp t)
def XO (C42:ByteArray) (C43:Addr) (Xx41:Int):M (Array Value × Int):=do
 let Xx45←slS C42 0 Xx41
 let Xx46←V1 Xx45
 let Xx47←mkB KI (#[.int .i64 0,.int .i64 0,.string ByteArray.empty,.slice none 0 0]:Array Value)
 M.need (Xx46.1.size=4)
 stG Xx47 Xx46.1
 let Xx51←M.ite (Xx46.2.2 != 0) (do
  M.pure true
  ) (do
  let Xx52←ldI .i64 ((Xx47).add 0)
  M.pure (Xx52 != 1)
  )
 M.ite Xx51 (do
  M.need ((#[.int .i64 0,.string ByteArray.empty,.int .i64 0,.int .i64 0]:Array Value).size=4)
  stG C43 (#[.int .i64 0,.string ByteArray.empty,.int .i64 0,.int .i64 0]:Array Value)
  let Rr55←ldG 4 C43
  M.pure (Rr55,0)
  ) (do
  let Xx57←ldI .i64 ((Xx47).add 1)
  M.need ((#[.int .i64 2,.string ByteArray.empty,.int .i64 Xx57,.int .i64 0]:Array Value).size=4)
  stG C43 (#[.int .i64 2,.string ByteArray.empty,.int .i64 Xx57,.int .i64 0]:Array Value)
  let Rr59←ldG 4 C43
  M.pure (Rr59,Xx41)
  )
def KA1 (x0:ByteArray):M (Array Value × Int):=do
 let Xx2←mkB KP (#[.int .i64 0,.string ByteArray.empty,.int .i64 0,.int .i64 0]:Array Value)
 let Xx5←ixS x0 0
 let Xx7←YP Xx5
 M.ite Xx7 (do
  let Xx9←slS x0 0 1
  M.need ((#[.int .i64 4,.string Xx9,.int .i64 0,.int .i64 0]:Array Value).size=4)
  stG Xx2 (#[.int .i64 4,.string Xx9,.int .i64 0,.int .i64 0]:Array Value)
  let Rr11←ldG 4 Xx2
  M.pure (Rr11,1)
  ) (do
  let Xx13←VH Xx5
  M.ite Xx13 (do
   let Xx15←Yg x0 0
   let Xx17←slS x0 0 Xx15
   M.need ((#[.int .i64 1,.string Xx17,.int .i64 0,.int .i64 0]:Array Value).size=4)
   stG Xx2 (#[.int .i64 1,.string Xx17,.int .i64 0,.int .i64 0]:Array Value)
   let Rr19←ldG 4 Xx2
   M.pure (Rr19,Xx15)
   ) (do
   M.ite (Xx5 == 39) (do
    let Xx22←XN x0
    let Xx24←slS x0 0 Xx22
    let Xx25←V1 Xx24
    let Xx26←mkB KI (#[.int .i64 0,.int .i64 0,.string ByteArray.empty,.slice none 0 0]:Array Value)
    M.need (Xx25.1.size=4)
    stG Xx26 Xx25.1
    let Xx30←M.ite (Xx25.2.2 != 0) (do
     M.pure true
     ) (do
     let Xx31←ldI .i64 ((Xx26).add 0)
     M.pure (Xx31 != 2)
     )
    M.ite Xx30 (do
     M.need ((#[.int .i64 0,.string ByteArray.empty,.int .i64 0,.int .i64 0]:Array Value).size=4)
     stG Xx2 (#[.int .i64 0,.string ByteArray.empty,.int .i64 0,.int .i64 0]:Array Value)
     let Rr34←ldG 4 Xx2
     M.pure (Rr34,0)
     ) (do
     let Xx36←ldS ((Xx26).add 2)
     M.need ((#[.int .i64 3,.string Xx36,.int .i64 0,.int .i64 0]:Array Value).size=4)
     stG Xx2 (#[.int .i64 3,.string Xx36,.int .i64 0,.int .i64 0]:Array Value)
     let Rr38←ldG 4 Xx2
     M.pure (Rr38,Xx22)
     )
    ) (do
    let Xx40←Yg x0 0
    let Xx61←ixS x0 0
    M.ite (Xx61 == 45) (do
     let Xx62←Yg x0 1
     XO x0 Xx2 (IntKind.wrap .i64 (1+Xx62))
     ) (do
     XO x0 Xx2 Xx40
     )
    )
   )
  )
theorem KDz (x0:ByteArray):Kn Go.Proofs.Tryz.prog 126 #[.string x0] (fun (r:Array Value × Int)=>.tuple #[.agg r.1,.int .i64 r.2]) (KA1 x0) :=
 KN [NL,KEq,KDy,KCq,z8] [] [.G,.I .i64] [(0,.S x0)] (.q .o (.q .o (.q .o (.q .o (.j [(0,.S),(2,.A),(10,.I .i64)] (fun (t:ByteArray × Addr × Int)=>XO t.1 t.2.1 t.2.2) .o))))) Go.Proofs.Tryz.func126 rfl rfl ⟨rfl,trivial⟩ rfl (by kernel_rfl) (by kernel_rfl)
noncomputable def KJs:Array Oper:=KGs Go.Proofs.Tryz.f93 3
def KJt:List (List Nat):=[[],[0],[1],[2],[],[4],[5],[6],[3,7],[8],[9],[10],[10],[],[13,11,9,0,1,2,3,4,5,6,7,8,9,10,11,13],[12,14,0,1,2,3,4,5,6,7,8,9,10,11,12,13,14]]
def KJu:List (List Nat):=[[],[0],[1],[2],[],[4],[5],[6],[3,7],[8],[9],[10],[10],[],[11,13],[12]]
def KJv:List (List Nat):=[[],[0],[0,1],[0,1,2],[],[4],[4,5],[4,5,6],[0,1,2,3,4,5,6,7],[0,1,2,3,4,5,6,7,8],[0,1,2,3,4,5,6,7,8,9],[0,1,2,3,4,5,6,7,8,9,10],[0,1,2,3,4,5,6,7,8,9,10],[],[0,1,2,3,4,5,6,7,8,9,10,11,13],[0,1,2,3,4,5,6,7,8,9,10,11,12,13,14]]
theorem KMI:KBW Go.Proofs.Tryz.f93 3 KJt KJu KJv=true:=by kernel_rfl
theorem KKw:KDR 16 KJt KJu KJv [0,1,2,4,0,16,32,64,136,256,512,1024,1024,0,12287,32767] [0,1,2,4,0,16,32,64,136,256,512,1024,1024,0,10240,4096] [0,1,3,7,0,16,48,112,255,511,1023,2047,2047,0,12287,32767]=true:=by kernel_rfl
def Jm (x0:Option Addr):M (Array Value × Bool):=do
 let Xx2←mkB KP (#[.int .i64 0,.string ByteArray.empty,.int .i64 0,.int .i64 0]:Array Value)
 let Xx5←Jq x0
 M.ite (!Xx5) (do
  M.need ((#[.int .i64 0,.string ByteArray.empty,.int .i64 0,.int .i64 0]:Array Value).size=4)
  stG Xx2 (#[.int .i64 0,.string ByteArray.empty,.int .i64 0,.int .i64 0]:Array Value)
  let Rr8←ldG 4 Xx2
  M.pure (Rr8,false)
  ) (do
  let Xx10←nilP x0
  let Xx11←nilP x0
  let Xx12←ldS ((Xx10).add 0)
  let Xx13←ldI .i64 ((Xx11).add 1)
  let Xx14←slS Xx12 Xx13 Xx12.size
  let y_19←do
   M.both (do
    let Xx15←KA1 Xx14
    chk (fun h:Heap=>(KO h ((Xx10).add 0)=some (.string Xx12))∧(KO h ((Xx11).add 1)=some (.int .i64 Xx13)))
    let Xx16←mkB KP (#[.int .i64 0,.string ByteArray.empty,.int .i64 0,.int .i64 0]:Array Value)
    chk (fun h:Heap=>(KO h ((Xx10).add 0)=some (.string Xx12))∧(KO h ((Xx11).add 1)=some (.int .i64 Xx13)))
    M.pure (Xx16,Xx15,Xx15,Xx15.1,Xx15.2)
    ) (do
    let Xx17←mkB KP (#[.int .i64 0,.string ByteArray.empty,.int .i64 0,.int .i64 0]:Array Value)
    chk (fun h:Heap=>(KO h ((Xx10).add 0)=some (.string Xx12))∧(KO h ((Xx11).add 1)=some (.int .i64 Xx13)))
    let Xx18←KA1 Xx14
    M.pure (Xx17,Xx18,Xx18,Xx18.1,Xx18.2)
    )
  M.need (y_19.2.2.2.1.size=4)
  stG y_19.1 y_19.2.2.2.1
  let Xx22←nilP x0
  let Xx23←ldI .i64 ((Xx22).add 1)
  stV ((y_19.1).add 3) (.int .i64 Xx23)
  let Xx27←M.ite (y_19.2.2.2.2 == 0) (do
   M.pure true
   ) (do
   let Xx28←ldG 4 y_19.1
   let Xx29←VS Xx28
   M.pure (Xx29 != 0)
   )
  M.ite Xx27 (do
   M.need ((#[.int .i64 0,.string ByteArray.empty,.int .i64 0,.int .i64 0]:Array Value).size=4)
   stG Xx2 (#[.int .i64 0,.string ByteArray.empty,.int .i64 0,.int .i64 0]:Array Value)
   let Rr32←ldG 4 Xx2
   M.pure (Rr32,false)
   ) (do
   let Xx34←nilP x0
   let Xx35←ldI .i64 ((Xx34).add 1)
   let Xx36←nilP x0
   stV ((Xx36).add 1) (.int .i64 (IntKind.wrap .i64 (Xx35+y_19.2.2.2.2)))
   let Xx39←ldG 4 y_19.1
   M.need (Xx39.size=4)
   stG Xx2 Xx39
   let Rr41←ldG 4 Xx2
   M.pure (Rr41,true)
   )
  )
theorem qu (x0:Option Addr):Kn Go.Proofs.Tryz.prog 93 #[.pointer x0] (fun (r:Array Value × Bool)=>.tuple #[.agg r.1,.bool r.2]) (Jm x0):=by
 refine KFG [(0,.pointer x0)] Go.Proofs.Tryz.func93 rfl rfl (Nat.le_of_ble_eq_true rfl) (Vs ⟨rfl,trivial⟩) (fun w0 w Q R a hret hE hR H=>?_)
 unfold Jm at H
 refine KY (fun K hK_1=>?_)
 refine KF ?_
 obtain ⟨Xx2,qXx2,H⟩:=H
 refine YU (v:=.pointer (some Xx2)) rfl rfl hE rfl hR (Uv zr29 qXx2) (fun a w hE hR hh=>?_)
 replace H:=M.at hh H; clear hh
 refine KC (v:=.bool false) rfl rfl hE rfl (Kc hE rfl) (fun a hE=>?_)
 refine KX ?_
 refine hK_1 _ _ ?_
 refine KY (fun K hK_3=>?_)
 refine KY (fun K hK_4=>?_)
 refine KF ?_
 refine KC (v:=.pointer x0) rfl rfl hE rfl (KG hE rfl) (fun a hE=>?_)
 refine UN hE hR WK rfl (Wt x0) (M.unbind H) (fun Xx5 a w ea hR H=>?_)
 have hE:=Env.put_some hE rfl ea; clear ea
 refine KC (v:=.bool (!Xx5)) rfl rfl hE rfl (r_un hE rfl KIR) (fun a hE=>?_)
 refine KX ?_
 refine hK_4 _ _ ?_
 refine JB (!Xx5) hE rfl (fun hb=>?_) (fun hb=>?_)
 ·replace H:=M.ite_t hb H
  refine KY (fun K hK_6=>?_)
  refine KF ?_
  refine KC (v:=.agg (#[.int .i64 0,.string ByteArray.empty,.int .i64 0,.int .i64 0]:Array Value)) rfl rfl hE rfl (KAO bd29) (fun a hE=>?_)
  obtain ⟨qz,H⟩:=H
  obtain ⟨u_7,qu_7,H⟩:=H
  refine Uc rfl rfl hE hR (Z9 hE rfl rfl sz29 qz qu_7) (fun a w hE hR hh=>?_)
  replace H:=M.at hh H; clear hh
  refine KC (v:=.bool false) rfl rfl hE rfl (Kc hE rfl) (fun a hE=>?_)
  refine KX ?_
  refine hK_6 _ _ ?_
  refine WD ?_
  obtain ⟨Rr8,qRr8,H⟩:=H
  exact hret _ _ _ (Rr8,false) _ hE hR (Zu hE rfl (RV.cellG rfl ag29 qRr8 (RV.tmp rfl RV.nil))) rfl H
 ·replace H:=M.ite_f hb H
  refine J2 ?_
  refine hK_3 _ _ ?_
  refine KY (fun K hK_9=>?_)
  obtain ⟨Xx10,qXx10,H⟩:=H
  obtain ⟨Xx11,qXx11,H⟩:=H
  obtain ⟨Xx12,qXx12,H⟩:=H
  obtain ⟨Xx13,qXx13,H⟩:=H
  obtain ⟨Xx14,qXx14,H⟩:=H
  refine Xt (rops:=KJs) (by kernel_rfl) ?_
  have hT:Tab KJs _ _ _:=YV KMI rfl (by kernel_rfl)
  have hM:=TabM.of KKw
  refine Ux (m:=16) (fun w:World=>(fun h:Heap=>(KO h ((Xx10).add 0)=some (.string Xx12))∧(KO h ((Xx11).add 1)=some (.int .i64 Xx13))) w.heap) [8,9,10,11,12,14,15] (unb 16 0) mo hR (by kernel_rfl) (by kernel_rfl) (fun w' e=>by rw [e]; exact ⟨qXx12,qXx13⟩) (fun w hh hR hs=>?_)
  replace H:=M.at hh H; clear hh
  refine KB (i:=0) (v:=.pointer x0) (unb 16 1) rfl rfl hT (anyM hM (by kernel_rfl)) hE rfl (KA rfl) (fun w=>KG hE rfl) (fun a hE=>?_)
  refine KB (i:=1) (v:=.pointer (some Xx10)) (unb 16 3) rfl rfl hT (anyM hM (by kernel_rfl)) hE rfl (KA rfl) (fun w=>KL hE (Zv rfl (congrArg Value.pointer qXx10))) (fun a hE=>?_)
  refine KB (i:=2) (v:=.pointer (some ((Xx10).add 0))) (unb 16 7) rfl rfl hT (anyM hM (by kernel_rfl)) hE rfl (KA rfl) (fun w=>KH hE rfl KMG) (fun a hE=>?_)
  refine KB (i:=4) (v:=.pointer x0) (unb 16 23) rfl rfl hT (anyM hM (by kernel_rfl)) hE rfl (KA rfl) (fun w=>KG hE rfl) (fun a hE=>?_)
  refine KB (i:=5) (v:=.pointer (some Xx11)) (unb 16 55) rfl rfl hT (anyM hM (by kernel_rfl)) hE rfl (KA rfl) (fun w=>KL hE (Zv rfl (congrArg Value.pointer qXx11))) (fun a hE=>?_)
  refine KB (i:=6) (v:=.pointer (some ((Xx11).add 1))) (unb 16 119) rfl rfl hT (anyM hM (by kernel_rfl)) hE rfl (KA rfl) (fun w=>KH hE rfl KDm) (fun a hE=>?_)
  refine Jo (i:=3) (v:=.string Xx12) (unb 16 127) rfl rfl hT (Vt hM (by kernel_rfl)) hE rfl (KA rfl) hs (fun w s=>ZE hE rfl sc9 s.1) (fun a hE=>?_)
  refine Jo (i:=7) (v:=.int .i64 Xx13) (unb 16 255) rfl rfl hT (Vt hM (by kernel_rfl)) hE rfl (KA rfl) hs (fun w s=>ZE hE rfl sc3 s.2) (fun a hE=>?_)
  refine KB (i:=8) (v:=.string Xx14) (unb 16 511) rfl rfl hT (anyM hM (by kernel_rfl)) hE rfl (KA rfl) (fun w=>KBy hE rfl rfl un9 qXx14) (fun a hE=>?_)
  refine KLO (n:=(⟨45,[]⟩:Frm)) (w0:=w0) (fun y_19:Addr × (Array Value × Int) × (Array Value × Int) × Array Value × Int=>[(0,.pointer x0),(2,.pointer (some Xx2)),(3,.bool false),(6,.pointer x0),(7,.bool Xx5),(8,.bool (!Xx5)),(11,.pointer x0),(12,.pointer (some Xx10)),(13,.pointer (some ((Xx10).add 0))),(15,.pointer x0),(16,.pointer (some Xx11)),(17,.pointer (some ((Xx11).add 1))),(14,.string Xx12),(18,.int .i64 Xx13),(19,.string Xx14),(4,.pointer (some y_19.1)),(10,.tuple #[.agg y_19.2.1.1,.int .i64 y_19.2.1.2]),(20,.tuple #[.agg y_19.2.2.1.1,.int .i64 y_19.2.2.1.2]),(21,.agg y_19.2.2.2.1),(22,.int .i64 y_19.2.2.2.2)]) 2 (unb 16 16383) (M.unbind H) ?_ ?_
  ·intro y_19 a w hE hR H
   obtain ⟨qz,H⟩:=H
   obtain ⟨u_20,qu_20,H⟩:=H
   refine KAd (i:=14) (unb 16 32767) rfl rfl hT (oneM hM (by kernel_rfl)) rfl hE hR (KA rfl) (Z9 hE rfl rfl sz29 qz qu_20)  (fun a w hE hR hh=>?_)
   replace H:=M.at hh H; clear hh
   refine KB (i:=15) (v:=.int .i64 y_19.2.2.2.2) (unb 16 65535) rfl rfl hT (anyM hM (by kernel_rfl)) hE rfl (KA rfl) (fun w=>Kc hE rfl) (fun a hE=>?_)
   refine Wp hT (zK hM (by kernel_rfl)) ?_
   refine hK_9 _ _ ?_
   refine KY (fun K hK_21=>?_)
   refine KF ?_
   refine KC (v:=.pointer x0) rfl rfl hE rfl (KG hE rfl) (fun a hE=>?_)
   obtain ⟨Xx22,qXx22,H⟩:=H
   refine KC (v:=.pointer (some Xx22)) rfl rfl hE rfl (KL hE (Zv rfl (congrArg Value.pointer qXx22))) (fun a hE=>?_)
   refine KC (v:=.pointer (some ((Xx22).add 1))) rfl rfl hE rfl (KH hE rfl KDm) (fun a hE=>?_)
   obtain ⟨Xx23,qXx23,H⟩:=H
   refine KC (v:=.int .i64 Xx23) rfl rfl hE rfl (ZE hE rfl sc3 qXx23) (fun a hE=>?_)
   refine KC (v:=.pointer (some ((y_19.1).add 3))) rfl rfl hE rfl (KH hE rfl KJr) (fun a hE=>?_)
   obtain ⟨u_24,qu_24,H⟩:=H
   refine Uc rfl rfl hE hR (Zb hE rfl rfl sz3 qu_24) (fun a w hE hR hh=>?_)
   replace H:=M.at hh H; clear hh
   refine KX ?_
   refine hK_21 _ _ ?_
   refine KY (fun K hK_25=>?_)
   refine KY (fun K hK_26=>?_)
   refine KF ?_
   refine KC (v:=.int .i64 y_19.2.2.2.2) rfl rfl hE rfl (KG hE rfl) (fun a hE=>?_)
   refine KC (v:=.bool (y_19.2.2.2.2 == 0)) rfl rfl hE rfl (ZH hE rfl rfl K9 XG) (fun a hE=>?_)
   refine KC (v:=.bool (y_19.2.2.2.2 == 0)) rfl rfl hE rfl (KG hE rfl) (fun a hE=>?_)
   refine KDO (n:=(⟨45,[]⟩:Frm)) (w0:=w0) 4 (fun Xx27:Bool=>[(0,.pointer x0),(2,.pointer (some Xx2)),(4,.pointer (some y_19.1)),(5,.int .i64 y_19.2.2.2.2),(34,.bool Xx27)]) (M.unbind H) (fun Kr hKr H=>?_) ?_
   ·rcases Uw (y_19.2.2.2.2 == 0) with hb | hb
    ·replace H:=M.ite_t hb H
     have hE:=hE.reb 30 (y_19.2.2.2.2 == 0) true hb rfl
     refine Xx rfl hE rfl rfl rfl (fun a ea=>?_)
     have hE:=Env.put_some hE rfl ea; clear ea
     refine Xx rfl hE rfl rfl rfl (fun a ea=>?_)
     have hE:=Env.put_some hE rfl ea; clear ea
     refine Xx rfl hE rfl rfl rfl (fun a ea=>?_)
     have hE:=Env.put_some hE rfl ea; clear ea
     refine KC rfl rfl hE rfl (Jn hE rfl rfl) (fun a hE=>?_)
     refine KX ?_
     exact hKr _ _ _ (hE.cut (.cons rfl (.cons rfl (.cons rfl (.cons rfl (.cons rfl Subs.nil)))))) hR H
    ·replace H:=M.ite_f hb H
     have hE:=hE.reb 30 (y_19.2.2.2.2 == 0) false hb rfl
     refine t_on rfl hE rfl rfl rfl ?_
     obtain ⟨Xx28,qXx28,H⟩:=H
     refine KC (v:=.agg Xx28) rfl rfl hE rfl (zJ hE rfl ag29 qXx28) (fun a hE=>?_)
     refine t_on rfl hE rfl rfl rfl ?_
     refine UN hE hR zz rfl (KAu Xx28) (M.unbind H) (fun Xx29 a w ea hR H=>?_)
     have hE:=Env.put_some hE rfl ea; clear ea
     refine t_on rfl hE rfl rfl rfl ?_
     refine KC (v:=.bool (Xx29 != 0)) rfl rfl hE rfl (ZH hE rfl rfl K9 KDM) (fun a hE=>?_)
     refine KC rfl rfl hE rfl (Z8 hE rfl rfl) (fun a hE=>?_)
     refine KX ?_
     exact hKr _ _ _ (hE.cut (.cons rfl (.cons rfl (.cons rfl (.cons rfl (.cons rfl Subs.nil)))))) hR H
   ·intro Xx27 a w hE hR H
    refine KX ?_
    refine hK_26 _ _ ?_
    refine JB Xx27 hE rfl (fun hb=>?_) (fun hb=>?_)
    ·replace H:=M.ite_t hb H
     refine KY (fun K hK_30=>?_)
     refine KF ?_
     refine KC (v:=.agg (#[.int .i64 0,.string ByteArray.empty,.int .i64 0,.int .i64 0]:Array Value)) rfl rfl hE rfl (KAO bd29) (fun a hE=>?_)
     obtain ⟨qz,H⟩:=H
     obtain ⟨u_31,qu_31,H⟩:=H
     refine Uc rfl rfl hE hR (Z9 hE rfl rfl sz29 qz qu_31) (fun a w hE hR hh=>?_)
     replace H:=M.at hh H; clear hh
     refine KC (v:=.bool false) rfl rfl hE rfl (Kc hE rfl) (fun a hE=>?_)
     refine KX ?_
     refine hK_30 _ _ ?_
     refine WD ?_
     obtain ⟨Rr32,qRr32,H⟩:=H
     exact hret _ _ _ (Rr32,false) _ hE hR (Zu hE rfl (RV.cellG rfl ag29 qRr32 (RV.tmp rfl RV.nil))) rfl H
    ·replace H:=M.ite_f hb H
     refine J2 ?_
     refine hK_25 _ _ ?_
     refine KY (fun K hK_33=>?_)
     refine KF ?_
     refine KC (v:=.pointer x0) rfl rfl hE rfl (KG hE rfl) (fun a hE=>?_)
     obtain ⟨Xx34,qXx34,H⟩:=H
     refine KC (v:=.pointer (some Xx34)) rfl rfl hE rfl (KL hE (Zv rfl (congrArg Value.pointer qXx34))) (fun a hE=>?_)
     refine KC (v:=.pointer (some ((Xx34).add 1))) rfl rfl hE rfl (KH hE rfl KDm) (fun a hE=>?_)
     obtain ⟨Xx35,qXx35,H⟩:=H
     refine KC (v:=.int .i64 Xx35) rfl rfl hE rfl (ZE hE rfl sc3 qXx35) (fun a hE=>?_)
     refine KC (v:=.int .i64 y_19.2.2.2.2) rfl rfl hE rfl (KG hE rfl) (fun a hE=>?_)
     refine KC (v:=.int .i64 (IntKind.wrap .i64 (Xx35+y_19.2.2.2.2))) rfl rfl hE rfl (ZH hE rfl rfl K9 X8) (fun a hE=>?_)
     obtain ⟨Xx36,qXx36,H⟩:=H
     refine KC (v:=.pointer (some Xx36)) rfl rfl hE rfl (KL hE (Zv rfl (congrArg Value.pointer qXx36))) (fun a hE=>?_)
     refine KC (v:=.pointer (some ((Xx36).add 1))) rfl rfl hE rfl (KH hE rfl KDm) (fun a hE=>?_)
     obtain ⟨u_37,qu_37,H⟩:=H
     refine Uc rfl rfl hE hR (Zb hE rfl rfl sz3 qu_37) (fun a w hE hR hh=>?_)
     replace H:=M.at hh H; clear hh
     refine KX ?_
     refine hK_33 _ _ ?_
     refine KY (fun K hK_38=>?_)
     refine KF ?_
     obtain ⟨Xx39,qXx39,H⟩:=H
     refine KC (v:=.agg Xx39) rfl rfl hE rfl (zJ hE rfl ag29 qXx39) (fun a hE=>?_)
     obtain ⟨qz,H⟩:=H
     obtain ⟨u_40,qu_40,H⟩:=H
     refine Uc rfl rfl hE hR (Z9 hE rfl rfl sz29 qz qu_40) (fun a w hE hR hh=>?_)
     replace H:=M.at hh H; clear hh
     refine KC (v:=.bool true) rfl rfl hE rfl (Kc hE rfl) (fun a hE=>?_)
     refine KX ?_
     refine hK_38 _ _ ?_
     refine WD ?_
     obtain ⟨Rr41,qRr41,H⟩:=H
     exact hret _ _ _ (Rr41,true) _ hE hR (Zu hE rfl (RV.cellG rfl ag29 qRr41 (RV.tmp rfl RV.nil))) rfl H
  ·intro hj H
   refine KLP [9,13] hT (by kernel_rfl) rfl (fun i hi=>?_)
   simp only [List.mem_cons,List.not_mem_nil,or_false] at hi
   rcases hi with rfl | rfl
   ·replace H:=H.1
    refine KLQ (S:=fun w:World=>(fun h:Heap=>(KO h ((Xx10).add 0)=some (.string Xx12))∧(KO h ((Xx11).add 1)=some (.int .i64 Xx13))) w.heap) (i:=9) (unb 16 1023) rfl rfl rfl (by kernel_rfl) hE hR (KA rfl) KB4 rfl (KDz Xx14) (M.unbind H) (fun r h H w' e=>by obtain ⟨_,sA,H⟩:=H; rw [e]; exact sA) (fun Xx15 a w ea hR H hs=>?_)
    obtain ⟨_,sA,H⟩:=H; clear sA
    have hE:=Env.put_some hE rfl ea; clear ea
    refine KB (i:=10) (v:=.tuple #[.agg Xx15.1,.int .i64 Xx15.2]) (unb 16 2047) rfl rfl hT (anyM hM (by kernel_rfl)) hE rfl (KA rfl) (fun w=>KG hE rfl) (fun a hE=>?_)
    refine KB (i:=11) (v:=.agg Xx15.1) (unb 16 4095) rfl rfl hT (anyM hM (by kernel_rfl)) hE rfl (KA rfl) (fun w=>UM hE rfl rfl) (fun a hE=>?_)
    refine KB (i:=12) (v:=.int .i64 Xx15.2) (unb 16 8191) rfl rfl hT (anyM hM (by kernel_rfl)) hE rfl (KA rfl) (fun w=>UM hE rfl rfl) (fun a hE=>?_)
    obtain ⟨Xx16,qXx16,H⟩:=H
    obtain ⟨_,sA,H⟩:=H
    refine KLR (i:=13) (v:=.pointer (some Xx16)) (unb 16 16383) rfl rfl hT (oneM hM (by kernel_rfl)) rfl hE hR rfl (KA rfl) (Uv zr29 qXx16)  (fun w' e=>by rw [e]; exact sA) (fun a w hE hR hh hs=>?_)
    replace H:=M.at hh H; clear hh
    exact hj _ _ _ (hE.cut (.cons rfl (.cons rfl (.cons rfl (.cons rfl (.cons rfl (.cons rfl (.cons rfl (.cons rfl (.cons rfl (.cons rfl (.cons rfl (.cons rfl (.cons rfl (.cons rfl (.cons rfl (.cons rfl (.cons rfl (.cons rfl (.cons rfl (.cons rfl Subs.nil))))))))))))))))))))) hR H
   ·replace H:=H.2
    obtain ⟨Xx17,qXx17,H⟩:=H
    obtain ⟨_,sA,H⟩:=H
    refine KLS (S:=fun w:World=>(fun h:Heap=>(KO h ((Xx10).add 0)=some (.string Xx12))∧(KO h ((Xx11).add 1)=some (.int .i64 Xx13))) w.heap) (i:=13) (v:=.pointer (some Xx17)) (unb 16 8703) rfl rfl (by kernel_rfl) hE hR rfl (KA rfl) (Uv zr29 qXx17)  (fun w' e=>by rw [e]; exact sA) (fun a w hE hR hh hs=>?_)
    replace H:=M.at hh H; clear hh
    refine KGt (i:=9) (unb 16 9215) rfl rfl rfl hT (oneM hM (by kernel_rfl)) rfl hE hR (KA rfl) KB4 rfl (KDz Xx14) (M.unbind H) (fun Xx18 a w ea hR H=>?_)
    have hE:=Env.put_some hE rfl ea; clear ea
    refine KB (i:=10) (v:=.tuple #[.agg Xx18.1,.int .i64 Xx18.2]) (unb 16 10239) rfl rfl hT (anyM hM (by kernel_rfl)) hE rfl (KA rfl) (fun w=>KG hE rfl) (fun a hE=>?_)
    refine KB (i:=11) (v:=.agg Xx18.1) (unb 16 12287) rfl rfl hT (anyM hM (by kernel_rfl)) hE rfl (KA rfl) (fun w=>UM hE rfl rfl) (fun a hE=>?_)
    refine KB (i:=12) (v:=.int .i64 Xx18.2) (unb 16 16383) rfl rfl hT (anyM hM (by kernel_rfl)) hE rfl (KA rfl) (fun w=>UM hE rfl rfl) (fun a hE=>?_)
    exact hj _ _ _ (hE.cut (.cons rfl (.cons rfl (.cons rfl (.cons rfl (.cons rfl (.cons rfl (.cons rfl (.cons rfl (.cons rfl (.cons rfl (.cons rfl (.cons rfl (.cons rfl (.cons rfl (.cons rfl (.cons rfl (.cons rfl (.cons rfl (.cons rfl (.cons rfl Subs.nil))))))))))))))))))))) hR H
noncomputable def qv:CalleeS Go.Proofs.Tryz.prog:=mkC NS Nb [.P] [.G,.B] (fun (t:Option Addr)=>Jm t) (fun (t:Option Addr)=>qu t)
def U3 (C1:Value) (C2:Addr) (self1:(Unit)→M (Unit)):(Unit)→M (Unit):=fun s=>match s with
 | ()=>do
  let Xx5←ldP C2
  let Xx6←Jm Xx5
  let Xx7←mkB KP (#[.int .i64 0,.string ByteArray.empty,.int .i64 0,.int .i64 0]:Array Value)
  M.need (Xx6.1.size=4)
  stG Xx7 Xx6.1
  let Xx10←M.ite (!Xx6.2) (do
   M.pure true
   ) (do
   let Xx11←ldG 4 Xx7
   let Xx12←Yq Go.Proofs.Tryz.prog (fun r:Bool=>.bool r) C1 [.agg Xx11]
   M.pure (!Xx12)
   )
  M.ite Xx10 (do
   M.pure ()
   ) (do
   self1 ()
   )
def XP (x0:Value) (x1:Addr):M (Unit):=do
 M.loop (U3 x0 x1) ()
theorem Nz (x0:Value) (x1:Addr):Kn Go.Proofs.Tryz.prog 92 #[x0,.pointer (some x1)] (fun (r:Unit)=>.tuple #[]) (XP x0 x1) :=
 KN [qv] [6] [] [(0,.V x0),(1,.A x1)] (.b (.l [(0,.V),(1,.A)] [] (fun (t:Value × Addr)=>U3 t.1 t.2) (fun _=>.o))) Go.Proofs.Tryz.func92 rfl rfl ⟨rfl,rfl,trivial⟩ rfl (by kernel_rfl) (by kernel_rfl)
def Zq (self1:(ByteArray × Int)→M (ByteArray)) (C19:Int) (Xx14:ByteArray):M (ByteArray):=do
 self1 (Xx14,IntKind.wrap .i64 (C19+1))
def U4 (C7:Sl) (C8:Int) (C9:ByteArray) (C10:ByteArray) (self1:(ByteArray × Int)→M (ByteArray)):(ByteArray × Int)→M (ByteArray):=fun s=>match s with
 | (Xx5,Xx6)=>do
  M.ite (decide (Xx6 < (C7.len:Int))) (do
   let Xx21←ixL C7 Xx6 4
   let Xx22←ldG 4 Xx21
   let Xx23←N7 Go.Proofs.Tryz.prog UI #[.agg Xx22,.int .i64 (IntKind.wrap .i64 (C8+1))] (fun r:ByteArray=>.string r)
   let Xx24←sCat Xx5 Xx23
   let Xx26←M.ite (decide ((IntKind.wrap .i64 (Xx6+1)) < (C7.len:Int))) (do
    M.pure ((Int.tmod Xx6 2) == 0)
    ) (do
    M.pure false
    )
   M.ite Xx26 (do
    let Xx27←sCat Xx24 C9
    Zq self1 Xx6 Xx27
    ) (do
    M.ite (decide ((IntKind.wrap .i64 (Xx6+1)) < (C7.len:Int))) (do
     let Xx29←sCat Xx24 C10
     Zq self1 Xx6 Xx29
     ) (do
     Zq self1 Xx6 Xx24
     )
    )
   ) (do
   M.pure Xx5
   )
def V5 (x0:Sl) (x1:Int) (x2:ByteArray) (x3:ByteArray):M (ByteArray):=do
 M.loop (U4 x0 x1 x2 x3) (ByteArray.empty,0)
theorem Yj (x0:Sl) (x1:Int) (x2:ByteArray) (x3:ByteArray):Kn Go.Proofs.Tryz.prog 113 #[(x0:Sl).v,.int .i64 x1,.string x2,.string x3] (fun (r:ByteArray)=>.string r) (V5 x0 x1 x2 x3) :=
 KN [mkC UI YX [.G,.I .i64] [.S] (fun (t:Array Value × Int)=>N7 Go.Proofs.Tryz.prog UI #[.agg t.1,.int .i64 t.2] (fun r:ByteArray=>.string r)) (fun (t:Array Value × Int)=>Vr)] [] [.S] [(0,.L x0),(1,.I .i64 x1),(2,.S x2),(3,.S x3)] (.q .o (.q .o (.q (.q .o (.b (.l [(0,.L),(1,.I .i64),(2,.S),(3,.S)] [(9,.S),(10,.I .i64)] (fun (t:Sl × Int × ByteArray × ByteArray)=>U4 t.1 t.2.1 t.2.2.1 t.2.2.2) (fun self1=>.q .o (.q .o (.j [(0,.L),(1,.I .i64),(2,.S),(3,.S),(10,.I .i64),(9,.S)] (fun (t:Sl × Int × ByteArray × ByteArray × Int × ByteArray)=>Zq self1 t.2.2.2.2.1 t.2.2.2.2.2) .o)))))) .o))) Go.Proofs.Tryz.func113 rfl rfl ⟨rfl,rfl,rfl,rfl,trivial⟩ rfl (by kernel_rfl) (by kernel_rfl)
def VY (C6:Addr) (C7:Addr):M (Array Value):=do
 let Xx9←ldG 4 C7
 M.need (Xx9.size=4)
 stG C6 Xx9
 let Rr11←ldG 4 C6
 M.pure Rr11
def XQ (x0:Bool):M (Array Value):=do
 let Xx2←mkB KI (#[.int .i64 0,.int .i64 0,.string ByteArray.empty,.slice none 0 0]:Array Value)
 let Xx4←mkB KI (#[.int .i64 0,.int .i64 0,.string ByteArray.empty,.slice none 0 0]:Array Value)
 M.need ((#[.int .i64 3,.int .i64 0,.string ByteArray.empty,.slice none 0 0]:Array Value).size=4)
 stG Xx4 (#[.int .i64 3,.int .i64 0,.string ByteArray.empty,.slice none 0 0]:Array Value)
 M.ite x0 (do
  stV ((Xx4).add 1) (.int .i64 1)
  VY Xx2 Xx4
  ) (do
  VY Xx2 Xx4
  )
theorem KAB (x0:Bool):Kn Go.Proofs.Tryz.prog 152 #[.bool x0] (fun (r:Array Value)=>.agg r) (XQ x0) :=
 KN [] [] [.G] [(0,.B x0)] (.q .o (.q .o (.q .o (.j [(2,.A),(3,.A)] (fun (t:Addr × Addr)=>VY t.1 t.2) .o)))) Go.Proofs.Tryz.func152 rfl rfl ⟨rfl,trivial⟩ rfl (by kernel_rfl) (by kernel_rfl)
def UZ (x0:Int):M (ByteArray):=do
 M.ite (decide (x0 < 10)) (do
  let Xx5←slS (⟨#[48,49,50,51,52,53,54,55,56,57,97,98,99,100,101,102,103,104,105,106,107,108,109,110,111,112,113,114,115,116,117,118,119,120,121,122]⟩:ByteArray) x0 (IntKind.wrap .i64 (x0+1))
  M.pure Xx5
  ) (do
  let Xx7←slS (⟨#[48,48,48,49,48,50,48,51,48,52,48,53,48,54,48,55,48,56,48,57,49,48,49,49,49,50,49,51,49,52,49,53,49,54,49,55,49,56,49,57,50,48,50,49,50,50,50,51,50,52,50,53,50,54,50,55,50,56,50,57,51,48,51,49,51,50,51,51,51,52,51,53,51,54,51,55,51,56,51,57,52,48,52,49,52,50,52,51,52,52,52,53,52,54,52,55,52,56,52,57,53,48,53,49,53,50,53,51,53,52,53,53,53,54,53,55,53,56,53,57,54,48,54,49,54,50,54,51,54,52,54,53,54,54,54,55,54,56,54,57,55,48,55,49,55,50,55,51,55,52,55,53,55,54,55,55,55,56,55,57,56,48,56,49,56,50,56,51,56,52,56,53,56,54,56,55,56,56,56,57,57,48,57,49,57,50,57,51,57,52,57,53,57,54,57,55,57,56,57,57]⟩:ByteArray) (IntKind.wrap .i64 (x0 * 2)) (IntKind.wrap .i64 ((IntKind.wrap .i64 (x0 * 2))+2))
  M.pure Xx7
  )
theorem XR (x0:Int):Kn Go.Proofs.Tryz.prog 231 #[.int .i64 x0] (fun (r:ByteArray)=>.string r) (UZ x0) :=
 KN [] [] [.S] [(0,.I .i64 x0)] .o Go.Proofs.Tryz.func231 rfl rfl ⟨rfl,trivial⟩ rfl (by kernel_rfl) (by kernel_rfl)
noncomputable def XS:CalleeS Go.Proofs.Tryz.prog:=mkC Y4 Y6 [.I .i64] [.S] (fun (t:Int)=>UZ t) (fun (t:Int)=>XR t)
def Je (x0:Int):M (Int):=do
 M.pure (iShr .i64 (IntKind.wrap .i64 (x0 * 78913)) 18)
theorem YF (x0:Int):Kn Go.Proofs.Tryz.prog 247 #[.int .i64 x0] (fun (r:Int)=>.int .i64 r) (Je x0) :=
 KN [] [] [.I .i64] [(0,.I .i64 x0)] .o Go.Proofs.Tryz.func247 rfl rfl ⟨rfl,trivial⟩ rfl (by kernel_rfl) (by kernel_rfl)
noncomputable def YG:CalleeS Go.Proofs.Tryz.prog:=mkC Wb Wh [.I .i64] [.I .i64] (fun (t:Int)=>Je t) (fun (t:Int)=>YF t)
def VZ (Xx6:Int) (Xx7:Int):M (Int):=do
 let Xx9←ixS (⟨#[0,1,2,2,3,3,3,3,4,4,4,4,4,4,4,4,5,5,5,5,5,5,5,5,5,5,5,5,5,5,5,5,6,6,6,6,6,6,6,6,6,6,6,6,6,6,6,6,6,6,6,6,6,6,6,6,6,6,6,6,6,6,6,6,7,7,7,7,7,7,7,7,7,7,7,7,7,7,7,7,7,7,7,7,7,7,7,7,7,7,7,7,7,7,7,7,7,7,7,7,7,7,7,7,7,7,7,7,7,7,7,7,7,7,7,7,7,7,7,7,7,7,7,7,7,7,7,7,8,8,8,8,8,8,8,8,8,8,8,8,8,8,8,8,8,8,8,8,8,8,8,8,8,8,8,8,8,8,8,8,8,8,8,8,8,8,8,8,8,8,8,8,8,8,8,8,8,8,8,8,8,8,8,8,8,8,8,8,8,8,8,8,8,8,8,8,8,8,8,8,8,8,8,8,8,8,8,8,8,8,8,8,8,8,8,8,8,8,8,8,8,8,8,8,8,8,8,8,8,8,8,8,8,8,8,8,8,8,8,8,8,8,8,8,8,8,8,8,8,8,8,8,8,8,8,8]⟩:ByteArray) (IntKind.wrap .u8 Xx6)
 M.pure (IntKind.wrap .i64 (Xx7+(IntKind.wrap .i64 Xx9)))
def Va (Xx4:Int) (Xx5:Int):M (Int):=do
 M.ite (decide (Xx4 ≥ 256)) (do
  VZ (iShr .u64 Xx4 8) (IntKind.wrap .i64 (Xx5+8))
  ) (do
  VZ Xx4 Xx5
  )
def Vb (Xx2:Int) (Xx3:Int):M (Int):=do
 M.ite (decide (Xx2 ≥ 65536)) (do
  Va (iShr .u64 Xx2 16) (IntKind.wrap .i64 (Xx3+16))
  ) (do
  Va Xx2 Xx3
  )
def Yk (x0:Int):M (Int):=do
 M.ite (decide (x0 ≥ 4294967296)) (do
  Vb (iShr .u64 x0 32) 32
  ) (do
  Vb x0 0
  )
theorem zf (x0:Int):Kn Go.Proofs.Tryz.prog 248 #[.int .u64 x0] (fun (r:Int)=>.int .i64 r) (Yk x0) :=
 KN [] [] [.I .i64] [(0,.I .u64 x0)] (.q .o (.q .o (.j [(0,.I .u64),(2,.I .i64)] (fun (t:Int × Int)=>Vb t.1 t.2) (.q .o (.j [(0,.I .u64),(2,.I .i64)] (fun (t:Int × Int)=>Va t.1 t.2) (.q .o (.j [(0,.I .u64),(2,.I .i64)] (fun (t:Int × Int)=>VZ t.1 t.2) .o))))))) Go.Proofs.Tryz.func248 rfl rfl ⟨rfl,trivial⟩ rfl (by kernel_rfl) (by kernel_rfl)
noncomputable def zg:CalleeS Go.Proofs.Tryz.prog:=mkC qM qU [.I .u64] [.I .i64] (fun (t:Int)=>Yk t) (fun (t:Int)=>zf t)
def Jf (x0:Bool):M (Int):=do
 M.ite x0 (do
  M.pure 1
  ) (do
  M.pure 0
  )
theorem YH (x0:Bool):Kn Go.Proofs.Tryz.prog 249 #[.bool x0] (fun (r:Int)=>.int .i64 r) (Jf x0) :=
 KN [] [] [.I .i64] [(0,.B x0)] .o Go.Proofs.Tryz.func249 rfl rfl ⟨rfl,trivial⟩ rfl (by kernel_rfl) (by kernel_rfl)
noncomputable def YI:CalleeS Go.Proofs.Tryz.prog:=mkC Wa Wg [.B] [.I .i64] (fun (t:Bool)=>Jf t) (fun (t:Bool)=>YH t)
end Gx
namespace Gx
open Go
set_option linter.unusedVariables false
set_option maxRecDepth 100000
def Jg (x0:Int):M (Int):=do
 let Xx3←Yk x0
 let Xx4←Je Xx3
 let Xx6←ixA (⟨3,0,none⟩:Addr) 20 Xx4 1
 let Xx7←ldI .u64 Xx6
 let Xx8←Jf (decide (x0 ≥ Xx7))
 M.pure (IntKind.wrap .i64 (Xx4+Xx8))
theorem YJ (x0:Int):Kn Go.Proofs.Tryz.prog 232 #[.int .u64 x0] (fun (r:Int)=>.int .i64 r) (Jg x0) :=
 KN [YG,zg,YI] [] [.I .i64] [(0,.I .u64 x0)] .o Go.Proofs.Tryz.func232 rfl rfl ⟨rfl,trivial⟩ rfl (by kernel_rfl) (by kernel_rfl)
noncomputable def YK:CalleeS Go.Proofs.Tryz.prog:=mkC Wc Wi [.I .u64] [.I .i64] (fun (t:Int)=>Jg t) (fun (t:Int)=>YJ t)
def Zw (C48:Sl) (Xx46:Int) (Xx47:Int):M (Unit):=do
 M.ite (decide (Xx46 > 0)) (do
  let Xx50←ixL C48 0 1
  stV Xx50 (.int .u8 (IntKind.wrap .u8 (IntKind.wrap .u32 (48+Xx47))))
  M.pure ()
  ) (do
  M.pure ()
  )
def Zx (C45:Sl) (Xx43:Int) (Xx44:Int):M (Unit):=do
 M.ite (decide (Xx43 ≥ 2)) (do
  let Xx56←ixS (⟨#[48,48,48,49,48,50,48,51,48,52,48,53,48,54,48,55,48,56,48,57,49,48,49,49,49,50,49,51,49,52,49,53,49,54,49,55,49,56,49,57,50,48,50,49,50,50,50,51,50,52,50,53,50,54,50,55,50,56,50,57,51,48,51,49,51,50,51,51,51,52,51,53,51,54,51,55,51,56,51,57,52,48,52,49,52,50,52,51,52,52,52,53,52,54,52,55,52,56,52,57,53,48,53,49,53,50,53,51,53,52,53,53,53,54,53,55,53,56,53,57,54,48,54,49,54,50,54,51,54,52,54,53,54,54,54,55,54,56,54,57,55,48,55,49,55,50,55,51,55,52,55,53,55,54,55,55,55,56,55,57,56,48,56,49,56,50,56,51,56,52,56,53,56,54,56,55,56,56,56,57,57,48,57,49,57,50,57,51,57,52,57,53,57,54,57,55,57,56,57,57]⟩:ByteArray) (IntKind.wrap .u32 ((IntKind.wrap .u32 ((Int.tmod Xx44 100) * 2))+1))
  let Xx57←ixS (⟨#[48,48,48,49,48,50,48,51,48,52,48,53,48,54,48,55,48,56,48,57,49,48,49,49,49,50,49,51,49,52,49,53,49,54,49,55,49,56,49,57,50,48,50,49,50,50,50,51,50,52,50,53,50,54,50,55,50,56,50,57,51,48,51,49,51,50,51,51,51,52,51,53,51,54,51,55,51,56,51,57,52,48,52,49,52,50,52,51,52,52,52,53,52,54,52,55,52,56,52,57,53,48,53,49,53,50,53,51,53,52,53,53,53,54,53,55,53,56,53,57,54,48,54,49,54,50,54,51,54,52,54,53,54,54,54,55,54,56,54,57,55,48,55,49,55,50,55,51,55,52,55,53,55,54,55,55,55,56,55,57,56,48,56,49,56,50,56,51,56,52,56,53,56,54,56,55,56,56,56,57,57,48,57,49,57,50,57,51,57,52,57,53,57,54,57,55,57,56,57,57]⟩:ByteArray) (IntKind.wrap .u32 ((Int.tmod Xx44 100) * 2))
  let Xx58←ixL C45 (IntKind.wrap .i64 (Xx43 - 1)) 1
  stV Xx58 (.int .u8 Xx56)
  let Xx60←ixL C45 (IntKind.wrap .i64 (Xx43 - 2)) 1
  stV Xx60 (.int .u8 Xx57)
  Zw C45 (IntKind.wrap .i64 (Xx43 - 2)) (IntKind.wrap .u32 (Int.tdiv Xx44 100))
  ) (do
  Zw C45 Xx43 Xx44
  )
def Jx (C5:Sl) (self1:(Int × Int)→M (Unit)):(Int × Int)→M (Unit):=fun s=>match s with
 | (Xx3,Xx4)=>do
  M.ite (decide (Xx4 ≥ 8)) (do
   let Xx15←ixS (⟨#[48,48,48,49,48,50,48,51,48,52,48,53,48,54,48,55,48,56,48,57,49,48,49,49,49,50,49,51,49,52,49,53,49,54,49,55,49,56,49,57,50,48,50,49,50,50,50,51,50,52,50,53,50,54,50,55,50,56,50,57,51,48,51,49,51,50,51,51,51,52,51,53,51,54,51,55,51,56,51,57,52,48,52,49,52,50,52,51,52,52,52,53,52,54,52,55,52,56,52,57,53,48,53,49,53,50,53,51,53,52,53,53,53,54,53,55,53,56,53,57,54,48,54,49,54,50,54,51,54,52,54,53,54,54,54,55,54,56,54,57,55,48,55,49,55,50,55,51,55,52,55,53,55,54,55,55,55,56,55,57,56,48,56,49,56,50,56,51,56,52,56,53,56,54,56,55,56,56,56,57,57,48,57,49,57,50,57,51,57,52,57,53,57,54,57,55,57,56,57,57]⟩:ByteArray) (IntKind.wrap .u32 ((IntKind.wrap .u32 ((Int.tmod (Int.tmod (IntKind.wrap .u32 (Int.tmod Xx3 100000000)) 10000) 100) * 2))+1))
   let Xx16←ixS (⟨#[48,48,48,49,48,50,48,51,48,52,48,53,48,54,48,55,48,56,48,57,49,48,49,49,49,50,49,51,49,52,49,53,49,54,49,55,49,56,49,57,50,48,50,49,50,50,50,51,50,52,50,53,50,54,50,55,50,56,50,57,51,48,51,49,51,50,51,51,51,52,51,53,51,54,51,55,51,56,51,57,52,48,52,49,52,50,52,51,52,52,52,53,52,54,52,55,52,56,52,57,53,48,53,49,53,50,53,51,53,52,53,53,53,54,53,55,53,56,53,57,54,48,54,49,54,50,54,51,54,52,54,53,54,54,54,55,54,56,54,57,55,48,55,49,55,50,55,51,55,52,55,53,55,54,55,55,55,56,55,57,56,48,56,49,56,50,56,51,56,52,56,53,56,54,56,55,56,56,56,57,57,48,57,49,57,50,57,51,57,52,57,53,57,54,57,55,57,56,57,57]⟩:ByteArray) (IntKind.wrap .u32 ((Int.tmod (Int.tmod (IntKind.wrap .u32 (Int.tmod Xx3 100000000)) 10000) 100) * 2))
   let Xx17←ixL C5 (IntKind.wrap .i64 (Xx4 - 1)) 1
   stV Xx17 (.int .u8 Xx15)
   let Xx19←ixL C5 (IntKind.wrap .i64 (Xx4 - 2)) 1
   stV Xx19 (.int .u8 Xx16)
   let Xx22←ixS (⟨#[48,48,48,49,48,50,48,51,48,52,48,53,48,54,48,55,48,56,48,57,49,48,49,49,49,50,49,51,49,52,49,53,49,54,49,55,49,56,49,57,50,48,50,49,50,50,50,51,50,52,50,53,50,54,50,55,50,56,50,57,51,48,51,49,51,50,51,51,51,52,51,53,51,54,51,55,51,56,51,57,52,48,52,49,52,50,52,51,52,52,52,53,52,54,52,55,52,56,52,57,53,48,53,49,53,50,53,51,53,52,53,53,53,54,53,55,53,56,53,57,54,48,54,49,54,50,54,51,54,52,54,53,54,54,54,55,54,56,54,57,55,48,55,49,55,50,55,51,55,52,55,53,55,54,55,55,55,56,55,57,56,48,56,49,56,50,56,51,56,52,56,53,56,54,56,55,56,56,56,57,57,48,57,49,57,50,57,51,57,52,57,53,57,54,57,55,57,56,57,57]⟩:ByteArray) (IntKind.wrap .u32 ((IntKind.wrap .u32 ((IntKind.wrap .u32 (Int.tdiv (Int.tmod (IntKind.wrap .u32 (Int.tmod Xx3 100000000)) 10000) 100)) * 2))+1))
   let Xx23←ixS (⟨#[48,48,48,49,48,50,48,51,48,52,48,53,48,54,48,55,48,56,48,57,49,48,49,49,49,50,49,51,49,52,49,53,49,54,49,55,49,56,49,57,50,48,50,49,50,50,50,51,50,52,50,53,50,54,50,55,50,56,50,57,51,48,51,49,51,50,51,51,51,52,51,53,51,54,51,55,51,56,51,57,52,48,52,49,52,50,52,51,52,52,52,53,52,54,52,55,52,56,52,57,53,48,53,49,53,50,53,51,53,52,53,53,53,54,53,55,53,56,53,57,54,48,54,49,54,50,54,51,54,52,54,53,54,54,54,55,54,56,54,57,55,48,55,49,55,50,55,51,55,52,55,53,55,54,55,55,55,56,55,57,56,48,56,49,56,50,56,51,56,52,56,53,56,54,56,55,56,56,56,57,57,48,57,49,57,50,57,51,57,52,57,53,57,54,57,55,57,56,57,57]⟩:ByteArray) (IntKind.wrap .u32 ((IntKind.wrap .u32 (Int.tdiv (Int.tmod (IntKind.wrap .u32 (Int.tmod Xx3 100000000)) 10000) 100)) * 2))
   let Xx24←ixL C5 (IntKind.wrap .i64 (Xx4 - 3)) 1
   stV Xx24 (.int .u8 Xx22)
   let Xx26←ixL C5 (IntKind.wrap .i64 (Xx4 - 4)) 1
   stV Xx26 (.int .u8 Xx23)
   let Xx29←ixS (⟨#[48,48,48,49,48,50,48,51,48,52,48,53,48,54,48,55,48,56,48,57,49,48,49,49,49,50,49,51,49,52,49,53,49,54,49,55,49,56,49,57,50,48,50,49,50,50,50,51,50,52,50,53,50,54,50,55,50,56,50,57,51,48,51,49,51,50,51,51,51,52,51,53,51,54,51,55,51,56,51,57,52,48,52,49,52,50,52,51,52,52,52,53,52,54,52,55,52,56,52,57,53,48,53,49,53,50,53,51,53,52,53,53,53,54,53,55,53,56,53,57,54,48,54,49,54,50,54,51,54,52,54,53,54,54,54,55,54,56,54,57,55,48,55,49,55,50,55,51,55,52,55,53,55,54,55,55,55,56,55,57,56,48,56,49,56,50,56,51,56,52,56,53,56,54,56,55,56,56,56,57,57,48,57,49,57,50,57,51,57,52,57,53,57,54,57,55,57,56,57,57]⟩:ByteArray) (IntKind.wrap .u32 ((IntKind.wrap .u32 ((Int.tmod (IntKind.wrap .u32 (Int.tdiv (IntKind.wrap .u32 (Int.tmod Xx3 100000000)) 10000)) 100) * 2))+1))
   let Xx30←ixS (⟨#[48,48,48,49,48,50,48,51,48,52,48,53,48,54,48,55,48,56,48,57,49,48,49,49,49,50,49,51,49,52,49,53,49,54,49,55,49,56,49,57,50,48,50,49,50,50,50,51,50,52,50,53,50,54,50,55,50,56,50,57,51,48,51,49,51,50,51,51,51,52,51,53,51,54,51,55,51,56,51,57,52,48,52,49,52,50,52,51,52,52,52,53,52,54,52,55,52,56,52,57,53,48,53,49,53,50,53,51,53,52,53,53,53,54,53,55,53,56,53,57,54,48,54,49,54,50,54,51,54,52,54,53,54,54,54,55,54,56,54,57,55,48,55,49,55,50,55,51,55,52,55,53,55,54,55,55,55,56,55,57,56,48,56,49,56,50,56,51,56,52,56,53,56,54,56,55,56,56,56,57,57,48,57,49,57,50,57,51,57,52,57,53,57,54,57,55,57,56,57,57]⟩:ByteArray) (IntKind.wrap .u32 ((Int.tmod (IntKind.wrap .u32 (Int.tdiv (IntKind.wrap .u32 (Int.tmod Xx3 100000000)) 10000)) 100) * 2))
   let Xx31←ixL C5 (IntKind.wrap .i64 (Xx4 - 5)) 1
   stV Xx31 (.int .u8 Xx29)
   let Xx33←ixL C5 (IntKind.wrap .i64 (Xx4 - 6)) 1
   stV Xx33 (.int .u8 Xx30)
   let Xx36←ixS (⟨#[48,48,48,49,48,50,48,51,48,52,48,53,48,54,48,55,48,56,48,57,49,48,49,49,49,50,49,51,49,52,49,53,49,54,49,55,49,56,49,57,50,48,50,49,50,50,50,51,50,52,50,53,50,54,50,55,50,56,50,57,51,48,51,49,51,50,51,51,51,52,51,53,51,54,51,55,51,56,51,57,52,48,52,49,52,50,52,51,52,52,52,53,52,54,52,55,52,56,52,57,53,48,53,49,53,50,53,51,53,52,53,53,53,54,53,55,53,56,53,57,54,48,54,49,54,50,54,51,54,52,54,53,54,54,54,55,54,56,54,57,55,48,55,49,55,50,55,51,55,52,55,53,55,54,55,55,55,56,55,57,56,48,56,49,56,50,56,51,56,52,56,53,56,54,56,55,56,56,56,57,57,48,57,49,57,50,57,51,57,52,57,53,57,54,57,55,57,56,57,57]⟩:ByteArray) (IntKind.wrap .u32 ((IntKind.wrap .u32 ((IntKind.wrap .u32 (Int.tdiv (IntKind.wrap .u32 (Int.tdiv (IntKind.wrap .u32 (Int.tmod Xx3 100000000)) 10000)) 100)) * 2))+1))
   let Xx37←ixS (⟨#[48,48,48,49,48,50,48,51,48,52,48,53,48,54,48,55,48,56,48,57,49,48,49,49,49,50,49,51,49,52,49,53,49,54,49,55,49,56,49,57,50,48,50,49,50,50,50,51,50,52,50,53,50,54,50,55,50,56,50,57,51,48,51,49,51,50,51,51,51,52,51,53,51,54,51,55,51,56,51,57,52,48,52,49,52,50,52,51,52,52,52,53,52,54,52,55,52,56,52,57,53,48,53,49,53,50,53,51,53,52,53,53,53,54,53,55,53,56,53,57,54,48,54,49,54,50,54,51,54,52,54,53,54,54,54,55,54,56,54,57,55,48,55,49,55,50,55,51,55,52,55,53,55,54,55,55,55,56,55,57,56,48,56,49,56,50,56,51,56,52,56,53,56,54,56,55,56,56,56,57,57,48,57,49,57,50,57,51,57,52,57,53,57,54,57,55,57,56,57,57]⟩:ByteArray) (IntKind.wrap .u32 ((IntKind.wrap .u32 (Int.tdiv (IntKind.wrap .u32 (Int.tdiv (IntKind.wrap .u32 (Int.tmod Xx3 100000000)) 10000)) 100)) * 2))
   let Xx38←ixL C5 (IntKind.wrap .i64 (Xx4 - 7)) 1
   stV Xx38 (.int .u8 Xx36)
   let Xx40←ixL C5 (IntKind.wrap .i64 (Xx4 - 8)) 1
   stV Xx40 (.int .u8 Xx37)
   self1 (IntKind.wrap .u64 (Int.tdiv Xx3 100000000),IntKind.wrap .i64 (Xx4 - 8))
   ) (do
   M.ite (decide (Xx4 ≥ 4)) (do
    let Xx67←ixS (⟨#[48,48,48,49,48,50,48,51,48,52,48,53,48,54,48,55,48,56,48,57,49,48,49,49,49,50,49,51,49,52,49,53,49,54,49,55,49,56,49,57,50,48,50,49,50,50,50,51,50,52,50,53,50,54,50,55,50,56,50,57,51,48,51,49,51,50,51,51,51,52,51,53,51,54,51,55,51,56,51,57,52,48,52,49,52,50,52,51,52,52,52,53,52,54,52,55,52,56,52,57,53,48,53,49,53,50,53,51,53,52,53,53,53,54,53,55,53,56,53,57,54,48,54,49,54,50,54,51,54,52,54,53,54,54,54,55,54,56,54,57,55,48,55,49,55,50,55,51,55,52,55,53,55,54,55,55,55,56,55,57,56,48,56,49,56,50,56,51,56,52,56,53,56,54,56,55,56,56,56,57,57,48,57,49,57,50,57,51,57,52,57,53,57,54,57,55,57,56,57,57]⟩:ByteArray) (IntKind.wrap .u32 ((IntKind.wrap .u32 ((Int.tmod (Int.tmod (IntKind.wrap .u32 Xx3) 10000) 100) * 2))+1))
    let Xx68←ixS (⟨#[48,48,48,49,48,50,48,51,48,52,48,53,48,54,48,55,48,56,48,57,49,48,49,49,49,50,49,51,49,52,49,53,49,54,49,55,49,56,49,57,50,48,50,49,50,50,50,51,50,52,50,53,50,54,50,55,50,56,50,57,51,48,51,49,51,50,51,51,51,52,51,53,51,54,51,55,51,56,51,57,52,48,52,49,52,50,52,51,52,52,52,53,52,54,52,55,52,56,52,57,53,48,53,49,53,50,53,51,53,52,53,53,53,54,53,55,53,56,53,57,54,48,54,49,54,50,54,51,54,52,54,53,54,54,54,55,54,56,54,57,55,48,55,49,55,50,55,51,55,52,55,53,55,54,55,55,55,56,55,57,56,48,56,49,56,50,56,51,56,52,56,53,56,54,56,55,56,56,56,57,57,48,57,49,57,50,57,51,57,52,57,53,57,54,57,55,57,56,57,57]⟩:ByteArray) (IntKind.wrap .u32 ((Int.tmod (Int.tmod (IntKind.wrap .u32 Xx3) 10000) 100) * 2))
    let Xx69←ixL C5 (IntKind.wrap .i64 (Xx4 - 1)) 1
    stV Xx69 (.int .u8 Xx67)
    let Xx71←ixL C5 (IntKind.wrap .i64 (Xx4 - 2)) 1
    stV Xx71 (.int .u8 Xx68)
    let Xx74←ixS (⟨#[48,48,48,49,48,50,48,51,48,52,48,53,48,54,48,55,48,56,48,57,49,48,49,49,49,50,49,51,49,52,49,53,49,54,49,55,49,56,49,57,50,48,50,49,50,50,50,51,50,52,50,53,50,54,50,55,50,56,50,57,51,48,51,49,51,50,51,51,51,52,51,53,51,54,51,55,51,56,51,57,52,48,52,49,52,50,52,51,52,52,52,53,52,54,52,55,52,56,52,57,53,48,53,49,53,50,53,51,53,52,53,53,53,54,53,55,53,56,53,57,54,48,54,49,54,50,54,51,54,52,54,53,54,54,54,55,54,56,54,57,55,48,55,49,55,50,55,51,55,52,55,53,55,54,55,55,55,56,55,57,56,48,56,49,56,50,56,51,56,52,56,53,56,54,56,55,56,56,56,57,57,48,57,49,57,50,57,51,57,52,57,53,57,54,57,55,57,56,57,57]⟩:ByteArray) (IntKind.wrap .u32 ((IntKind.wrap .u32 ((IntKind.wrap .u32 (Int.tdiv (Int.tmod (IntKind.wrap .u32 Xx3) 10000) 100)) * 2))+1))
    let Xx75←ixS (⟨#[48,48,48,49,48,50,48,51,48,52,48,53,48,54,48,55,48,56,48,57,49,48,49,49,49,50,49,51,49,52,49,53,49,54,49,55,49,56,49,57,50,48,50,49,50,50,50,51,50,52,50,53,50,54,50,55,50,56,50,57,51,48,51,49,51,50,51,51,51,52,51,53,51,54,51,55,51,56,51,57,52,48,52,49,52,50,52,51,52,52,52,53,52,54,52,55,52,56,52,57,53,48,53,49,53,50,53,51,53,52,53,53,53,54,53,55,53,56,53,57,54,48,54,49,54,50,54,51,54,52,54,53,54,54,54,55,54,56,54,57,55,48,55,49,55,50,55,51,55,52,55,53,55,54,55,55,55,56,55,57,56,48,56,49,56,50,56,51,56,52,56,53,56,54,56,55,56,56,56,57,57,48,57,49,57,50,57,51,57,52,57,53,57,54,57,55,57,56,57,57]⟩:ByteArray) (IntKind.wrap .u32 ((IntKind.wrap .u32 (Int.tdiv (Int.tmod (IntKind.wrap .u32 Xx3) 10000) 100)) * 2))
    let Xx76←ixL C5 (IntKind.wrap .i64 (Xx4 - 3)) 1
    stV Xx76 (.int .u8 Xx74)
    let Xx78←ixL C5 (IntKind.wrap .i64 (Xx4 - 4)) 1
    stV Xx78 (.int .u8 Xx75)
    Zx C5 (IntKind.wrap .i64 (Xx4 - 4)) (IntKind.wrap .u32 (Int.tdiv (IntKind.wrap .u32 Xx3) 10000))
    ) (do
    Zx C5 Xx4 (IntKind.wrap .u32 Xx3)
    )
   )
def JN (x0:Sl) (x1:Int):M (Unit):=do
 M.loop (Jx x0) (x1,(x0.len:Int))
theorem V7 (x0:Sl) (x1:Int):Kn Go.Proofs.Tryz.prog 233 #[(x0:Sl).v,.int .u64 x1] (fun (r:Unit)=>.tuple #[]) (JN x0 x1) :=
 KN [] [] [] [(0,.L x0),(1,.I .u64 x1)] (.q .o (.q (.b (.l [(0,.L)] [(1,.I .u64),(4,.I .i64)] (fun (t:Sl)=>Jx t) (fun _=>.q .o (.b (.q .o (.q .o (.q .o (.q .o (.q .o (.q (.r [0,0,2,0,0,16,0,64,128,0,512,455,2503,8191,16383] [0,0,2,0,0,16,0,64,128,0,512,5,2304,40,9216] [0,0,2,0,0,16,0,64,192,0,512,455,2503,8191,16383] (.pu 0 (.pu 1 (.pu 2 (.pu 3 (.pu 4 (.pu 5 (.pu 6 (.pu 7 (.pu 8 (.pu 9 (.pu 10 (.pu 11 (.st [0,1,2,3,4,5,6,7,8,9,10,11,12,13,14] (.on 12 (.pu 13 (.nx (.on 14 .dn)))))))))))))))))) (.q (.r [0,0,2,0,0,16,0,64,128,0,512,455,2503,8191,16383] [0,0,2,0,0,16,0,64,128,0,512,5,2304,40,9216] [0,0,2,0,0,16,0,64,192,0,512,455,2503,8191,16383] (.pu 0 (.pu 1 (.pu 2 (.pu 3 (.pu 4 (.pu 5 (.pu 6 (.pu 7 (.pu 8 (.pu 9 (.pu 10 (.pu 11 (.st [0,1,2,3,4,5,6,7,8,9,10,11,12,13,14] (.on 12 (.pu 13 (.nx (.on 14 .dn)))))))))))))))))) (.q (.r [0,0,2,0,0,16,0,64,128,0,512,455,2503,8191,16383] [0,0,2,0,0,16,0,64,128,0,512,5,2304,40,9216] [0,0,2,0,0,16,0,64,192,0,512,455,2503,8191,16383] (.pu 0 (.pu 1 (.pu 2 (.pu 3 (.pu 4 (.pu 5 (.pu 6 (.pu 7 (.pu 8 (.pu 9 (.pu 10 (.pu 11 (.st [0,1,2,3,4,5,6,7,8,9,10,11,12,13,14] (.on 12 (.pu 13 (.nx (.on 14 .dn)))))))))))))))))) (.q (.r [0,0,2,0,0,16,0,64,128,0,512,455,2503,8191,16383] [0,0,2,0,0,16,0,64,128,0,512,5,2304,40,9216] [0,0,2,0,0,16,0,64,192,0,512,455,2503,8191,16383] (.pu 0 (.pu 1 (.pu 2 (.pu 3 (.pu 4 (.pu 5 (.pu 6 (.pu 7 (.pu 8 (.pu 9 (.pu 10 (.pu 11 (.st [0,1,2,3,4,5,6,7,8,9,10,11,12,13,14] (.on 12 (.pu 13 (.nx (.on 14 .dn)))))))))))))))))) .o))))))))))))) (.q .o (.q (.q .o (.q (.q .o (.q .o (.q .o (.q (.r [0,0,2,0,0,16,0,64,128,0,512,455,2503,8191,16383] [0,0,2,0,0,16,0,64,128,0,512,5,2304,40,9216] [0,0,2,0,0,16,0,64,192,0,512,455,2503,8191,16383] (.pu 0 (.pu 1 (.pu 2 (.pu 3 (.pu 4 (.pu 5 (.pu 6 (.pu 7 (.pu 8 (.pu 9 (.pu 10 (.pu 11 (.st [0,1,2,3,4,5,6,7,8,9,10,11,12,13,14] (.on 12 (.pu 13 (.nx (.on 14 .dn)))))))))))))))))) (.q (.r [0,0,2,0,0,16,0,64,128,0,512,455,2503,8191,16383] [0,0,2,0,0,16,0,64,128,0,512,5,2304,40,9216] [0,0,2,0,0,16,0,64,192,0,512,455,2503,8191,16383] (.pu 0 (.pu 1 (.pu 2 (.pu 3 (.pu 4 (.pu 5 (.pu 6 (.pu 7 (.pu 8 (.pu 9 (.pu 10 (.pu 11 (.st [0,1,2,3,4,5,6,7,8,9,10,11,12,13,14] (.on 12 (.pu 13 (.nx (.on 14 .dn)))))))))))))))))) .o))))) .o)) (.j [(0,.L),(4,.I .i64),(12,.I .u32)] (fun (t:Sl × Int × Int)=>Zx t.1 t.2.1 t.2.2) (.q (.q .o (.q (.q .o (.q .o (.q (.r [0,0,2,0,0,16,0,64,128,0,512,455,2503,8191,16383] [0,0,2,0,0,16,0,64,128,0,512,5,2304,40,9216] [0,0,2,0,0,16,0,64,192,0,512,455,2503,8191,16383] (.pu 0 (.pu 1 (.pu 2 (.pu 3 (.pu 4 (.pu 5 (.pu 6 (.pu 7 (.pu 8 (.pu 9 (.pu 10 (.pu 11 (.st [0,1,2,3,4,5,6,7,8,9,10,11,12,13,14] (.on 12 (.pu 13 (.nx (.on 14 .dn)))))))))))))))))) .o))) .o)) (.j [(0,.L),(4,.I .i64),(12,.I .u32)] (fun (t:Sl × Int × Int)=>Zw t.1 t.2.1 t.2.2) .o))))))) Go.Proofs.Tryz.func233 rfl rfl ⟨rfl,rfl,trivial⟩ rfl (by kernel_rfl) (by kernel_rfl)
noncomputable def V8:CalleeS Go.Proofs.Tryz.prog:=mkC Vh Vj [.L,.I .u64] [] (fun (t:Sl × Int)=>JN t.1 t.2) (fun (t:Sl × Int)=>V7 t.1 t.2)
def Za (x0:Int):M (Bool):=do
 M.pure ((iAnd .i64 x0 (IntKind.wrap .i64 (x0 - 1))) == 0)
theorem V9 (x0:Int):Kn Go.Proofs.Tryz.prog 250 #[.int .i64 x0] (fun (r:Bool)=>.bool r) (Za x0) :=
 KN [] [] [.B] [(0,.I .i64 x0)] .o Go.Proofs.Tryz.func250 rfl rfl ⟨rfl,trivial⟩ rfl (by kernel_rfl) (by kernel_rfl)
noncomputable def WA:CalleeS Go.Proofs.Tryz.prog:=mkC Vi Vk [.I .i64] [.B] (fun (t:Int)=>Za t) (fun (t:Int)=>V9 t)
def JA (x0:Int):M (Int):=do
 M.ite (x0 == 0) (do
  M.pure 64
  ) (do
  let Xx6←ixA (⟨5,0,none⟩:Addr) 64 (iShr .u64 (IntKind.wrap .u64 ((iAnd .u64 x0 (IntKind.wrap .u64 (0 - x0))) * 285870213051353865)) 58) 1
  let Xx7←ldI .u8 Xx6
  M.pure (IntKind.wrap .i64 Xx7)
  )
theorem Yl (x0:Int):Kn Go.Proofs.Tryz.prog 256 #[.int .u64 x0] (fun (r:Int)=>.int .i64 r) (JA x0) :=
 KN [] [] [.I .i64] [(0,.I .u64 x0)] .o Go.Proofs.Tryz.func256 rfl rfl ⟨rfl,trivial⟩ rfl (by kernel_rfl) (by kernel_rfl)
noncomputable def Ym:CalleeS Go.Proofs.Tryz.prog:=mkC Wz YC [.I .u64] [.I .i64] (fun (t:Int)=>JA t) (fun (t:Int)=>Yl t)
def JY (x0:Int):M (Int):=do
 let Xx4←JA x0
 M.pure Xx4
theorem XA (x0:Int):Kn Go.Proofs.Tryz.prog 251 #[.int .u64 x0] (fun (r:Int)=>.int .i64 r) (JY x0) :=
 KN [Ym] [] [.I .i64] [(0,.I .u64 x0)] .o Go.Proofs.Tryz.func251 rfl rfl ⟨rfl,trivial⟩ rfl (by kernel_rfl) (by kernel_rfl)
noncomputable def XB:CalleeS Go.Proofs.Tryz.prog:=mkC Yr Ys [.I .u64] [.I .i64] (fun (t:Int)=>JY t) (fun (t:Int)=>XA t)
def ZS (C26:Sl) (C27:Bool) (C28:Sl) (C29:ByteArray) (C30:Addr) (Xx25:Int):M (Sl × ByteArray):=do
 M.ite C27 (do
  let Xx34←slA C30 65 Xx25 65 1
  let Xx35←apL KU 1 1 (#[.int .u8 0]:Array Value) C26 Xx34
  M.pure (Xx35,C29)
  ) (do
  let Xx37←slA C30 65 Xx25 65 1
  let Xx38←b2s Xx37
  M.pure (C28,Xx38)
  )
def ZT (C19:Sl) (C20:Bool) (C21:Bool) (C22:Sl) (C23:ByteArray) (C24:Addr) (Xx18:Int):M (Sl × ByteArray):=do
 M.ite C20 (do
  let Xx41←ixA C24 65 (IntKind.wrap .i64 (Xx18 - 1)) 1
  stV Xx41 (.int .u8 45)
  ZS C19 C21 C22 C23 C24 (IntKind.wrap .i64 (Xx18 - 1))
  ) (do
  ZS C19 C21 C22 C23 C24 Xx18
  )
def JE (C52:Sl) (C53:Bool) (C54:Bool) (C55:Sl) (C56:ByteArray) (C57:Addr) (C58:Int) (C59:Int) (C60:Int) (self1:(Int × Int)→M (Sl × ByteArray)):(Int × Int)→M (Sl × ByteArray):=fun s=>match s with
 | (Xx50,Xx51)=>do
  M.ite (decide (Xx50 ≥ C59)) (do
   let Xx66←ixS (⟨#[48,49,50,51,52,53,54,55,56,57,97,98,99,100,101,102,103,104,105,106,107,108,109,110,111,112,113,114,115,116,117,118,119,120,121,122]⟩:ByteArray) (iAnd .u64 Xx50 C60)
   let Xx67←ixA C57 65 (IntKind.wrap .i64 (Xx51 - 1)) 1
   stV Xx67 (.int .u8 Xx66)
   let Xx69←pShr .u64 Xx50 C58
   self1 (Xx69,IntKind.wrap .i64 (Xx51 - 1))
   ) (do
   let Xx71←ixS (⟨#[48,49,50,51,52,53,54,55,56,57,97,98,99,100,101,102,103,104,105,106,107,108,109,110,111,112,113,114,115,116,117,118,119,120,121,122]⟩:ByteArray) Xx50
   let Xx72←ixA C57 65 (IntKind.wrap .i64 (Xx51 - 1)) 1
   stV Xx72 (.int .u8 Xx71)
   ZT C52 C53 C54 C55 C56 C57 (IntKind.wrap .i64 (Xx51 - 1))
   )
def UG (C78:Sl) (C79:Bool) (C80:Bool) (C81:Sl) (C82:ByteArray) (C83:Addr) (C84:Int) (self2:(Int × Int)→M (Sl × ByteArray)):(Int × Int)→M (Sl × ByteArray):=fun s=>match s with
 | (Xx76,Xx77)=>do
  M.ite (decide (Xx76 ≥ C84)) (do
   let Xx90←pQuo .u64 Xx76 C84
   let Xx92←ixS (⟨#[48,49,50,51,52,53,54,55,56,57,97,98,99,100,101,102,103,104,105,106,107,108,109,110,111,112,113,114,115,116,117,118,119,120,121,122]⟩:ByteArray) (IntKind.wrap .u64 (Xx76 - (IntKind.wrap .u64 (Xx90 * C84))))
   let Xx93←ixA C83 65 (IntKind.wrap .i64 (Xx77 - 1)) 1
   stV Xx93 (.int .u8 Xx92)
   self2 (Xx90,IntKind.wrap .i64 (Xx77 - 1))
   ) (do
   let Xx96←ixS (⟨#[48,49,50,51,52,53,54,55,56,57,97,98,99,100,101,102,103,104,105,106,107,108,109,110,111,112,113,114,115,116,117,118,119,120,121,122]⟩:ByteArray) Xx76
   let Xx97←ixA C83 65 (IntKind.wrap .i64 (Xx77 - 1)) 1
   stV Xx97 (.int .u8 Xx96)
   ZT C78 C79 C80 C81 C82 C83 (IntKind.wrap .i64 (Xx77 - 1))
   )
def ZU (C10:Sl) (C11:Int) (C12:Bool) (C13:Bool) (C14:Sl) (C15:ByteArray) (C16:Addr) (C17:Int) (Xx9:Int):M (Sl × ByteArray):=do
 let Xx44←Za C11
 M.ite Xx44 (do
  let Xx46←JY (IntKind.wrap .u64 C11)
  M.loop (JE C10 C12 C13 C14 C15 C16 (IntKind.wrap .u64 Xx46) (IntKind.wrap .u64 C11) (IntKind.wrap .u64 ((IntKind.wrap .u64 C11) - 1))) (Xx9,C17)
  ) (do
  M.loop (UG C10 C12 C13 C14 C15 C16 (IntKind.wrap .u64 C11)) (Xx9,C17)
  )
def Zm (x0:Sl) (x1:Int) (x2:Int) (x3:Bool) (x4:Bool):M (Sl × ByteArray):=do
 let Xx4←M.ite (decide (x2 < 2)) (do
  M.pure true
  ) (do
  M.pure (x2 == 10)
  )
 let Xx5←M.ite Xx4 (do
  M.pure true
  ) (do
  M.pure (decide (x2 > 36))
  )
 M.ite Xx5 (do
  M.fail
  ) (do
  let Xx7←mkB Vx (Array.replicate 65 (.int .u8 0):Array Value)
  M.ite x3 (do
   ZU x0 x2 x3 x4 Sl.nil ByteArray.empty Xx7 65 (IntKind.wrap .u64 (0 - x1))
   ) (do
   ZU x0 x2 x3 x4 Sl.nil ByteArray.empty Xx7 65 x1
   )
  )
theorem Wm (x0:Sl) (x1:Int) (x2:Int) (x3:Bool) (x4:Bool):Kn Go.Proofs.Tryz.prog 234 #[(x0:Sl).v,.int .u64 x1,.int .i64 x2,.bool x3,.bool x4] (fun (r:Sl × ByteArray)=>.tuple #[(r.1:Sl).v,.string r.2]) (Zm x0 x1 x2 x3 x4) :=
 KN [WA,XB] [] [.L,.S] [(0,.L x0),(1,.I .u64 x1),(2,.I .i64 x2),(3,.B x3),(4,.B x4)] (.q .o (.q .o (.q .o (.q .o (.q .o (.j [(0,.L),(2,.I .i64),(3,.B),(4,.B),(10,.L),(11,.S),(12,.A),(13,.I .i64),(1,.I .u64)] (fun (t:Sl × Int × Bool × Bool × Sl × ByteArray × Addr × Int × Int)=>ZU t.1 t.2.1 t.2.2.1 t.2.2.2.1 t.2.2.2.2.1 t.2.2.2.2.2.1 t.2.2.2.2.2.2.1 t.2.2.2.2.2.2.2.1 t.2.2.2.2.2.2.2.2) (.q (.q .o (.q (.q .o (.q .o (.q .o (.q (.b (.l [(0,.L),(3,.B),(4,.B),(10,.L),(11,.S),(12,.A),(14,.I .u64),(15,.I .u64),(16,.I .u64)] [(1,.I .u64),(13,.I .i64)] (fun (t:Sl × Bool × Bool × Sl × ByteArray × Addr × Int × Int × Int)=>JE t.1 t.2.1 t.2.2.1 t.2.2.2.1 t.2.2.2.2.1 t.2.2.2.2.2.1 t.2.2.2.2.2.2.1 t.2.2.2.2.2.2.2.1 t.2.2.2.2.2.2.2.2) (fun _=>.o))) .o)))) (.q .o (.q (.b (.l [(0,.L),(3,.B),(4,.B),(10,.L),(11,.S),(12,.A),(17,.I .u64)] [(1,.I .u64),(13,.I .i64)] (fun (t:Sl × Bool × Bool × Sl × ByteArray × Addr × Int)=>UG t.1 t.2.1 t.2.2.1 t.2.2.2.1 t.2.2.2.2.1 t.2.2.2.2.2.1 t.2.2.2.2.2.2) (fun _=>.o))) .o)))) (.j [(0,.L),(3,.B),(4,.B),(10,.L),(11,.S),(12,.A),(13,.I .i64)] (fun (t:Sl × Bool × Bool × Sl × ByteArray × Addr × Int)=>ZT t.1 t.2.1 t.2.2.1 t.2.2.2.1 t.2.2.2.2.1 t.2.2.2.2.2.1 t.2.2.2.2.2.2) (.q .o (.j [(0,.L),(4,.B),(10,.L),(11,.S),(12,.A),(13,.I .i64)] (fun (t:Sl × Bool × Sl × ByteArray × Addr × Int)=>ZS t.1 t.2.1 t.2.2.1 t.2.2.2.1 t.2.2.2.2.1 t.2.2.2.2.2) .o)))))))))) Go.Proofs.Tryz.func234 rfl rfl ⟨rfl,rfl,rfl,rfl,rfl,trivial⟩ rfl (by kernel_rfl) (by kernel_rfl)
noncomputable def Wn:CalleeS Go.Proofs.Tryz.prog:=mkC WG WJ [.L,.I .u64,.I .i64,.B,.B] [.L,.S] (fun (t:Sl × Int × Int × Bool × Bool)=>Zm t.1 t.2.1 t.2.2.1 t.2.2.2.1 t.2.2.2.2) (fun (t:Sl × Int × Int × Bool × Bool)=>Wm t.1 t.2.1 t.2.2.1 t.2.2.2.1 t.2.2.2.2)
def JO (C13:Int) (C14:Addr) (Xx12:Int):M (ByteArray):=do
 let Xx16←Jg Xx12
 let Xx18←slA C14 24 1 (IntKind.wrap .i64 (1+Xx16)) 1
 let Xx19←JN Xx18 Xx12
 M.ite (decide (C13 < 0)) (do
  let Xx23←ixA C14 24 0 1
  stV Xx23 (.int .u8 45)
  let Xx26←slA C14 24 0 (IntKind.wrap .i64 (1+Xx16)) 1
  let Xx27←b2s Xx26
  M.pure Xx27
  ) (do
  let Xx29←slA C14 24 1 (IntKind.wrap .i64 (1+Xx16)) 1
  let Xx30←b2s Xx29
  M.pure Xx30
  )
def Jh (x0:Int) (x1:Int):M (ByteArray):=do
 M.ite (x1 == 10) (do
  let Xx6←M.ite (decide (0≤x0)) (do
   M.pure (decide (x0 < 100))
   ) (do
   M.pure false
   )
  M.ite Xx6 (do
   let Xx8←UZ x0
   M.pure Xx8
   ) (do
   let Xx10←mkB KEh (Array.replicate 24 (.int .u8 0):Array Value)
   M.ite (decide (x0 < 0)) (do
    JO x0 Xx10 (IntKind.wrap .u64 (0 - (IntKind.wrap .u64 x0)))
    ) (do
    JO x0 Xx10 (IntKind.wrap .u64 x0)
    )
   )
  ) (do
  let Xx33←Zm Sl.nil (IntKind.wrap .u64 x0) x1 (decide (x0 < 0)) false
  M.pure Xx33.2
  )
theorem YL (x0:Int) (x1:Int):Kn Go.Proofs.Tryz.prog 216 #[.int .i64 x0,.int .i64 x1] (fun (r:ByteArray)=>.string r) (Jh x0 x1) :=
 KN [XS,YK,V8,Wn] [] [.S] [(0,.I .i64 x0),(1,.I .i64 x1)] (.q .o (.q (.q .o (.q (.q .o (.q .o (.q .o (.q .o (.j [(0,.I .i64),(5,.A),(6,.I .u64)] (fun (t:Int × Addr × Int)=>JO t.1 t.2.1 t.2.2) .o))))) .o)) .o)) Go.Proofs.Tryz.func216 rfl rfl ⟨rfl,rfl,trivial⟩ rfl (by kernel_rfl) (by kernel_rfl)
def KA2 (x0:Array Value) (x1:Addr):M (Bool):=do
 let Xx2←mkB KI x0
 let Xx4←ldG 4 Xx2
 let Xx5←ldI .i64 x1
 let Xx6←Yh Xx4 (IntKind.wrap .i64 (Xx5+1))
 M.pure (!Xx6)
theorem KCr (x0:Array Value) (x1:Addr):Kn Go.Proofs.Tryz.prog 221 #[.agg x0,.pointer (some x1)] (fun (r:Bool)=>.bool r) (KA2 x0 x1) :=
 KN [KA0] [] [.B] [(0,.G x0),(1,.A x1)] .o Go.Proofs.Tryz.func221 rfl rfl ⟨rfl,rfl,trivial⟩ rfl (by kernel_rfl) (by kernel_rfl)
def Kl (x0:Option Addr):M (Value ⊕ (Unit)):=do
 let Xx1←nilP x0
 let Xx2←ldI .i64 ((Xx1).add 1)
 M.pure (.inl (Value.iface Zk (.agg (#[.int .i64 Xx2]:Array Value))))
theorem Kw (x0:Option Addr):XF Go.Proofs.Tryz.prog 228 #[.pointer x0] (fun (r:Unit)=>.tuple #[]) (Kl x0):=by
 refine WE [(0,.pointer x0)] Go.Proofs.Tryz.func228 rfl rfl (Nat.le_of_ble_eq_true rfl) (Vs ⟨rfl,trivial⟩) (fun w0 w Q R X a hret hthr hE hR H=>?_)
 unfold Kl at H
 refine KF ?_
 refine KC (v:=.pointer x0) rfl rfl hE rfl (KG hE rfl) (fun a hE=>?_)
 obtain ⟨Xx1,qXx1,H⟩:=H
 refine KC (v:=.pointer (some Xx1)) rfl rfl hE rfl (KL hE (Zv rfl (congrArg Value.pointer qXx1))) (fun a hE=>?_)
 refine KC (v:=.pointer (some ((Xx1).add 1))) rfl rfl hE rfl (KH hE rfl ZI) (fun a hE=>?_)
 obtain ⟨Xx2,qXx2,H⟩:=H
 refine KC (v:=.int .i64 Xx2) rfl rfl hE rfl (ZE hE rfl sc3 qXx2) (fun a hE=>?_)
 refine KC (v:=.agg (#[.int .i64 Xx2]:Array Value)) rfl rfl hE rfl (XW hE rfl KMF KNH (by rfl)) (fun a hE=>?_)
 refine KC (v:=(Value.iface Zk (.agg (#[.int .i64 Xx2]:Array Value)))) rfl rfl hE rfl (KDW hE rfl KNG) (fun a hE=>?_)
 exact KKb hE rfl (hthr _ _ hR H)
def Kg (x0:Option Addr):M (Int):=do
 let Xx4←nilP x0
 let Xx5←nilP x0
 let Xx6←ldI .i64 ((Xx4).add 1)
 let Xx7←ldS ((Xx5).add 0)
 M.ite (decide (Xx6 < (Xx7.size:Int))) (do
  let Xx9←nilP x0
  let Xx10←nilP x0
  let Xx11←ldS ((Xx9).add 0)
  let Xx12←ldI .i64 ((Xx10).add 1)
  let Xx13←ixS Xx11 Xx12
  M.pure Xx13
  ) (do
  M.pure 0
  )
theorem Ko (x0:Option Addr):Kn Go.Proofs.Tryz.prog 240 #[.pointer x0] (fun (r:Int)=>.int .u8 r) (Kg x0) :=
 KN [] [0,3,7,13,17] [.I .u8] [(0,.P x0)] (.q .o (.q (.q (.r [0,1,2,4,0,16,32,64,128,264] [0,1,2,4,0,16,32,64,128,264] [0,1,3,7,0,16,48,112,240,511] (.pu 0 (.pu 1 (.pu 2 (.pu 4 (.pu 5 (.pu 6 (.pu 3 (.pu 7 (.pu 8 (.pu 9 (.st [9] .dn)))))))))))) (.q (.q (.r [0,1,2,4,0,16,32,64,136,511] [0,1,2,4,0,16,32,64,136,256] [0,1,3,7,0,16,48,112,255,511] (.pu 0 (.pu 1 (.pu 2 (.pu 4 (.pu 5 (.pu 6 (.pu 3 (.pu 7 (.pu 8 (.pu 9 (.st [8,9] .dn)))))))))))) .o) .o)) .o)) Go.Proofs.Tryz.func240 rfl rfl ⟨rfl,trivial⟩ rfl (by kernel_rfl) (by kernel_rfl)
def WB (x0:Int):M (Bool):=do
 let Xx3←M.ite (decide (x0 ≥ 48)) (do
  M.pure (decide (x0≤57))
  ) (do
  M.pure false
  )
 M.pure Xx3
theorem Xn (x0:Int):Kn Go.Proofs.Tryz.prog 241 #[.int .u8 x0] (fun (r:Bool)=>.bool r) (WB x0) :=
 KN [] [] [.B] [(0,.I .u8 x0)] .o Go.Proofs.Tryz.func241 rfl rfl ⟨rfl,trivial⟩ rfl (by kernel_rfl) (by kernel_rfl)
end Gx
namespace Gx
open Go
set_option linter.unusedVariables false
set_option maxRecDepth 100000
noncomputable def KHP:Array Oper:=KGs Go.Proofs.Tryz.f242 9
def KHQ:List (List Nat):=[[],[0],[1],[2],[],[],[5],[6],[7],[8],[3,4,9],[10],[11],[12],[12],[13,11,0,1,2,3,4,5,6,7,8,9,10,11,12,13],[14,15,0,1,2,3,4,5,6,7,8,9,10,11,12,13,14,15]]
def KHR:List (List Nat):=[[],[0],[1],[2],[],[],[5],[6],[7],[8],[3,4,9],[10],[11],[12],[12],[13],[14]]
def KHS:List (List Nat):=[[],[0],[0,1],[0,1,2],[],[],[5],[5,6],[5,6,7],[5,6,7,8],[0,1,2,3,4,5,6,7,8,9],[0,1,2,3,4,5,6,7,8,9,10],[0,1,2,3,4,5,6,7,8,9,10,11],[0,1,2,3,4,5,6,7,8,9,10,11,12],[0,1,2,3,4,5,6,7,8,9,10,11,12],[0,1,2,3,4,5,6,7,8,9,10,11,12,13],[0,1,2,3,4,5,6,7,8,9,10,11,12,13,14,15]]
theorem KKx:KBW Go.Proofs.Tryz.f242 9 KHQ KHR KHS=true:=by kernel_rfl
theorem KIy:KDR 17 KHQ KHR KHS [0,1,2,4,0,0,32,64,128,256,536,1024,2048,4096,4096,16383,65535] [0,1,2,4,0,0,32,64,128,256,536,1024,2048,4096,4096,8192,16384] [0,1,3,7,0,0,32,96,224,480,1023,2047,4095,8191,8191,16383,65535]=true:=by kernel_rfl
def Zz (self1:(Int)→M (Value ⊕ (Int))) (C29:Option Addr) (C31:Int) (C32:Int) (C33:Int):M (Value ⊕ (Int)):=do
 M.ite (C33 != 0) (do
  M.pure (.inr C31)
  ) (do
  let Xx38←nilP C29
  let Xx39←ldI .i64 ((Xx38).add 1)
  let Xx40←nilP C29
  stV ((Xx40).add 1) (.int .i64 (IntKind.wrap .i64 (Xx39+1)))
  self1 C32
  )
def Jd (C15:Option Addr) (C16:Int) (self1:(Int)→M (Value ⊕ (Int))):(Int)→M (Value ⊕ (Int)):=fun s=>match s with
 | Xx14=>do
  let Xx20←Kg C15
  let Xx21←WB Xx20
  M.ite Xx21 (do
   let Xx23←nilP C15
   let Xx24←nilP C15
   let Xx25←ldS ((Xx23).add 0)
   let Xx26←ldI .i64 ((Xx24).add 1)
   let Xx27←slS Xx25 C16 (IntKind.wrap .i64 (Xx26+1))
   let Xx28←N7 Go.Proofs.Tryz.prog KDe #[.string Xx27] (fun r:Int × Int=>.tuple #[.int .i64 r.1,.int .i64 r.2])
   M.ite (Xx28.2 == 7) (do
    thr (Kl C15) fun Xx43=>do
     Zz self1 C15 Xx14 Xx28.1 Xx28.2
    ) (do
    Zz self1 C15 Xx14 Xx28.1 Xx28.2
    )
   ) (do
   M.pure (.inr Xx14)
   )
def ZW (C10:Option Addr) (C11:Int):M (Value ⊕ (Int)):=do
 M.loop (Jd C10 C11) 0
def ZX (C5:Option Addr) (C6:Int):M (Value ⊕ (Int)):=do
 let Xx8←nilP C5
 let Xx9←ldI .i64 ((Xx8).add 1)
 let Xx46←Kg C5
 let Xx47←WB Xx46
 let Xx48←M.ite (!Xx47) (do
  M.pure true
  ) (do
  let Xx49←M.ite (decide (Xx9 > C6)) (do
   let Xx50←Kg C5
   M.pure (Xx50 == 48)
   ) (do
   M.pure false
   )
  M.pure Xx49
  )
 M.ite Xx48 (do
  thr (Kl C5) fun Xx51=>do
   ZW C5 C6
  ) (do
  ZW C5 C6
  )
def Z2 (x0:Option Addr):M (Value ⊕ (Int)):=do
 let Xx3←nilP x0
 let Xx4←ldI .i64 ((Xx3).add 1)
 let Xx53←Kg x0
 M.ite (Xx53 == 45) (do
  let Xx54←nilP x0
  let Xx55←ldI .i64 ((Xx54).add 1)
  let Xx56←nilP x0
  stV ((Xx56).add 1) (.int .i64 (IntKind.wrap .i64 (Xx55+1)))
  ZX x0 Xx4
  ) (do
  ZX x0 Xx4
  )
theorem WR (x0:Option Addr):XF Go.Proofs.Tryz.prog 242 #[.pointer x0] (fun (r:Int)=>.int .i64 r) (Z2 x0):=by
 refine WE [(0,.pointer x0)] Go.Proofs.Tryz.func242 rfl rfl (Nat.le_of_ble_eq_true rfl) (Vs ⟨rfl,trivial⟩) (fun w0 w Q R X a hret hthr hE hR H=>?_)
 unfold Z2 at H
 refine KY (fun K hK_1=>?_)
 refine KF ?_
 refine KC (v:=.int .i64 0) rfl rfl hE rfl (Kc hE rfl) (fun a hE=>?_)
 refine KX ?_
 refine hK_1 _ _ ?_
 refine KY (fun K hK_2=>?_)
 refine KF ?_
 refine KC (v:=.pointer x0) rfl rfl hE rfl (KG hE rfl) (fun a hE=>?_)
 obtain ⟨Xx3,qXx3,H⟩:=H
 refine KC (v:=.pointer (some Xx3)) rfl rfl hE rfl (KL hE (Zv rfl (congrArg Value.pointer qXx3))) (fun a hE=>?_)
 refine KC (v:=.pointer (some ((Xx3).add 1))) rfl rfl hE rfl (KH hE rfl ZI) (fun a hE=>?_)
 obtain ⟨Xx4,qXx4,H⟩:=H
 refine KC (v:=.int .i64 Xx4) rfl rfl hE rfl (ZE hE rfl sc3 qXx4) (fun a hE=>?_)
 refine KC (v:=.int .i64 Xx4) rfl rfl hE rfl (Kc hE rfl) (fun a hE=>?_)
 refine KX ?_
 refine hK_2 _ _ ?_
 refine JG (fun a w=>Env (⟨76,[]⟩:Frm) a [(0,.pointer x0),(3,.int .i64 Xx4)]∧Rest w0 w∧(ZX x0 Xx4).wp w.heap Q) ?_ ?_
 ·rintro a w ⟨hE,hR,H⟩
  unfold ZX at H
  refine KY (fun K hK_7=>?_)
  refine KF ?_
  refine KC (v:=.pointer x0) rfl rfl hE rfl (KG hE rfl) (fun a hE=>?_)
  obtain ⟨Xx8,qXx8,H⟩:=H
  refine KC (v:=.pointer (some Xx8)) rfl rfl hE rfl (KL hE (Zv rfl (congrArg Value.pointer qXx8))) (fun a hE=>?_)
  refine KC (v:=.pointer (some ((Xx8).add 1))) rfl rfl hE rfl (KH hE rfl ZI) (fun a hE=>?_)
  obtain ⟨Xx9,qXx9,H⟩:=H
  refine KC (v:=.int .i64 Xx9) rfl rfl hE rfl (ZE hE rfl sc3 qXx9) (fun a hE=>?_)
  refine KC (v:=.int .i64 Xx4) rfl rfl hE rfl (KG hE rfl) (fun a hE=>?_)
  refine KC (v:=.bool (decide (Xx9 > Xx4))) rfl rfl hE rfl (ZH hE rfl rfl K9 KDN) (fun a hE=>?_)
  refine KC (v:=.bool (decide (Xx9 > Xx4))) rfl rfl hE rfl (Kc hE rfl) (fun a hE=>?_)
  refine KX ?_
  refine hK_7 _ _ ?_
  refine JG (fun a w=>Env (⟨76,[]⟩:Frm) a [(0,.pointer x0),(3,.int .i64 Xx4)]∧Rest w0 w∧(ZW x0 Xx4).wp w.heap Q) ?_ ?_
  ·rintro a w ⟨hE,hR,H⟩
   unfold ZW at H
   refine KY (fun K hK_12=>?_)
   refine KF ?_
   refine KC (v:=.int .i64 0) rfl rfl hE rfl (Kc hE rfl) (fun a hE=>?_)
   refine KX ?_
   refine hK_12 _ _ ?_
   refine KY (fun K hK_13=>?_)
   refine WY ?_
   refine KDP (fun (s:Int)=>(⟨76,[]⟩:Frm)) (fun (s:Int)=>[(0,.pointer x0),(3,.int .i64 Xx4),(5,.int .i64 s)]) H (hE.cut (.cons rfl (.cons rfl (.cons rfl Subs.nil)))) hR (fun Y self1 hY_17 Xx14 a w hE hR H=>?_)
   replace hE:Env (⟨76,[]⟩:Frm) a [(0,.pointer x0),(3,.int .i64 Xx4),(5,.int .i64 Xx14)]:=hE
   replace H:(Jd x0 Xx4 self1 Xx14).wp w.heap Q:=H
   unfold Jd at H
   refine KY (fun K hK_18=>?_)
   refine KY (fun K hK_19=>?_)
   refine KF ?_
   refine KC (v:=.pointer x0) rfl rfl hE rfl (KG hE rfl) (fun a hE=>?_)
   refine UN hE hR Kh rfl (Ko x0) (M.unbind H) (fun Xx20 a w ea hR H=>?_)
   have hE:=Env.put_some hE rfl ea; clear ea
   refine UN hE hR Y8 rfl (Xn Xx20) (M.unbind H) (fun Xx21 a w ea hR H=>?_)
   have hE:=Env.put_some hE rfl ea; clear ea
   refine KX ?_
   refine hK_19 _ _ ?_
   refine JB Xx21 hE rfl (fun hb=>?_) (fun hb=>?_)
   ·replace H:=M.ite_t hb H
    refine J2 ?_
    refine hK_18 _ _ ?_
    refine WY ?_
    refine KY (fun K hK_22=>?_)
    obtain ⟨Xx23,qXx23,H⟩:=H
    obtain ⟨Xx24,qXx24,H⟩:=H
    obtain ⟨Xx25,qXx25,H⟩:=H
    obtain ⟨Xx26,qXx26,H⟩:=H
    obtain ⟨Xx27,qXx27,H⟩:=H
    refine Xt (rops:=KHP) (by kernel_rfl) ?_
    have hT:Tab KHP _ _ _:=YV KKx rfl (by kernel_rfl)
    have hM:=TabM.of KIy
    refine Ux (m:=17) (fun w:World=>(fun h:Heap=>(KO h ((Xx23).add 0)=some (.string Xx25))∧(KO h ((Xx24).add 1)=some (.int .i64 Xx26))) w.heap) [10,11,12,13,14,15,16] (unb 17 0) mo hR (by kernel_rfl) (by kernel_rfl) (fun w' e=>by rw [e]; exact ⟨qXx25,qXx26⟩) (fun w hh hR hs=>?_)
    replace H:=M.at hh H; clear hh
    refine KB (i:=0) (v:=.pointer x0) (unb 17 1) rfl rfl hT (anyM hM (by kernel_rfl)) hE rfl (KA rfl) (fun w=>KG hE rfl) (fun a hE=>?_)
    refine KB (i:=1) (v:=.pointer (some Xx23)) (unb 17 3) rfl rfl hT (anyM hM (by kernel_rfl)) hE rfl (KA rfl) (fun w=>KL hE (Zv rfl (congrArg Value.pointer qXx23))) (fun a hE=>?_)
    refine KB (i:=2) (v:=.pointer (some ((Xx23).add 0))) (unb 17 7) rfl rfl hT (anyM hM (by kernel_rfl)) hE rfl (KA rfl) (fun w=>KH hE rfl Wk) (fun a hE=>?_)
    refine KB (i:=4) (v:=.int .i64 Xx4) (unb 17 23) rfl rfl hT (anyM hM (by kernel_rfl)) hE rfl (KA rfl) (fun w=>KG hE rfl) (fun a hE=>?_)
    refine KB (i:=5) (v:=.pointer x0) (unb 17 55) rfl rfl hT (anyM hM (by kernel_rfl)) hE rfl (KA rfl) (fun w=>KG hE rfl) (fun a hE=>?_)
    refine KB (i:=6) (v:=.pointer (some Xx24)) (unb 17 119) rfl rfl hT (anyM hM (by kernel_rfl)) hE rfl (KA rfl) (fun w=>KL hE (Zv rfl (congrArg Value.pointer qXx24))) (fun a hE=>?_)
    refine KB (i:=7) (v:=.pointer (some ((Xx24).add 1))) (unb 17 247) rfl rfl hT (anyM hM (by kernel_rfl)) hE rfl (KA rfl) (fun w=>KH hE rfl ZI) (fun a hE=>?_)
    refine Jo (i:=3) (v:=.string Xx25) (unb 17 255) rfl rfl hT (Vt hM (by kernel_rfl)) hE rfl (KA rfl) hs (fun w s=>ZE hE rfl sc9 s.1) (fun a hE=>?_)
    refine Jo (i:=8) (v:=.int .i64 Xx26) (unb 17 511) rfl rfl hT (Vt hM (by kernel_rfl)) hE rfl (KA rfl) hs (fun w s=>ZE hE rfl sc3 s.2) (fun a hE=>?_)
    refine KB (i:=9) (v:=.int .i64 (IntKind.wrap .i64 (Xx26+1))) (unb 17 1023) rfl rfl hT (anyM hM (by kernel_rfl)) hE rfl (KA rfl) (fun w=>ZH hE rfl rfl K9 X8) (fun a hE=>?_)
    refine KB (i:=10) (v:=.string Xx27) (unb 17 2047) rfl rfl hT (anyM hM (by kernel_rfl)) hE rfl (KA rfl) (fun w=>KAf hE rfl rfl rfl un9 qXx27) (fun a hE=>?_)
    refine KGt (i:=11) (unb 17 4095) rfl rfl rfl hT (oneM hM (by kernel_rfl)) rfl hE hR (KA rfl) KDk rfl (Vr) (M.unbind H) (fun Xx28 a w ea hR H=>?_)
    have hE:=Env.put_some hE rfl ea; clear ea
    refine KB (i:=12) (v:=.tuple #[.int .i64 Xx28.1,.int .i64 Xx28.2]) (unb 17 8191) rfl rfl hT (anyM hM (by kernel_rfl)) hE rfl (KA rfl) (fun w=>KG hE rfl) (fun a hE=>?_)
    refine KB (i:=13) (v:=.int .i64 Xx28.1) (unb 17 16383) rfl rfl hT (anyM hM (by kernel_rfl)) hE rfl (KA rfl) (fun w=>UM hE rfl rfl) (fun a hE=>?_)
    refine KB (i:=14) (v:=.int .i64 Xx28.2) (unb 17 32767) rfl rfl hT (anyM hM (by kernel_rfl)) hE rfl (KA rfl) (fun w=>UM hE rfl rfl) (fun a hE=>?_)
    refine KB (i:=15) (v:=.int .i64 Xx28.1) (unb 17 65535) rfl rfl hT (anyM hM (by kernel_rfl)) hE rfl (KA rfl) (fun w=>Kc hE rfl) (fun a hE=>?_)
    refine KB (i:=16) (v:=.int .i64 Xx28.2) (unb 17 131071) rfl rfl hT (anyM hM (by kernel_rfl)) hE rfl (KA rfl) (fun w=>Kc hE rfl) (fun a hE=>?_)
    refine Wp hT (zK hM (by kernel_rfl)) ?_
    refine hK_22 _ _ ?_
    refine JG (fun a w=>Env (⟨76,[]⟩:Frm) a [(0,.pointer x0),(3,.int .i64 Xx4),(5,.int .i64 Xx14),(6,.int .i64 Xx28.1),(7,.int .i64 Xx28.2)]∧Rest w0 w∧(Zz self1 x0 Xx14 Xx28.1 Xx28.2).wp w.heap Q) ?_ ?_
    ·rintro a w ⟨hE,hR,H⟩
     unfold Zz at H
     refine KY (fun K hK_34=>?_)
     refine KY (fun K hK_35=>?_)
     refine KF ?_
     refine KC (v:=.int .i64 Xx28.2) rfl rfl hE rfl (KG hE rfl) (fun a hE=>?_)
     refine KC (v:=.bool (Xx28.2 != 0)) rfl rfl hE rfl (ZH hE rfl rfl K9 KDM) (fun a hE=>?_)
     refine KX ?_
     refine hK_35 _ _ ?_
     refine JB (Xx28.2 != 0) hE rfl (fun hb=>?_) (fun hb=>?_)
     ·replace H:=M.ite_t hb H
      refine KY (fun K hK_36=>?_)
      refine KF ?_
      refine KC (v:=.int .i64 Xx14) rfl rfl hE rfl (KG hE rfl) (fun a hE=>?_)
      refine KC (v:=.int .i64 Xx14) rfl rfl hE rfl (Kc hE rfl) (fun a hE=>?_)
      refine KX ?_
      refine hK_36 _ _ ?_
      refine WD ?_
      exact hret _ _ _ Xx14 _ hE hR (Zu hE rfl (RV.tmp rfl RV.nil)) rfl H
     ·replace H:=M.ite_f hb H
      refine J2 ?_
      refine hK_34 _ _ ?_
      refine KY (fun K hK_37=>?_)
      refine KF ?_
      refine KC (v:=.int .i64 Xx28.1) rfl rfl hE rfl (KG hE rfl) (fun a hE=>?_)
      refine KC (v:=.int .i64 Xx28.1) rfl rfl hE rfl (Kc hE rfl) (fun a hE=>?_)
      refine KX ?_
      refine hK_37 _ _ ?_
      refine KF ?_
      refine KC (v:=.pointer x0) rfl rfl hE rfl (KG hE rfl) (fun a hE=>?_)
      obtain ⟨Xx38,qXx38,H⟩:=H
      refine KC (v:=.pointer (some Xx38)) rfl rfl hE rfl (KL hE (Zv rfl (congrArg Value.pointer qXx38))) (fun a hE=>?_)
      refine KC (v:=.pointer (some ((Xx38).add 1))) rfl rfl hE rfl (KH hE rfl ZI) (fun a hE=>?_)
      obtain ⟨Xx39,qXx39,H⟩:=H
      refine KC (v:=.int .i64 Xx39) rfl rfl hE rfl (ZE hE rfl sc3 qXx39) (fun a hE=>?_)
      refine KC (v:=.int .i64 (IntKind.wrap .i64 (Xx39+1))) rfl rfl hE rfl (ZH hE rfl rfl K9 X8) (fun a hE=>?_)
      obtain ⟨Xx40,qXx40,H⟩:=H
      refine KC (v:=.pointer (some Xx40)) rfl rfl hE rfl (KL hE (Zv rfl (congrArg Value.pointer qXx40))) (fun a hE=>?_)
      refine KC (v:=.pointer (some ((Xx40).add 1))) rfl rfl hE rfl (KH hE rfl ZI) (fun a hE=>?_)
      obtain ⟨u_41,qu_41,H⟩:=H
      refine Uc rfl rfl hE hR (Zb hE rfl rfl sz3 qu_41) (fun a w hE hR hh=>?_)
      replace H:=M.at hh H; clear hh
      refine KX ?_
      exact hY_17 Xx28.1 _ _ (hE.cut (.cons rfl (.cons rfl (.cons rfl Subs.nil)))) hR H
    ·skip
     refine KY (fun K hK_42=>?_)
     refine KF ?_
     refine KC (v:=.int .i64 Xx28.2) rfl rfl hE rfl (KG hE rfl) (fun a hE=>?_)
     refine KC (v:=.bool (Xx28.2 == 7)) rfl rfl hE rfl (ZH hE rfl rfl K9 XG) (fun a hE=>?_)
     refine KX ?_
     refine hK_42 _ _ ?_
     refine JB (Xx28.2 == 7) hE rfl (fun hb=>?_) (fun hb=>?_)
     ·replace H:=M.ite_t hb H
      refine KF ?_
      refine KC (v:=.pointer x0) rfl rfl hE rfl (KG hE rfl) (fun a hE=>?_)
      refine Z0 hE hR Ku rfl (Kw x0) H (fun _ _ hR HQ=>Xu.ne rfl (Xu.ne rfl (hthr _ _ hR HQ))) (fun Xx43 a w ea hR H=>?_)
      have hE:=Env.put_some hE rfl ea; clear ea
      refine KX ?_
      exact ⟨hE.cut (.cons rfl (.cons rfl (.cons rfl (.cons rfl (.cons rfl Subs.nil))))),hR,H⟩
     ·replace H:=M.ite_f hb H
      refine J2 ?_
      exact ⟨hE.cut (.cons rfl (.cons rfl (.cons rfl (.cons rfl (.cons rfl Subs.nil))))),hR,H⟩
   ·replace H:=M.ite_f hb H
    refine KDI ?_
    refine Xu.same ?_
    refine hK_13 _ _ ?_
    refine KY (fun K hK_44=>?_)
    refine KF ?_
    refine KC (v:=.int .i64 Xx14) rfl rfl hE rfl (KG hE rfl) (fun a hE=>?_)
    refine KC (v:=.int .i64 Xx14) rfl rfl hE rfl (Kc hE rfl) (fun a hE=>?_)
    refine KX ?_
    refine hK_44 _ _ ?_
    refine WD ?_
    exact hret _ _ _ Xx14 _ hE hR (Zu hE rfl (RV.tmp rfl RV.nil)) rfl H
  ·skip
   refine KY (fun K hK_45=>?_)
   refine KF ?_
   refine KC (v:=.pointer x0) rfl rfl hE rfl (KG hE rfl) (fun a hE=>?_)
   refine UN hE hR Kh rfl (Ko x0) (M.unbind H) (fun Xx46 a w ea hR H=>?_)
   have hE:=Env.put_some hE rfl ea; clear ea
   refine UN hE hR Y8 rfl (Xn Xx46) (M.unbind H) (fun Xx47 a w ea hR H=>?_)
   have hE:=Env.put_some hE rfl ea; clear ea
   refine KC (v:=.bool (!Xx47)) rfl rfl hE rfl (r_un hE rfl KIR) (fun a hE=>?_)
   refine KC (v:=.bool (!Xx47)) rfl rfl hE rfl (KG hE rfl) (fun a hE=>?_)
   refine KDO (n:=(⟨76,[]⟩:Frm)) (w0:=w0) 7 (fun Xx48:Bool=>[(0,.pointer x0),(3,.int .i64 Xx4),(39,.bool Xx48)]) (M.unbind H) (fun Kr hKr H=>?_) ?_
   ·rcases Uw (!Xx47) with hb | hb
    ·replace H:=M.ite_t hb H
     have hE:=hE.reb 32 (!Xx47) true hb rfl
     refine Xx rfl hE rfl rfl rfl (fun a ea=>?_)
     have hE:=Env.put_some hE rfl ea; clear ea
     refine Xx rfl hE rfl rfl rfl (fun a ea=>?_)
     have hE:=Env.put_some hE rfl ea; clear ea
     refine KFJ rfl hE rfl rfl (fun b hb=>by cases hb) (fun a ea=>?_)
     have hE:=Env.put_some hE rfl ea; clear ea
     refine KFJ rfl hE rfl rfl (fun b hb=>by cases hb) (fun a ea=>?_)
     have hE:=Env.put_some hE rfl ea; clear ea
     refine KFJ rfl hE rfl rfl (fun b hb=>by cases hb) (fun a ea=>?_)
     have hE:=Env.put_some hE rfl ea; clear ea
     refine Xx rfl hE rfl rfl rfl (fun a ea=>?_)
     have hE:=Env.put_some hE rfl ea; clear ea
     refine KC rfl rfl hE rfl (Jn hE rfl rfl) (fun a hE=>?_)
     refine KX ?_
     exact hKr _ _ _ (hE.cut (.cons rfl (.cons rfl (.cons rfl Subs.nil)))) hR H
    ·replace H:=M.ite_f hb H
     have hE:=hE.reb 32 (!Xx47) false hb rfl
     refine t_on rfl hE rfl rfl rfl ?_
     refine KC (v:=.bool (decide (Xx9 > Xx4))) rfl rfl hE rfl (KG hE rfl) (fun a hE=>?_)
     refine t_on rfl hE rfl rfl rfl ?_
     refine KC (v:=.bool (decide (Xx9 > Xx4))) rfl rfl hE rfl (KG hE rfl) (fun a hE=>?_)
     refine KDO (n:=(⟨76,[]⟩:Frm)) (w0:=w0) 4 (fun Xx49:Bool=>[(0,.pointer x0),(3,.int .i64 Xx4),(32,.bool false),(38,.bool Xx49)]) (M.unbind H) (fun Kr hKr H=>?_) ?_
     ·rcases Uw (decide (Xx9 > Xx4)) with hb | hb
      ·replace H:=M.ite_t hb H
       have hE:=hE.reb 34 (decide (Xx9 > Xx4)) true hb rfl
       refine t_on rfl hE rfl rfl rfl ?_
       refine KC (v:=.pointer x0) rfl rfl hE rfl (KG hE rfl) (fun a hE=>?_)
       refine t_on rfl hE rfl rfl rfl ?_
       refine UN hE hR Kh rfl (Ko x0) (M.unbind H) (fun Xx50 a w ea hR H=>?_)
       have hE:=Env.put_some hE rfl ea; clear ea
       refine t_on rfl hE rfl rfl rfl ?_
       refine KC (v:=.bool (Xx50 == 48)) rfl rfl hE rfl (ZH hE rfl rfl K9 XG) (fun a hE=>?_)
       refine t_on rfl hE rfl rfl rfl ?_
       refine KC rfl rfl hE rfl (Jn hE rfl rfl) (fun a hE=>?_)
       refine KX ?_
       exact hKr _ _ _ (hE.cut (.cons rfl (.cons rfl (.cons rfl (.cons rfl Subs.nil))))) hR H
      ·replace H:=M.ite_f hb H
       have hE:=hE.reb 34 (decide (Xx9 > Xx4)) false hb rfl
       refine Xx rfl hE rfl rfl rfl (fun a ea=>?_)
       have hE:=Env.put_some hE rfl ea; clear ea
       refine Xx rfl hE rfl rfl rfl (fun a ea=>?_)
       have hE:=Env.put_some hE rfl ea; clear ea
       refine Xx rfl hE rfl rfl rfl (fun a ea=>?_)
       have hE:=Env.put_some hE rfl ea; clear ea
       refine t_on rfl hE rfl rfl rfl ?_
       refine KC rfl rfl hE rfl (Z8 hE rfl rfl) (fun a hE=>?_)
       refine KX ?_
       exact hKr _ _ _ (hE.cut (.cons rfl (.cons rfl (.cons rfl (.cons rfl Subs.nil))))) hR H
     ·intro Xx49 a w hE hR H
      refine KC rfl rfl hE rfl (Z8 hE rfl rfl) (fun a hE=>?_)
      refine KX ?_
      exact hKr _ _ _ (hE.cut (.cons rfl (.cons rfl (.cons rfl Subs.nil)))) hR H
   ·intro Xx48 a w hE hR H
    refine KX ?_
    refine hK_45 _ _ ?_
    refine JB Xx48 hE rfl (fun hb=>?_) (fun hb=>?_)
    ·replace H:=M.ite_t hb H
     refine KF ?_
     refine KC (v:=.pointer x0) rfl rfl hE rfl (KG hE rfl) (fun a hE=>?_)
     refine Z0 hE hR Ku rfl (Kw x0) H (fun _ _ hR HQ=>hthr _ _ hR HQ) (fun Xx51 a w ea hR H=>?_)
     have hE:=Env.put_some hE rfl ea; clear ea
     refine KX ?_
     exact ⟨hE.cut (.cons rfl (.cons rfl Subs.nil)),hR,H⟩
    ·replace H:=M.ite_f hb H
     refine J2 ?_
     exact ⟨hE.cut (.cons rfl (.cons rfl Subs.nil)),hR,H⟩
 ·skip
  refine KY (fun K hK_52=>?_)
  refine KF ?_
  refine KC (v:=.pointer x0) rfl rfl hE rfl (KG hE rfl) (fun a hE=>?_)
  refine UN hE hR Kh rfl (Ko x0) (M.unbind H) (fun Xx53 a w ea hR H=>?_)
  have hE:=Env.put_some hE rfl ea; clear ea
  refine KC (v:=.bool (Xx53 == 45)) rfl rfl hE rfl (ZH hE rfl rfl K9 XG) (fun a hE=>?_)
  refine KX ?_
  refine hK_52 _ _ ?_
  refine JB (Xx53 == 45) hE rfl (fun hb=>?_) (fun hb=>?_)
  ·replace H:=M.ite_t hb H
   refine KF ?_
   refine KC (v:=.pointer x0) rfl rfl hE rfl (KG hE rfl) (fun a hE=>?_)
   obtain ⟨Xx54,qXx54,H⟩:=H
   refine KC (v:=.pointer (some Xx54)) rfl rfl hE rfl (KL hE (Zv rfl (congrArg Value.pointer qXx54))) (fun a hE=>?_)
   refine KC (v:=.pointer (some ((Xx54).add 1))) rfl rfl hE rfl (KH hE rfl ZI) (fun a hE=>?_)
   obtain ⟨Xx55,qXx55,H⟩:=H
   refine KC (v:=.int .i64 Xx55) rfl rfl hE rfl (ZE hE rfl sc3 qXx55) (fun a hE=>?_)
   refine KC (v:=.int .i64 (IntKind.wrap .i64 (Xx55+1))) rfl rfl hE rfl (ZH hE rfl rfl K9 X8) (fun a hE=>?_)
   obtain ⟨Xx56,qXx56,H⟩:=H
   refine KC (v:=.pointer (some Xx56)) rfl rfl hE rfl (KL hE (Zv rfl (congrArg Value.pointer qXx56))) (fun a hE=>?_)
   refine KC (v:=.pointer (some ((Xx56).add 1))) rfl rfl hE rfl (KH hE rfl ZI) (fun a hE=>?_)
   obtain ⟨u_57,qu_57,H⟩:=H
   refine Uc rfl rfl hE hR (Zb hE rfl rfl sz3 qu_57) (fun a w hE hR hh=>?_)
   replace H:=M.at hh H; clear hh
   refine KX ?_
   exact ⟨hE.cut (.cons rfl (.cons rfl Subs.nil)),hR,H⟩
  ·replace H:=M.ite_f hb H
   refine J2 ?_
   exact ⟨hE.cut (.cons rfl (.cons rfl Subs.nil)),hR,H⟩
def JS (self1:(Int)→M (Value ⊕ (Unit))) (C11:Option Addr) (C14:Int):M (Value ⊕ (Unit)):=do
 let Xx15←nilP C11
 let Xx16←ldI .i64 ((Xx15).add 1)
 let Xx17←nilP C11
 stV ((Xx17).add 1) (.int .i64 (IntKind.wrap .i64 (Xx16+1)))
 self1 (IntKind.wrap .i64 (C14+1))
def ZP (self1:(Int)→M (Value ⊕ (Unit))) (C20:Option Addr) (C23:Int) (Xx19:Bool):M (Value ⊕ (Unit)):=do
 M.ite Xx19 (do
  thr (Kl C20) fun Xx24=>do
   JS self1 C20 C23
  ) (do
  JS self1 C20 C23
  )
noncomputable def KCs:Array Oper:=KGs Go.Proofs.Tryz.f244 3
def KHT:List (List Nat):=[[],[0],[1],[2],[],[4],[5],[6],[7],[3,8],[9],[10],[11,10],[12,10],[13,10],[10],[15,10],[16,10],[17,10],[14,18,10],[10],[10],[20,21,10],[19,22,10],[10,23]]
def KHU:List (List Nat):=[[],[0],[1],[2],[],[4],[5],[6],[7],[3,8],[9],[10],[10,11],[10,12],[10,13],[10],[10,15],[10,16],[10,17],[10,14,18],[10],[10],[10,20,21],[10,19,22],[10,23]]
def KHV:List (List Nat):=[[],[0],[0,1],[0,1,2],[],[4],[4,5],[4,5,6],[4,5,6,7],[0,1,2,3,4,5,6,7,8],[0,1,2,3,4,5,6,7,8,9],[0,1,2,3,4,5,6,7,8,9,10],[0,1,2,3,4,5,6,7,8,9,10,11],[0,1,2,3,4,5,6,7,8,9,10,11,12],[0,1,2,3,4,5,6,7,8,9,10,11,12,13],[0,1,2,3,4,5,6,7,8,9,10],[0,1,2,3,4,5,6,7,8,9,10,15],[0,1,2,3,4,5,6,7,8,9,10,15,16],[0,1,2,3,4,5,6,7,8,9,10,15,16,17],[0,1,2,3,4,5,6,7,8,9,10,11,12,13,14,15,16,17,18],[0,1,2,3,4,5,6,7,8,9,10],[0,1,2,3,4,5,6,7,8,9,10],[0,1,2,3,4,5,6,7,8,9,10,20,21],[0,1,2,3,4,5,6,7,8,9,10,11,12,13,14,15,16,17,18,19,20,21,22],[0,1,2,3,4,5,6,7,8,9,10,11,12,13,14,15,16,17,18,19,20,21,22,23]]
theorem KHW:KBW Go.Proofs.Tryz.f244 3 KHT KHU KHV=true:=by kernel_rfl
theorem KFY:KDR 25 KHT KHU KHV [0,1,2,4,0,16,32,64,128,264,512,1024,3072,5120,9216,1024,33792,66560,132096,279552,1024,1024,3146752,4719616,8389632] [0,1,2,4,0,16,32,64,128,264,512,1024,3072,5120,9216,1024,33792,66560,132096,279552,1024,1024,3146752,4719616,8389632] [0,1,3,7,0,16,48,112,240,511,1023,2047,4095,8191,16383,2047,34815,100351,231423,524287,2047,2047,3147775,8388607,16777215]=true:=by kernel_rfl
def J0 (C3:Option Addr) (C4:ByteArray) (C5:Int) (self1:(Int)→M (Value ⊕ (Unit))):(Int)→M (Value ⊕ (Unit)):=fun s=>match s with
 | Xx2=>do
  M.ite (decide (Xx2 < C5)) (do
   let Xx25←nilP C3
   let Xx26←nilP C3
   let Xx27←ldI .i64 ((Xx25).add 1)
   let Xx28←ldS ((Xx26).add 0)
   M.ite (decide (Xx27 ≥ (Xx28.size:Int))) (do
    ZP self1 C3 Xx2 true
    ) (do
    let Xx30←nilP C3
    let Xx31←nilP C3
    let Xx32←ixS C4 Xx2
    let Xx33←ldS ((Xx30).add 0)
    let Xx34←ldI .i64 ((Xx31).add 1)
    let Xx35←ixS Xx33 Xx34
    ZP self1 C3 Xx2 (Xx35 != Xx32)
    )
   ) (do
   M.pure (.inr ())
   )
def Kv (x0:Option Addr) (x1:ByteArray):M (Value ⊕ (Unit)):=do
 M.loop (J0 x0 x1 (x1.size:Int)) 0
theorem ZL (x0:Option Addr) (x1:ByteArray):XF Go.Proofs.Tryz.prog 244 #[.pointer x0,.string x1] (fun (r:Unit)=>.tuple #[]) (Kv x0 x1):=by
 refine WE [(0,.pointer x0),(1,.string x1)] Go.Proofs.Tryz.func244 rfl rfl (Nat.le_of_ble_eq_true rfl) (Vs ⟨rfl,rfl,trivial⟩) (fun w0 w Q R X a hret hthr hE hR H=>?_)
 unfold Kv at H
 refine KY (fun K hK_1=>?_)
 refine KF ?_
 refine KC (v:=.string x1) rfl rfl hE rfl (KG hE rfl) (fun a hE=>?_)
 refine KC (v:=.int .i64 (x1.size:Int)) rfl rfl hE rfl (YT hE rfl un9) (fun a hE=>?_)
 refine KC (v:=.int .i64 0) rfl rfl hE rfl (KG hE rfl) (fun a hE=>?_)
 refine KX ?_
 refine hK_1 _ _ ?_
 refine WY ?_
 refine KDP (fun (s:Int)=>(⟨45,[]⟩:Frm)) (fun (s:Int)=>[(0,.pointer x0),(1,.string x1),(6,.int .i64 (x1.size:Int)),(7,.int .i64 s)]) H (hE.cut (.cons rfl (.cons rfl (.cons rfl (.cons rfl Subs.nil))))) hR (fun Y self1 hY_6 Xx2 a w hE hR H=>?_)
 replace hE:Env (⟨45,[]⟩:Frm) a [(0,.pointer x0),(1,.string x1),(6,.int .i64 (x1.size:Int)),(7,.int .i64 Xx2)]:=hE
 replace H:(J0 x0 x1 (x1.size:Int) self1 Xx2).wp w.heap Q:=H
 unfold J0 at H
 refine KY (fun K hK_7=>?_)
 refine KF ?_
 refine KC (v:=.bool (decide (Xx2 < (x1.size:Int)))) rfl rfl hE rfl (ZH hE rfl rfl K9 KAF) (fun a hE=>?_)
 refine KX ?_
 refine hK_7 _ _ ?_
 refine KY (fun K hK_8=>?_)
 refine JB (decide (Xx2 < (x1.size:Int))) hE rfl (fun hb=>?_) (fun hb=>?_)
 ·replace H:=M.ite_t hb H
  refine J2 ?_
  refine hK_8 _ _ ?_
  refine KY (fun K hK_9=>?_)
  refine WY ?_
  refine KY (fun K hK_10=>?_)
  refine KF ?_
  refine KC (v:=.int .i64 Xx2) rfl rfl hE rfl (KG hE rfl) (fun a hE=>?_)
  refine KC (v:=.int .i64 Xx2) rfl rfl hE rfl (Kc hE rfl) (fun a hE=>?_)
  refine KX ?_
  refine hK_10 _ _ ?_
  refine JG (fun a w=>Env (⟨45,[]⟩:Frm) a [(0,.pointer x0),(1,.string x1),(6,.int .i64 (x1.size:Int)),(7,.int .i64 Xx2)]∧Rest w0 w∧(JS self1 x0 Xx2).wp w.heap Q) ?_ ?_
  ·rintro a w ⟨hE,hR,H⟩
   unfold JS at H
   refine KF ?_
   refine KC (v:=.pointer x0) rfl rfl hE rfl (KG hE rfl) (fun a hE=>?_)
   obtain ⟨Xx15,qXx15,H⟩:=H
   refine KC (v:=.pointer (some Xx15)) rfl rfl hE rfl (KL hE (Zv rfl (congrArg Value.pointer qXx15))) (fun a hE=>?_)
   refine KC (v:=.pointer (some ((Xx15).add 1))) rfl rfl hE rfl (KH hE rfl ZI) (fun a hE=>?_)
   obtain ⟨Xx16,qXx16,H⟩:=H
   refine KC (v:=.int .i64 Xx16) rfl rfl hE rfl (ZE hE rfl sc3 qXx16) (fun a hE=>?_)
   refine KC (v:=.int .i64 (IntKind.wrap .i64 (Xx16+1))) rfl rfl hE rfl (ZH hE rfl rfl K9 X8) (fun a hE=>?_)
   obtain ⟨Xx17,qXx17,H⟩:=H
   refine KC (v:=.pointer (some Xx17)) rfl rfl hE rfl (KL hE (Zv rfl (congrArg Value.pointer qXx17))) (fun a hE=>?_)
   refine KC (v:=.pointer (some ((Xx17).add 1))) rfl rfl hE rfl (KH hE rfl ZI) (fun a hE=>?_)
   obtain ⟨u_18,qu_18,H⟩:=H
   refine Uc rfl rfl hE hR (Zb hE rfl rfl sz3 qu_18) (fun a w hE hR hh=>?_)
   replace H:=M.at hh H; clear hh
   refine KX ?_
   refine hK_9 _ _ ?_
   refine KF ?_
   refine KC (v:=.int .i64 (IntKind.wrap .i64 (Xx2+1))) rfl rfl hE rfl (ZH hE rfl rfl K9 X8) (fun a hE=>?_)
   refine KC (v:=.int .i64 (IntKind.wrap .i64 (Xx2+1))) rfl rfl hE rfl (KG hE rfl) (fun a hE=>?_)
   refine KX ?_
   exact hY_6 (IntKind.wrap .i64 (Xx2+1)) _ _ (hE.cut (.cons rfl (.cons rfl (.cons rfl (.cons rfl Subs.nil))))) hR H
  ·skip
   refine JG (fun a w=>∃ (Xx19:Bool),Env (⟨45,[]⟩:Frm) a [(0,.pointer x0),(1,.string x1),(6,.int .i64 (x1.size:Int)),(7,.int .i64 Xx2),(34,.bool Xx19)]∧Rest w0 w∧(ZP self1 x0 Xx2 Xx19).wp w.heap Q) ?_ ?_
   ·rintro a w ⟨Xx19,hE,hR,H⟩
    unfold ZP at H
    refine JB Xx19 hE rfl (fun hb=>?_) (fun hb=>?_)
    ·replace H:=M.ite_t hb H
     refine KF ?_
     refine KC (v:=.pointer x0) rfl rfl hE rfl (KG hE rfl) (fun a hE=>?_)
     refine Z0 hE hR Ku rfl (Kw x0) H (fun _ _ hR HQ=>Xu.ne rfl (Xu.ne rfl (hthr _ _ hR HQ))) (fun Xx24 a w ea hR H=>?_)
     have hE:=Env.put_some hE rfl ea; clear ea
     refine KX ?_
     exact ⟨hE.cut (.cons rfl (.cons rfl (.cons rfl (.cons rfl Subs.nil)))),hR,H⟩
    ·replace H:=M.ite_f hb H
     refine J2 ?_
     exact ⟨hE.cut (.cons rfl (.cons rfl (.cons rfl (.cons rfl Subs.nil)))),hR,H⟩
   ·skip
    obtain ⟨Xx25,qXx25,H⟩:=H
    obtain ⟨Xx26,qXx26,H⟩:=H
    obtain ⟨Xx27,qXx27,H⟩:=H
    obtain ⟨Xx28,qXx28,H⟩:=H
    rcases Uw (decide (Xx27 ≥ (Xx28.size:Int))) with hb_29 | hb_29
    ·replace H:=M.ite_t hb_29 H
     refine Xt (rops:=KCs) (by kernel_rfl) ?_
     have hT:Tab KCs _ _ _:=YV KHW rfl (by kernel_rfl)
     have hM:=TabM.of KFY
     refine Ux (m:=25) (fun w:World=>(fun h:Heap=>(KO h ((Xx25).add 1)=some (.int .i64 Xx27))∧(KO h ((Xx26).add 0)=some (.string Xx28))) w.heap) [9,10,11,12,13,14,15,16,17,18,19,20,21,22,23,24] (unb 25 0) mo hR (by kernel_rfl) (by kernel_rfl) (fun w' e=>by rw [e]; exact ⟨qXx27,qXx28⟩) (fun w hh hR hs=>?_)
     replace H:=M.at hh H; clear hh
     refine KB (i:=0) (v:=.pointer x0) (unb 25 1) rfl rfl hT (anyM hM (by kernel_rfl)) hE rfl (KA rfl) (fun w=>KG hE rfl) (fun a hE=>?_)
     refine KB (i:=1) (v:=.pointer (some Xx25)) (unb 25 3) rfl rfl hT (anyM hM (by kernel_rfl)) hE rfl (KA rfl) (fun w=>KL hE (Zv rfl (congrArg Value.pointer qXx25))) (fun a hE=>?_)
     refine KB (i:=2) (v:=.pointer (some ((Xx25).add 1))) (unb 25 7) rfl rfl hT (anyM hM (by kernel_rfl)) hE rfl (KA rfl) (fun w=>KH hE rfl ZI) (fun a hE=>?_)
     refine KB (i:=4) (v:=.pointer x0) (unb 25 23) rfl rfl hT (anyM hM (by kernel_rfl)) hE rfl (KA rfl) (fun w=>KG hE rfl) (fun a hE=>?_)
     refine KB (i:=5) (v:=.pointer (some Xx26)) (unb 25 55) rfl rfl hT (anyM hM (by kernel_rfl)) hE rfl (KA rfl) (fun w=>KL hE (Zv rfl (congrArg Value.pointer qXx26))) (fun a hE=>?_)
     refine KB (i:=6) (v:=.pointer (some ((Xx26).add 0))) (unb 25 119) rfl rfl hT (anyM hM (by kernel_rfl)) hE rfl (KA rfl) (fun w=>KH hE rfl Wk) (fun a hE=>?_)
     refine Jo (i:=3) (v:=.int .i64 Xx27) (unb 25 127) rfl rfl hT (Vt hM (by kernel_rfl)) hE rfl (KA rfl) hs (fun w s=>ZE hE rfl sc3 s.1) (fun a hE=>?_)
     refine Jo (i:=7) (v:=.string Xx28) (unb 25 255) rfl rfl hT (Vt hM (by kernel_rfl)) hE rfl (KA rfl) hs (fun w s=>ZE hE rfl sc9 s.2) (fun a hE=>?_)
     refine KB (i:=8) (v:=.int .i64 (Xx28.size:Int)) (unb 25 511) rfl rfl hT (anyM hM (by kernel_rfl)) hE rfl (KA rfl) (fun w=>YT hE rfl un9) (fun a hE=>?_)
     refine KB (i:=9) (v:=.bool (decide (Xx27 ≥ (Xx28.size:Int)))) (unb 25 1023) rfl rfl hT (anyM hM (by kernel_rfl)) hE rfl (KA rfl) (fun w=>ZH hE rfl rfl K9 KAZ) (fun a hE=>?_)
     refine KB (i:=10) (v:=.bool (decide (Xx27 ≥ (Xx28.size:Int)))) (unb 25 2047) rfl rfl hT (anyM hM (by kernel_rfl)) hE rfl (KA rfl) (fun w=>KG hE rfl) (fun a hE=>?_)
     have hE:=hE.reb 20 (decide (Xx27 ≥ (Xx28.size:Int))) true hb_29 rfl
     replace hE:=hE.cut (l':=[(0,.pointer x0),(1,.string x1),(6,.int .i64 (x1.size:Int)),(7,.int .i64 Xx2),(4,.int .i64 Xx2),(20,.bool true)]) (.cons rfl (.cons rfl (.cons rfl (.cons rfl (.cons rfl (.cons rfl Subs.nil))))))
     refine qE [(11,some 21),(12,some 22),(13,some 23),(14,some 24),(15,some 25),(16,some 26),(17,some 27),(18,some 28),(19,some 29),(20,some 30),(21,some 31),(22,some 32),(23,some 33)] 1 hT hM hE (by kernel_rfl) (m':=16777215) (by kernel_rfl) (fun a hE=>?_)
     refine KB (i:=24) (v:=.bool true) (unb 25 33554431) rfl rfl hT (anyM hM (by kernel_rfl)) hE rfl (KA rfl) (fun w=>Jn hE rfl rfl) (fun a hE=>?_)
     refine Wp hT (zK hM (by kernel_rfl)) ?_
     exact ⟨true,hE.cut (.cons rfl (.cons rfl (.cons rfl (.cons rfl (.cons rfl Subs.nil))))),hR,H⟩
    ·replace H:=M.ite_f hb_29 H
     obtain ⟨Xx30,qXx30,H⟩:=H
     obtain ⟨Xx31,qXx31,H⟩:=H
     obtain ⟨Xx32,qXx32,H⟩:=H
     obtain ⟨Xx33,qXx33,H⟩:=H
     obtain ⟨Xx34,qXx34,H⟩:=H
     obtain ⟨Xx35,qXx35,H⟩:=H
     refine Xt (rops:=KCs) (by kernel_rfl) ?_
     have hT:Tab KCs _ _ _:=YV KHW rfl (by kernel_rfl)
     have hM:=TabM.of KFY
     refine Ux (m:=25) (fun w:World=>(fun h:Heap=>(KO h ((Xx25).add 1)=some (.int .i64 Xx27))∧(KO h ((Xx26).add 0)=some (.string Xx28))∧(KO h ((Xx30).add 0)=some (.string Xx33))∧(KO h ((Xx31).add 1)=some (.int .i64 Xx34))) w.heap) [19,23,24] (unb 25 0) mo hR (by kernel_rfl) (by kernel_rfl) (fun w' e=>by rw [e]; exact ⟨qXx27,qXx28,qXx33,qXx34⟩) (fun w hh hR hs=>?_)
     replace H:=M.at hh H; clear hh
     refine KB (i:=0) (v:=.pointer x0) (unb 25 1) rfl rfl hT (anyM hM (by kernel_rfl)) hE rfl (KA rfl) (fun w=>KG hE rfl) (fun a hE=>?_)
     refine KB (i:=1) (v:=.pointer (some Xx25)) (unb 25 3) rfl rfl hT (anyM hM (by kernel_rfl)) hE rfl (KA rfl) (fun w=>KL hE (Zv rfl (congrArg Value.pointer qXx25))) (fun a hE=>?_)
     refine KB (i:=2) (v:=.pointer (some ((Xx25).add 1))) (unb 25 7) rfl rfl hT (anyM hM (by kernel_rfl)) hE rfl (KA rfl) (fun w=>KH hE rfl ZI) (fun a hE=>?_)
     refine KB (i:=4) (v:=.pointer x0) (unb 25 23) rfl rfl hT (anyM hM (by kernel_rfl)) hE rfl (KA rfl) (fun w=>KG hE rfl) (fun a hE=>?_)
     refine KB (i:=5) (v:=.pointer (some Xx26)) (unb 25 55) rfl rfl hT (anyM hM (by kernel_rfl)) hE rfl (KA rfl) (fun w=>KL hE (Zv rfl (congrArg Value.pointer qXx26))) (fun a hE=>?_)
     refine KB (i:=6) (v:=.pointer (some ((Xx26).add 0))) (unb 25 119) rfl rfl hT (anyM hM (by kernel_rfl)) hE rfl (KA rfl) (fun w=>KH hE rfl Wk) (fun a hE=>?_)
     refine Jo (i:=3) (v:=.int .i64 Xx27) (unb 25 127) rfl rfl hT (Vt hM (by kernel_rfl)) hE rfl (KA rfl) hs (fun w s=>ZE hE rfl sc3 s.1) (fun a hE=>?_)
     refine Jo (i:=7) (v:=.string Xx28) (unb 25 255) rfl rfl hT (Vt hM (by kernel_rfl)) hE rfl (KA rfl) hs (fun w s=>ZE hE rfl sc9 s.2.1) (fun a hE=>?_)
     refine KB (i:=8) (v:=.int .i64 (Xx28.size:Int)) (unb 25 511) rfl rfl hT (anyM hM (by kernel_rfl)) hE rfl (KA rfl) (fun w=>YT hE rfl un9) (fun a hE=>?_)
     refine KB (i:=9) (v:=.bool (decide (Xx27 ≥ (Xx28.size:Int)))) (unb 25 1023) rfl rfl hT (anyM hM (by kernel_rfl)) hE rfl (KA rfl) (fun w=>ZH hE rfl rfl K9 KAZ) (fun a hE=>?_)
     refine KB (i:=10) (v:=.bool (decide (Xx27 ≥ (Xx28.size:Int)))) (unb 25 2047) rfl rfl hT (anyM hM (by kernel_rfl)) hE rfl (KA rfl) (fun w=>KG hE rfl) (fun a hE=>?_)
     have hE:=hE.reb 20 (decide (Xx27 ≥ (Xx28.size:Int))) false hb_29 rfl
     replace hE:=hE.cut (l':=[(0,.pointer x0),(1,.string x1),(6,.int .i64 (x1.size:Int)),(7,.int .i64 Xx2),(4,.int .i64 Xx2),(20,.bool false)]) (.cons rfl (.cons rfl (.cons rfl (.cons rfl (.cons rfl (.cons rfl Subs.nil))))))
     refine KB (i:=11) (v:=.pointer x0) (unb 25 4095) rfl rfl hT (anyM hM (by kernel_rfl)) hE rfl (KV rfl hE rfl rfl rfl) (fun w=>KG hE rfl) (fun a hE=>?_)
     refine KB (i:=12) (v:=.pointer (some Xx30)) (unb 25 8191) rfl rfl hT (anyM hM (by kernel_rfl)) hE rfl (KV rfl hE rfl rfl rfl) (fun w=>KL hE (Zv rfl (congrArg Value.pointer qXx30))) (fun a hE=>?_)
     refine KB (i:=13) (v:=.pointer (some ((Xx30).add 0))) (unb 25 16383) rfl rfl hT (anyM hM (by kernel_rfl)) hE rfl (KV rfl hE rfl rfl rfl) (fun w=>KH hE rfl Wk) (fun a hE=>?_)
     refine KB (i:=15) (v:=.pointer x0) (unb 25 49151) rfl rfl hT (anyM hM (by kernel_rfl)) hE rfl (KV rfl hE rfl rfl rfl) (fun w=>KG hE rfl) (fun a hE=>?_)
     refine KB (i:=16) (v:=.pointer (some Xx31)) (unb 25 114687) rfl rfl hT (anyM hM (by kernel_rfl)) hE rfl (KV rfl hE rfl rfl rfl) (fun w=>KL hE (Zv rfl (congrArg Value.pointer qXx31))) (fun a hE=>?_)
     refine KB (i:=17) (v:=.pointer (some ((Xx31).add 1))) (unb 25 245759) rfl rfl hT (anyM hM (by kernel_rfl)) hE rfl (KV rfl hE rfl rfl rfl) (fun w=>KH hE rfl ZI) (fun a hE=>?_)
     refine KB (i:=20) (v:=.string x1) (unb 25 1294335) rfl rfl hT (anyM hM (by kernel_rfl)) hE rfl (KV rfl hE rfl rfl rfl) (fun w=>KG hE rfl) (fun a hE=>?_)
     refine KB (i:=21) (v:=.int .i64 Xx2) (unb 25 3391487) rfl rfl hT (anyM hM (by kernel_rfl)) hE rfl (KV rfl hE rfl rfl rfl) (fun w=>KG hE rfl) (fun a hE=>?_)
     refine KB (i:=22) (v:=.int .u8 Xx32) (unb 25 7585791) rfl rfl hT (anyM hM (by kernel_rfl)) hE rfl (KV rfl hE rfl rfl rfl) (fun w=>KCF hE rfl rfl un9 qXx32) (fun a hE=>?_)
     refine Jo (i:=14) (v:=.string Xx33) (unb 25 7602175) rfl rfl hT (Vt hM (by kernel_rfl)) hE rfl (KV rfl hE rfl rfl rfl) hs (fun w s=>ZE hE rfl sc9 s.2.2.1) (fun a hE=>?_)
     refine Jo (i:=18) (v:=.int .i64 Xx34) (unb 25 7864319) rfl rfl hT (Vt hM (by kernel_rfl)) hE rfl (KV rfl hE rfl rfl rfl) hs (fun w s=>ZE hE rfl sc3 s.2.2.2) (fun a hE=>?_)
     refine KB (i:=19) (v:=.int .u8 Xx35) (unb 25 8388607) rfl rfl hT (anyM hM (by kernel_rfl)) hE rfl (KV rfl hE rfl rfl rfl) (fun w=>KCF hE rfl rfl un9 qXx35) (fun a hE=>?_)
     refine KB (i:=23) (v:=.bool (Xx35 != Xx32)) (unb 25 16777215) rfl rfl hT (anyM hM (by kernel_rfl)) hE rfl (KV rfl hE rfl rfl rfl) (fun w=>ZH hE rfl rfl K9 KDM) (fun a hE=>?_)
     refine KB (i:=24) (v:=.bool (Xx35 != Xx32)) (unb 25 33554431) rfl rfl hT (anyM hM (by kernel_rfl)) hE rfl (KA rfl) (fun w=>Z8 hE rfl rfl) (fun a hE=>?_)
     refine Wp hT (zK hM (by kernel_rfl)) ?_
     exact ⟨Xx35 != Xx32,hE.cut (.cons rfl (.cons rfl (.cons rfl (.cons rfl (.cons rfl Subs.nil))))),hR,H⟩
 ·replace H:=M.ite_f hb H
  refine KDI ?_
  refine Xu.same ?_
  exact hret _ _ _ () _ hE hR (Zu hE rfl RV.nil) rfl H
end Gx
