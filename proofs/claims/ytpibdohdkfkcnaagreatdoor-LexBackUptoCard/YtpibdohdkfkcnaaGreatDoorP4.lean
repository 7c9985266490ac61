/- Printed by program: Go functions as Lean programs, each tied to its code. No condition. -/
import Derived.Test.YtpibdohdkfkcnaaGreatDoorP0
import Derived.Test.YtpibdohdkfkcnaaGreatDoorP1
import Derived.Test.YtpibdohdkfkcnaaGreatDoorP2
import Derived.Test.YtpibdohdkfkcnaaGreatDoorP3
set_option linter.unusedVariables false
set_option linter.unusedSimpArgs false
namespace Gx
open Go
set_option linter.unusedVariables false
set_option maxRecDepth 100000
def JY (x0:Int):M (Int):=do
 let Xx3←YG x0
 let Xx4←JW Xx3
 let Xx6←ixA (⟨3,0,none⟩:Addr) 20 Xx4 1
 let Xx7←ldI .u64 Xx6
 let Xx8←JX (decide (x0 ≥ Xx7))
 M.pure (IntKind.wrap .i64 (Xx4+Xx8))
theorem Wj (x0:Int):Ku Go.Proofs.Tryz.prog 232 #[.int .u64 x0] (fun (r:Int)=>.int .i64 r) (JY x0) :=
 KQ [Wg,qA,Wi] [] [.I .i64] [(0,.I .u64 x0)] .o Go.Proofs.Tryz.func232 rfl rfl ⟨rfl,trivial⟩ rfl (by kernel_rfl) (by kernel_rfl)
noncomputable def Wk:CalleeS Go.Proofs.Tryz.prog:=mkC WB WH [.I .u64] [.I .i64] (fun (t:Int)=>JY t) (fun (t:Int)=>Wj t)
def Zs (C48:Sl) (Xx46:Int) (Xx47:Int):M (Unit):=do
 M.ite (decide (Xx46 > 0)) (do
  let Xx50←ixL C48 0 1
  stV Xx50 (.int .u8 (IntKind.wrap .u8 (IntKind.wrap .u32 (48+Xx47))))
  M.pure ()
  ) (do
  M.pure ()
  )
def Zt (C45:Sl) (Xx43:Int) (Xx44:Int):M (Unit):=do
 M.ite (decide (Xx43 ≥ 2)) (do
  let Xx56←ixS (⟨#[48,48,48,49,48,50,48,51,48,52,48,53,48,54,48,55,48,56,48,57,49,48,49,49,49,50,49,51,49,52,49,53,49,54,49,55,49,56,49,57,50,48,50,49,50,50,50,51,50,52,50,53,50,54,50,55,50,56,50,57,51,48,51,49,51,50,51,51,51,52,51,53,51,54,51,55,51,56,51,57,52,48,52,49,52,50,52,51,52,52,52,53,52,54,52,55,52,56,52,57,53,48,53,49,53,50,53,51,53,52,53,53,53,54,53,55,53,56,53,57,54,48,54,49,54,50,54,51,54,52,54,53,54,54,54,55,54,56,54,57,55,48,55,49,55,50,55,51,55,52,55,53,55,54,55,55,55,56,55,57,56,48,56,49,56,50,56,51,56,52,56,53,56,54,56,55,56,56,56,57,57,48,57,49,57,50,57,51,57,52,57,53,57,54,57,55,57,56,57,57]⟩:ByteArray) (IntKind.wrap .u32 ((IntKind.wrap .u32 ((Int.tmod Xx44 100) * 2))+1))
  let Xx57←ixS (⟨#[48,48,48,49,48,50,48,51,48,52,48,53,48,54,48,55,48,56,48,57,49,48,49,49,49,50,49,51,49,52,49,53,49,54,49,55,49,56,49,57,50,48,50,49,50,50,50,51,50,52,50,53,50,54,50,55,50,56,50,57,51,48,51,49,51,50,51,51,51,52,51,53,51,54,51,55,51,56,51,57,52,48,52,49,52,50,52,51,52,52,52,53,52,54,52,55,52,56,52,57,53,48,53,49,53,50,53,51,53,52,53,53,53,54,53,55,53,56,53,57,54,48,54,49,54,50,54,51,54,52,54,53,54,54,54,55,54,56,54,57,55,48,55,49,55,50,55,51,55,52,55,53,55,54,55,55,55,56,55,57,56,48,56,49,56,50,56,51,56,52,56,53,56,54,56,55,56,56,56,57,57,48,57,49,57,50,57,51,57,52,57,53,57,54,57,55,57,56,57,57]⟩:ByteArray) (IntKind.wrap .u32 ((Int.tmod Xx44 100) * 2))
  let Xx58←ixL C45 (IntKind.wrap .i64 (Xx43 - 1)) 1
  stV Xx58 (.int .u8 Xx56)
  let Xx60←ixL C45 (IntKind.wrap .i64 (Xx43 - 2)) 1
  stV Xx60 (.int .u8 Xx57)
  Zs C45 (IntKind.wrap .i64 (Xx43 - 2)) (IntKind.wrap .u32 (Int.tdiv Xx44 100))
  ) (do
  Zs C45 Xx43 Xx44
  )
def Jl (C5:Sl) (self1:(Int × Int)→M (Unit)):(Int × Int)→M (Unit):=fun s=>match s with
 | (Xx3,Xx4)=>do
  M.ite (decide (Xx4 ≥ 8)) (do
   let Xx15←ixS (⟨#[48,48,48,49,48,50,48,51,48,52,48,53,48,54,48,55,48,56,48,57,49,48,49,49,49,50,49,51,49,52,49,53,49,54,49,55,49,56,49,57,50,48,50,49,50,50,50,51,50,52,50,53,50,54,50,55,50,56,50,57,51,48,51,49,51,50,51,51,51,52,51,53,51,54,51,55,51,56,51,57,52,48,52,49,52,50,52,51,52,52,52,53,52,54,52,55,52,56,52,57,53,48,53,49,53,50,53,51,53,52,53,53,53,54,53,55,53,56,53,57,54,48,54,49,54,50,54,51,54,52,54,53,54,54,54,55,54,56,54,57,55,48,55,49,55,50,55,51,55,52,55,53,55,54,55,55,55,56,55,57,56,48,56,49,56,50,56,51,56,52,56,53,56,54,56,55,56,56,56,57,57,48,57,49,57,50,57,51,57,52,57,53,57,54,57,55,57,56,57,57]⟩:ByteArray) (IntKind.wrap .u32 ((IntKind.wrap .u32 ((Int.tmod (Int.tmod (IntKind.wrap .u32 (Int.tmod Xx3 100000000)) 10000) 100) * 2))+1))
   let Xx16←ixS (⟨#[48,48,48,49,48,50,48,51,48,52,48,53,48,54,48,55,48,56,48,57,49,48,49,49,49,50,49,51,49,52,49,53,49,54,49,55,49,56,49,57,50,48,50,49,50,50,50,51,50,52,50,53,50,54,50,55,50,56,50,57,51,48,51,49,51,50,51,51,51,52,51,53,51,54,51,55,51,56,51,57,52,48,52,49,52,50,52,51,52,52,52,53,52,54,52,55,52,56,52,57,53,48,53,49,53,50,53,51,53,52,53,53,53,54,53,55,53,56,53,57,54,48,54,49,54,50,54,51,54,52,54,53,54,54,54,55,54,56,54,57,55,48,55,49,55,50,55,51,55,52,55,53,55,54,55,55,55,56,55,57,56,48,56,49,56,50,56,51,56,52,56,53,56,54,56,55,56,56,56,57,57,48,57,49,57,50,57,51,57,52,57,53,57,54,57,55,57,56,57,57]⟩:ByteArray) (IntKind.wrap .u32 ((Int.tmod (Int.tmod (IntKind.wrap .u32 (Int.tmod Xx3 100000000)) 10000) 100) * 2))
   let Xx17←ixL C5 (IntKind.wrap .i64 (Xx4 - 1)) 1
   stV Xx17 (.int .u8 Xx15)
   let Xx19←ixL C5 (IntKind.wrap .i64 (Xx4 - 2)) 1
   stV Xx19 (.int .u8 Xx16)
   let Xx22←ixS (⟨#[48,48,48,49,48,50,48,51,48,52,48,53,48,54,48,55,48,56,48,57,49,48,49,49,49,50,49,51,49,52,49,53,49,54,49,55,49,56,49,57,50,48,50,49,50,50,50,51,50,52,50,53,50,54,50,55,50,56,50,57,51,48,51,49,51,50,51,51,51,52,51,53,51,54,51,55,51,56,51,57,52,48,52,49,52,50,52,51,52,52,52,53,52,54,52,55,52,56,52,57,53,48,53,49,53,50,53,51,53,52,53,53,53,54,53,55,53,56,53,57,54,48,54,49,54,50,54,51,54,52,54,53,54,54,54,55,54,56,54,57,55,48,55,49,55,50,55,51,55,52,55,53,55,54,55,55,55,56,55,57,56,48,56,49,56,50,56,51,56,52,56,53,56,54,56,55,56,56,56,57,57,48,57,49,57,50,57,51,57,52,57,53,57,54,57,55,57,56,57,57]⟩:ByteArray) (IntKind.wrap .u32 ((IntKind.wrap .u32 ((IntKind.wrap .u32 (Int.tdiv (Int.tmod (IntKind.wrap .u32 (Int.tmod Xx3 100000000)) 10000) 100)) * 2))+1))
   let Xx23←ixS (⟨#[48,48,48,49,48,50,48,51,48,52,48,53,48,54,48,55,48,56,48,57,49,48,49,49,49,50,49,51,49,52,49,53,49,54,49,55,49,56,49,57,50,48,50,49,50,50,50,51,50,52,50,53,50,54,50,55,50,56,50,57,51,48,51,49,51,50,51,51,51,52,51,53,51,54,51,55,51,56,51,57,52,48,52,49,52,50,52,51,52,52,52,53,52,54,52,55,52,56,52,57,53,48,53,49,53,50,53,51,53,52,53,53,53,54,53,55,53,56,53,57,54,48,54,49,54,50,54,51,54,52,54,53,54,54,54,55,54,56,54,57,55,48,55,49,55,50,55,51,55,52,55,53,55,54,55,55,55,56,55,57,56,48,56,49,56,50,56,51,56,52,56,53,56,54,56,55,56,56,56,57,57,48,57,49,57,50,57,51,57,52,57,53,57,54,57,55,57,56,57,57]⟩:ByteArray) (IntKind.wrap .u32 ((IntKind.wrap .u32 (Int.tdiv (Int.tmod (IntKind.wrap .u32 (Int.tmod Xx3 100000000)) 10000) 100)) * 2))
   let Xx24←ixL C5 (IntKind.wrap .i64 (Xx4 - 3)) 1
   stV Xx24 (.int .u8 Xx22)
   let Xx26←ixL C5 (IntKind.wrap .i64 (Xx4 - 4)) 1
   stV Xx26 (.int .u8 Xx23)
   let Xx29←ixS (⟨#[48,48,48,49,48,50,48,51,48,52,48,53,48,54,48,55,48,56,48,57,49,48,49,49,49,50,49,51,49,52,49,53,49,54,49,55,49,56,49,57,50,48,50,49,50,50,50,51,50,52,50,53,50,54,50,55,50,56,50,57,51,48,51,49,51,50,51,51,51,52,51,53,51,54,51,55,51,56,51,57,52,48,52,49,52,50,52,51,52,52,52,53,52,54,52,55,52,56,52,57,53,48,53,49,53,50,53,51,53,52,53,53,53,54,53,55,53,56,53,57,54,48,54,49,54,50,54,51,54,52,54,53,54,54,54,55,54,56,54,57,55,48,55,49,55,50,55,51,55,52,55,53,55,54,55,55,55,56,55,57,56,48,56,49,56,50,56,51,56,52,56,53,56,54,56,55,56,56,56,57,57,48,57,49,57,50,57,51,57,52,57,53,57,54,57,55,57,56,57,57]⟩:ByteArray) (IntKind.wrap .u32 ((IntKind.wrap .u32 ((Int.tmod (IntKind.wrap .u32 (Int.tdiv (IntKind.wrap .u32 (Int.tmod Xx3 100000000)) 10000)) 100) * 2))+1))
   let Xx30←ixS (⟨#[48,48,48,49,48,50,48,51,48,52,48,53,48,54,48,55,48,56,48,57,49,48,49,49,49,50,49,51,49,52,49,53,49,54,49,55,49,56,49,57,50,48,50,49,50,50,50,51,50,52,50,53,50,54,50,55,50,56,50,57,51,48,51,49,51,50,51,51,51,52,51,53,51,54,51,55,51,56,51,57,52,48,52,49,52,50,52,51,52,52,52,53,52,54,52,55,52,56,52,57,53,48,53,49,53,50,53,51,53,52,53,53,53,54,53,55,53,56,53,57,54,48,54,49,54,50,54,51,54,52,54,53,54,54,54,55,54,56,54,57,55,48,55,49,55,50,55,51,55,52,55,53,55,54,55,55,55,56,55,57,56,48,56,49,56,50,56,51,56,52,56,53,56,54,56,55,56,56,56,57,57,48,57,49,57,50,57,51,57,52,57,53,57,54,57,55,57,56,57,57]⟩:ByteArray) (IntKind.wrap .u32 ((Int.tmod (IntKind.wrap .u32 (Int.tdiv (IntKind.wrap .u32 (Int.tmod Xx3 100000000)) 10000)) 100) * 2))
   let Xx31←ixL C5 (IntKind.wrap .i64 (Xx4 - 5)) 1
   stV Xx31 (.int .u8 Xx29)
   let Xx33←ixL C5 (IntKind.wrap .i64 (Xx4 - 6)) 1
   stV Xx33 (.int .u8 Xx30)
   let Xx36←ixS (⟨#[48,48,48,49,48,50,48,51,48,52,48,53,48,54,48,55,48,56,48,57,49,48,49,49,49,50,49,51,49,52,49,53,49,54,49,55,49,56,49,57,50,48,50,49,50,50,50,51,50,52,50,53,50,54,50,55,50,56,50,57,51,48,51,49,51,50,51,51,51,52,51,53,51,54,51,55,51,56,51,57,52,48,52,49,52,50,52,51,52,52,52,53,52,54,52,55,52,56,52,57,53,48,53,49,53,50,53,51,53,52,53,53,53,54,53,55,53,56,53,57,54,48,54,49,54,50,54,51,54,52,54,53,54,54,54,55,54,56,54,57,55,48,55,49,55,50,55,51,55,52,55,53,55,54,55,55,55,56,55,57,56,48,56,49,56,50,56,51,56,52,56,53,56,54,56,55,56,56,56,57,57,48,57,49,57,50,57,51,57,52,57,53,57,54,57,55,57,56,57,57]⟩:ByteArray) (IntKind.wrap .u32 ((IntKind.wrap .u32 ((IntKind.wrap .u32 (Int.tdiv (IntKind.wrap .u32 (Int.tdiv (IntKind.wrap .u32 (Int.tmod Xx3 100000000)) 10000)) 100)) * 2))+1))
   let Xx37←ixS (⟨#[48,48,48,49,48,50,48,51,48,52,48,53,48,54,48,55,48,56,48,57,49,48,49,49,49,50,49,51,49,52,49,53,49,54,49,55,49,56,49,57,50,48,50,49,50,50,50,51,50,52,50,53,50,54,50,55,50,56,50,57,51,48,51,49,51,50,51,51,51,52,51,53,51,54,51,55,51,56,51,57,52,48,52,49,52,50,52,51,52,52,52,53,52,54,52,55,52,56,52,57,53,48,53,49,53,50,53,51,53,52,53,53,53,54,53,55,53,56,53,57,54,48,54,49,54,50,54,51,54,52,54,53,54,54,54,55,54,56,54,57,55,48,55,49,55,50,55,51,55,52,55,53,55,54,55,55,55,56,55,57,56,48,56,49,56,50,56,51,56,52,56,53,56,54,56,55,56,56,56,57,57,48,57,49,57,50,57,51,57,52,57,53,57,54,57,55,57,56,57,57]⟩:ByteArray) (IntKind.wrap .u32 ((IntKind.wrap .u32 (Int.tdiv (IntKind.wrap .u32 (Int.tdiv (IntKind.wrap .u32 (Int.tmod Xx3 100000000)) 10000)) 100)) * 2))
   let Xx38←ixL C5 (IntKind.wrap .i64 (Xx4 - 7)) 1
   stV Xx38 (.int .u8 Xx36)
   let Xx40←ixL C5 (IntKind.wrap .i64 (Xx4 - 8)) 1
   stV Xx40 (.int .u8 Xx37)
   self1 (IntKind.wrap .u64 (Int.tdiv Xx3 100000000),IntKind.wrap .i64 (Xx4 - 8))
   ) (do
   M.ite (decide (Xx4 ≥ 4)) (do
    let Xx67←ixS (⟨#[48,48,48,49,48,50,48,51,48,52,48,53,48,54,48,55,48,56,48,57,49,48,49,49,49,50,49,51,49,52,49,53,49,54,49,55,49,56,49,57,50,48,50,49,50,50,50,51,50,52,50,53,50,54,50,55,50,56,50,57,51,48,51,49,51,50,51,51,51,52,51,53,51,54,51,55,51,56,51,57,52,48,52,49,52,50,52,51,52,52,52,53,52,54,52,55,52,56,52,57,53,48,53,49,53,50,53,51,53,52,53,53,53,54,53,55,53,56,53,57,54,48,54,49,54,50,54,51,54,52,54,53,54,54,54,55,54,56,54,57,55,48,55,49,55,50,55,51,55,52,55,53,55,54,55,55,55,56,55,57,56,48,56,49,56,50,56,51,56,52,56,53,56,54,56,55,56,56,56,57,57,48,57,49,57,50,57,51,57,52,57,53,57,54,57,55,57,56,57,57]⟩:ByteArray) (IntKind.wrap .u32 ((IntKind.wrap .u32 ((Int.tmod (Int.tmod (IntKind.wrap .u32 Xx3) 10000) 100) * 2))+1))
    let Xx68←ixS (⟨#[48,48,48,49,48,50,48,51,48,52,48,53,48,54,48,55,48,56,48,57,49,48,49,49,49,50,49,51,49,52,49,53,49,54,49,55,49,56,49,57,50,48,50,49,50,50,50,51,50,52,50,53,50,54,50,55,50,56,50,57,51,48,51,49,51,50,51,51,51,52,51,53,51,54,51,55,51,56,51,57,52,48,52,49,52,50,52,51,52,52,52,53,52,54,52,55,52,56,52,57,53,48,53,49,53,50,53,51,53,52,53,53,53,54,53,55,53,56,53,57,54,48,54,49,54,50,54,51,54,52,54,53,54,54,54,55,54,56,54,57,55,48,55,49,55,50,55,51,55,52,55,53,55,54,55,55,55,56,55,57,56,48,56,49,56,50,56,51,56,52,56,53,56,54,56,55,56,56,56,57,57,48,57,49,57,50,57,51,57,52,57,53,57,54,57,55,57,56,57,57]⟩:ByteArray) (IntKind.wrap .u32 ((Int.tmod (Int.tmod (IntKind.wrap .u32 Xx3) 10000) 100) * 2))
    let Xx69←ixL C5 (IntKind.wrap .i64 (Xx4 - 1)) 1
    stV Xx69 (.int .u8 Xx67)
    let Xx71←ixL C5 (IntKind.wrap .i64 (Xx4 - 2)) 1
    stV Xx71 (.int .u8 Xx68)
    let Xx74←ixS (⟨#[48,48,48,49,48,50,48,51,48,52,48,53,48,54,48,55,48,56,48,57,49,48,49,49,49,50,49,51,49,52,49,53,49,54,49,55,49,56,49,57,50,48,50,49,50,50,50,51,50,52,50,53,50,54,50,55,50,56,50,57,51,48,51,49,51,50,51,51,51,52,51,53,51,54,51,55,51,56,51,57,52,48,52,49,52,50,52,51,52,52,52,53,52,54,52,55,52,56,52,57,53,48,53,49,53,50,53,51,53,52,53,53,53,54,53,55,53,56,53,57,54,48,54,49,54,50,54,51,54,52,54,53,54,54,54,55,54,56,54,57,55,48,55,49,55,50,55,51,55,52,55,53,55,54,55,55,55,56,55,57,56,48,56,49,56,50,56,51,56,52,56,53,56,54,56,55,56,56,56,57,57,48,57,49,57,50,57,51,57,52,57,53,57,54,57,55,57,56,57,57]⟩:ByteArray) (IntKind.wrap .u32 ((IntKind.wrap .u32 ((IntKind.wrap .u32 (Int.tdiv (Int.tmod (IntKind.wrap .u32 Xx3) 10000) 100)) * 2))+1))
    let Xx75←ixS (⟨#[48,48,48,49,48,50,48,51,48,52,48,53,48,54,48,55,48,56,48,57,49,48,49,49,49,50,49,51,49,52,49,53,49,54,49,55,49,56,49,57,50,48,50,49,50,50,50,51,50,52,50,53,50,54,50,55,50,56,50,57,51,48,51,49,51,50,51,51,51,52,51,53,51,54,51,55,51,56,51,57,52,48,52,49,52,50,52,51,52,52,52,53,52,54,52,55,52,56,52,57,53,48,53,49,53,50,53,51,53,52,53,53,53,54,53,55,53,56,53,57,54,48,54,49,54,50,54,51,54,52,54,53,54,54,54,55,54,56,54,57,55,48,55,49,55,50,55,51,55,52,55,53,55,54,55,55,55,56,55,57,56,48,56,49,56,50,56,51,56,52,56,53,56,54,56,55,56,56,56,57,57,48,57,49,57,50,57,51,57,52,57,53,57,54,57,55,57,56,57,57]⟩:ByteArray) (IntKind.wrap .u32 ((IntKind.wrap .u32 (Int.tdiv (Int.tmod (IntKind.wrap .u32 Xx3) 10000) 100)) * 2))
    let Xx76←ixL C5 (IntKind.wrap .i64 (Xx4 - 3)) 1
    stV Xx76 (.int .u8 Xx74)
    let Xx78←ixL C5 (IntKind.wrap .i64 (Xx4 - 4)) 1
    stV Xx78 (.int .u8 Xx75)
    Zt C5 (IntKind.wrap .i64 (Xx4 - 4)) (IntKind.wrap .u32 (Int.tdiv (IntKind.wrap .u32 Xx3) 10000))
    ) (do
    Zt C5 Xx4 (IntKind.wrap .u32 Xx3)
    )
   )
def JH (x0:Sl) (x1:Int):M (Unit):=do
 M.loop (Jl x0) (x1,(x0.len:Int))
theorem VY (x0:Sl) (x1:Int):Ku Go.Proofs.Tryz.prog 233 #[(x0:Sl).v,.int .u64 x1] (fun (r:Unit)=>.tuple #[]) (JH x0 x1) :=
 KQ [] [] [] [(0,.L x0),(1,.I .u64 x1)] (.q .o (.q (.b (.l [(0,.L)] [(1,.I .u64),(4,.I .i64)] (fun (t:Sl)=>Jl t) (fun _=>.q .o (.b (.q .o (.q .o (.q .o (.q .o (.q .o (.q (.r [0,0,2,0,0,16,0,64,128,0,512,455,2503,8191,16383] [0,0,2,0,0,16,0,64,128,0,512,5,2304,40,9216] [0,0,2,0,0,16,0,64,192,0,512,455,2503,8191,16383] (.pu 0 (.pu 1 (.pu 2 (.pu 3 (.pu 4 (.pu 5 (.pu 6 (.pu 7 (.pu 8 (.pu 9 (.pu 10 (.pu 11 (.st [0,1,2,3,4,5,6,7,8,9,10,11,12,13,14] (.on 12 (.pu 13 (.nx (.on 14 .dn)))))))))))))))))) (.q (.r [0,0,2,0,0,16,0,64,128,0,512,455,2503,8191,16383] [0,0,2,0,0,16,0,64,128,0,512,5,2304,40,9216] [0,0,2,0,0,16,0,64,192,0,512,455,2503,8191,16383] (.pu 0 (.pu 1 (.pu 2 (.pu 3 (.pu 4 (.pu 5 (.pu 6 (.pu 7 (.pu 8 (.pu 9 (.pu 10 (.pu 11 (.st [0,1,2,3,4,5,6,7,8,9,10,11,12,13,14] (.on 12 (.pu 13 (.nx (.on 14 .dn)))))))))))))))))) (.q (.r [0,0,2,0,0,16,0,64,128,0,512,455,2503,8191,16383] [0,0,2,0,0,16,0,64,128,0,512,5,2304,40,9216] [0,0,2,0,0,16,0,64,192,0,512,455,2503,8191,16383] (.pu 0 (.pu 1 (.pu 2 (.pu 3 (.pu 4 (.pu 5 (.pu 6 (.pu 7 (.pu 8 (.pu 9 (.pu 10 (.pu 11 (.st [0,1,2,3,4,5,6,7,8,9,10,11,12,13,14] (.on 12 (.pu 13 (.nx (.on 14 .dn)))))))))))))))))) (.q (.r [0,0,2,0,0,16,0,64,128,0,512,455,2503,8191,16383] [0,0,2,0,0,16,0,64,128,0,512,5,2304,40,9216] [0,0,2,0,0,16,0,64,192,0,512,455,2503,8191,16383] (.pu 0 (.pu 1 (.pu 2 (.pu 3 (.pu 4 (.pu 5 (.pu 6 (.pu 7 (.pu 8 (.pu 9 (.pu 10 (.pu 11 (.st [0,1,2,3,4,5,6,7,8,9,10,11,12,13,14] (.on 12 (.pu 13 (.nx (.on 14 .dn)))))))))))))))))) .o))))))))))))) (.q .o (.q (.q .o (.q (.q .o (.q .o (.q .o (.q (.r [0,0,2,0,0,16,0,64,128,0,512,455,2503,8191,16383] [0,0,2,0,0,16,0,64,128,0,512,5,2304,40,9216] [0,0,2,0,0,16,0,64,192,0,512,455,2503,8191,16383] (.pu 0 (.pu 1 (.pu 2 (.pu 3 (.pu 4 (.pu 5 (.pu 6 (.pu 7 (.pu 8 (.pu 9 (.pu 10 (.pu 11 (.st [0,1,2,3,4,5,6,7,8,9,10,11,12,13,14] (.on 12 (.pu 13 (.nx (.on 14 .dn)))))))))))))))))) (.q (.r [0,0,2,0,0,16,0,64,128,0,512,455,2503,8191,16383] [0,0,2,0,0,16,0,64,128,0,512,5,2304,40,9216] [0,0,2,0,0,16,0,64,192,0,512,455,2503,8191,16383] (.pu 0 (.pu 1 (.pu 2 (.pu 3 (.pu 4 (.pu 5 (.pu 6 (.pu 7 (.pu 8 (.pu 9 (.pu 10 (.pu 11 (.st [0,1,2,3,4,5,6,7,8,9,10,11,12,13,14] (.on 12 (.pu 13 (.nx (.on 14 .dn)))))))))))))))))) .o))))) .o)) (.j [(0,.L),(4,.I .i64),(12,.I .u32)] (fun (t:Sl × Int × Int)=>Zt t.1 t.2.1 t.2.2) (.q (.q .o (.q (.q .o (.q .o (.q (.r [0,0,2,0,0,16,0,64,128,0,512,455,2503,8191,16383] [0,0,2,0,0,16,0,64,128,0,512,5,2304,40,9216] [0,0,2,0,0,16,0,64,192,0,512,455,2503,8191,16383] (.pu 0 (.pu 1 (.pu 2 (.pu 3 (.pu 4 (.pu 5 (.pu 6 (.pu 7 (.pu 8 (.pu 9 (.pu 10 (.pu 11 (.st [0,1,2,3,4,5,6,7,8,9,10,11,12,13,14] (.on 12 (.pu 13 (.nx (.on 14 .dn)))))))))))))))))) .o))) .o)) (.j [(0,.L),(4,.I .i64),(12,.I .u32)] (fun (t:Sl × Int × Int)=>Zs t.1 t.2.1 t.2.2) .o))))))) Go.Proofs.Tryz.func233 rfl rfl ⟨rfl,rfl,trivial⟩ rfl (by kernel_rfl) (by kernel_rfl)
noncomputable def VZ:CalleeS Go.Proofs.Tryz.prog:=mkC VH VJ [.L,.I .u64] [] (fun (t:Sl × Int)=>JH t.1 t.2) (fun (t:Sl × Int)=>VY t.1 t.2)
def ZX (x0:Int):M (Bool):=do
 M.pure ((iAnd .i64 x0 (IntKind.wrap .i64 (x0 - 1))) == 0)
theorem Va (x0:Int):Ku Go.Proofs.Tryz.prog 250 #[.int .i64 x0] (fun (r:Bool)=>.bool r) (ZX x0) :=
 KQ [] [] [.B] [(0,.I .i64 x0)] .o Go.Proofs.Tryz.func250 rfl rfl ⟨rfl,trivial⟩ rfl (by kernel_rfl) (by kernel_rfl)
noncomputable def Vb:CalleeS Go.Proofs.Tryz.prog:=mkC VI VK [.I .i64] [.B] (fun (t:Int)=>ZX t) (fun (t:Int)=>Va t)
def Z5 (x0:Int):M (Int):=do
 M.ite (x0 == 0) (do
  M.pure 64
  ) (do
  let Xx6←ixA (⟨5,0,none⟩:Addr) 64 (iShr .u64 (IntKind.wrap .u64 ((iAnd .u64 x0 (IntKind.wrap .u64 (0 - x0))) * 285870213051353865)) 58) 1
  let Xx7←ldI .u8 Xx6
  M.pure (IntKind.wrap .i64 Xx7)
  )
theorem YH (x0:Int):Ku Go.Proofs.Tryz.prog 256 #[.int .u64 x0] (fun (r:Int)=>.int .i64 r) (Z5 x0) :=
 KQ [] [] [.I .i64] [(0,.I .u64 x0)] .o Go.Proofs.Tryz.func256 rfl rfl ⟨rfl,trivial⟩ rfl (by kernel_rfl) (by kernel_rfl)
noncomputable def YI:CalleeS Go.Proofs.Tryz.prog:=mkC WX Wc [.I .u64] [.I .i64] (fun (t:Int)=>Z5 t) (fun (t:Int)=>YH t)
def JQ (x0:Int):M (Int):=do
 let Xx4←Z5 x0
 M.pure Xx4
theorem Yd (x0:Int):Ku Go.Proofs.Tryz.prog 251 #[.int .u64 x0] (fun (r:Int)=>.int .i64 r) (JQ x0) :=
 KQ [YI] [] [.I .i64] [(0,.I .u64 x0)] .o Go.Proofs.Tryz.func251 rfl rfl ⟨rfl,trivial⟩ rfl (by kernel_rfl) (by kernel_rfl)
noncomputable def Ye:CalleeS Go.Proofs.Tryz.prog:=mkC YN YO [.I .u64] [.I .i64] (fun (t:Int)=>JQ t) (fun (t:Int)=>Yd t)
def ZP (C26:Sl) (C27:Bool) (C28:Sl) (C29:ByteArray) (C30:Addr) (Xx25:Int):M (Sl × ByteArray):=do
 M.ite C27 (do
  let Xx34←slA C30 65 Xx25 65 1
  let Xx35←apL Kp 1 1 (#[.int .u8 0]:Array Value) C26 Xx34
  M.pure (Xx35,C29)
  ) (do
  let Xx37←slA C30 65 Xx25 65 1
  let Xx38←b2s Xx37
  M.pure (C28,Xx38)
  )
def ZQ (C19:Sl) (C20:Bool) (C21:Bool) (C22:Sl) (C23:ByteArray) (C24:Addr) (Xx18:Int):M (Sl × ByteArray):=do
 M.ite C20 (do
  let Xx41←ixA C24 65 (IntKind.wrap .i64 (Xx18 - 1)) 1
  stV Xx41 (.int .u8 45)
  ZP C19 C21 C22 C23 C24 (IntKind.wrap .i64 (Xx18 - 1))
  ) (do
  ZP C19 C21 C22 C23 C24 Xx18
  )
def Z9 (C52:Sl) (C53:Bool) (C54:Bool) (C55:Sl) (C56:ByteArray) (C57:Addr) (C58:Int) (C59:Int) (C60:Int) (self1:(Int × Int)→M (Sl × ByteArray)):(Int × Int)→M (Sl × ByteArray):=fun s=>match s with
 | (Xx50,Xx51)=>do
  M.ite (decide (Xx50 ≥ C59)) (do
   let Xx66←ixS (⟨#[48,49,50,51,52,53,54,55,56,57,97,98,99,100,101,102,103,104,105,106,107,108,109,110,111,112,113,114,115,116,117,118,119,120,121,122]⟩:ByteArray) (iAnd .u64 Xx50 C60)
   let Xx67←ixA C57 65 (IntKind.wrap .i64 (Xx51 - 1)) 1
   stV Xx67 (.int .u8 Xx66)
   let Xx69←pShr .u64 Xx50 C58
   self1 (Xx69,IntKind.wrap .i64 (Xx51 - 1))
   ) (do
   let Xx71←ixS (⟨#[48,49,50,51,52,53,54,55,56,57,97,98,99,100,101,102,103,104,105,106,107,108,109,110,111,112,113,114,115,116,117,118,119,120,121,122]⟩:ByteArray) Xx50
   let Xx72←ixA C57 65 (IntKind.wrap .i64 (Xx51 - 1)) 1
   stV Xx72 (.int .u8 Xx71)
   ZQ C52 C53 C54 C55 C56 C57 (IntKind.wrap .i64 (Xx51 - 1))
   )
def Jz (C78:Sl) (C79:Bool) (C80:Bool) (C81:Sl) (C82:ByteArray) (C83:Addr) (C84:Int) (self2:(Int × Int)→M (Sl × ByteArray)):(Int × Int)→M (Sl × ByteArray):=fun s=>match s with
 | (Xx76,Xx77)=>do
  M.ite (decide (Xx76 ≥ C84)) (do
   let Xx90←pQuo .u64 Xx76 C84
   let Xx92←ixS (⟨#[48,49,50,51,52,53,54,55,56,57,97,98,99,100,101,102,103,104,105,106,107,108,109,110,111,112,113,114,115,116,117,118,119,120,121,122]⟩:ByteArray) (IntKind.wrap .u64 (Xx76 - (IntKind.wrap .u64 (Xx90 * C84))))
   let Xx93←ixA C83 65 (IntKind.wrap .i64 (Xx77 - 1)) 1
   stV Xx93 (.int .u8 Xx92)
   self2 (Xx90,IntKind.wrap .i64 (Xx77 - 1))
   ) (do
   let Xx96←ixS (⟨#[48,49,50,51,52,53,54,55,56,57,97,98,99,100,101,102,103,104,105,106,107,108,109,110,111,112,113,114,115,116,117,118,119,120,121,122]⟩:ByteArray) Xx76
   let Xx97←ixA C83 65 (IntKind.wrap .i64 (Xx77 - 1)) 1
   stV Xx97 (.int .u8 Xx96)
   ZQ C78 C79 C80 C81 C82 C83 (IntKind.wrap .i64 (Xx77 - 1))
   )
def ZR (C10:Sl) (C11:Int) (C12:Bool) (C13:Bool) (C14:Sl) (C15:ByteArray) (C16:Addr) (C17:Int) (Xx9:Int):M (Sl × ByteArray):=do
 let Xx44←ZX C11
 M.ite Xx44 (do
  let Xx46←JQ (IntKind.wrap .u64 C11)
  M.loop (Z9 C10 C12 C13 C14 C15 C16 (IntKind.wrap .u64 Xx46) (IntKind.wrap .u64 C11) (IntKind.wrap .u64 ((IntKind.wrap .u64 C11) - 1))) (Xx9,C17)
  ) (do
  M.loop (Jz C10 C12 C13 C14 C15 C16 (IntKind.wrap .u64 C11)) (Xx9,C17)
  )
def Zj (x0:Sl) (x1:Int) (x2:Int) (x3:Bool) (x4:Bool):M (Sl × ByteArray):=do
 let Xx4←M.ite (decide (x2 < 2)) (do
  M.pure true
  ) (do
  M.pure (x2 == 10)
  )
 let Xx5←M.ite Xx4 (do
  M.pure true
  ) (do
  M.pure (decide (x2 > 36))
  )
 M.ite Xx5 (do
  M.fail
  ) (do
  let Xx7←mkB VU (Array.replicate 65 (.int .u8 0):Array Value)
  M.ite x3 (do
   ZR x0 x2 x3 x4 Sl.nil ByteArray.empty Xx7 65 (IntKind.wrap .u64 (0 - x1))
   ) (do
   ZR x0 x2 x3 x4 Sl.nil ByteArray.empty Xx7 65 x1
   )
  )
theorem WL (x0:Sl) (x1:Int) (x2:Int) (x3:Bool) (x4:Bool):Ku Go.Proofs.Tryz.prog 234 #[(x0:Sl).v,.int .u64 x1,.int .i64 x2,.bool x3,.bool x4] (fun (r:Sl × ByteArray)=>.tuple #[(r.1:Sl).v,.string r.2]) (Zj x0 x1 x2 x3 x4) :=
 KQ [Vb,Ye] [] [.L,.S] [(0,.L x0),(1,.I .u64 x1),(2,.I .i64 x2),(3,.B x3),(4,.B x4)] (.q .o (.q .o (.q .o (.q .o (.q .o (.j [(0,.L),(2,.I .i64),(3,.B),(4,.B),(10,.L),(11,.S),(12,.A),(13,.I .i64),(1,.I .u64)] (fun (t:Sl × Int × Bool × Bool × Sl × ByteArray × Addr × Int × Int)=>ZR t.1 t.2.1 t.2.2.1 t.2.2.2.1 t.2.2.2.2.1 t.2.2.2.2.2.1 t.2.2.2.2.2.2.1 t.2.2.2.2.2.2.2.1 t.2.2.2.2.2.2.2.2) (.q (.q .o (.q (.q .o (.q .o (.q .o (.q (.b (.l [(0,.L),(3,.B),(4,.B),(10,.L),(11,.S),(12,.A),(14,.I .u64),(15,.I .u64),(16,.I .u64)] [(1,.I .u64),(13,.I .i64)] (fun (t:Sl × Bool × Bool × Sl × ByteArray × Addr × Int × Int × Int)=>Z9 t.1 t.2.1 t.2.2.1 t.2.2.2.1 t.2.2.2.2.1 t.2.2.2.2.2.1 t.2.2.2.2.2.2.1 t.2.2.2.2.2.2.2.1 t.2.2.2.2.2.2.2.2) (fun _=>.o))) .o)))) (.q .o (.q (.b (.l [(0,.L),(3,.B),(4,.B),(10,.L),(11,.S),(12,.A),(17,.I .u64)] [(1,.I .u64),(13,.I .i64)] (fun (t:Sl × Bool × Bool × Sl × ByteArray × Addr × Int)=>Jz t.1 t.2.1 t.2.2.1 t.2.2.2.1 t.2.2.2.2.1 t.2.2.2.2.2.1 t.2.2.2.2.2.2) (fun _=>.o))) .o)))) (.j [(0,.L),(3,.B),(4,.B),(10,.L),(11,.S),(12,.A),(13,.I .i64)] (fun (t:Sl × Bool × Bool × Sl × ByteArray × Addr × Int)=>ZQ t.1 t.2.1 t.2.2.1 t.2.2.2.1 t.2.2.2.2.1 t.2.2.2.2.2.1 t.2.2.2.2.2.2) (.q .o (.j [(0,.L),(4,.B),(10,.L),(11,.S),(12,.A),(13,.I .i64)] (fun (t:Sl × Bool × Sl × ByteArray × Addr × Int)=>ZP t.1 t.2.1 t.2.2.1 t.2.2.2.1 t.2.2.2.2.1 t.2.2.2.2.2) .o)))))))))) Go.Proofs.Tryz.func234 rfl rfl ⟨rfl,rfl,rfl,rfl,rfl,trivial⟩ rfl (by kernel_rfl) (by kernel_rfl)
noncomputable def WM:CalleeS Go.Proofs.Tryz.prog:=mkC Vj Vn [.L,.I .u64,.I .i64,.B,.B] [.L,.S] (fun (t:Sl × Int × Int × Bool × Bool)=>Zj t.1 t.2.1 t.2.2.1 t.2.2.2.1 t.2.2.2.2) (fun (t:Sl × Int × Int × Bool × Bool)=>WL t.1 t.2.1 t.2.2.1 t.2.2.2.1 t.2.2.2.2)
def JI (C13:Int) (C14:Addr) (Xx12:Int):M (ByteArray):=do
 let Xx16←JY Xx12
 let Xx18←slA C14 24 1 (IntKind.wrap .i64 (1+Xx16)) 1
 let Xx19←JH Xx18 Xx12
 M.ite (decide (C13 < 0)) (do
  let Xx23←ixA C14 24 0 1
  stV Xx23 (.int .u8 45)
  let Xx26←slA C14 24 0 (IntKind.wrap .i64 (1+Xx16)) 1
  let Xx27←b2s Xx26
  M.pure Xx27
  ) (do
  let Xx29←slA C14 24 1 (IntKind.wrap .i64 (1+Xx16)) 1
  let Xx30←b2s Xx29
  M.pure Xx30
  )
def JZ (x0:Int) (x1:Int):M (ByteArray):=do
 M.ite (x1 == 10) (do
  let Xx6←M.ite (decide (0≤x0)) (do
   M.pure (decide (x0 < 100))
   ) (do
   M.pure false
   )
  M.ite Xx6 (do
   let Xx8←UH x0
   M.pure Xx8
   ) (do
   let Xx10←mkB KDH (Array.replicate 24 (.int .u8 0):Array Value)
   M.ite (decide (x0 < 0)) (do
    JI x0 Xx10 (IntKind.wrap .u64 (0 - (IntKind.wrap .u64 x0)))
    ) (do
    JI x0 Xx10 (IntKind.wrap .u64 x0)
    )
   )
  ) (do
  let Xx33←Zj Sl.nil (IntKind.wrap .u64 x0) x1 (decide (x0 < 0)) false
  M.pure Xx33.2
  )
theorem Wl (x0:Int) (x1:Int):Ku Go.Proofs.Tryz.prog 216 #[.int .i64 x0,.int .i64 x1] (fun (r:ByteArray)=>.string r) (JZ x0 x1) :=
 KQ [Yw,Wk,VZ,WM] [] [.S] [(0,.I .i64 x0),(1,.I .i64 x1)] (.q .o (.q (.q .o (.q (.q .o (.q .o (.q .o (.q .o (.j [(0,.I .i64),(5,.A),(6,.I .u64)] (fun (t:Int × Addr × Int)=>JI t.1 t.2.1 t.2.2) .o))))) .o)) .o)) Go.Proofs.Tryz.func216 rfl rfl ⟨rfl,rfl,trivial⟩ rfl (by kernel_rfl) (by kernel_rfl)
def zc (x0:Array Value) (x1:Addr):M (Bool):=do
 let Xx2←mkB KI x0
 let Xx4←ldG 4 Xx2
 let Xx5←ldI .i64 x1
 let Xx6←YE Xx4 (IntKind.wrap .i64 (Xx5+1))
 M.pure (!Xx6)
theorem KBV (x0:Array Value) (x1:Addr):Ku Go.Proofs.Tryz.prog 221 #[.agg x0,.pointer (some x1)] (fun (r:Bool)=>.bool r) (zc x0 x1) :=
 KQ [za] [] [.B] [(0,.G x0),(1,.A x1)] .o Go.Proofs.Tryz.func221 rfl rfl ⟨rfl,rfl,trivial⟩ rfl (by kernel_rfl) (by kernel_rfl)
def Kk (x0:Option Addr):M (Value ⊕ (Unit)):=do
 let Xx1←nilP x0
 let Xx2←ldI .i64 ((Xx1).add 1)
 M.pure (.inl (Value.iface Zh (.agg (#[.int .i64 Xx2]:Array Value))))
theorem Kv (x0:Option Addr):Yi Go.Proofs.Tryz.prog 228 #[.pointer x0] (fun (r:Unit)=>.tuple #[]) (Kk x0):=by
 refine Vf [(0,.pointer x0)] Go.Proofs.Tryz.func228 rfl rfl (Nat.le_of_ble_eq_true rfl) (VP ⟨rfl,trivial⟩) (fun w0 w Q R X a hret hthr hE hR H=>?_)
 unfold Kk at H
 refine KD ?_
 refine KC (v:=.pointer x0) rfl rfl hE rfl (KE hE rfl) (fun a hE=>?_)
 obtain ⟨Xx1,qXx1,H⟩:=H
 refine KC (v:=.pointer (some Xx1)) rfl rfl hE rfl (KJ hE (Zr rfl (congrArg Value.pointer qXx1))) (fun a hE=>?_)
 refine KC (v:=.pointer (some ((Xx1).add 1))) rfl rfl hE rfl (KH hE rfl ZD) (fun a hE=>?_)
 obtain ⟨Xx2,qXx2,H⟩:=H
 refine KC (v:=.int .i64 Xx2) rfl rfl hE rfl (ZA hE rfl sc3 qXx2) (fun a hE=>?_)
 refine KC (v:=.agg (#[.int .i64 Xx2]:Array Value)) rfl rfl hE rfl (Y5 hE rfl KK7 KL6 (by rfl)) (fun a hE=>?_)
 refine KC (v:=(Value.iface Zh (.agg (#[.int .i64 Xx2]:Array Value)))) rfl rfl hE rfl (KB7 hE rfl KL5) (fun a hE=>?_)
 exact KJJ hE rfl (hthr _ _ hR H)
def Kc (x0:Option Addr):M (Int):=do
 let Xx4←nilP x0
 let Xx5←nilP x0
 let Xx6←ldI .i64 ((Xx4).add 1)
 let Xx7←ldS ((Xx5).add 0)
 M.ite (decide (Xx6 < (Xx7.size:Int))) (do
  let Xx9←nilP x0
  let Xx10←nilP x0
  let Xx11←ldS ((Xx9).add 0)
  let Xx12←ldI .i64 ((Xx10).add 1)
  let Xx13←ixS Xx11 Xx12
  M.pure Xx13
  ) (do
  M.pure 0
  )
theorem Kl (x0:Option Addr):Ku Go.Proofs.Tryz.prog 240 #[.pointer x0] (fun (r:Int)=>.int .u8 r) (Kc x0) :=
 KQ [] [0,3,7,13,17] [.I .u8] [(0,.P x0)] (.q .o (.q (.q (.r [0,1,2,4,0,16,32,64,128,264] [0,1,2,4,0,16,32,64,128,264] [0,1,3,7,0,16,48,112,240,511] (.pu 0 (.pu 1 (.pu 2 (.pu 4 (.pu 5 (.pu 6 (.pu 3 (.pu 7 (.pu 8 (.pu 9 (.st [9] .dn)))))))))))) (.q (.q (.r [0,1,2,4,0,16,32,64,136,511] [0,1,2,4,0,16,32,64,136,256] [0,1,3,7,0,16,48,112,255,511] (.pu 0 (.pu 1 (.pu 2 (.pu 4 (.pu 5 (.pu 6 (.pu 3 (.pu 7 (.pu 8 (.pu 9 (.st [8,9] .dn)))))))))))) .o) .o)) .o)) Go.Proofs.Tryz.func240 rfl rfl ⟨rfl,trivial⟩ rfl (by kernel_rfl) (by kernel_rfl)
def Vc (x0:Int):M (Bool):=do
 let Xx3←M.ite (decide (x0 ≥ 48)) (do
  M.pure (decide (x0≤57))
  ) (do
  M.pure false
  )
 M.pure Xx3
theorem XL (x0:Int):Ku Go.Proofs.Tryz.prog 241 #[.int .u8 x0] (fun (r:Bool)=>.bool r) (Vc x0) :=
 KQ [] [] [.B] [(0,.I .u8 x0)] .o Go.Proofs.Tryz.func241 rfl rfl ⟨rfl,trivial⟩ rfl (by kernel_rfl) (by kernel_rfl)
end Gx
namespace Gx
open Go
set_option linter.unusedVariables false
set_option maxRecDepth 100000
noncomputable def KF7:Array Oper:=KFb Go.Proofs.Tryz.f242 9
def KF8:List (List Nat):=[[],[0],[1],[2],[],[],[5],[6],[7],[8],[3,4,9],[10],[11],[12],[12],[13,11,0,1,2,3,4,5,6,7,8,9,10,11,12,13],[14,15,0,1,2,3,4,5,6,7,8,9,10,11,12,13,14,15]]
def KF9:List (List Nat):=[[],[0],[1],[2],[],[],[5],[6],[7],[8],[3,4,9],[10],[11],[12],[12],[13],[14]]
def KGA:List (List Nat):=[[],[0],[0,1],[0,1,2],[],[],[5],[5,6],[5,6,7],[5,6,7,8],[0,1,2,3,4,5,6,7,8,9],[0,1,2,3,4,5,6,7,8,9,10],[0,1,2,3,4,5,6,7,8,9,10,11],[0,1,2,3,4,5,6,7,8,9,10,11,12],[0,1,2,3,4,5,6,7,8,9,10,11,12],[0,1,2,3,4,5,6,7,8,9,10,11,12,13],[0,1,2,3,4,5,6,7,8,9,10,11,12,13,14,15]]
theorem KJf:KAB Go.Proofs.Tryz.f242 9 KF8 KF9 KGA=true:=by kernel_rfl
theorem KHe:KB2 17 KF8 KF9 KGA [0,1,2,4,0,0,32,64,128,256,536,1024,2048,4096,4096,16383,65535] [0,1,2,4,0,0,32,64,128,256,536,1024,2048,4096,4096,8192,16384] [0,1,3,7,0,0,32,96,224,480,1023,2047,4095,8191,8191,16383,65535]=true:=by kernel_rfl
def Zw (self1:(Int)→M (Value ⊕ (Int))) (C29:Option Addr) (C31:Int) (C32:Int) (C33:Int):M (Value ⊕ (Int)):=do
 M.ite (C33 != 0) (do
  M.pure (.inr C31)
  ) (do
  let Xx38←nilP C29
  let Xx39←ldI .i64 ((Xx38).add 1)
  let Xx40←nilP C29
  stV ((Xx40).add 1) (.int .i64 (IntKind.wrap .i64 (Xx39+1)))
  self1 C32
  )
def JU (C15:Option Addr) (C16:Int) (self1:(Int)→M (Value ⊕ (Int))):(Int)→M (Value ⊕ (Int)):=fun s=>match s with
 | Xx14=>do
  let Xx20←Kc C15
  let Xx21←Vc Xx20
  M.ite Xx21 (do
   let Xx23←nilP C15
   let Xx24←nilP C15
   let Xx25←ldS ((Xx23).add 0)
   let Xx26←ldI .i64 ((Xx24).add 1)
   let Xx27←slS Xx25 C16 (IntKind.wrap .i64 (Xx26+1))
   let Xx28←KAq Go.Proofs.Tryz.prog KCF #[.string Xx27] (fun r:Int × Int=>.tuple #[.int .i64 r.1,.int .i64 r.2])
   M.ite (Xx28.2 == 7) (do
    thr (Kk C15) fun Xx43=>do
     Zw self1 C15 Xx14 Xx28.1 Xx28.2
    ) (do
    Zw self1 C15 Xx14 Xx28.1 Xx28.2
    )
   ) (do
   M.pure (.inr Xx14)
   )
def ZU (C10:Option Addr) (C11:Int):M (Value ⊕ (Int)):=do
 M.loop (JU C10 C11) 0
def ZV (C5:Option Addr) (C6:Int):M (Value ⊕ (Int)):=do
 let Xx8←nilP C5
 let Xx9←ldI .i64 ((Xx8).add 1)
 let Xx46←Kc C5
 let Xx47←Vc Xx46
 let Xx48←M.ite (!Xx47) (do
  M.pure true
  ) (do
  let Xx49←M.ite (decide (Xx9 > C6)) (do
   let Xx50←Kc C5
   M.pure (Xx50 == 48)
   ) (do
   M.pure false
   )
  M.pure Xx49
  )
 M.ite Xx48 (do
  thr (Kk C5) fun Xx51=>do
   ZU C5 C6
  ) (do
  ZU C5 C6
  )
def Zy (x0:Option Addr):M (Value ⊕ (Int)):=do
 let Xx3←nilP x0
 let Xx4←ldI .i64 ((Xx3).add 1)
 let Xx53←Kc x0
 M.ite (Xx53 == 45) (do
  let Xx54←nilP x0
  let Xx55←ldI .i64 ((Xx54).add 1)
  let Xx56←nilP x0
  stV ((Xx56).add 1) (.int .i64 (IntKind.wrap .i64 (Xx55+1)))
  ZV x0 Xx4
  ) (do
  ZV x0 Xx4
  )
theorem Vv (x0:Option Addr):Yi Go.Proofs.Tryz.prog 242 #[.pointer x0] (fun (r:Int)=>.int .i64 r) (Zy x0):=by
 refine Vf [(0,.pointer x0)] Go.Proofs.Tryz.func242 rfl rfl (Nat.le_of_ble_eq_true rfl) (VP ⟨rfl,trivial⟩) (fun w0 w Q R X a hret hthr hE hR H=>?_)
 unfold Zy at H
 refine KW (fun K hK_1=>?_)
 refine KD ?_
 refine KC (v:=.int .i64 0) rfl rfl hE rfl (KZ hE rfl) (fun a hE=>?_)
 refine KV ?_
 refine hK_1 _ _ ?_
 refine KW (fun K hK_2=>?_)
 refine KD ?_
 refine KC (v:=.pointer x0) rfl rfl hE rfl (KE hE rfl) (fun a hE=>?_)
 obtain ⟨Xx3,qXx3,H⟩:=H
 refine KC (v:=.pointer (some Xx3)) rfl rfl hE rfl (KJ hE (Zr rfl (congrArg Value.pointer qXx3))) (fun a hE=>?_)
 refine KC (v:=.pointer (some ((Xx3).add 1))) rfl rfl hE rfl (KH hE rfl ZD) (fun a hE=>?_)
 obtain ⟨Xx4,qXx4,H⟩:=H
 refine KC (v:=.int .i64 Xx4) rfl rfl hE rfl (ZA hE rfl sc3 qXx4) (fun a hE=>?_)
 refine KC (v:=.int .i64 Xx4) rfl rfl hE rfl (KZ hE rfl) (fun a hE=>?_)
 refine KV ?_
 refine hK_2 _ _ ?_
 refine JD (fun a w=>Env (⟨76,[]⟩:Frm) a [(0,.pointer x0),(3,.int .i64 Xx4)]∧Rest w0 w∧(ZV x0 Xx4).wp w.heap Q) ?_ ?_
 ·rintro a w ⟨hE,hR,H⟩
  unfold ZV at H
  refine KW (fun K hK_7=>?_)
  refine KD ?_
  refine KC (v:=.pointer x0) rfl rfl hE rfl (KE hE rfl) (fun a hE=>?_)
  obtain ⟨Xx8,qXx8,H⟩:=H
  refine KC (v:=.pointer (some Xx8)) rfl rfl hE rfl (KJ hE (Zr rfl (congrArg Value.pointer qXx8))) (fun a hE=>?_)
  refine KC (v:=.pointer (some ((Xx8).add 1))) rfl rfl hE rfl (KH hE rfl ZD) (fun a hE=>?_)
  obtain ⟨Xx9,qXx9,H⟩:=H
  refine KC (v:=.int .i64 Xx9) rfl rfl hE rfl (ZA hE rfl sc3 qXx9) (fun a hE=>?_)
  refine KC (v:=.int .i64 Xx4) rfl rfl hE rfl (KE hE rfl) (fun a hE=>?_)
  refine KC (v:=.bool (decide (Xx9 > Xx4))) rfl rfl hE rfl (ZC hE rfl rfl Kz KBy) (fun a hE=>?_)
  refine KC (v:=.bool (decide (Xx9 > Xx4))) rfl rfl hE rfl (KZ hE rfl) (fun a hE=>?_)
  refine KV ?_
  refine hK_7 _ _ ?_
  refine JD (fun a w=>Env (⟨76,[]⟩:Frm) a [(0,.pointer x0),(3,.int .i64 Xx4)]∧Rest w0 w∧(ZU x0 Xx4).wp w.heap Q) ?_ ?_
  ·rintro a w ⟨hE,hR,H⟩
   unfold ZU at H
   refine KW (fun K hK_12=>?_)
   refine KD ?_
   refine KC (v:=.int .i64 0) rfl rfl hE rfl (KZ hE rfl) (fun a hE=>?_)
   refine KV ?_
   refine hK_12 _ _ ?_
   refine KW (fun K hK_13=>?_)
   refine V7 ?_
   refine KB0 (fun (s:Int)=>(⟨76,[]⟩:Frm)) (fun (s:Int)=>[(0,.pointer x0),(3,.int .i64 Xx4),(5,.int .i64 s)]) H (hE.cut (.cons rfl (.cons rfl (.cons rfl Subs.nil)))) hR (fun Y self1 hY_17 Xx14 a w hE hR H=>?_)
   replace hE:Env (⟨76,[]⟩:Frm) a [(0,.pointer x0),(3,.int .i64 Xx4),(5,.int .i64 Xx14)]:=hE
   replace H:(JU x0 Xx4 self1 Xx14).wp w.heap Q:=H
   unfold JU at H
   refine KW (fun K hK_18=>?_)
   refine KW (fun K hK_19=>?_)
   refine KD ?_
   refine KC (v:=.pointer x0) rfl rfl hE rfl (KE hE rfl) (fun a hE=>?_)
   refine J5 hE hR Ke rfl (Kl x0) (M.unbind H) (fun Xx20 a w ea hR H=>?_)
   have hE:=Env.put_some hE rfl ea; clear ea
   refine J5 hE hR Ya rfl (XL Xx20) (M.unbind H) (fun Xx21 a w ea hR H=>?_)
   have hE:=Env.put_some hE rfl ea; clear ea
   refine KV ?_
   refine hK_19 _ _ ?_
   refine Z6 Xx21 hE rfl (fun hb=>?_) (fun hb=>?_)
   ·replace H:=M.ite_t hb H
    refine Jp ?_
    refine hK_18 _ _ ?_
    refine V7 ?_
    refine KW (fun K hK_22=>?_)
    obtain ⟨Xx23,qXx23,H⟩:=H
    obtain ⟨Xx24,qXx24,H⟩:=H
    obtain ⟨Xx25,qXx25,H⟩:=H
    obtain ⟨Xx26,qXx26,H⟩:=H
    obtain ⟨Xx27,qXx27,H⟩:=H
    refine XR (rops:=KF7) (by kernel_rfl) ?_
    have hT:Tab KF7 _ _ _:=Wv KJf rfl (by kernel_rfl)
    have hM:=TabM.of KHe
    refine Ue (m:=17) (fun w:World=>(fun h:Heap=>(KM h ((Xx23).add 0)=some (.string Xx25))∧(KM h ((Xx24).add 1)=some (.int .i64 Xx26))) w.heap) [10,11,12,13,14,15,16] (unb 17 0) mo hR (by kernel_rfl) (by kernel_rfl) (fun w' e=>by rw [e]; exact ⟨qXx25,qXx26⟩) (fun w hh hR hs=>?_)
    replace H:=M.at hh H; clear hh
    refine KB (i:=0) (v:=.pointer x0) (unb 17 1) rfl rfl hT (anyM hM (by kernel_rfl)) hE rfl (KA rfl) (fun w=>KE hE rfl) (fun a hE=>?_)
    refine KB (i:=1) (v:=.pointer (some Xx23)) (unb 17 3) rfl rfl hT (anyM hM (by kernel_rfl)) hE rfl (KA rfl) (fun w=>KJ hE (Zr rfl (congrArg Value.pointer qXx23))) (fun a hE=>?_)
    refine KB (i:=2) (v:=.pointer (some ((Xx23).add 0))) (unb 17 7) rfl rfl hT (anyM hM (by kernel_rfl)) hE rfl (KA rfl) (fun w=>KH hE rfl WJ) (fun a hE=>?_)
    refine KB (i:=4) (v:=.int .i64 Xx4) (unb 17 23) rfl rfl hT (anyM hM (by kernel_rfl)) hE rfl (KA rfl) (fun w=>KE hE rfl) (fun a hE=>?_)
    refine KB (i:=5) (v:=.pointer x0) (unb 17 55) rfl rfl hT (anyM hM (by kernel_rfl)) hE rfl (KA rfl) (fun w=>KE hE rfl) (fun a hE=>?_)
    refine KB (i:=6) (v:=.pointer (some Xx24)) (unb 17 119) rfl rfl hT (anyM hM (by kernel_rfl)) hE rfl (KA rfl) (fun w=>KJ hE (Zr rfl (congrArg Value.pointer qXx24))) (fun a hE=>?_)
    refine KB (i:=7) (v:=.pointer (some ((Xx24).add 1))) (unb 17 247) rfl rfl hT (anyM hM (by kernel_rfl)) hE rfl (KA rfl) (fun w=>KH hE rfl ZD) (fun a hE=>?_)
    refine Je (i:=3) (v:=.string Xx25) (unb 17 255) rfl rfl hT (VQ hM (by kernel_rfl)) hE rfl (KA rfl) hs (fun w s=>ZA hE rfl sc9 s.1) (fun a hE=>?_)
    refine Je (i:=8) (v:=.int .i64 Xx26) (unb 17 511) rfl rfl hT (VQ hM (by kernel_rfl)) hE rfl (KA rfl) hs (fun w s=>ZA hE rfl sc3 s.2) (fun a hE=>?_)
    refine KB (i:=9) (v:=.int .i64 (IntKind.wrap .i64 (Xx26+1))) (unb 17 1023) rfl rfl hT (anyM hM (by kernel_rfl)) hE rfl (KA rfl) (fun w=>ZC hE rfl rfl Kz Xf) (fun a hE=>?_)
    refine KB (i:=10) (v:=.string Xx27) (unb 17 2047) rfl rfl hT (anyM hM (by kernel_rfl)) hE rfl (KA rfl) (fun w=>zE hE rfl rfl rfl un9 qXx27) (fun a hE=>?_)
    refine KFc (i:=11) (unb 17 4095) rfl rfl rfl hT (oneM hM (by kernel_rfl)) rfl hE hR (KA rfl) KCL rfl (Y2) (M.unbind H) (fun Xx28 a w ea hR H=>?_)
    have hE:=Env.put_some hE rfl ea; clear ea
    refine KB (i:=12) (v:=.tuple #[.int .i64 Xx28.1,.int .i64 Xx28.2]) (unb 17 8191) rfl rfl hT (anyM hM (by kernel_rfl)) hE rfl (KA rfl) (fun w=>KE hE rfl) (fun a hE=>?_)
    refine KB (i:=13) (v:=.int .i64 Xx28.1) (unb 17 16383) rfl rfl hT (anyM hM (by kernel_rfl)) hE rfl (KA rfl) (fun w=>J4 hE rfl rfl) (fun a hE=>?_)
    refine KB (i:=14) (v:=.int .i64 Xx28.2) (unb 17 32767) rfl rfl hT (anyM hM (by kernel_rfl)) hE rfl (KA rfl) (fun w=>J4 hE rfl rfl) (fun a hE=>?_)
    refine KB (i:=15) (v:=.int .i64 Xx28.1) (unb 17 65535) rfl rfl hT (anyM hM (by kernel_rfl)) hE rfl (KA rfl) (fun w=>KZ hE rfl) (fun a hE=>?_)
    refine KB (i:=16) (v:=.int .i64 Xx28.2) (unb 17 131071) rfl rfl hT (anyM hM (by kernel_rfl)) hE rfl (KA rfl) (fun w=>KZ hE rfl) (fun a hE=>?_)
    refine WO hT (Nv hM (by kernel_rfl)) ?_
    refine hK_22 _ _ ?_
    refine JD (fun a w=>Env (⟨76,[]⟩:Frm) a [(0,.pointer x0),(3,.int .i64 Xx4),(5,.int .i64 Xx14),(6,.int .i64 Xx28.1),(7,.int .i64 Xx28.2)]∧Rest w0 w∧(Zw self1 x0 Xx14 Xx28.1 Xx28.2).wp w.heap Q) ?_ ?_
    ·rintro a w ⟨hE,hR,H⟩
     unfold Zw at H
     refine KW (fun K hK_34=>?_)
     refine KW (fun K hK_35=>?_)
     refine KD ?_
     refine KC (v:=.int .i64 Xx28.2) rfl rfl hE rfl (KE hE rfl) (fun a hE=>?_)
     refine KC (v:=.bool (Xx28.2 != 0)) rfl rfl hE rfl (ZC hE rfl rfl Kz KBx) (fun a hE=>?_)
     refine KV ?_
     refine hK_35 _ _ ?_
     refine Z6 (Xx28.2 != 0) hE rfl (fun hb=>?_) (fun hb=>?_)
     ·replace H:=M.ite_t hb H
      refine KW (fun K hK_36=>?_)
      refine KD ?_
      refine KC (v:=.int .i64 Xx14) rfl rfl hE rfl (KE hE rfl) (fun a hE=>?_)
      refine KC (v:=.int .i64 Xx14) rfl rfl hE rfl (KZ hE rfl) (fun a hE=>?_)
      refine KV ?_
      refine hK_36 _ _ ?_
      refine Ve ?_
      exact hret _ _ _ Xx14 _ hE hR (Zq hE rfl (RV.tmp rfl RV.nil)) rfl H
     ·replace H:=M.ite_f hb H
      refine Jp ?_
      refine hK_34 _ _ ?_
      refine KW (fun K hK_37=>?_)
      refine KD ?_
      refine KC (v:=.int .i64 Xx28.1) rfl rfl hE rfl (KE hE rfl) (fun a hE=>?_)
      refine KC (v:=.int .i64 Xx28.1) rfl rfl hE rfl (KZ hE rfl) (fun a hE=>?_)
      refine KV ?_
      refine hK_37 _ _ ?_
      refine KD ?_
      refine KC (v:=.pointer x0) rfl rfl hE rfl (KE hE rfl) (fun a hE=>?_)
      obtain ⟨Xx38,qXx38,H⟩:=H
      refine KC (v:=.pointer (some Xx38)) rfl rfl hE rfl (KJ hE (Zr rfl (congrArg Value.pointer qXx38))) (fun a hE=>?_)
      refine KC (v:=.pointer (some ((Xx38).add 1))) rfl rfl hE rfl (KH hE rfl ZD) (fun a hE=>?_)
      obtain ⟨Xx39,qXx39,H⟩:=H
      refine KC (v:=.int .i64 Xx39) rfl rfl hE rfl (ZA hE rfl sc3 qXx39) (fun a hE=>?_)
      refine KC (v:=.int .i64 (IntKind.wrap .i64 (Xx39+1))) rfl rfl hE rfl (ZC hE rfl rfl Kz Xf) (fun a hE=>?_)
      obtain ⟨Xx40,qXx40,H⟩:=H
      refine KC (v:=.pointer (some Xx40)) rfl rfl hE rfl (KJ hE (Zr rfl (congrArg Value.pointer qXx40))) (fun a hE=>?_)
      refine KC (v:=.pointer (some ((Xx40).add 1))) rfl rfl hE rfl (KH hE rfl ZD) (fun a hE=>?_)
      obtain ⟨u_41,qu_41,H⟩:=H
      refine UK rfl rfl hE hR (ZZ hE rfl rfl sz3 qu_41) (fun a w hE hR hh=>?_)
      replace H:=M.at hh H; clear hh
      refine KV ?_
      exact hY_17 Xx28.1 _ _ (hE.cut (.cons rfl (.cons rfl (.cons rfl Subs.nil)))) hR H
    ·skip
     refine KW (fun K hK_42=>?_)
     refine KD ?_
     refine KC (v:=.int .i64 Xx28.2) rfl rfl hE rfl (KE hE rfl) (fun a hE=>?_)
     refine KC (v:=.bool (Xx28.2 == 7)) rfl rfl hE rfl (ZC hE rfl rfl Kz Yj) (fun a hE=>?_)
     refine KV ?_
     refine hK_42 _ _ ?_
     refine Z6 (Xx28.2 == 7) hE rfl (fun hb=>?_) (fun hb=>?_)
     ·replace H:=M.ite_t hb H
      refine KD ?_
      refine KC (v:=.pointer x0) rfl rfl hE rfl (KE hE rfl) (fun a hE=>?_)
      refine Zx hE hR Ko rfl (Kv x0) H (fun _ _ hR HQ=>Xu.ne rfl (Xu.ne rfl (hthr _ _ hR HQ))) (fun Xx43 a w ea hR H=>?_)
      have hE:=Env.put_some hE rfl ea; clear ea
      refine KV ?_
      exact ⟨hE.cut (.cons rfl (.cons rfl (.cons rfl (.cons rfl (.cons rfl Subs.nil))))),hR,H⟩
     ·replace H:=M.ite_f hb H
      refine Jp ?_
      exact ⟨hE.cut (.cons rfl (.cons rfl (.cons rfl (.cons rfl (.cons rfl Subs.nil))))),hR,H⟩
   ·replace H:=M.ite_f hb H
    refine KBt ?_
    refine Xu.same ?_
    refine hK_13 _ _ ?_
    refine KW (fun K hK_44=>?_)
    refine KD ?_
    refine KC (v:=.int .i64 Xx14) rfl rfl hE rfl (KE hE rfl) (fun a hE=>?_)
    refine KC (v:=.int .i64 Xx14) rfl rfl hE rfl (KZ hE rfl) (fun a hE=>?_)
    refine KV ?_
    refine hK_44 _ _ ?_
    refine Ve ?_
    exact hret _ _ _ Xx14 _ hE hR (Zq hE rfl (RV.tmp rfl RV.nil)) rfl H
  ·skip
   refine KW (fun K hK_45=>?_)
   refine KD ?_
   refine KC (v:=.pointer x0) rfl rfl hE rfl (KE hE rfl) (fun a hE=>?_)
   refine J5 hE hR Ke rfl (Kl x0) (M.unbind H) (fun Xx46 a w ea hR H=>?_)
   have hE:=Env.put_some hE rfl ea; clear ea
   refine J5 hE hR Ya rfl (XL Xx46) (M.unbind H) (fun Xx47 a w ea hR H=>?_)
   have hE:=Env.put_some hE rfl ea; clear ea
   refine KC (v:=.bool (!Xx47)) rfl rfl hE rfl (r_un hE rfl KG8) (fun a hE=>?_)
   refine KC (v:=.bool (!Xx47)) rfl rfl hE rfl (KE hE rfl) (fun a hE=>?_)
   refine KBz (n:=(⟨76,[]⟩:Frm)) (w0:=w0) 7 (fun Xx48:Bool=>[(0,.pointer x0),(3,.int .i64 Xx4),(39,.bool Xx48)]) (M.unbind H) (fun Kr hKr H=>?_) ?_
   ·rcases Ud (!Xx47) with hb | hb
    ·replace H:=M.ite_t hb H
     have hE:=hE.reb 32 (!Xx47) true hb rfl
     refine XW rfl hE rfl rfl rfl (fun a ea=>?_)
     have hE:=Env.put_some hE rfl ea; clear ea
     refine XW rfl hE rfl rfl rfl (fun a ea=>?_)
     have hE:=Env.put_some hE rfl ea; clear ea
     refine KDt rfl hE rfl rfl (fun b hb=>by cases hb) (fun a ea=>?_)
     have hE:=Env.put_some hE rfl ea; clear ea
     refine KDt rfl hE rfl rfl (fun b hb=>by cases hb) (fun a ea=>?_)
     have hE:=Env.put_some hE rfl ea; clear ea
     refine KDt rfl hE rfl rfl (fun b hb=>by cases hb) (fun a ea=>?_)
     have hE:=Env.put_some hE rfl ea; clear ea
     refine XW rfl hE rfl rfl rfl (fun a ea=>?_)
     have hE:=Env.put_some hE rfl ea; clear ea
     refine KC rfl rfl hE rfl (Jd hE rfl rfl) (fun a hE=>?_)
     refine KV ?_
     exact hKr _ _ _ (hE.cut (.cons rfl (.cons rfl (.cons rfl Subs.nil)))) hR H
    ·replace H:=M.ite_f hb H
     have hE:=hE.reb 32 (!Xx47) false hb rfl
     refine t_on rfl hE rfl rfl rfl ?_
     refine KC (v:=.bool (decide (Xx9 > Xx4))) rfl rfl hE rfl (KE hE rfl) (fun a hE=>?_)
     refine t_on rfl hE rfl rfl rfl ?_
     refine KC (v:=.bool (decide (Xx9 > Xx4))) rfl rfl hE rfl (KE hE rfl) (fun a hE=>?_)
     refine KBz (n:=(⟨76,[]⟩:Frm)) (w0:=w0) 4 (fun Xx49:Bool=>[(0,.pointer x0),(3,.int .i64 Xx4),(32,.bool false),(38,.bool Xx49)]) (M.unbind H) (fun Kr hKr H=>?_) ?_
     ·rcases Ud (decide (Xx9 > Xx4)) with hb | hb
      ·replace H:=M.ite_t hb H
       have hE:=hE.reb 34 (decide (Xx9 > Xx4)) true hb rfl
       refine t_on rfl hE rfl rfl rfl ?_
       refine KC (v:=.pointer x0) rfl rfl hE rfl (KE hE rfl) (fun a hE=>?_)
       refine t_on rfl hE rfl rfl rfl ?_
       refine J5 hE hR Ke rfl (Kl x0) (M.unbind H) (fun Xx50 a w ea hR H=>?_)
       have hE:=Env.put_some hE rfl ea; clear ea
       refine t_on rfl hE rfl rfl rfl ?_
       refine KC (v:=.bool (Xx50 == 48)) rfl rfl hE rfl (ZC hE rfl rfl Kz Yj) (fun a hE=>?_)
       refine t_on rfl hE rfl rfl rfl ?_
       refine KC rfl rfl hE rfl (Jd hE rfl rfl) (fun a hE=>?_)
       refine KV ?_
       exact hKr _ _ _ (hE.cut (.cons rfl (.cons rfl (.cons rfl (.cons rfl Subs.nil))))) hR H
      ·replace H:=M.ite_f hb H
       have hE:=hE.reb 34 (decide (Xx9 > Xx4)) false hb rfl
       refine XW rfl hE rfl rfl rfl (fun a ea=>?_)
       have hE:=Env.put_some hE rfl ea; clear ea
       refine XW rfl hE rfl rfl rfl (fun a ea=>?_)
       have hE:=Env.put_some hE rfl ea; clear ea
       refine XW rfl hE rfl rfl rfl (fun a ea=>?_)
       have hE:=Env.put_some hE rfl ea; clear ea
       refine t_on rfl hE rfl rfl rfl ?_
       refine KC rfl rfl hE rfl (Z3 hE rfl rfl) (fun a hE=>?_)
       refine KV ?_
       exact hKr _ _ _ (hE.cut (.cons rfl (.cons rfl (.cons rfl (.cons rfl Subs.nil))))) hR H
     ·intro Xx49 a w hE hR H
      refine KC rfl rfl hE rfl (Z3 hE rfl rfl) (fun a hE=>?_)
      refine KV ?_
      exact hKr _ _ _ (hE.cut (.cons rfl (.cons rfl (.cons rfl Subs.nil)))) hR H
   ·intro Xx48 a w hE hR H
    refine KV ?_
    refine hK_45 _ _ ?_
    refine Z6 Xx48 hE rfl (fun hb=>?_) (fun hb=>?_)
    ·replace H:=M.ite_t hb H
     refine KD ?_
     refine KC (v:=.pointer x0) rfl rfl hE rfl (KE hE rfl) (fun a hE=>?_)
     refine Zx hE hR Ko rfl (Kv x0) H (fun _ _ hR HQ=>hthr _ _ hR HQ) (fun Xx51 a w ea hR H=>?_)
     have hE:=Env.put_some hE rfl ea; clear ea
     refine KV ?_
     exact ⟨hE.cut (.cons rfl (.cons rfl Subs.nil)),hR,H⟩
    ·replace H:=M.ite_f hb H
     refine Jp ?_
     exact ⟨hE.cut (.cons rfl (.cons rfl Subs.nil)),hR,H⟩
 ·skip
  refine KW (fun K hK_52=>?_)
  refine KD ?_
  refine KC (v:=.pointer x0) rfl rfl hE rfl (KE hE rfl) (fun a hE=>?_)
  refine J5 hE hR Ke rfl (Kl x0) (M.unbind H) (fun Xx53 a w ea hR H=>?_)
  have hE:=Env.put_some hE rfl ea; clear ea
  refine KC (v:=.bool (Xx53 == 45)) rfl rfl hE rfl (ZC hE rfl rfl Kz Yj) (fun a hE=>?_)
  refine KV ?_
  refine hK_52 _ _ ?_
  refine Z6 (Xx53 == 45) hE rfl (fun hb=>?_) (fun hb=>?_)
  ·replace H:=M.ite_t hb H
   refine KD ?_
   refine KC (v:=.pointer x0) rfl rfl hE rfl (KE hE rfl) (fun a hE=>?_)
   obtain ⟨Xx54,qXx54,H⟩:=H
   refine KC (v:=.pointer (some Xx54)) rfl rfl hE rfl (KJ hE (Zr rfl (congrArg Value.pointer qXx54))) (fun a hE=>?_)
   refine KC (v:=.pointer (some ((Xx54).add 1))) rfl rfl hE rfl (KH hE rfl ZD) (fun a hE=>?_)
   obtain ⟨Xx55,qXx55,H⟩:=H
   refine KC (v:=.int .i64 Xx55) rfl rfl hE rfl (ZA hE rfl sc3 qXx55) (fun a hE=>?_)
   refine KC (v:=.int .i64 (IntKind.wrap .i64 (Xx55+1))) rfl rfl hE rfl (ZC hE rfl rfl Kz Xf) (fun a hE=>?_)
   obtain ⟨Xx56,qXx56,H⟩:=H
   refine KC (v:=.pointer (some Xx56)) rfl rfl hE rfl (KJ hE (Zr rfl (congrArg Value.pointer qXx56))) (fun a hE=>?_)
   refine KC (v:=.pointer (some ((Xx56).add 1))) rfl rfl hE rfl (KH hE rfl ZD) (fun a hE=>?_)
   obtain ⟨u_57,qu_57,H⟩:=H
   refine UK rfl rfl hE hR (ZZ hE rfl rfl sz3 qu_57) (fun a w hE hR hh=>?_)
   replace H:=M.at hh H; clear hh
   refine KV ?_
   exact ⟨hE.cut (.cons rfl (.cons rfl Subs.nil)),hR,H⟩
  ·replace H:=M.ite_f hb H
   refine Jp ?_
   exact ⟨hE.cut (.cons rfl (.cons rfl Subs.nil)),hR,H⟩
def JK (self1:(Int)→M (Value ⊕ (Unit))) (C11:Option Addr) (C14:Int):M (Value ⊕ (Unit)):=do
 let Xx15←nilP C11
 let Xx16←ldI .i64 ((Xx15).add 1)
 let Xx17←nilP C11
 stV ((Xx17).add 1) (.int .i64 (IntKind.wrap .i64 (Xx16+1)))
 self1 (IntKind.wrap .i64 (C14+1))
def ZM (self1:(Int)→M (Value ⊕ (Unit))) (C20:Option Addr) (C23:Int) (Xx19:Bool):M (Value ⊕ (Unit)):=do
 M.ite Xx19 (do
  thr (Kk C20) fun Xx24=>do
   JK self1 C20 C23
  ) (do
  JK self1 C20 C23
  )
noncomputable def KBW:Array Oper:=KFb Go.Proofs.Tryz.f244 3
def KGB:List (List Nat):=[[],[0],[1],[2],[],[4],[5],[6],[7],[3,8],[9],[10],[11,10],[12,10],[13,10],[10],[15,10],[16,10],[17,10],[14,18,10],[10],[10],[20,21,10],[19,22,10],[10,23]]
def KGC:List (List Nat):=[[],[0],[1],[2],[],[4],[5],[6],[7],[3,8],[9],[10],[10,11],[10,12],[10,13],[10],[10,15],[10,16],[10,17],[10,14,18],[10],[10],[10,20,21],[10,19,22],[10,23]]
def KGD:List (List Nat):=[[],[0],[0,1],[0,1,2],[],[4],[4,5],[4,5,6],[4,5,6,7],[0,1,2,3,4,5,6,7,8],[0,1,2,3,4,5,6,7,8,9],[0,1,2,3,4,5,6,7,8,9,10],[0,1,2,3,4,5,6,7,8,9,10,11],[0,1,2,3,4,5,6,7,8,9,10,11,12],[0,1,2,3,4,5,6,7,8,9,10,11,12,13],[0,1,2,3,4,5,6,7,8,9,10],[0,1,2,3,4,5,6,7,8,9,10,15],[0,1,2,3,4,5,6,7,8,9,10,15,16],[0,1,2,3,4,5,6,7,8,9,10,15,16,17],[0,1,2,3,4,5,6,7,8,9,10,11,12,13,14,15,16,17,18],[0,1,2,3,4,5,6,7,8,9,10],[0,1,2,3,4,5,6,7,8,9,10],[0,1,2,3,4,5,6,7,8,9,10,20,21],[0,1,2,3,4,5,6,7,8,9,10,11,12,13,14,15,16,17,18,19,20,21,22],[0,1,2,3,4,5,6,7,8,9,10,11,12,13,14,15,16,17,18,19,20,21,22,23]]
theorem KGE:KAB Go.Proofs.Tryz.f244 3 KGB KGC KGD=true:=by kernel_rfl
theorem KD8:KB2 25 KGB KGC KGD [0,1,2,4,0,16,32,64,128,264,512,1024,3072,5120,9216,1024,33792,66560,132096,279552,1024,1024,3146752,4719616,8389632] [0,1,2,4,0,16,32,64,128,264,512,1024,3072,5120,9216,1024,33792,66560,132096,279552,1024,1024,3146752,4719616,8389632] [0,1,3,7,0,16,48,112,240,511,1023,2047,4095,8191,16383,2047,34815,100351,231423,524287,2047,2047,3147775,8388607,16777215]=true:=by kernel_rfl
def Jn (C3:Option Addr) (C4:ByteArray) (C5:Int) (self1:(Int)→M (Value ⊕ (Unit))):(Int)→M (Value ⊕ (Unit)):=fun s=>match s with
 | Xx2=>do
  M.ite (decide (Xx2 < C5)) (do
   let Xx25←nilP C3
   let Xx26←nilP C3
   let Xx27←ldI .i64 ((Xx25).add 1)
   let Xx28←ldS ((Xx26).add 0)
   M.ite (decide (Xx27 ≥ (Xx28.size:Int))) (do
    ZM self1 C3 Xx2 true
    ) (do
    let Xx30←nilP C3
    let Xx31←nilP C3
    let Xx32←ixS C4 Xx2
    let Xx33←ldS ((Xx30).add 0)
    let Xx34←ldI .i64 ((Xx31).add 1)
    let Xx35←ixS Xx33 Xx34
    ZM self1 C3 Xx2 (Xx35 != Xx32)
    )
   ) (do
   M.pure (.inr ())
   )
def Kt (x0:Option Addr) (x1:ByteArray):M (Value ⊕ (Unit)):=do
 M.loop (Jn x0 x1 (x1.size:Int)) 0
theorem ZJ (x0:Option Addr) (x1:ByteArray):Yi Go.Proofs.Tryz.prog 244 #[.pointer x0,.string x1] (fun (r:Unit)=>.tuple #[]) (Kt x0 x1):=by
 refine Vf [(0,.pointer x0),(1,.string x1)] Go.Proofs.Tryz.func244 rfl rfl (Nat.le_of_ble_eq_true rfl) (VP ⟨rfl,rfl,trivial⟩) (fun w0 w Q R X a hret hthr hE hR H=>?_)
 unfold Kt at H
 refine KW (fun K hK_1=>?_)
 refine KD ?_
 refine KC (v:=.string x1) rfl rfl hE rfl (KE hE rfl) (fun a hE=>?_)
 refine KC (v:=.int .i64 (x1.size:Int)) rfl rfl hE rfl (Wt hE rfl un9) (fun a hE=>?_)
 refine KC (v:=.int .i64 0) rfl rfl hE rfl (KE hE rfl) (fun a hE=>?_)
 refine KV ?_
 refine hK_1 _ _ ?_
 refine V7 ?_
 refine KB0 (fun (s:Int)=>(⟨45,[]⟩:Frm)) (fun (s:Int)=>[(0,.pointer x0),(1,.string x1),(6,.int .i64 (x1.size:Int)),(7,.int .i64 s)]) H (hE.cut (.cons rfl (.cons rfl (.cons rfl (.cons rfl Subs.nil))))) hR (fun Y self1 hY_6 Xx2 a w hE hR H=>?_)
 replace hE:Env (⟨45,[]⟩:Frm) a [(0,.pointer x0),(1,.string x1),(6,.int .i64 (x1.size:Int)),(7,.int .i64 Xx2)]:=hE
 replace H:(Jn x0 x1 (x1.size:Int) self1 Xx2).wp w.heap Q:=H
 unfold Jn at H
 refine KW (fun K hK_7=>?_)
 refine KD ?_
 refine KC (v:=.bool (decide (Xx2 < (x1.size:Int)))) rfl rfl hE rfl (ZC hE rfl rfl Kz qe) (fun a hE=>?_)
 refine KV ?_
 refine hK_7 _ _ ?_
 refine KW (fun K hK_8=>?_)
 refine Z6 (decide (Xx2 < (x1.size:Int))) hE rfl (fun hb=>?_) (fun hb=>?_)
 ·replace H:=M.ite_t hb H
  refine Jp ?_
  refine hK_8 _ _ ?_
  refine KW (fun K hK_9=>?_)
  refine V7 ?_
  refine KW (fun K hK_10=>?_)
  refine KD ?_
  refine KC (v:=.int .i64 Xx2) rfl rfl hE rfl (KE hE rfl) (fun a hE=>?_)
  refine KC (v:=.int .i64 Xx2) rfl rfl hE rfl (KZ hE rfl) (fun a hE=>?_)
  refine KV ?_
  refine hK_10 _ _ ?_
  refine JD (fun a w=>Env (⟨45,[]⟩:Frm) a [(0,.pointer x0),(1,.string x1),(6,.int .i64 (x1.size:Int)),(7,.int .i64 Xx2)]∧Rest w0 w∧(JK self1 x0 Xx2).wp w.heap Q) ?_ ?_
  ·rintro a w ⟨hE,hR,H⟩
   unfold JK at H
   refine KD ?_
   refine KC (v:=.pointer x0) rfl rfl hE rfl (KE hE rfl) (fun a hE=>?_)
   obtain ⟨Xx15,qXx15,H⟩:=H
   refine KC (v:=.pointer (some Xx15)) rfl rfl hE rfl (KJ hE (Zr rfl (congrArg Value.pointer qXx15))) (fun a hE=>?_)
   refine KC (v:=.pointer (some ((Xx15).add 1))) rfl rfl hE rfl (KH hE rfl ZD) (fun a hE=>?_)
   obtain ⟨Xx16,qXx16,H⟩:=H
   refine KC (v:=.int .i64 Xx16) rfl rfl hE rfl (ZA hE rfl sc3 qXx16) (fun a hE=>?_)
   refine KC (v:=.int .i64 (IntKind.wrap .i64 (Xx16+1))) rfl rfl hE rfl (ZC hE rfl rfl Kz Xf) (fun a hE=>?_)
   obtain ⟨Xx17,qXx17,H⟩:=H
   refine KC (v:=.pointer (some Xx17)) rfl rfl hE rfl (KJ hE (Zr rfl (congrArg Value.pointer qXx17))) (fun a hE=>?_)
   refine KC (v:=.pointer (some ((Xx17).add 1))) rfl rfl hE rfl (KH hE rfl ZD) (fun a hE=>?_)
   obtain ⟨u_18,qu_18,H⟩:=H
   refine UK rfl rfl hE hR (ZZ hE rfl rfl sz3 qu_18) (fun a w hE hR hh=>?_)
   replace H:=M.at hh H; clear hh
   refine KV ?_
   refine hK_9 _ _ ?_
   refine KD ?_
   refine KC (v:=.int .i64 (IntKind.wrap .i64 (Xx2+1))) rfl rfl hE rfl (ZC hE rfl rfl Kz Xf) (fun a hE=>?_)
   refine KC (v:=.int .i64 (IntKind.wrap .i64 (Xx2+1))) rfl rfl hE rfl (KE hE rfl) (fun a hE=>?_)
   refine KV ?_
   exact hY_6 (IntKind.wrap .i64 (Xx2+1)) _ _ (hE.cut (.cons rfl (.cons rfl (.cons rfl (.cons rfl Subs.nil))))) hR H
  ·skip
   refine JD (fun a w=>∃ (Xx19:Bool),Env (⟨45,[]⟩:Frm) a [(0,.pointer x0),(1,.string x1),(6,.int .i64 (x1.size:Int)),(7,.int .i64 Xx2),(34,.bool Xx19)]∧Rest w0 w∧(ZM self1 x0 Xx2 Xx19).wp w.heap Q) ?_ ?_
   ·rintro a w ⟨Xx19,hE,hR,H⟩
    unfold ZM at H
    refine Z6 Xx19 hE rfl (fun hb=>?_) (fun hb=>?_)
    ·replace H:=M.ite_t hb H
     refine KD ?_
     refine KC (v:=.pointer x0) rfl rfl hE rfl (KE hE rfl) (fun a hE=>?_)
     refine Zx hE hR Ko rfl (Kv x0) H (fun _ _ hR HQ=>Xu.ne rfl (Xu.ne rfl (hthr _ _ hR HQ))) (fun Xx24 a w ea hR H=>?_)
     have hE:=Env.put_some hE rfl ea; clear ea
     refine KV ?_
     exact ⟨hE.cut (.cons rfl (.cons rfl (.cons rfl (.cons rfl Subs.nil)))),hR,H⟩
    ·replace H:=M.ite_f hb H
     refine Jp ?_
     exact ⟨hE.cut (.cons rfl (.cons rfl (.cons rfl (.cons rfl Subs.nil)))),hR,H⟩
   ·skip
    obtain ⟨Xx25,qXx25,H⟩:=H
    obtain ⟨Xx26,qXx26,H⟩:=H
    obtain ⟨Xx27,qXx27,H⟩:=H
    obtain ⟨Xx28,qXx28,H⟩:=H
    rcases Ud (decide (Xx27 ≥ (Xx28.size:Int))) with hb_29 | hb_29
    ·replace H:=M.ite_t hb_29 H
     refine XR (rops:=KBW) (by kernel_rfl) ?_
     have hT:Tab KBW _ _ _:=Wv KGE rfl (by kernel_rfl)
     have hM:=TabM.of KD8
     refine Ue (m:=25) (fun w:World=>(fun h:Heap=>(KM h ((Xx25).add 1)=some (.int .i64 Xx27))∧(KM h ((Xx26).add 0)=some (.string Xx28))) w.heap) [9,10,11,12,13,14,15,16,17,18,19,20,21,22,23,24] (unb 25 0) mo hR (by kernel_rfl) (by kernel_rfl) (fun w' e=>by rw [e]; exact ⟨qXx27,qXx28⟩) (fun w hh hR hs=>?_)
     replace H:=M.at hh H; clear hh
     refine KB (i:=0) (v:=.pointer x0) (unb 25 1) rfl rfl hT (anyM hM (by kernel_rfl)) hE rfl (KA rfl) (fun w=>KE hE rfl) (fun a hE=>?_)
     refine KB (i:=1) (v:=.pointer (some Xx25)) (unb 25 3) rfl rfl hT (anyM hM (by kernel_rfl)) hE rfl (KA rfl) (fun w=>KJ hE (Zr rfl (congrArg Value.pointer qXx25))) (fun a hE=>?_)
     refine KB (i:=2) (v:=.pointer (some ((Xx25).add 1))) (unb 25 7) rfl rfl hT (anyM hM (by kernel_rfl)) hE rfl (KA rfl) (fun w=>KH hE rfl ZD) (fun a hE=>?_)
     refine KB (i:=4) (v:=.pointer x0) (unb 25 23) rfl rfl hT (anyM hM (by kernel_rfl)) hE rfl (KA rfl) (fun w=>KE hE rfl) (fun a hE=>?_)
     refine KB (i:=5) (v:=.pointer (some Xx26)) (unb 25 55) rfl rfl hT (anyM hM (by kernel_rfl)) hE rfl (KA rfl) (fun w=>KJ hE (Zr rfl (congrArg Value.pointer qXx26))) (fun a hE=>?_)
     refine KB (i:=6) (v:=.pointer (some ((Xx26).add 0))) (unb 25 119) rfl rfl hT (anyM hM (by kernel_rfl)) hE rfl (KA rfl) (fun w=>KH hE rfl WJ) (fun a hE=>?_)
     refine Je (i:=3) (v:=.int .i64 Xx27) (unb 25 127) rfl rfl hT (VQ hM (by kernel_rfl)) hE rfl (KA rfl) hs (fun w s=>ZA hE rfl sc3 s.1) (fun a hE=>?_)
     refine Je (i:=7) (v:=.string Xx28) (unb 25 255) rfl rfl hT (VQ hM (by kernel_rfl)) hE rfl (KA rfl) hs (fun w s=>ZA hE rfl sc9 s.2) (fun a hE=>?_)
     refine KB (i:=8) (v:=.int .i64 (Xx28.size:Int)) (unb 25 511) rfl rfl hT (anyM hM (by kernel_rfl)) hE rfl (KA rfl) (fun w=>Wt hE rfl un9) (fun a hE=>?_)
     refine KB (i:=9) (v:=.bool (decide (Xx27 ≥ (Xx28.size:Int)))) (unb 25 1023) rfl rfl hT (anyM hM (by kernel_rfl)) hE rfl (KA rfl) (fun w=>ZC hE rfl rfl Kz q8) (fun a hE=>?_)
     refine KB (i:=10) (v:=.bool (decide (Xx27 ≥ (Xx28.size:Int)))) (unb 25 2047) rfl rfl hT (anyM hM (by kernel_rfl)) hE rfl (KA rfl) (fun w=>KE hE rfl) (fun a hE=>?_)
     have hE:=hE.reb 20 (decide (Xx27 ≥ (Xx28.size:Int))) true hb_29 rfl
     replace hE:=hE.cut (l':=[(0,.pointer x0),(1,.string x1),(6,.int .i64 (x1.size:Int)),(7,.int .i64 Xx2),(4,.int .i64 Xx2),(20,.bool true)]) (.cons rfl (.cons rfl (.cons rfl (.cons rfl (.cons rfl (.cons rfl Subs.nil))))))
     refine NE [(11,some 21),(12,some 22),(13,some 23),(14,some 24),(15,some 25),(16,some 26),(17,some 27),(18,some 28),(19,some 29),(20,some 30),(21,some 31),(22,some 32),(23,some 33)] 1 hT hM hE (by kernel_rfl) (m':=16777215) (by kernel_rfl) (fun a hE=>?_)
     refine KB (i:=24) (v:=.bool true) (unb 25 33554431) rfl rfl hT (anyM hM (by kernel_rfl)) hE rfl (KA rfl) (fun w=>Jd hE rfl rfl) (fun a hE=>?_)
     refine WO hT (Nv hM (by kernel_rfl)) ?_
     exact ⟨true,hE.cut (.cons rfl (.cons rfl (.cons rfl (.cons rfl (.cons rfl Subs.nil))))),hR,H⟩
    ·replace H:=M.ite_f hb_29 H
     obtain ⟨Xx30,qXx30,H⟩:=H
     obtain ⟨Xx31,qXx31,H⟩:=H
     obtain ⟨Xx32,qXx32,H⟩:=H
     obtain ⟨Xx33,qXx33,H⟩:=H
     obtain ⟨Xx34,qXx34,H⟩:=H
     obtain ⟨Xx35,qXx35,H⟩:=H
     refine XR (rops:=KBW) (by kernel_rfl) ?_
     have hT:Tab KBW _ _ _:=Wv KGE rfl (by kernel_rfl)
     have hM:=TabM.of KD8
     refine Ue (m:=25) (fun w:World=>(fun h:Heap=>(KM h ((Xx25).add 1)=some (.int .i64 Xx27))∧(KM h ((Xx26).add 0)=some (.string Xx28))∧(KM h ((Xx30).add 0)=some (.string Xx33))∧(KM h ((Xx31).add 1)=some (.int .i64 Xx34))) w.heap) [19,23,24] (unb 25 0) mo hR (by kernel_rfl) (by kernel_rfl) (fun w' e=>by rw [e]; exact ⟨qXx27,qXx28,qXx33,qXx34⟩) (fun w hh hR hs=>?_)
     replace H:=M.at hh H; clear hh
     refine KB (i:=0) (v:=.pointer x0) (unb 25 1) rfl rfl hT (anyM hM (by kernel_rfl)) hE rfl (KA rfl) (fun w=>KE hE rfl) (fun a hE=>?_)
     refine KB (i:=1) (v:=.pointer (some Xx25)) (unb 25 3) rfl rfl hT (anyM hM (by kernel_rfl)) hE rfl (KA rfl) (fun w=>KJ hE (Zr rfl (congrArg Value.pointer qXx25))) (fun a hE=>?_)
     refine KB (i:=2) (v:=.pointer (some ((Xx25).add 1))) (unb 25 7) rfl rfl hT (anyM hM (by kernel_rfl)) hE rfl (KA rfl) (fun w=>KH hE rfl ZD) (fun a hE=>?_)
     refine KB (i:=4) (v:=.pointer x0) (unb 25 23) rfl rfl hT (anyM hM (by kernel_rfl)) hE rfl (KA rfl) (fun w=>KE hE rfl) (fun a hE=>?_)
     refine KB (i:=5) (v:=.pointer (some Xx26)) (unb 25 55) rfl rfl hT (anyM hM (by kernel_rfl)) hE rfl (KA rfl) (fun w=>KJ hE (Zr rfl (congrArg Value.pointer qXx26))) (fun a hE=>?_)
     refine KB (i:=6) (v:=.pointer (some ((Xx26).add 0))) (unb 25 119) rfl rfl hT (anyM hM (by kernel_rfl)) hE rfl (KA rfl) (fun w=>KH hE rfl WJ) (fun a hE=>?_)
     refine Je (i:=3) (v:=.int .i64 Xx27) (unb 25 127) rfl rfl hT (VQ hM (by kernel_rfl)) hE rfl (KA rfl) hs (fun w s=>ZA hE rfl sc3 s.1) (fun a hE=>?_)
     refine Je (i:=7) (v:=.string Xx28) (unb 25 255) rfl rfl hT (VQ hM (by kernel_rfl)) hE rfl (KA rfl) hs (fun w s=>ZA hE rfl sc9 s.2.1) (fun a hE=>?_)
     refine KB (i:=8) (v:=.int .i64 (Xx28.size:Int)) (unb 25 511) rfl rfl hT (anyM hM (by kernel_rfl)) hE rfl (KA rfl) (fun w=>Wt hE rfl un9) (fun a hE=>?_)
     refine KB (i:=9) (v:=.bool (decide (Xx27 ≥ (Xx28.size:Int)))) (unb 25 1023) rfl rfl hT (anyM hM (by kernel_rfl)) hE rfl (KA rfl) (fun w=>ZC hE rfl rfl Kz q8) (fun a hE=>?_)
     refine KB (i:=10) (v:=.bool (decide (Xx27 ≥ (Xx28.size:Int)))) (unb 25 2047) rfl rfl hT (anyM hM (by kernel_rfl)) hE rfl (KA rfl) (fun w=>KE hE rfl) (fun a hE=>?_)
     have hE:=hE.reb 20 (decide (Xx27 ≥ (Xx28.size:Int))) false hb_29 rfl
     replace hE:=hE.cut (l':=[(0,.pointer x0),(1,.string x1),(6,.int .i64 (x1.size:Int)),(7,.int .i64 Xx2),(4,.int .i64 Xx2),(20,.bool false)]) (.cons rfl (.cons rfl (.cons rfl (.cons rfl (.cons rfl (.cons rfl Subs.nil))))))
     refine KB (i:=11) (v:=.pointer x0) (unb 25 4095) rfl rfl hT (anyM hM (by kernel_rfl)) hE rfl (KU rfl hE rfl rfl rfl) (fun w=>KE hE rfl) (fun a hE=>?_)
     refine KB (i:=12) (v:=.pointer (some Xx30)) (unb 25 8191) rfl rfl hT (anyM hM (by kernel_rfl)) hE rfl (KU rfl hE rfl rfl rfl) (fun w=>KJ hE (Zr rfl (congrArg Value.pointer qXx30))) (fun a hE=>?_)
     refine KB (i:=13) (v:=.pointer (some ((Xx30).add 0))) (unb 25 16383) rfl rfl hT (anyM hM (by kernel_rfl)) hE rfl (KU rfl hE rfl rfl rfl) (fun w=>KH hE rfl WJ) (fun a hE=>?_)
     refine KB (i:=15) (v:=.pointer x0) (unb 25 49151) rfl rfl hT (anyM hM (by kernel_rfl)) hE rfl (KU rfl hE rfl rfl rfl) (fun w=>KE hE rfl) (fun a hE=>?_)
     refine KB (i:=16) (v:=.pointer (some Xx31)) (unb 25 114687) rfl rfl hT (anyM hM (by kernel_rfl)) hE rfl (KU rfl hE rfl rfl rfl) (fun w=>KJ hE (Zr rfl (congrArg Value.pointer qXx31))) (fun a hE=>?_)
     refine KB (i:=17) (v:=.pointer (some ((Xx31).add 1))) (unb 25 245759) rfl rfl hT (anyM hM (by kernel_rfl)) hE rfl (KU rfl hE rfl rfl rfl) (fun w=>KH hE rfl ZD) (fun a hE=>?_)
     refine KB (i:=20) (v:=.string x1) (unb 25 1294335) rfl rfl hT (anyM hM (by kernel_rfl)) hE rfl (KU rfl hE rfl rfl rfl) (fun w=>KE hE rfl) (fun a hE=>?_)
     refine KB (i:=21) (v:=.int .i64 Xx2) (unb 25 3391487) rfl rfl hT (anyM hM (by kernel_rfl)) hE rfl (KU rfl hE rfl rfl rfl) (fun w=>KE hE rfl) (fun a hE=>?_)
     refine KB (i:=22) (v:=.int .u8 Xx32) (unb 25 7585791) rfl rfl hT (anyM hM (by kernel_rfl)) hE rfl (KU rfl hE rfl rfl rfl) (fun w=>KAs hE rfl rfl un9 qXx32) (fun a hE=>?_)
     refine Je (i:=14) (v:=.string Xx33) (unb 25 7602175) rfl rfl hT (VQ hM (by kernel_rfl)) hE rfl (KU rfl hE rfl rfl rfl) hs (fun w s=>ZA hE rfl sc9 s.2.2.1) (fun a hE=>?_)
     refine Je (i:=18) (v:=.int .i64 Xx34) (unb 25 7864319) rfl rfl hT (VQ hM (by kernel_rfl)) hE rfl (KU rfl hE rfl rfl rfl) hs (fun w s=>ZA hE rfl sc3 s.2.2.2) (fun a hE=>?_)
     refine KB (i:=19) (v:=.int .u8 Xx35) (unb 25 8388607) rfl rfl hT (anyM hM (by kernel_rfl)) hE rfl (KU rfl hE rfl rfl rfl) (fun w=>KAs hE rfl rfl un9 qXx35) (fun a hE=>?_)
     refine KB (i:=23) (v:=.bool (Xx35 != Xx32)) (unb 25 16777215) rfl rfl hT (anyM hM (by kernel_rfl)) hE rfl (KU rfl hE rfl rfl rfl) (fun w=>ZC hE rfl rfl Kz KBx) (fun a hE=>?_)
     refine KB (i:=24) (v:=.bool (Xx35 != Xx32)) (unb 25 33554431) rfl rfl hT (anyM hM (by kernel_rfl)) hE rfl (KA rfl) (fun w=>Z3 hE rfl rfl) (fun a hE=>?_)
     refine WO hT (Nv hM (by kernel_rfl)) ?_
     exact ⟨Xx35 != Xx32,hE.cut (.cons rfl (.cons rfl (.cons rfl (.cons rfl (.cons rfl Subs.nil))))),hR,H⟩
 ·replace H:=M.ite_f hb H
  refine KBt ?_
  refine Xu.same ?_
  exact hret _ _ _ () _ hE hR (Zq hE rfl RV.nil) rfl H
end Gx
namespace Gx
open Go
set_option linter.unusedVariables false
set_option maxRecDepth 100000
def Zk (C28:Option Addr) (C29:Int) (C30:Int):M (Value ⊕ (Int)):=do
 let Xx32←nilP C28
 let Xx33←ldI .i64 ((Xx32).add 1)
 let Xx34←nilP C28
 stV ((Xx34).add 1) (.int .i64 (IntKind.wrap .i64 (Xx33+1)))
 M.pure (.inr (IntKind.wrap .u8 (iOr .i64 (iShl .i64 C29 4) C30)))
def Kg (C38:Option Addr) (C39:Int) (C40:Int) (Xx37:Bool):M (Value ⊕ (Int)):=do
 M.ite Xx37 (do
  thr (Kk C38) fun Xx41=>do
   Zk C38 C39 C40
  ) (do
  Zk C38 C39 C40
  )
noncomputable def YT:Array Oper:=KFb Go.Proofs.Tryz.f254 11
def KD9:List (List Nat):=[[],[0],[1],[2],[],[4],[5],[6],[7],[3,8],[9],[10],[11,10],[10,12],[13,10],[14],[15,14],[16,14,14],[17],[18,17],[17,19,14],[14,20]]
def KEA:List (List Nat):=[[],[0],[1],[2],[],[4],[5],[6],[7],[3,8],[9],[10],[10,11],[10,12],[13],[14],[14,15],[14,16],[17],[17,18],[14,17,19],[14,20]]
def KEB:List (List Nat):=[[],[0],[0,1],[0,1,2],[],[4],[4,5],[4,5,6],[4,5,6,7],[0,1,2,3,4,5,6,7,8],[0,1,2,3,4,5,6,7,8,9],[0,1,2,3,4,5,6,7,8,9,10],[0,1,2,3,4,5,6,7,8,9,10,11],[0,1,2,3,4,5,6,7,8,9,10,11,12],[0,1,2,3,4,5,6,7,8,9,10,11,12,13],[0,1,2,3,4,5,6,7,8,9,10,11,12,13,14],[0,1,2,3,4,5,6,7,8,9,10,11,12,13,14,15],[0,1,2,3,4,5,6,7,8,9,10,11,12,13,14,15,16],[0,1,2,3,4,5,6,7,8,9,10,11,12,13,14,15,16,17],[0,1,2,3,4,5,6,7,8,9,10,11,12,13,14,15,16,17,18],[0,1,2,3,4,5,6,7,8,9,10,11,12,13,14,15,16,17,18,19],[0,1,2,3,4,5,6,7,8,9,10,11,12,13,14,15,16,17,18,19,20]]
theorem qo:KAB Go.Proofs.Tryz.f254 11 KD9 KEA KEB=true:=by kernel_rfl
theorem Nd:KB2 22 KD9 KEA KEB [0,1,2,4,0,16,32,64,128,264,512,1024,3072,5120,9216,16384,49152,81920,131072,393216,671744,1064960] [0,1,2,4,0,16,32,64,128,264,512,1024,3072,5120,8192,16384,49152,81920,131072,393216,671744,1064960] [0,1,3,7,0,16,48,112,240,511,1023,2047,4095,8191,16383,32767,65535,131071,262143,524287,1048575,2097151]=true:=by kernel_rfl
def Zl (C18:Option Addr) (C19:Int):M (Value ⊕ (Int)):=do
 let Xx21←nilP C18
 let Xx22←ldI .i64 ((Xx21).add 1)
 let Xx23←nilP C18
 stV ((Xx23).add 1) (.int .i64 (IntKind.wrap .i64 (Xx22+1)))
 let Xx26←Kc C18
 let Xx27←Za (⟨#[48,49,50,51,52,53,54,55,56,57,97,98,99,100,101,102]⟩:ByteArray) Xx26
 let Xx42←nilP C18
 let Xx43←nilP C18
 let Xx44←ldI .i64 ((Xx42).add 1)
 let Xx45←ldS ((Xx43).add 0)
 M.ite (decide (Xx44 ≥ (Xx45.size:Int))) (do
  Kg C18 C19 Xx27 true
  ) (do
  M.ite (decide (Xx27 < 0)) (do
   Kg C18 C19 Xx27 true
   ) (do
   M.ite (C19 == 7) (do
    Kg C18 C19 Xx27 (decide (Xx27 < 15))
    ) (do
    Kg C18 C19 Xx27 false
    )
   )
  )
def Kh (C50:Option Addr) (C51:Int) (Xx49:Bool):M (Value ⊕ (Int)):=do
 M.ite Xx49 (do
  thr (Kk C50) fun Xx52=>do
   Zl C50 C51
  ) (do
  Zl C50 C51
  )
noncomputable def Xz:Array Oper:=KFb Go.Proofs.Tryz.f254 7
def KGF:List (List Nat):=[[],[0],[1],[2],[],[4],[5],[6],[7],[3,8],[9],[10],[11,10],[10,12],[13,10],[14],[15,14],[16,14,14],[17],[18,17],[17,19,14],[14,20]]
def KGG:List (List Nat):=[[],[0],[1],[2],[],[4],[5],[6],[7],[3,8],[9],[10],[10,11],[10,12],[13],[14],[14,15],[14,16],[17],[17,18],[14,17,19],[14,20]]
def KGH:List (List Nat):=[[],[0],[0,1],[0,1,2],[],[4],[4,5],[4,5,6],[4,5,6,7],[0,1,2,3,4,5,6,7,8],[0,1,2,3,4,5,6,7,8,9],[0,1,2,3,4,5,6,7,8,9,10],[0,1,2,3,4,5,6,7,8,9,10,11],[0,1,2,3,4,5,6,7,8,9,10,11,12],[0,1,2,3,4,5,6,7,8,9,10,11,12,13],[0,1,2,3,4,5,6,7,8,9,10,11,12,13,14],[0,1,2,3,4,5,6,7,8,9,10,11,12,13,14,15],[0,1,2,3,4,5,6,7,8,9,10,11,12,13,14,15,16],[0,1,2,3,4,5,6,7,8,9,10,11,12,13,14,15,16,17],[0,1,2,3,4,5,6,7,8,9,10,11,12,13,14,15,16,17,18],[0,1,2,3,4,5,6,7,8,9,10,11,12,13,14,15,16,17,18,19],[0,1,2,3,4,5,6,7,8,9,10,11,12,13,14,15,16,17,18,19,20]]
theorem KBX:KAB Go.Proofs.Tryz.f254 7 KGF KGG KGH=true:=by kernel_rfl
theorem qp:KB2 22 KGF KGG KGH [0,1,2,4,0,16,32,64,128,264,512,1024,3072,5120,9216,16384,49152,81920,131072,393216,671744,1064960] [0,1,2,4,0,16,32,64,128,264,512,1024,3072,5120,8192,16384,49152,81920,131072,393216,671744,1064960] [0,1,3,7,0,16,48,112,240,511,1023,2047,4095,8191,16383,32767,65535,131071,262143,524287,1048575,2097151]=true:=by kernel_rfl
def JL (x0:Option Addr):M (Value ⊕ (Int)):=do
 let Xx4←Kc x0
 let Xx6←M.ite (Xx4 == 39) (do
  M.pure true
  ) (do
  M.pure (Xx4 == 92)
  )
 M.ite Xx6 (do
  let Xx8←nilP x0
  let Xx9←ldI .i64 ((Xx8).add 1)
  let Xx10←nilP x0
  stV ((Xx10).add 1) (.int .i64 (IntKind.wrap .i64 (Xx9+1)))
  M.pure (.inr Xx4)
  ) (do
  thr (Kt x0 (⟨#[120]⟩:ByteArray)) fun Xx14=>do
   let Xx16←Kc x0
   let Xx17←Za (⟨#[48,49,50,51,52,53,54,55,56,57,97,98,99,100,101,102]⟩:ByteArray) Xx16
   let Xx53←nilP x0
   let Xx54←nilP x0
   let Xx55←ldI .i64 ((Xx53).add 1)
   let Xx56←ldS ((Xx54).add 0)
   M.ite (decide (Xx55 ≥ (Xx56.size:Int))) (do
    Kh x0 Xx17 true
    ) (do
    M.ite (decide (Xx17 < 0)) (do
     Kh x0 Xx17 true
     ) (do
     M.ite (decide (Xx17 > 1)) (do
      Kh x0 Xx17 (decide (Xx17 < 7))
      ) (do
      Kh x0 Xx17 false
      )
     )
    )
  )
theorem Xe (x0:Option Addr):Yi Go.Proofs.Tryz.prog 254 #[.pointer x0] (fun (r:Int)=>.int .u8 r) (JL x0):=by
 refine Vf [(0,.pointer x0)] Go.Proofs.Tryz.func254 rfl rfl (Nat.le_of_ble_eq_true rfl) (VP ⟨rfl,trivial⟩) (fun w0 w Q R X a hret hthr hE hR H=>?_)
 unfold JL at H
 refine KW (fun K hK_1=>?_)
 refine KD ?_
 refine KC (v:=.int .u8 0) rfl rfl hE rfl (KZ hE rfl) (fun a hE=>?_)
 refine KV ?_
 refine hK_1 _ _ ?_
 refine KW (fun K hK_2=>?_)
 refine KW (fun K hK_3=>?_)
 refine KD ?_
 refine KC (v:=.pointer x0) rfl rfl hE rfl (KE hE rfl) (fun a hE=>?_)
 refine J5 hE hR Ke rfl (Kl x0) (M.unbind H) (fun Xx4 a w ea hR H=>?_)
 have hE:=Env.put_some hE rfl ea; clear ea
 refine KC (v:=.int .u8 Xx4) rfl rfl hE rfl (KZ hE rfl) (fun a hE=>?_)
 refine KV ?_
 refine hK_3 _ _ ?_
 refine KW (fun K hK_5=>?_)
 refine KD ?_
 refine KC (v:=.int .u8 Xx4) rfl rfl hE rfl (KE hE rfl) (fun a hE=>?_)
 refine KC (v:=.bool (Xx4 == 39)) rfl rfl hE rfl (ZC hE rfl rfl Kz Yj) (fun a hE=>?_)
 refine KC (v:=.bool (Xx4 == 39)) rfl rfl hE rfl (KE hE rfl) (fun a hE=>?_)
 refine KBz (n:=(⟨97,[]⟩:Frm)) (w0:=w0) 3 (fun Xx6:Bool=>[(0,.pointer x0),(3,.int .u8 Xx4),(13,.bool Xx6)]) (M.unbind H) (fun Kr hKr H=>?_) ?_
 ·rcases Ud (Xx4 == 39) with hb | hb
  ·replace H:=M.ite_t hb H
   have hE:=hE.reb 10 (Xx4 == 39) true hb rfl
   refine XW rfl hE rfl rfl rfl (fun a ea=>?_)
   have hE:=Env.put_some hE rfl ea; clear ea
   refine XW rfl hE rfl rfl rfl (fun a ea=>?_)
   have hE:=Env.put_some hE rfl ea; clear ea
   refine KC rfl rfl hE rfl (Jd hE rfl rfl) (fun a hE=>?_)
   refine KV ?_
   exact hKr _ _ _ (hE.cut (.cons rfl (.cons rfl (.cons rfl Subs.nil)))) hR H
  ·replace H:=M.ite_f hb H
   have hE:=hE.reb 10 (Xx4 == 39) false hb rfl
   refine t_on rfl hE rfl rfl rfl ?_
   refine KC (v:=.int .u8 Xx4) rfl rfl hE rfl (KE hE rfl) (fun a hE=>?_)
   refine t_on rfl hE rfl rfl rfl ?_
   refine KC (v:=.bool (Xx4 == 92)) rfl rfl hE rfl (ZC hE rfl rfl Kz Yj) (fun a hE=>?_)
   refine KC rfl rfl hE rfl (Z3 hE rfl rfl) (fun a hE=>?_)
   refine KV ?_
   exact hKr _ _ _ (hE.cut (.cons rfl (.cons rfl (.cons rfl Subs.nil)))) hR H
 ·intro Xx6 a w hE hR H
  refine KV ?_
  refine hK_5 _ _ ?_
  refine Z6 Xx6 hE rfl (fun hb=>?_) (fun hb=>?_)
  ·replace H:=M.ite_t hb H
   refine KW (fun K hK_7=>?_)
   refine KD ?_
   refine KC (v:=.pointer x0) rfl rfl hE rfl (KE hE rfl) (fun a hE=>?_)
   obtain ⟨Xx8,qXx8,H⟩:=H
   refine KC (v:=.pointer (some Xx8)) rfl rfl hE rfl (KJ hE (Zr rfl (congrArg Value.pointer qXx8))) (fun a hE=>?_)
   refine KC (v:=.pointer (some ((Xx8).add 1))) rfl rfl hE rfl (KH hE rfl ZD) (fun a hE=>?_)
   obtain ⟨Xx9,qXx9,H⟩:=H
   refine KC (v:=.int .i64 Xx9) rfl rfl hE rfl (ZA hE rfl sc3 qXx9) (fun a hE=>?_)
   refine KC (v:=.int .i64 (IntKind.wrap .i64 (Xx9+1))) rfl rfl hE rfl (ZC hE rfl rfl Kz Xf) (fun a hE=>?_)
   obtain ⟨Xx10,qXx10,H⟩:=H
   refine KC (v:=.pointer (some Xx10)) rfl rfl hE rfl (KJ hE (Zr rfl (congrArg Value.pointer qXx10))) (fun a hE=>?_)
   refine KC (v:=.pointer (some ((Xx10).add 1))) rfl rfl hE rfl (KH hE rfl ZD) (fun a hE=>?_)
   obtain ⟨u_11,qu_11,H⟩:=H
   refine UK rfl rfl hE hR (ZZ hE rfl rfl sz3 qu_11) (fun a w hE hR hh=>?_)
   replace H:=M.at hh H; clear hh
   refine KV ?_
   refine hK_7 _ _ ?_
   refine KW (fun K hK_12=>?_)
   refine KD ?_
   refine KC (v:=.int .u8 Xx4) rfl rfl hE rfl (KE hE rfl) (fun a hE=>?_)
   refine KC (v:=.int .u8 Xx4) rfl rfl hE rfl (KZ hE rfl) (fun a hE=>?_)
   refine KV ?_
   refine hK_12 _ _ ?_
   refine Ve ?_
   exact hret _ _ _ Xx4 _ hE hR (Zq hE rfl (RV.tmp rfl RV.nil)) rfl H
  ·replace H:=M.ite_f hb H
   refine Jp ?_
   refine hK_2 _ _ ?_
   refine KW (fun K hK_13=>?_)
   refine KD ?_
   refine KC (v:=.pointer x0) rfl rfl hE rfl (KE hE rfl) (fun a hE=>?_)
   refine Zx hE hR ZB rfl (ZJ x0 (⟨#[120]⟩:ByteArray)) H (fun _ _ hR HQ=>hthr _ _ hR HQ) (fun Xx14 a w ea hR H=>?_)
   have hE:=Env.put_some hE rfl ea; clear ea
   refine KV ?_
   refine hK_13 _ _ ?_
   refine KW (fun K hK_15=>?_)
   refine KD ?_
   refine KC (v:=.pointer x0) rfl rfl hE rfl (KE hE rfl) (fun a hE=>?_)
   refine J5 hE hR Ke rfl (Kl x0) (M.unbind H) (fun Xx16 a w ea hR H=>?_)
   have hE:=Env.put_some hE rfl ea; clear ea
   refine J5 hE hR Ug rfl (Um (⟨#[48,49,50,51,52,53,54,55,56,57,97,98,99,100,101,102]⟩:ByteArray) Xx16) (M.unbind H) (fun Xx17 a w ea hR H=>?_)
   have hE:=Env.put_some hE rfl ea; clear ea
   refine KC (v:=.int .i64 Xx17) rfl rfl hE rfl (KZ hE rfl) (fun a hE=>?_)
   refine KV ?_
   refine hK_15 _ _ ?_
   refine JD (fun a w=>Env (⟨97,[]⟩:Frm) a [(0,.pointer x0),(4,.int .i64 Xx17)]∧Rest w0 w∧(Zl x0 Xx17).wp w.heap Q) ?_ ?_
   ·rintro a w ⟨hE,hR,H⟩
    unfold Zl at H
    refine KW (fun K hK_20=>?_)
    refine KD ?_
    refine KC (v:=.pointer x0) rfl rfl hE rfl (KE hE rfl) (fun a hE=>?_)
    obtain ⟨Xx21,qXx21,H⟩:=H
    refine KC (v:=.pointer (some Xx21)) rfl rfl hE rfl (KJ hE (Zr rfl (congrArg Value.pointer qXx21))) (fun a hE=>?_)
    refine KC (v:=.pointer (some ((Xx21).add 1))) rfl rfl hE rfl (KH hE rfl ZD) (fun a hE=>?_)
    obtain ⟨Xx22,qXx22,H⟩:=H
    refine KC (v:=.int .i64 Xx22) rfl rfl hE rfl (ZA hE rfl sc3 qXx22) (fun a hE=>?_)
    refine KC (v:=.int .i64 (IntKind.wrap .i64 (Xx22+1))) rfl rfl hE rfl (ZC hE rfl rfl Kz Xf) (fun a hE=>?_)
    obtain ⟨Xx23,qXx23,H⟩:=H
    refine KC (v:=.pointer (some Xx23)) rfl rfl hE rfl (KJ hE (Zr rfl (congrArg Value.pointer qXx23))) (fun a hE=>?_)
    refine KC (v:=.pointer (some ((Xx23).add 1))) rfl rfl hE rfl (KH hE rfl ZD) (fun a hE=>?_)
    obtain ⟨u_24,qu_24,H⟩:=H
    refine UK rfl rfl hE hR (ZZ hE rfl rfl sz3 qu_24) (fun a w hE hR hh=>?_)
    replace H:=M.at hh H; clear hh
    refine KV ?_
    refine hK_20 _ _ ?_
    refine KW (fun K hK_25=>?_)
    refine KD ?_
    refine KC (v:=.pointer x0) rfl rfl hE rfl (KE hE rfl) (fun a hE=>?_)
    refine J5 hE hR Ke rfl (Kl x0) (M.unbind H) (fun Xx26 a w ea hR H=>?_)
    have hE:=Env.put_some hE rfl ea; clear ea
    refine J5 hE hR Ug rfl (Um (⟨#[48,49,50,51,52,53,54,55,56,57,97,98,99,100,101,102]⟩:ByteArray) Xx26) (M.unbind H) (fun Xx27 a w ea hR H=>?_)
    have hE:=Env.put_some hE rfl ea; clear ea
    refine KC (v:=.int .i64 Xx27) rfl rfl hE rfl (KZ hE rfl) (fun a hE=>?_)
    refine KV ?_
    refine hK_25 _ _ ?_
    refine JD (fun a w=>Env (⟨97,[]⟩:Frm) a [(0,.pointer x0),(4,.int .i64 Xx17),(5,.int .i64 Xx27)]∧Rest w0 w∧(Zk x0 Xx17 Xx27).wp w.heap Q) ?_ ?_
    ·rintro a w ⟨hE,hR,H⟩
     unfold Zk at H
     refine KW (fun K hK_31=>?_)
     refine KD ?_
     refine KC (v:=.pointer x0) rfl rfl hE rfl (KE hE rfl) (fun a hE=>?_)
     obtain ⟨Xx32,qXx32,H⟩:=H
     refine KC (v:=.pointer (some Xx32)) rfl rfl hE rfl (KJ hE (Zr rfl (congrArg Value.pointer qXx32))) (fun a hE=>?_)
     refine KC (v:=.pointer (some ((Xx32).add 1))) rfl rfl hE rfl (KH hE rfl ZD) (fun a hE=>?_)
     obtain ⟨Xx33,qXx33,H⟩:=H
     refine KC (v:=.int .i64 Xx33) rfl rfl hE rfl (ZA hE rfl sc3 qXx33) (fun a hE=>?_)
     refine KC (v:=.int .i64 (IntKind.wrap .i64 (Xx33+1))) rfl rfl hE rfl (ZC hE rfl rfl Kz Xf) (fun a hE=>?_)
     obtain ⟨Xx34,qXx34,H⟩:=H
     refine KC (v:=.pointer (some Xx34)) rfl rfl hE rfl (KJ hE (Zr rfl (congrArg Value.pointer qXx34))) (fun a hE=>?_)
     refine KC (v:=.pointer (some ((Xx34).add 1))) rfl rfl hE rfl (KH hE rfl ZD) (fun a hE=>?_)
     obtain ⟨u_35,qu_35,H⟩:=H
     refine UK rfl rfl hE hR (ZZ hE rfl rfl sz3 qu_35) (fun a w hE hR hh=>?_)
     replace H:=M.at hh H; clear hh
     refine KV ?_
     refine hK_31 _ _ ?_
     refine KW (fun K hK_36=>?_)
     refine KD ?_
     refine KC (v:=.int .i64 Xx17) rfl rfl hE rfl (KE hE rfl) (fun a hE=>?_)
     refine KC (v:=.int .i64 (iShl .i64 Xx17 4)) rfl rfl hE rfl (ZC hE rfl rfl Kz (KIs ⟨by decide,rfl⟩)) (fun a hE=>?_)
     refine KC (v:=.int .i64 Xx27) rfl rfl hE rfl (KE hE rfl) (fun a hE=>?_)
     refine KC (v:=.int .i64 (iOr .i64 (iShl .i64 Xx17 4) Xx27)) rfl rfl hE rfl (ZC hE rfl rfl Kz b_or) (fun a hE=>?_)
     refine KC (v:=.int .u8 (IntKind.wrap .u8 (iOr .i64 (iShl .i64 Xx17 4) Xx27))) rfl rfl hE rfl (KFT hE rfl un3 un5) (fun a hE=>?_)
     refine KC (v:=.int .u8 (IntKind.wrap .u8 (iOr .i64 (iShl .i64 Xx17 4) Xx27))) rfl rfl hE rfl (KZ hE rfl) (fun a hE=>?_)
     refine KV ?_
     refine hK_36 _ _ ?_
     refine Ve ?_
     exact hret _ _ _ (IntKind.wrap .u8 (iOr .i64 (iShl .i64 Xx17 4) Xx27)) _ hE hR (Zq hE rfl (RV.tmp rfl RV.nil)) rfl H
    ·skip
     refine JD (fun a w=>∃ (Xx37:Bool),Env (⟨97,[]⟩:Frm) a [(0,.pointer x0),(4,.int .i64 Xx17),(5,.int .i64 Xx27),(82,.bool Xx37)]∧Rest w0 w∧(Kg x0 Xx17 Xx27 Xx37).wp w.heap Q) ?_ ?_
     ·rintro a w ⟨Xx37,hE,hR,H⟩
      unfold Kg at H
      refine Z6 Xx37 hE rfl (fun hb=>?_) (fun hb=>?_)
      ·replace H:=M.ite_t hb H
       refine KD ?_
       refine KC (v:=.pointer x0) rfl rfl hE rfl (KE hE rfl) (fun a hE=>?_)
       refine Zx hE hR Ko rfl (Kv x0) H (fun _ _ hR HQ=>hthr _ _ hR HQ) (fun Xx41 a w ea hR H=>?_)
       have hE:=Env.put_some hE rfl ea; clear ea
       refine KV ?_
       exact ⟨hE.cut (.cons rfl (.cons rfl (.cons rfl Subs.nil))),hR,H⟩
      ·replace H:=M.ite_f hb H
       refine Jp ?_
       exact ⟨hE.cut (.cons rfl (.cons rfl (.cons rfl Subs.nil))),hR,H⟩
     ·skip
      obtain ⟨Xx42,qXx42,H⟩:=H
      obtain ⟨Xx43,qXx43,H⟩:=H
      obtain ⟨Xx44,qXx44,H⟩:=H
      obtain ⟨Xx45,qXx45,H⟩:=H
      rcases Ud (decide (Xx44 ≥ (Xx45.size:Int))) with hb_46 | hb_46
      ·replace H:=M.ite_t hb_46 H
       refine XR (rops:=YT) (by kernel_rfl) ?_
       have hT:Tab YT _ _ _:=Wv qo rfl (by kernel_rfl)
       have hM:=TabM.of Nd
       refine Ue (m:=22) (fun w:World=>(fun h:Heap=>(KM h ((Xx42).add 1)=some (.int .i64 Xx44))∧(KM h ((Xx43).add 0)=some (.string Xx45))) w.heap) [9,10,11,12,13,14,15,16,17,18,19,20,21] (unb 22 0) mo hR (by kernel_rfl) (by kernel_rfl) (fun w' e=>by rw [e]; exact ⟨qXx44,qXx45⟩) (fun w hh hR hs=>?_)
       replace H:=M.at hh H; clear hh
       refine KB (i:=0) (v:=.pointer x0) (unb 22 1) rfl rfl hT (anyM hM (by kernel_rfl)) hE rfl (KA rfl) (fun w=>KE hE rfl) (fun a hE=>?_)
       refine KB (i:=1) (v:=.pointer (some Xx42)) (unb 22 3) rfl rfl hT (anyM hM (by kernel_rfl)) hE rfl (KA rfl) (fun w=>KJ hE (Zr rfl (congrArg Value.pointer qXx42))) (fun a hE=>?_)
       refine KB (i:=2) (v:=.pointer (some ((Xx42).add 1))) (unb 22 7) rfl rfl hT (anyM hM (by kernel_rfl)) hE rfl (KA rfl) (fun w=>KH hE rfl ZD) (fun a hE=>?_)
       refine KB (i:=4) (v:=.pointer x0) (unb 22 23) rfl rfl hT (anyM hM (by kernel_rfl)) hE rfl (KA rfl) (fun w=>KE hE rfl) (fun a hE=>?_)
       refine KB (i:=5) (v:=.pointer (some Xx43)) (unb 22 55) rfl rfl hT (anyM hM (by kernel_rfl)) hE rfl (KA rfl) (fun w=>KJ hE (Zr rfl (congrArg Value.pointer qXx43))) (fun a hE=>?_)
       refine KB (i:=6) (v:=.pointer (some ((Xx43).add 0))) (unb 22 119) rfl rfl hT (anyM hM (by kernel_rfl)) hE rfl (KA rfl) (fun w=>KH hE rfl WJ) (fun a hE=>?_)
       refine Je (i:=3) (v:=.int .i64 Xx44) (unb 22 127) rfl rfl hT (VQ hM (by kernel_rfl)) hE rfl (KA rfl) hs (fun w s=>ZA hE rfl sc3 s.1) (fun a hE=>?_)
       refine Je (i:=7) (v:=.string Xx45) (unb 22 255) rfl rfl hT (VQ hM (by kernel_rfl)) hE rfl (KA rfl) hs (fun w s=>ZA hE rfl sc9 s.2) (fun a hE=>?_)
       refine KB (i:=8) (v:=.int .i64 (Xx45.size:Int)) (unb 22 511) rfl rfl hT (anyM hM (by kernel_rfl)) hE rfl (KA rfl) (fun w=>Wt hE rfl un9) (fun a hE=>?_)
       refine KB (i:=9) (v:=.bool (decide (Xx44 ≥ (Xx45.size:Int)))) (unb 22 1023) rfl rfl hT (anyM hM (by kernel_rfl)) hE rfl (KA rfl) (fun w=>ZC hE rfl rfl Kz q8) (fun a hE=>?_)
       refine KB (i:=10) (v:=.bool (decide (Xx44 ≥ (Xx45.size:Int)))) (unb 22 2047) rfl rfl hT (anyM hM (by kernel_rfl)) hE rfl (KA rfl) (fun w=>KE hE rfl) (fun a hE=>?_)
       have hE:=hE.reb 71 (decide (Xx44 ≥ (Xx45.size:Int))) true hb_46 rfl
       replace hE:=hE.cut (l':=[(0,.pointer x0),(4,.int .i64 Xx17),(5,.int .i64 Xx27),(71,.bool true)]) (.cons rfl (.cons rfl (.cons rfl (.cons rfl Subs.nil))))
       refine KAu (i:=11) (unb 22 4095) rfl rfl hT (anyM hM (by kernel_rfl)) (Jj rfl hE rfl rfl rfl) (fun a ea=>?_)
       have hE:=Env.put_some hE rfl ea; clear ea
       refine KAu (i:=12) (unb 22 8191) rfl rfl hT (anyM hM (by kernel_rfl)) (Jj rfl hE rfl rfl rfl) (fun a ea=>?_)
       have hE:=Env.put_some hE rfl ea; clear ea
       refine KB (i:=13) (v:=.bool true) (unb 22 16383) rfl rfl hT (anyM hM (by kernel_rfl)) hE rfl (KA rfl) (fun w=>Jd hE rfl rfl) (fun a hE=>?_)
       refine KB (i:=14) (v:=.bool true) (unb 22 32767) rfl rfl hT (anyM hM (by kernel_rfl)) hE rfl (KA rfl) (fun w=>KE hE rfl) (fun a hE=>?_)
       refine NE [(15,some 76),(16,some 77),(17,some 78),(18,some 79),(19,some 80),(20,some 81)] 1 hT hM hE (by kernel_rfl) (m':=2097151) (by kernel_rfl) (fun a hE=>?_)
       refine KB (i:=21) (v:=.bool true) (unb 22 4194303) rfl rfl hT (anyM hM (by kernel_rfl)) hE rfl (KA rfl) (fun w=>Jd hE rfl rfl) (fun a hE=>?_)
       refine WO hT (Nv hM (by kernel_rfl)) ?_
       exact ⟨true,hE.cut (.cons rfl (.cons rfl (.cons rfl (.cons rfl Subs.nil)))),hR,H⟩
      ·replace H:=M.ite_f hb_46 H
       rcases Ud (decide (Xx27 < 0)) with hb_47 | hb_47
       ·replace H:=M.ite_t hb_47 H
        refine XR (rops:=YT) (by kernel_rfl) ?_
        have hT:Tab YT _ _ _:=Wv qo rfl (by kernel_rfl)
        have hM:=TabM.of Nd
        refine Ue (m:=22) (fun w:World=>(fun h:Heap=>(KM h ((Xx42).add 1)=some (.int .i64 Xx44))∧(KM h ((Xx43).add 0)=some (.string Xx45))) w.heap) [9,10,11,12,13,14,15,16,17,18,19,20,21] (unb 22 0) mo hR (by kernel_rfl) (by kernel_rfl) (fun w' e=>by rw [e]; exact ⟨qXx44,qXx45⟩) (fun w hh hR hs=>?_)
        replace H:=M.at hh H; clear hh
        refine KB (i:=0) (v:=.pointer x0) (unb 22 1) rfl rfl hT (anyM hM (by kernel_rfl)) hE rfl (KA rfl) (fun w=>KE hE rfl) (fun a hE=>?_)
        refine KB (i:=1) (v:=.pointer (some Xx42)) (unb 22 3) rfl rfl hT (anyM hM (by kernel_rfl)) hE rfl (KA rfl) (fun w=>KJ hE (Zr rfl (congrArg Value.pointer qXx42))) (fun a hE=>?_)
        refine KB (i:=2) (v:=.pointer (some ((Xx42).add 1))) (unb 22 7) rfl rfl hT (anyM hM (by kernel_rfl)) hE rfl (KA rfl) (fun w=>KH hE rfl ZD) (fun a hE=>?_)
        refine KB (i:=4) (v:=.pointer x0) (unb 22 23) rfl rfl hT (anyM hM (by kernel_rfl)) hE rfl (KA rfl) (fun w=>KE hE rfl) (fun a hE=>?_)
        refine KB (i:=5) (v:=.pointer (some Xx43)) (unb 22 55) rfl rfl hT (anyM hM (by kernel_rfl)) hE rfl (KA rfl) (fun w=>KJ hE (Zr rfl (congrArg Value.pointer qXx43))) (fun a hE=>?_)
        refine KB (i:=6) (v:=.pointer (some ((Xx43).add 0))) (unb 22 119) rfl rfl hT (anyM hM (by kernel_rfl)) hE rfl (KA rfl) (fun w=>KH hE rfl WJ) (fun a hE=>?_)
        refine Je (i:=3) (v:=.int .i64 Xx44) (unb 22 127) rfl rfl hT (VQ hM (by kernel_rfl)) hE rfl (KA rfl) hs (fun w s=>ZA hE rfl sc3 s.1) (fun a hE=>?_)
        refine Je (i:=7) (v:=.string Xx45) (unb 22 255) rfl rfl hT (VQ hM (by kernel_rfl)) hE rfl (KA rfl) hs (fun w s=>ZA hE rfl sc9 s.2) (fun a hE=>?_)
        refine KB (i:=8) (v:=.int .i64 (Xx45.size:Int)) (unb 22 511) rfl rfl hT (anyM hM (by kernel_rfl)) hE rfl (KA rfl) (fun w=>Wt hE rfl un9) (fun a hE=>?_)
        refine KB (i:=9) (v:=.bool (decide (Xx44 ≥ (Xx45.size:Int)))) (unb 22 1023) rfl rfl hT (anyM hM (by kernel_rfl)) hE rfl (KA rfl) (fun w=>ZC hE rfl rfl Kz q8) (fun a hE=>?_)
        refine KB (i:=10) (v:=.bool (decide (Xx44 ≥ (Xx45.size:Int)))) (unb 22 2047) rfl rfl hT (anyM hM (by kernel_rfl)) hE rfl (KA rfl) (fun w=>KE hE rfl) (fun a hE=>?_)
        have hE:=hE.reb 71 (decide (Xx44 ≥ (Xx45.size:Int))) false hb_46 rfl
        replace hE:=hE.cut (l':=[(0,.pointer x0),(4,.int .i64 Xx17),(5,.int .i64 Xx27),(71,.bool false)]) (.cons rfl (.cons rfl (.cons rfl (.cons rfl Subs.nil))))
        refine KB (i:=11) (v:=.int .i64 Xx27) (unb 22 4095) rfl rfl hT (anyM hM (by kernel_rfl)) hE rfl (KU rfl hE rfl rfl rfl) (fun w=>KE hE rfl) (fun a hE=>?_)
        refine KB (i:=12) (v:=.bool (decide (Xx27 < 0))) (unb 22 8191) rfl rfl hT (anyM hM (by kernel_rfl)) hE rfl (KU rfl hE rfl rfl rfl) (fun w=>ZC hE rfl rfl Kz qe) (fun a hE=>?_)
        refine KB (i:=13) (v:=.bool (decide (Xx27 < 0))) (unb 22 16383) rfl rfl hT (anyM hM (by kernel_rfl)) hE rfl (KA rfl) (fun w=>Z3 hE rfl rfl) (fun a hE=>?_)
        refine KB (i:=14) (v:=.bool (decide (Xx27 < 0))) (unb 22 32767) rfl rfl hT (anyM hM (by kernel_rfl)) hE rfl (KA rfl) (fun w=>KE hE rfl) (fun a hE=>?_)
        have hE:=hE.reb 75 (decide (Xx27 < 0)) true hb_47 rfl
        replace hE:=hE.cut (l':=[(0,.pointer x0),(4,.int .i64 Xx17),(5,.int .i64 Xx27),(75,.bool true)]) (.cons rfl (.cons rfl (.cons rfl (.cons rfl Subs.nil))))
        refine NE [(15,some 76),(16,some 77),(17,some 78),(18,some 79),(19,some 80),(20,some 81)] 1 hT hM hE (by kernel_rfl) (m':=2097151) (by kernel_rfl) (fun a hE=>?_)
        refine KB (i:=21) (v:=.bool true) (unb 22 4194303) rfl rfl hT (anyM hM (by kernel_rfl)) hE rfl (KA rfl) (fun w=>Jd hE rfl rfl) (fun a hE=>?_)
        refine WO hT (Nv hM (by kernel_rfl)) ?_
        exact ⟨true,hE.cut (.cons rfl (.cons rfl (.cons rfl (.cons rfl Subs.nil)))),hR,H⟩
       ·replace H:=M.ite_f hb_47 H
        rcases Ud (Xx17 == 7) with hb_48 | hb_48
        ·replace H:=M.ite_t hb_48 H
         refine XR (rops:=YT) (by kernel_rfl) ?_
         have hT:Tab YT _ _ _:=Wv qo rfl (by kernel_rfl)
         have hM:=TabM.of Nd
         refine Ue (m:=22) (fun w:World=>(fun h:Heap=>(KM h ((Xx42).add 1)=some (.int .i64 Xx44))∧(KM h ((Xx43).add 0)=some (.string Xx45))) w.heap) [9,10,11,12,13,14,15,16,17,18,19,20,21] (unb 22 0) mo hR (by kernel_rfl) (by kernel_rfl) (fun w' e=>by rw [e]; exact ⟨qXx44,qXx45⟩) (fun w hh hR hs=>?_)
         replace H:=M.at hh H; clear hh
         refine KB (i:=0) (v:=.pointer x0) (unb 22 1) rfl rfl hT (anyM hM (by kernel_rfl)) hE rfl (KA rfl) (fun w=>KE hE rfl) (fun a hE=>?_)
         refine KB (i:=1) (v:=.pointer (some Xx42)) (unb 22 3) rfl rfl hT (anyM hM (by kernel_rfl)) hE rfl (KA rfl) (fun w=>KJ hE (Zr rfl (congrArg Value.pointer qXx42))) (fun a hE=>?_)
         refine KB (i:=2) (v:=.pointer (some ((Xx42).add 1))) (unb 22 7) rfl rfl hT (anyM hM (by kernel_rfl)) hE rfl (KA rfl) (fun w=>KH hE rfl ZD) (fun a hE=>?_)
         refine KB (i:=4) (v:=.pointer x0) (unb 22 23) rfl rfl hT (anyM hM (by kernel_rfl)) hE rfl (KA rfl) (fun w=>KE hE rfl) (fun a hE=>?_)
         refine KB (i:=5) (v:=.pointer (some Xx43)) (unb 22 55) rfl rfl hT (anyM hM (by kernel_rfl)) hE rfl (KA rfl) (fun w=>KJ hE (Zr rfl (congrArg Value.pointer qXx43))) (fun a hE=>?_)
         refine KB (i:=6) (v:=.pointer (some ((Xx43).add 0))) (unb 22 119) rfl rfl hT (anyM hM (by kernel_rfl)) hE rfl (KA rfl) (fun w=>KH hE rfl WJ) (fun a hE=>?_)
         refine Je (i:=3) (v:=.int .i64 Xx44) (unb 22 127) rfl rfl hT (VQ hM (by kernel_rfl)) hE rfl (KA rfl) hs (fun w s=>ZA hE rfl sc3 s.1) (fun a hE=>?_)
         refine Je (i:=7) (v:=.string Xx45) (unb 22 255) rfl rfl hT (VQ hM (by kernel_rfl)) hE rfl (KA rfl) hs (fun w s=>ZA hE rfl sc9 s.2) (fun a hE=>?_)
         refine KB (i:=8) (v:=.int .i64 (Xx45.size:Int)) (unb 22 511) rfl rfl hT (anyM hM (by kernel_rfl)) hE rfl (KA rfl) (fun w=>Wt hE rfl un9) (fun a hE=>?_)
         refine KB (i:=9) (v:=.bool (decide (Xx44 ≥ (Xx45.size:Int)))) (unb 22 1023) rfl rfl hT (anyM hM (by kernel_rfl)) hE rfl (KA rfl) (fun w=>ZC hE rfl rfl Kz q8) (fun a hE=>?_)
         refine KB (i:=10) (v:=.bool (decide (Xx44 ≥ (Xx45.size:Int)))) (unb 22 2047) rfl rfl hT (anyM hM (by kernel_rfl)) hE rfl (KA rfl) (fun w=>KE hE rfl) (fun a hE=>?_)
         have hE:=hE.reb 71 (decide (Xx44 ≥ (Xx45.size:Int))) false hb_46 rfl
         replace hE:=hE.cut (l':=[(0,.pointer x0),(4,.int .i64 Xx17),(5,.int .i64 Xx27),(71,.bool false)]) (.cons rfl (.cons rfl (.cons rfl (.cons rfl Subs.nil))))
         refine KB (i:=11) (v:=.int .i64 Xx27) (unb 22 4095) rfl rfl hT (anyM hM (by kernel_rfl)) hE rfl (KU rfl hE rfl rfl rfl) (fun w=>KE hE rfl) (fun a hE=>?_)
         refine KB (i:=12) (v:=.bool (decide (Xx27 < 0))) (unb 22 8191) rfl rfl hT (anyM hM (by kernel_rfl)) hE rfl (KU rfl hE rfl rfl rfl) (fun w=>ZC hE rfl rfl Kz qe) (fun a hE=>?_)
         refine KB (i:=13) (v:=.bool (decide (Xx27 < 0))) (unb 22 16383) rfl rfl hT (anyM hM (by kernel_rfl)) hE rfl (KA rfl) (fun w=>Z3 hE rfl rfl) (fun a hE=>?_)
         refine KB (i:=14) (v:=.bool (decide (Xx27 < 0))) (unb 22 32767) rfl rfl hT (anyM hM (by kernel_rfl)) hE rfl (KA rfl) (fun w=>KE hE rfl) (fun a hE=>?_)
         have hE:=hE.reb 75 (decide (Xx27 < 0)) false hb_47 rfl
         replace hE:=hE.cut (l':=[(0,.pointer x0),(4,.int .i64 Xx17),(5,.int .i64 Xx27),(75,.bool false)]) (.cons rfl (.cons rfl (.cons rfl (.cons rfl Subs.nil))))
         refine KB (i:=15) (v:=.int .i64 Xx17) (unb 22 65535) rfl rfl hT (anyM hM (by kernel_rfl)) hE rfl (KU rfl hE rfl rfl rfl) (fun w=>KE hE rfl) (fun a hE=>?_)
         refine KB (i:=16) (v:=.bool (Xx17 == 7)) (unb 22 131071) rfl rfl hT (anyM hM (by kernel_rfl)) hE rfl (KU rfl hE rfl rfl rfl) (fun w=>ZC hE rfl rfl Kz Yj) (fun a hE=>?_)
         refine KB (i:=17) (v:=.bool (Xx17 == 7)) (unb 22 262143) rfl rfl hT (anyM hM (by kernel_rfl)) hE rfl (KU rfl hE rfl rfl rfl) (fun w=>KE hE rfl) (fun a hE=>?_)
         have hE:=hE.reb 78 (Xx17 == 7) true hb_48 rfl
         replace hE:=hE.cut (l':=[(0,.pointer x0),(4,.int .i64 Xx17),(5,.int .i64 Xx27),(75,.bool false),(78,.bool true)]) (.cons rfl (.cons rfl (.cons rfl (.cons rfl (.cons rfl Subs.nil)))))
         refine KB (i:=18) (v:=.int .i64 Xx27) (unb 22 524287) rfl rfl hT (anyM hM (by kernel_rfl)) hE rfl (KU rfl hE rfl rfl rfl) (fun w=>KE hE rfl) (fun a hE=>?_)
         refine KB (i:=19) (v:=.bool (decide (Xx27 < 15))) (unb 22 1048575) rfl rfl hT (anyM hM (by kernel_rfl)) hE rfl (KU rfl hE rfl rfl rfl) (fun w=>ZC hE rfl rfl Kz qe) (fun a hE=>?_)
         refine KB (i:=20) (v:=.bool (decide (Xx27 < 15))) (unb 22 2097151) rfl rfl hT (anyM hM (by kernel_rfl)) hE rfl (KU rfl hE rfl rfl rfl) (fun w=>Jd hE rfl rfl) (fun a hE=>?_)
         refine KB (i:=21) (v:=.bool (decide (Xx27 < 15))) (unb 22 4194303) rfl rfl hT (anyM hM (by kernel_rfl)) hE rfl (KA rfl) (fun w=>Z3 hE rfl rfl) (fun a hE=>?_)
         refine WO hT (Nv hM (by kernel_rfl)) ?_
         exact ⟨decide (Xx27 < 15),hE.cut (.cons rfl (.cons rfl (.cons rfl (.cons rfl Subs.nil)))),hR,H⟩
        ·replace H:=M.ite_f hb_48 H
         refine XR (rops:=YT) (by kernel_rfl) ?_
         have hT:Tab YT _ _ _:=Wv qo rfl (by kernel_rfl)
         have hM:=TabM.of Nd
         refine Ue (m:=22) (fun w:World=>(fun h:Heap=>(KM h ((Xx42).add 1)=some (.int .i64 Xx44))∧(KM h ((Xx43).add 0)=some (.string Xx45))) w.heap) [9,10,11,12,13,14,15,16,17,18,19,20,21] (unb 22 0) mo hR (by kernel_rfl) (by kernel_rfl) (fun w' e=>by rw [e]; exact ⟨qXx44,qXx45⟩) (fun w hh hR hs=>?_)
         replace H:=M.at hh H; clear hh
         refine KB (i:=0) (v:=.pointer x0) (unb 22 1) rfl rfl hT (anyM hM (by kernel_rfl)) hE rfl (KA rfl) (fun w=>KE hE rfl) (fun a hE=>?_)
         refine KB (i:=1) (v:=.pointer (some Xx42)) (unb 22 3) rfl rfl hT (anyM hM (by kernel_rfl)) hE rfl (KA rfl) (fun w=>KJ hE (Zr rfl (congrArg Value.pointer qXx42))) (fun a hE=>?_)
         refine KB (i:=2) (v:=.pointer (some ((Xx42).add 1))) (unb 22 7) rfl rfl hT (anyM hM (by kernel_rfl)) hE rfl (KA rfl) (fun w=>KH hE rfl ZD) (fun a hE=>?_)
         refine KB (i:=4) (v:=.pointer x0) (unb 22 23) rfl rfl hT (anyM hM (by kernel_rfl)) hE rfl (KA rfl) (fun w=>KE hE rfl) (fun a hE=>?_)
         refine KB (i:=5) (v:=.pointer (some Xx43)) (unb 22 55) rfl rfl hT (anyM hM (by kernel_rfl)) hE rfl (KA rfl) (fun w=>KJ hE (Zr rfl (congrArg Value.pointer qXx43))) (fun a hE=>?_)
         refine KB (i:=6) (v:=.pointer (some ((Xx43).add 0))) (unb 22 119) rfl rfl hT (anyM hM (by kernel_rfl)) hE rfl (KA rfl) (fun w=>KH hE rfl WJ) (fun a hE=>?_)
         refine Je (i:=3) (v:=.int .i64 Xx44) (unb 22 127) rfl rfl hT (VQ hM (by kernel_rfl)) hE rfl (KA rfl) hs (fun w s=>ZA hE rfl sc3 s.1) (fun a hE=>?_)
         refine Je (i:=7) (v:=.string Xx45) (unb 22 255) rfl rfl hT (VQ hM (by kernel_rfl)) hE rfl (KA rfl) hs (fun w s=>ZA hE rfl sc9 s.2) (fun a hE=>?_)
         refine KB (i:=8) (v:=.int .i64 (Xx45.size:Int)) (unb 22 511) rfl rfl hT (anyM hM (by kernel_rfl)) hE rfl (KA rfl) (fun w=>Wt hE rfl un9) (fun a hE=>?_)
         refine KB (i:=9) (v:=.bool (decide (Xx44 ≥ (Xx45.size:Int)))) (unb 22 1023) rfl rfl hT (anyM hM (by kernel_rfl)) hE rfl (KA rfl) (fun w=>ZC hE rfl rfl Kz q8) (fun a hE=>?_)
         refine KB (i:=10) (v:=.bool (decide (Xx44 ≥ (Xx45.size:Int)))) (unb 22 2047) rfl rfl hT (anyM hM (by kernel_rfl)) hE rfl (KA rfl) (fun w=>KE hE rfl) (fun a hE=>?_)
         have hE:=hE.reb 71 (decide (Xx44 ≥ (Xx45.size:Int))) false hb_46 rfl
         replace hE:=hE.cut (l':=[(0,.pointer x0),(4,.int .i64 Xx17),(5,.int .i64 Xx27),(71,.bool false)]) (.cons rfl (.cons rfl (.cons rfl (.cons rfl Subs.nil))))
         refine KB (i:=11) (v:=.int .i64 Xx27) (unb 22 4095) rfl rfl hT (anyM hM (by kernel_rfl)) hE rfl (KU rfl hE rfl rfl rfl) (fun w=>KE hE rfl) (fun a hE=>?_)
         refine KB (i:=12) (v:=.bool (decide (Xx27 < 0))) (unb 22 8191) rfl rfl hT (anyM hM (by kernel_rfl)) hE rfl (KU rfl hE rfl rfl rfl) (fun w=>ZC hE rfl rfl Kz qe) (fun a hE=>?_)
         refine KB (i:=13) (v:=.bool (decide (Xx27 < 0))) (unb 22 16383) rfl rfl hT (anyM hM (by kernel_rfl)) hE rfl (KA rfl) (fun w=>Z3 hE rfl rfl) (fun a hE=>?_)
         refine KB (i:=14) (v:=.bool (decide (Xx27 < 0))) (unb 22 32767) rfl rfl hT (anyM hM (by kernel_rfl)) hE rfl (KA rfl) (fun w=>KE hE rfl) (fun a hE=>?_)
         have hE:=hE.reb 75 (decide (Xx27 < 0)) false hb_47 rfl
         replace hE:=hE.cut (l':=[(0,.pointer x0),(4,.int .i64 Xx17),(5,.int .i64 Xx27),(75,.bool false)]) (.cons rfl (.cons rfl (.cons rfl (.cons rfl Subs.nil))))
         refine KB (i:=15) (v:=.int .i64 Xx17) (unb 22 65535) rfl rfl hT (anyM hM (by kernel_rfl)) hE rfl (KU rfl hE rfl rfl rfl) (fun w=>KE hE rfl) (fun a hE=>?_)
         refine KB (i:=16) (v:=.bool (Xx17 == 7)) (unb 22 131071) rfl rfl hT (anyM hM (by kernel_rfl)) hE rfl (KU rfl hE rfl rfl rfl) (fun w=>ZC hE rfl rfl Kz Yj) (fun a hE=>?_)
         refine KB (i:=17) (v:=.bool (Xx17 == 7)) (unb 22 262143) rfl rfl hT (anyM hM (by kernel_rfl)) hE rfl (KU rfl hE rfl rfl rfl) (fun w=>KE hE rfl) (fun a hE=>?_)
         have hE:=hE.reb 78 (Xx17 == 7) false hb_48 rfl
         replace hE:=hE.cut (l':=[(0,.pointer x0),(4,.int .i64 Xx17),(5,.int .i64 Xx27),(75,.bool false),(78,.bool false)]) (.cons rfl (.cons rfl (.cons rfl (.cons rfl (.cons rfl Subs.nil)))))
         refine KAu (i:=18) (unb 22 524287) rfl rfl hT (anyM hM (by kernel_rfl)) (Jj rfl hE rfl rfl rfl) (fun a ea=>?_)
         have hE:=Env.put_some hE rfl ea; clear ea
         refine KAu (i:=19) (unb 22 1048575) rfl rfl hT (anyM hM (by kernel_rfl)) (Jj rfl hE rfl rfl rfl) (fun a ea=>?_)
         have hE:=Env.put_some hE rfl ea; clear ea
         refine KB (i:=20) (v:=.bool false) (unb 22 2097151) rfl rfl hT (anyM hM (by kernel_rfl)) hE rfl (KU rfl hE rfl rfl rfl) (fun w=>Z3 hE rfl rfl) (fun a hE=>?_)
         refine KB (i:=21) (v:=.bool false) (unb 22 4194303) rfl rfl hT (anyM hM (by kernel_rfl)) hE rfl (KA rfl) (fun w=>Z3 hE rfl rfl) (fun a hE=>?_)
         refine WO hT (Nv hM (by kernel_rfl)) ?_
         exact ⟨false,hE.cut (.cons rfl (.cons rfl (.cons rfl (.cons rfl Subs.nil)))),hR,H⟩
   ·skip
    refine JD (fun a w=>∃ (Xx49:Bool),Env (⟨97,[]⟩:Frm) a [(0,.pointer x0),(4,.int .i64 Xx17),(48,.bool Xx49)]∧Rest w0 w∧(Kh x0 Xx17 Xx49).wp w.heap Q) ?_ ?_
    ·rintro a w ⟨Xx49,hE,hR,H⟩
     unfold Kh at H
     refine Z6 Xx49 hE rfl (fun hb=>?_) (fun hb=>?_)
     ·replace H:=M.ite_t hb H
      refine KD ?_
      refine KC (v:=.pointer x0) rfl rfl hE rfl (KE hE rfl) (fun a hE=>?_)
      refine Zx hE hR Ko rfl (Kv x0) H (fun _ _ hR HQ=>hthr _ _ hR HQ) (fun Xx52 a w ea hR H=>?_)
      have hE:=Env.put_some hE rfl ea; clear ea
      refine KV ?_
      exact ⟨hE.cut (.cons rfl (.cons rfl Subs.nil)),hR,H⟩
     ·replace H:=M.ite_f hb H
      refine Jp ?_
      exact ⟨hE.cut (.cons rfl (.cons rfl Subs.nil)),hR,H⟩
    ·skip
     obtain ⟨Xx53,qXx53,H⟩:=H
     obtain ⟨Xx54,qXx54,H⟩:=H
     obtain ⟨Xx55,qXx55,H⟩:=H
     obtain ⟨Xx56,qXx56,H⟩:=H
     rcases Ud (decide (Xx55 ≥ (Xx56.size:Int))) with hb_57 | hb_57
     ·replace H:=M.ite_t hb_57 H
      refine XR (rops:=Xz) (by kernel_rfl) ?_
      have hT:Tab Xz _ _ _:=Wv KBX rfl (by kernel_rfl)
      have hM:=TabM.of qp
      refine Ue (m:=22) (fun w:World=>(fun h:Heap=>(KM h ((Xx53).add 1)=some (.int .i64 Xx55))∧(KM h ((Xx54).add 0)=some (.string Xx56))) w.heap) [9,10,11,12,13,14,15,16,17,18,19,20,21] (unb 22 0) mo hR (by kernel_rfl) (by kernel_rfl) (fun w' e=>by rw [e]; exact ⟨qXx55,qXx56⟩) (fun w hh hR hs=>?_)
      replace H:=M.at hh H; clear hh
      refine KB (i:=0) (v:=.pointer x0) (unb 22 1) rfl rfl hT (anyM hM (by kernel_rfl)) hE rfl (KA rfl) (fun w=>KE hE rfl) (fun a hE=>?_)
      refine KB (i:=1) (v:=.pointer (some Xx53)) (unb 22 3) rfl rfl hT (anyM hM (by kernel_rfl)) hE rfl (KA rfl) (fun w=>KJ hE (Zr rfl (congrArg Value.pointer qXx53))) (fun a hE=>?_)
      refine KB (i:=2) (v:=.pointer (some ((Xx53).add 1))) (unb 22 7) rfl rfl hT (anyM hM (by kernel_rfl)) hE rfl (KA rfl) (fun w=>KH hE rfl ZD) (fun a hE=>?_)
      refine KB (i:=4) (v:=.pointer x0) (unb 22 23) rfl rfl hT (anyM hM (by kernel_rfl)) hE rfl (KA rfl) (fun w=>KE hE rfl) (fun a hE=>?_)
      refine KB (i:=5) (v:=.pointer (some Xx54)) (unb 22 55) rfl rfl hT (anyM hM (by kernel_rfl)) hE rfl (KA rfl) (fun w=>KJ hE (Zr rfl (congrArg Value.pointer qXx54))) (fun a hE=>?_)
      refine KB (i:=6) (v:=.pointer (some ((Xx54).add 0))) (unb 22 119) rfl rfl hT (anyM hM (by kernel_rfl)) hE rfl (KA rfl) (fun w=>KH hE rfl WJ) (fun a hE=>?_)
      refine Je (i:=3) (v:=.int .i64 Xx55) (unb 22 127) rfl rfl hT (VQ hM (by kernel_rfl)) hE rfl (KA rfl) hs (fun w s=>ZA hE rfl sc3 s.1) (fun a hE=>?_)
      refine Je (i:=7) (v:=.string Xx56) (unb 22 255) rfl rfl hT (VQ hM (by kernel_rfl)) hE rfl (KA rfl) hs (fun w s=>ZA hE rfl sc9 s.2) (fun a hE=>?_)
      refine KB (i:=8) (v:=.int .i64 (Xx56.size:Int)) (unb 22 511) rfl rfl hT (anyM hM (by kernel_rfl)) hE rfl (KA rfl) (fun w=>Wt hE rfl un9) (fun a hE=>?_)
      refine KB (i:=9) (v:=.bool (decide (Xx55 ≥ (Xx56.size:Int)))) (unb 22 1023) rfl rfl hT (anyM hM (by kernel_rfl)) hE rfl (KA rfl) (fun w=>ZC hE rfl rfl Kz q8) (fun a hE=>?_)
      refine KB (i:=10) (v:=.bool (decide (Xx55 ≥ (Xx56.size:Int)))) (unb 22 2047) rfl rfl hT (anyM hM (by kernel_rfl)) hE rfl (KA rfl) (fun w=>KE hE rfl) (fun a hE=>?_)
      have hE:=hE.reb 37 (decide (Xx55 ≥ (Xx56.size:Int))) true hb_57 rfl
      replace hE:=hE.cut (l':=[(0,.pointer x0),(4,.int .i64 Xx17),(37,.bool true)]) (.cons rfl (.cons rfl (.cons rfl Subs.nil)))
      refine KAu (i:=11) (unb 22 4095) rfl rfl hT (anyM hM (by kernel_rfl)) (Jj rfl hE rfl rfl rfl) (fun a ea=>?_)
      have hE:=Env.put_some hE rfl ea; clear ea
      refine KAu (i:=12) (unb 22 8191) rfl rfl hT (anyM hM (by kernel_rfl)) (Jj rfl hE rfl rfl rfl) (fun a ea=>?_)
      have hE:=Env.put_some hE rfl ea; clear ea
      refine KB (i:=13) (v:=.bool true) (unb 22 16383) rfl rfl hT (anyM hM (by kernel_rfl)) hE rfl (KA rfl) (fun w=>Jd hE rfl rfl) (fun a hE=>?_)
      refine KB (i:=14) (v:=.bool true) (unb 22 32767) rfl rfl hT (anyM hM (by kernel_rfl)) hE rfl (KA rfl) (fun w=>KE hE rfl) (fun a hE=>?_)
      refine NE [(15,some 42),(16,some 43),(17,some 44),(18,some 45),(19,some 46),(20,some 47)] 1 hT hM hE (by kernel_rfl) (m':=2097151) (by kernel_rfl) (fun a hE=>?_)
      refine KB (i:=21) (v:=.bool true) (unb 22 4194303) rfl rfl hT (anyM hM (by kernel_rfl)) hE rfl (KA rfl) (fun w=>Jd hE rfl rfl) (fun a hE=>?_)
      refine WO hT (Nv hM (by kernel_rfl)) ?_
      exact ⟨true,hE.cut (.cons rfl (.cons rfl (.cons rfl Subs.nil))),hR,H⟩
     ·replace H:=M.ite_f hb_57 H
      rcases Ud (decide (Xx17 < 0)) with hb_58 | hb_58
      ·replace H:=M.ite_t hb_58 H
       refine XR (rops:=Xz) (by kernel_rfl) ?_
       have hT:Tab Xz _ _ _:=Wv KBX rfl (by kernel_rfl)
       have hM:=TabM.of qp
       refine Ue (m:=22) (fun w:World=>(fun h:Heap=>(KM h ((Xx53).add 1)=some (.int .i64 Xx55))∧(KM h ((Xx54).add 0)=some (.string Xx56))) w.heap) [9,10,11,12,13,14,15,16,17,18,19,20,21] (unb 22 0) mo hR (by kernel_rfl) (by kernel_rfl) (fun w' e=>by rw [e]; exact ⟨qXx55,qXx56⟩) (fun w hh hR hs=>?_)
       replace H:=M.at hh H; clear hh
       refine KB (i:=0) (v:=.pointer x0) (unb 22 1) rfl rfl hT (anyM hM (by kernel_rfl)) hE rfl (KA rfl) (fun w=>KE hE rfl) (fun a hE=>?_)
       refine KB (i:=1) (v:=.pointer (some Xx53)) (unb 22 3) rfl rfl hT (anyM hM (by kernel_rfl)) hE rfl (KA rfl) (fun w=>KJ hE (Zr rfl (congrArg Value.pointer qXx53))) (fun a hE=>?_)
       refine KB (i:=2) (v:=.pointer (some ((Xx53).add 1))) (unb 22 7) rfl rfl hT (anyM hM (by kernel_rfl)) hE rfl (KA rfl) (fun w=>KH hE rfl ZD) (fun a hE=>?_)
       refine KB (i:=4) (v:=.pointer x0) (unb 22 23) rfl rfl hT (anyM hM (by kernel_rfl)) hE rfl (KA rfl) (fun w=>KE hE rfl) (fun a hE=>?_)
       refine KB (i:=5) (v:=.pointer (some Xx54)) (unb 22 55) rfl rfl hT (anyM hM (by kernel_rfl)) hE rfl (KA rfl) (fun w=>KJ hE (Zr rfl (congrArg Value.pointer qXx54))) (fun a hE=>?_)
       refine KB (i:=6) (v:=.pointer (some ((Xx54).add 0))) (unb 22 119) rfl rfl hT (anyM hM (by kernel_rfl)) hE rfl (KA rfl) (fun w=>KH hE rfl WJ) (fun a hE=>?_)
       refine Je (i:=3) (v:=.int .i64 Xx55) (unb 22 127) rfl rfl hT (VQ hM (by kernel_rfl)) hE rfl (KA rfl) hs (fun w s=>ZA hE rfl sc3 s.1) (fun a hE=>?_)
       refine Je (i:=7) (v:=.string Xx56) (unb 22 255) rfl rfl hT (VQ hM (by kernel_rfl)) hE rfl (KA rfl) hs (fun w s=>ZA hE rfl sc9 s.2) (fun a hE=>?_)
       refine KB (i:=8) (v:=.int .i64 (Xx56.size:Int)) (unb 22 511) rfl rfl hT (anyM hM (by kernel_rfl)) hE rfl (KA rfl) (fun w=>Wt hE rfl un9) (fun a hE=>?_)
       refine KB (i:=9) (v:=.bool (decide (Xx55 ≥ (Xx56.size:Int)))) (unb 22 1023) rfl rfl hT (anyM hM (by kernel_rfl)) hE rfl (KA rfl) (fun w=>ZC hE rfl rfl Kz q8) (fun a hE=>?_)
       refine KB (i:=10) (v:=.bool (decide (Xx55 ≥ (Xx56.size:Int)))) (unb 22 2047) rfl rfl hT (anyM hM (by kernel_rfl)) hE rfl (KA rfl) (fun w=>KE hE rfl) (fun a hE=>?_)
       have hE:=hE.reb 37 (decide (Xx55 ≥ (Xx56.size:Int))) false hb_57 rfl
       replace hE:=hE.cut (l':=[(0,.pointer x0),(4,.int .i64 Xx17),(37,.bool false)]) (.cons rfl (.cons rfl (.cons rfl Subs.nil)))
       refine KB (i:=11) (v:=.int .i64 Xx17) (unb 22 4095) rfl rfl hT (anyM hM (by kernel_rfl)) hE rfl (KU rfl hE rfl rfl rfl) (fun w=>KE hE rfl) (fun a hE=>?_)
       refine KB (i:=12) (v:=.bool (decide (Xx17 < 0))) (unb 22 8191) rfl rfl hT (anyM hM (by kernel_rfl)) hE rfl (KU rfl hE rfl rfl rfl) (fun w=>ZC hE rfl rfl Kz qe) (fun a hE=>?_)
       refine KB (i:=13) (v:=.bool (decide (Xx17 < 0))) (unb 22 16383) rfl rfl hT (anyM hM (by kernel_rfl)) hE rfl (KA rfl) (fun w=>Z3 hE rfl rfl) (fun a hE=>?_)
       refine KB (i:=14) (v:=.bool (decide (Xx17 < 0))) (unb 22 32767) rfl rfl hT (anyM hM (by kernel_rfl)) hE rfl (KA rfl) (fun w=>KE hE rfl) (fun a hE=>?_)
       have hE:=hE.reb 41 (decide (Xx17 < 0)) true hb_58 rfl
       replace hE:=hE.cut (l':=[(0,.pointer x0),(4,.int .i64 Xx17),(41,.bool true)]) (.cons rfl (.cons rfl (.cons rfl Subs.nil)))
       refine NE [(15,some 42),(16,some 43),(17,some 44),(18,some 45),(19,some 46),(20,some 47)] 1 hT hM hE (by kernel_rfl) (m':=2097151) (by kernel_rfl) (fun a hE=>?_)
       refine KB (i:=21) (v:=.bool true) (unb 22 4194303) rfl rfl hT (anyM hM (by kernel_rfl)) hE rfl (KA rfl) (fun w=>Jd hE rfl rfl) (fun a hE=>?_)
       refine WO hT (Nv hM (by kernel_rfl)) ?_
       exact ⟨true,hE.cut (.cons rfl (.cons rfl (.cons rfl Subs.nil))),hR,H⟩
      ·replace H:=M.ite_f hb_58 H
       rcases Ud (decide (Xx17 > 1)) with hb_59 | hb_59
       ·replace H:=M.ite_t hb_59 H
        refine XR (rops:=Xz) (by kernel_rfl) ?_
        have hT:Tab Xz _ _ _:=Wv KBX rfl (by kernel_rfl)
        have hM:=TabM.of qp
        refine Ue (m:=22) (fun w:World=>(fun h:Heap=>(KM h ((Xx53).add 1)=some (.int .i64 Xx55))∧(KM h ((Xx54).add 0)=some (.string Xx56))) w.heap) [9,10,11,12,13,14,15,16,17,18,19,20,21] (unb 22 0) mo hR (by kernel_rfl) (by kernel_rfl) (fun w' e=>by rw [e]; exact ⟨qXx55,qXx56⟩) (fun w hh hR hs=>?_)
        replace H:=M.at hh H; clear hh
        refine KB (i:=0) (v:=.pointer x0) (unb 22 1) rfl rfl hT (anyM hM (by kernel_rfl)) hE rfl (KA rfl) (fun w=>KE hE rfl) (fun a hE=>?_)
        refine KB (i:=1) (v:=.pointer (some Xx53)) (unb 22 3) rfl rfl hT (anyM hM (by kernel_rfl)) hE rfl (KA rfl) (fun w=>KJ hE (Zr rfl (congrArg Value.pointer qXx53))) (fun a hE=>?_)
        refine KB (i:=2) (v:=.pointer (some ((Xx53).add 1))) (unb 22 7) rfl rfl hT (anyM hM (by kernel_rfl)) hE rfl (KA rfl) (fun w=>KH hE rfl ZD) (fun a hE=>?_)
        refine KB (i:=4) (v:=.pointer x0) (unb 22 23) rfl rfl hT (anyM hM (by kernel_rfl)) hE rfl (KA rfl) (fun w=>KE hE rfl) (fun a hE=>?_)
        refine KB (i:=5) (v:=.pointer (some Xx54)) (unb 22 55) rfl rfl hT (anyM hM (by kernel_rfl)) hE rfl (KA rfl) (fun w=>KJ hE (Zr rfl (congrArg Value.pointer qXx54))) (fun a hE=>?_)
        refine KB (i:=6) (v:=.pointer (some ((Xx54).add 0))) (unb 22 119) rfl rfl hT (anyM hM (by kernel_rfl)) hE rfl (KA rfl) (fun w=>KH hE rfl WJ) (fun a hE=>?_)
        refine Je (i:=3) (v:=.int .i64 Xx55) (unb 22 127) rfl rfl hT (VQ hM (by kernel_rfl)) hE rfl (KA rfl) hs (fun w s=>ZA hE rfl sc3 s.1) (fun a hE=>?_)
        refine Je (i:=7) (v:=.string Xx56) (unb 22 255) rfl rfl hT (VQ hM (by kernel_rfl)) hE rfl (KA rfl) hs (fun w s=>ZA hE rfl sc9 s.2) (fun a hE=>?_)
        refine KB (i:=8) (v:=.int .i64 (Xx56.size:Int)) (unb 22 511) rfl rfl hT (anyM hM (by kernel_rfl)) hE rfl (KA rfl) (fun w=>Wt hE rfl un9) (fun a hE=>?_)
        refine KB (i:=9) (v:=.bool (decide (Xx55 ≥ (Xx56.size:Int)))) (unb 22 1023) rfl rfl hT (anyM hM (by kernel_rfl)) hE rfl (KA rfl) (fun w=>ZC hE rfl rfl Kz q8) (fun a hE=>?_)
        refine KB (i:=10) (v:=.bool (decide (Xx55 ≥ (Xx56.size:Int)))) (unb 22 2047) rfl rfl hT (anyM hM (by kernel_rfl)) hE rfl (KA rfl) (fun w=>KE hE rfl) (fun a hE=>?_)
        have hE:=hE.reb 37 (decide (Xx55 ≥ (Xx56.size:Int))) false hb_57 rfl
        replace hE:=hE.cut (l':=[(0,.pointer x0),(4,.int .i64 Xx17),(37,.bool false)]) (.cons rfl (.cons rfl (.cons rfl Subs.nil)))
        refine KB (i:=11) (v:=.int .i64 Xx17) (unb 22 4095) rfl rfl hT (anyM hM (by kernel_rfl)) hE rfl (KU rfl hE rfl rfl rfl) (fun w=>KE hE rfl) (fun a hE=>?_)
        refine KB (i:=12) (v:=.bool (decide (Xx17 < 0))) (unb 22 8191) rfl rfl hT (anyM hM (by kernel_rfl)) hE rfl (KU rfl hE rfl rfl rfl) (fun w=>ZC hE rfl rfl Kz qe) (fun a hE=>?_)
        refine KB (i:=13) (v:=.bool (decide (Xx17 < 0))) (unb 22 16383) rfl rfl hT (anyM hM (by kernel_rfl)) hE rfl (KA rfl) (fun w=>Z3 hE rfl rfl) (fun a hE=>?_)
        refine KB (i:=14) (v:=.bool (decide (Xx17 < 0))) (unb 22 32767) rfl rfl hT (anyM hM (by kernel_rfl)) hE rfl (KA rfl) (fun w=>KE hE rfl) (fun a hE=>?_)
        have hE:=hE.reb 41 (decide (Xx17 < 0)) false hb_58 rfl
        replace hE:=hE.cut (l':=[(0,.pointer x0),(4,.int .i64 Xx17),(41,.bool false)]) (.cons rfl (.cons rfl (.cons rfl Subs.nil)))
        refine KB (i:=15) (v:=.int .i64 Xx17) (unb 22 65535) rfl rfl hT (anyM hM (by kernel_rfl)) hE rfl (KU rfl hE rfl rfl rfl) (fun w=>KE hE rfl) (fun a hE=>?_)
        refine KB (i:=16) (v:=.bool (decide (Xx17 > 1))) (unb 22 131071) rfl rfl hT (anyM hM (by kernel_rfl)) hE rfl (KU rfl hE rfl rfl rfl) (fun w=>ZC hE rfl rfl Kz KBy) (fun a hE=>?_)
        refine KB (i:=17) (v:=.bool (decide (Xx17 > 1))) (unb 22 262143) rfl rfl hT (anyM hM (by kernel_rfl)) hE rfl (KU rfl hE rfl rfl rfl) (fun w=>KE hE rfl) (fun a hE=>?_)
        have hE:=hE.reb 44 (decide (Xx17 > 1)) true hb_59 rfl
        replace hE:=hE.cut (l':=[(0,.pointer x0),(4,.int .i64 Xx17),(41,.bool false),(44,.bool true)]) (.cons rfl (.cons rfl (.cons rfl (.cons rfl Subs.nil))))
        refine KB (i:=18) (v:=.int .i64 Xx17) (unb 22 524287) rfl rfl hT (anyM hM (by kernel_rfl)) hE rfl (KU rfl hE rfl rfl rfl) (fun w=>KE hE rfl) (fun a hE=>?_)
        refine KB (i:=19) (v:=.bool (decide (Xx17 < 7))) (unb 22 1048575) rfl rfl hT (anyM hM (by kernel_rfl)) hE rfl (KU rfl hE rfl rfl rfl) (fun w=>ZC hE rfl rfl Kz qe) (fun a hE=>?_)
        refine KB (i:=20) (v:=.bool (decide (Xx17 < 7))) (unb 22 2097151) rfl rfl hT (anyM hM (by kernel_rfl)) hE rfl (KU rfl hE rfl rfl rfl) (fun w=>Jd hE rfl rfl) (fun a hE=>?_)
        refine KB (i:=21) (v:=.bool (decide (Xx17 < 7))) (unb 22 4194303) rfl rfl hT (anyM hM (by kernel_rfl)) hE rfl (KA rfl) (fun w=>Z3 hE rfl rfl) (fun a hE=>?_)
        refine WO hT (Nv hM (by kernel_rfl)) ?_
        exact ⟨decide (Xx17 < 7),hE.cut (.cons rfl (.cons rfl (.cons rfl Subs.nil))),hR,H⟩
       ·replace H:=M.ite_f hb_59 H
        refine XR (rops:=Xz) (by kernel_rfl) ?_
        have hT:Tab Xz _ _ _:=Wv KBX rfl (by kernel_rfl)
        have hM:=TabM.of qp
        refine Ue (m:=22) (fun w:World=>(fun h:Heap=>(KM h ((Xx53).add 1)=some (.int .i64 Xx55))∧(KM h ((Xx54).add 0)=some (.string Xx56))) w.heap) [9,10,11,12,13,14,15,16,17,18,19,20,21] (unb 22 0) mo hR (by kernel_rfl) (by kernel_rfl) (fun w' e=>by rw [e]; exact ⟨qXx55,qXx56⟩) (fun w hh hR hs=>?_)
        replace H:=M.at hh H; clear hh
        refine KB (i:=0) (v:=.pointer x0) (unb 22 1) rfl rfl hT (anyM hM (by kernel_rfl)) hE rfl (KA rfl) (fun w=>KE hE rfl) (fun a hE=>?_)
        refine KB (i:=1) (v:=.pointer (some Xx53)) (unb 22 3) rfl rfl hT (anyM hM (by kernel_rfl)) hE rfl (KA rfl) (fun w=>KJ hE (Zr rfl (congrArg Value.pointer qXx53))) (fun a hE=>?_)
        refine KB (i:=2) (v:=.pointer (some ((Xx53).add 1))) (unb 22 7) rfl rfl hT (anyM hM (by kernel_rfl)) hE rfl (KA rfl) (fun w=>KH hE rfl ZD) (fun a hE=>?_)
        refine KB (i:=4) (v:=.pointer x0) (unb 22 23) rfl rfl hT (anyM hM (by kernel_rfl)) hE rfl (KA rfl) (fun w=>KE hE rfl) (fun a hE=>?_)
        refine KB (i:=5) (v:=.pointer (some Xx54)) (unb 22 55) rfl rfl hT (anyM hM (by kernel_rfl)) hE rfl (KA rfl) (fun w=>KJ hE (Zr rfl (congrArg Value.pointer qXx54))) (fun a hE=>?_)
        refine KB (i:=6) (v:=.pointer (some ((Xx54).add 0))) (unb 22 119) rfl rfl hT (anyM hM (by kernel_rfl)) hE rfl (KA rfl) (fun w=>KH hE rfl WJ) (fun a hE=>?_)
        refine Je (i:=3) (v:=.int .i64 Xx55) (unb 22 127) rfl rfl hT (VQ hM (by kernel_rfl)) hE rfl (KA rfl) hs (fun w s=>ZA hE rfl sc3 s.1) (fun a hE=>?_)
        refine Je (i:=7) (v:=.string Xx56) (unb 22 255) rfl rfl hT (VQ hM (by kernel_rfl)) hE rfl (KA rfl) hs (fun w s=>ZA hE rfl sc9 s.2) (fun a hE=>?_)
        refine KB (i:=8) (v:=.int .i64 (Xx56.size:Int)) (unb 22 511) rfl rfl hT (anyM hM (by kernel_rfl)) hE rfl (KA rfl) (fun w=>Wt hE rfl un9) (fun a hE=>?_)
        refine KB (i:=9) (v:=.bool (decide (Xx55 ≥ (Xx56.size:Int)))) (unb 22 1023) rfl rfl hT (anyM hM (by kernel_rfl)) hE rfl (KA rfl) (fun w=>ZC hE rfl rfl Kz q8) (fun a hE=>?_)
        refine KB (i:=10) (v:=.bool (decide (Xx55 ≥ (Xx56.size:Int)))) (unb 22 2047) rfl rfl hT (anyM hM (by kernel_rfl)) hE rfl (KA rfl) (fun w=>KE hE rfl) (fun a hE=>?_)
        have hE:=hE.reb 37 (decide (Xx55 ≥ (Xx56.size:Int))) false hb_57 rfl
        replace hE:=hE.cut (l':=[(0,.pointer x0),(4,.int .i64 Xx17),(37,.bool false)]) (.cons rfl (.cons rfl (.cons rfl Subs.nil)))
        refine KB (i:=11) (v:=.int .i64 Xx17) (unb 22 4095) rfl rfl hT (anyM hM (by kernel_rfl)) hE rfl (KU rfl hE rfl rfl rfl) (fun w=>KE hE rfl) (fun a hE=>?_)
        refine KB (i:=12) (v:=.bool (decide (Xx17 < 0))) (unb 22 8191) rfl rfl hT (anyM hM (by kernel_rfl)) hE rfl (KU rfl hE rfl rfl rfl) (fun w=>ZC hE rfl rfl Kz qe) (fun a hE=>?_)
        refine KB (i:=13) (v:=.bool (decide (Xx17 < 0))) (unb 22 16383) rfl rfl hT (anyM hM (by kernel_rfl)) hE rfl (KA rfl) (fun w=>Z3 hE rfl rfl) (fun a hE=>?_)
        refine KB (i:=14) (v:=.bool (decide (Xx17 < 0))) (unb 22 32767) rfl rfl hT (anyM hM (by kernel_rfl)) hE rfl (KA rfl) (fun w=>KE hE rfl) (fun a hE=>?_)
        have hE:=hE.reb 41 (decide (Xx17 < 0)) false hb_58 rfl
        replace hE:=hE.cut (l':=[(0,.pointer x0),(4,.int .i64 Xx17),(41,.bool false)]) (.cons rfl (.cons rfl (.cons rfl Subs.nil)))
        refine KB (i:=15) (v:=.int .i64 Xx17) (unb 22 65535) rfl rfl hT (anyM hM (by kernel_rfl)) hE rfl (KU rfl hE rfl rfl rfl) (fun w=>KE hE rfl) (fun a hE=>?_)
        refine KB (i:=16) (v:=.bool (decide (Xx17 > 1))) (unb 22 131071) rfl rfl hT (anyM hM (by kernel_rfl)) hE rfl (KU rfl hE rfl rfl rfl) (fun w=>ZC hE rfl rfl Kz KBy) (fun a hE=>?_)
        refine KB (i:=17) (v:=.bool (decide (Xx17 > 1))) (unb 22 262143) rfl rfl hT (anyM hM (by kernel_rfl)) hE rfl (KU rfl hE rfl rfl rfl) (fun w=>KE hE rfl) (fun a hE=>?_)
        have hE:=hE.reb 44 (decide (Xx17 > 1)) false hb_59 rfl
        replace hE:=hE.cut (l':=[(0,.pointer x0),(4,.int .i64 Xx17),(41,.bool false),(44,.bool false)]) (.cons rfl (.cons rfl (.cons rfl (.cons rfl Subs.nil))))
        refine KAu (i:=18) (unb 22 524287) rfl rfl hT (anyM hM (by kernel_rfl)) (Jj rfl hE rfl rfl rfl) (fun a ea=>?_)
        have hE:=Env.put_some hE rfl ea; clear ea
        refine KAu (i:=19) (unb 22 1048575) rfl rfl hT (anyM hM (by kernel_rfl)) (Jj rfl hE rfl rfl rfl) (fun a ea=>?_)
        have hE:=Env.put_some hE rfl ea; clear ea
        refine KB (i:=20) (v:=.bool false) (unb 22 2097151) rfl rfl hT (anyM hM (by kernel_rfl)) hE rfl (KU rfl hE rfl rfl rfl) (fun w=>Z3 hE rfl rfl) (fun a hE=>?_)
        refine KB (i:=21) (v:=.bool false) (unb 22 4194303) rfl rfl hT (anyM hM (by kernel_rfl)) hE rfl (KA rfl) (fun w=>Z3 hE rfl rfl) (fun a hE=>?_)
        refine WO hT (Nv hM (by kernel_rfl)) ?_
        exact ⟨false,hE.cut (.cons rfl (.cons rfl (.cons rfl Subs.nil))),hR,H⟩
end Gx
