/- Printed by program: Go functions as Lean programs, each tied to its code. No condition. -/
import Derived.Test.YthelieedlghccaaGreatDoorP0
import Derived.Test.YthelieedlghccaaGreatDoorP1
import Derived.Test.YthelieedlghccaaGreatDoorP2
import Derived.Test.YthelieedlghccaaGreatDoorP3
set_option linter.unusedVariables false
set_option linter.unusedSimpArgs false
namespace Gx
open Go
set_option linter.unusedVariables false
set_option maxRecDepth 100000
def qu (x0:Sl) (x1:Sl):M (Int):=do
 let Xx3←ixL x0 0 4
 let Xx4←ixL x1 0 4
 let Xx5←ldG 4 Xx3
 let Xx6←ldG 4 Xx4
 let Xx7←UQ Xx5 Xx6
 M.pure Xx7
theorem KDG (x0:Sl) (x1:Sl):Kg Go.Proofs.Tryz.prog 80 #[(x0:Sl).v,(x1:Sl).v] (fun (r:Int)=>.int .i64 r) (qu x0 x1) :=
 KI [Xd] [] [.I .i64] [(0,.L x0),(1,.L x1)] (.q .o (.q (.r [0,1,2,0,8,16,36,127] [0,1,2,0,8,16,36,64] [0,1,3,0,8,24,63,127] (.pu 0 (.pu 1 (.pu 3 (.pu 4 (.pu 2 (.pu 5 (.st [6,7] (.on 6 (.pu 7 (.nx .dn))))))))))) .o)) Go.Proofs.Tryz.func80 rfl rfl ⟨rfl,rfl,trivial⟩ rfl (by kernel_rfl) (by kernel_rfl)
def JV (C5:Sl) (C6:Value) (C7:Int) (self1:(Int)→M (Int)):(Int)→M (Int):=fun s=>match s with
 | Xx4=>do
  M.ite (decide (Xx4 < C7)) (do
   let Xx14←ixL C5 Xx4 1
   let Xx15←ldI .u8 Xx14
   let Xx16←Gh Go.Proofs.Tryz.prog (fun r:Bool=>.bool r) C6 [.int .u8 Xx15]
   M.ite Xx16 (do
    M.pure Xx4
    ) (do
    self1 (IntKind.wrap .i64 (Xx4+1))
    )
   ) (do
   M.pure (-1)
   )
def JA (x0:Sl) (x1:Value):M (Int):=do
 M.loop (JV x0 x1 (x0.len:Int)) 0
theorem Yg (x0:Sl) (x1:Value):Kg Go.Proofs.Tryz.prog 200 #[(x0:Sl).v,x1] (fun (r:Int)=>.int .i64 r) (JA x0 x1) :=
 KI [] [] [.I .i64] [(0,.L x0),(1,.V x1)] (.q .o (.q (.q .o (.b (.l [(0,.L),(1,.V),(7,.I .i64)] [(8,.I .i64)] (fun (t:Sl × Value × Int)=>JV t.1 t.2.1 t.2.2) (fun _=>.o)))) .o)) Go.Proofs.Tryz.func200 rfl rfl ⟨rfl,rfl,trivial⟩ rfl (by kernel_rfl) (by kernel_rfl)
noncomputable def Yh:CalleeS Go.Proofs.Tryz.prog:=mkC YF YH [.L,.V] [.I .i64] (fun (t:Sl × Value)=>JA t.1 t.2) (fun (t:Sl × Value)=>Yg t.1 t.2)
def ZN (x0:Sl) (x1:Value):M (Bool):=do
 let Xx3←JA x0 x1
 M.pure (decide (Xx3 ≥ 0))
theorem Wp (x0:Sl) (x1:Value):Kg Go.Proofs.Tryz.prog 159 #[(x0:Sl).v,x1] (fun (r:Bool)=>.bool r) (ZN x0 x1) :=
 KI [Yh] [] [.B] [(0,.L x0),(1,.V x1)] .o Go.Proofs.Tryz.func159 rfl rfl ⟨rfl,rfl,trivial⟩ rfl (by kernel_rfl) (by kernel_rfl)
noncomputable def Wq:CalleeS Go.Proofs.Tryz.prog:=mkC WV WW [.L,.V] [.B] (fun (t:Sl × Value)=>ZN t.1 t.2) (fun (t:Sl × Value)=>Wp t.1 t.2)
def Zo (x0:ByteArray):M (ByteArray):=do
 M.ite ((x0.size:Int) == 0) (do
  M.pure ByteArray.empty
  ) (do
  let Xx6←mkS ZG 1 1 (#[.int .u8 0]:Array Value) (x0.size:Int) (x0.size:Int)
  let Xx8←cpSt Xx6 x0
  let Xx10←ixL Xx6 0 1
  let Xx11←uStr ZG (some Xx10) (Xx6.len:Int)
  M.pure Xx11
  )
theorem XN (x0:ByteArray):Kg Go.Proofs.Tryz.prog 253 #[.string x0] (fun (r:ByteArray)=>.string r) (Zo x0) :=
 KI [] [] [.S] [(0,.S x0)] .o Go.Proofs.Tryz.func253 rfl rfl ⟨rfl,trivial⟩ rfl (by kernel_rfl) (by kernel_rfl)
noncomputable def XO:CalleeS Go.Proofs.Tryz.prog:=mkC Ys Yy [.S] [.S] (fun (t:ByteArray)=>Zo t) (fun (t:ByteArray)=>XN t)
def US (x0:ByteArray) (x1:ByteArray):M (Option Addr):=do
 let Xx3←ldV (⟨5,0,none⟩:Addr)
 let Xx4←Zo x1
 chk (fun h:Heap=>(KO h (⟨5,0,none⟩:Addr)=some (Xx3)))
 let Xx5←KLn [(0,1),(1,1),(2,1)] (#[.string ByteArray.empty,.string ByteArray.empty,.nilIface]:Array Value) [(0,.string x0),(1,.string Xx4),(2,Xx3)]
 let Xx6←mkB qe Xx5
 M.pure (some Xx6)
theorem qC (x0:ByteArray) (x1:ByteArray):Kg Go.Proofs.Tryz.prog 233 #[.string x0,.string x1] (fun (r:Option Addr)=>.pointer r) (US x0 x1) :=
 KI [XO] [4] [.P] [(0,.S x0),(1,.S x1)] (.q .o (.q (.r [0,0,2,0,13,16,63] [0,0,2,0,13,16,32] [0,0,2,0,15,31,63] (.pu 0 (.pu 1 (.pu 3 (.st [4,5,6] (.on 2 (.pu 4 (.nx (.on 5 (.pu 6 (.nx .dn))))))))))) .o)) Go.Proofs.Tryz.func233 rfl rfl ⟨rfl,rfl,trivial⟩ rfl (by kernel_rfl) (by kernel_rfl)
noncomputable def qD:CalleeS Go.Proofs.Tryz.prog:=mkC Na Nd [.S,.S] [.P] (fun (t:ByteArray × ByteArray)=>US t.1 t.2) (fun (t:ByteArray × ByteArray)=>qC t.1 t.2)
def VV (x0:ByteArray) (x1:ByteArray) (x2:Int) (x3:Int) (x4:Value):M (Value):=do
 let Xx5←eqII Kk x4 (Value.iface Kk (.int .i64 2))
 M.ite Xx5 (do
  let Xx7←WK x0 x1
  M.pure (Value.iface UP (.pointer Xx7))
  ) (do
  let Xx9←eqII Kk x4 (Value.iface Kk (.int .i64 1))
  M.ite Xx9 (do
   let Xx11←US x0 x1
   M.pure (Value.iface UP (.pointer Xx11))
   ) (do
   let Xx13←eqII Kk x4 (Value.iface Kk (.int .i64 3))
   M.ite Xx13 (do
    let Xx15←YI x0 x1 x2
    M.pure (Value.iface UP (.pointer Xx15))
    ) (do
    let Xx17←eqII Kk x4 (Value.iface Kk (.int .i64 4))
    M.ite Xx17 (do
     let Xx19←Vn x0 x1 x3
     M.pure (Value.iface UP (.pointer Xx19))
     ) (do
     M.pure x4
     )
    )
   )
  )
theorem KAe (x0:ByteArray) (x1:ByteArray) (x2:Int) (x3:Int) (x4:Value):Kg Go.Proofs.Tryz.prog 202 #[.string x0,.string x1,.int .i64 x2,.int .i64 x3,x4] (fun (r:Value)=>r) (VV x0 x1 x2 x3 x4) :=
 KI [mkC NG NH [.S,.S] [.P] (fun (t:ByteArray × ByteArray)=>WK t.1 t.2) (fun (t:ByteArray × ByteArray)=>Ng t.1 t.2),qD,mkC N5 N9 [.S,.S,.I .i64] [.P] (fun (t:ByteArray × ByteArray × Int)=>YI t.1 t.2.1 t.2.2) (fun (t:ByteArray × ByteArray × Int)=>qm t.1 t.2.1 t.2.2),mkC Gl Gp [.S,.S,.I .i64] [.P] (fun (t:ByteArray × ByteArray × Int)=>Vn t.1 t.2.1 t.2.2) (fun (t:ByteArray × ByteArray × Int)=>NI t.1 t.2.1 t.2.2)] [17,24,32,40] [.V] [(0,.S x0),(1,.S x1),(2,.I .i64 x2),(3,.I .i64 x3),(4,.V x4)] .o Go.Proofs.Tryz.func202 rfl rfl ⟨rfl,rfl,rfl,rfl,rfl,trivial⟩ rfl (by kernel_rfl) (by kernel_rfl)
noncomputable def KAf:CalleeS Go.Proofs.Tryz.prog:=mkC zU zg [.S,.S,.I .i64,.I .i64,.V] [.V] (fun (t:ByteArray × ByteArray × Int × Int × Value)=>VV t.1 t.2.1 t.2.2.1 t.2.2.2.1 t.2.2.2.2) (fun (t:ByteArray × ByteArray × Int × Int × Value)=>KAe t.1 t.2.1 t.2.2.1 t.2.2.2.1 t.2.2.2.2)
def Uz (x0:ByteArray) (x1:Int) (x2:Int):M (Int × Value):=do
 let Xx3←UU x0 x1 x2
 let Xx6←isNI Xx3.2
 M.ite (!Xx6) (do
  let Xx8←VV (⟨#[80,97,114,115,101,73,110,116]⟩:ByteArray) x0 x1 x2 Xx3.2
  M.pure (Xx3.1,Xx8)
  ) (do
  M.pure (Xx3.1,Value.nilIface)
  )
theorem zt (x0:ByteArray) (x1:Int) (x2:Int):Kg Go.Proofs.Tryz.prog 161 #[.string x0,.int .i64 x1,.int .i64 x2] (fun (r:Int × Value)=>.tuple #[.int .i64 r.1,r.2]) (Uz x0 x1 x2) :=
 KI [mkC XD XI [.S,.I .i64,.I .i64] [.I .i64,.V] (fun (t:ByteArray × Int × Int)=>UU t.1 t.2.1 t.2.2) (fun (t:ByteArray × Int × Int)=>Xb t.1 t.2.1 t.2.2),KAf] [] [.I .i64,.V] [(0,.S x0),(1,.I .i64 x1),(2,.I .i64 x2)] .o Go.Proofs.Tryz.func161 rfl rfl ⟨rfl,rfl,rfl,trivial⟩ rfl (by kernel_rfl) (by kernel_rfl)
noncomputable def zu:CalleeS Go.Proofs.Tryz.prog:=mkC qd qk [.S,.I .i64,.I .i64] [.I .i64,.V] (fun (t:ByteArray × Int × Int)=>Uz t.1 t.2.1 t.2.2) (fun (t:ByteArray × Int × Int)=>zt t.1 t.2.1 t.2.2)
def Yi (C4:ByteArray) (Xx3:ByteArray):M (Int × Int):=do
 let Xx7←M.ite (sEq Xx3 ByteArray.empty) (do
  M.pure true
  ) (do
  let Xx8←s2b ZG Xx3
  let Xx9←ZN Xx8 (Value.func (.func KB4) #[] #[])
  M.pure Xx9
  )
 let Xx10←M.ite Xx7 (do
  M.pure true
  ) (do
  let Xx11←ixS Xx3 0
  let Xx12←M.ite (Xx11 == 48) (do
   M.pure (!(sEq C4 (⟨#[48]⟩:ByteArray)))
   ) (do
   M.pure false
   )
  M.pure Xx12
  )
 M.ite Xx10 (do
  M.pure (0,10)
  ) (do
  let Xx15←Uz C4 10 64
  let Xx17←isNI Xx15.2
  let Xx18←YS Xx15.1 Xx17
  M.pure (Xx18.1,Xx18.2)
  )
def KBj (x0:ByteArray):M (Int × Int):=do
 let Xx20←M.ite (!(sEq x0 ByteArray.empty)) (do
  let Xx21←ixS x0 0
  M.pure (Xx21 == 45)
  ) (do
  M.pure false
  )
 M.ite Xx20 (do
  let Xx22←slS x0 1 x0.size
  Yi x0 Xx22
  ) (do
  Yi x0 x0
  )
theorem KE7 (x0:ByteArray):Kg Go.Proofs.Tryz.prog 114 #[.string x0] (fun (r:Int × Int)=>.tuple #[.int .i64 r.1,.int .i64 r.2]) (KBj x0) :=
 KI [KCX,Wq,zu] [] [.I .i64,.I .i64] [(0,.S x0)] (.q .o (.q .o (.q .o (.j [(0,.S),(4,.S)] (fun (t:ByteArray × ByteArray)=>Yi t.1 t.2) .o)))) Go.Proofs.Tryz.func114 rfl rfl ⟨rfl,trivial⟩ rfl (by kernel_rfl) (by kernel_rfl)
def KBk (x0:Array Value) (x1:Addr):M (Bool):=do
 let Xx2←mkB KB x0
 let Xx4←ldG 4 Xx2
 let Xx5←ldI .i64 x1
 let Xx6←Xe Xx4 (IntKind.wrap .i64 (Xx5+1))
 M.pure (!Xx6)
theorem KDH (x0:Array Value) (x1:Addr):Kg Go.Proofs.Tryz.prog 129 #[.agg x0,.pointer (some x1)] (fun (r:Bool)=>.bool r) (KBk x0 x1) :=
 KI [KBe] [] [.B] [(0,.G x0),(1,.A x1)] .o Go.Proofs.Tryz.func129 rfl rfl ⟨rfl,rfl,trivial⟩ rfl (by kernel_rfl) (by kernel_rfl)
def Kv (x0:Option Addr):M (Value ⊕ (Unit)):=do
 let Xx1←nilP x0
 let Xx2←ldI .i64 ((Xx1).add 1)
 M.pure (.inl (Value.iface JF (.agg (#[.int .i64 Xx2]:Array Value))))
theorem ZK (x0:Option Addr):GI Go.Proofs.Tryz.prog 132 #[.pointer x0] (fun (r:Unit)=>.tuple #[]) (Kv x0):=by
 refine YT [(0,.pointer x0)] Go.Proofs.Tryz.func132 rfl rfl (Nat.le_of_ble_eq_true rfl) (Ym ⟨rfl,trivial⟩) (fun w0 w Q R X a hret hthr hE hR H=>?_)
 unfold Kv at H
 refine KH ?_
 refine KE (v:=.pointer x0) rfl rfl hE rfl (KG hE rfl) (fun a hE=>?_)
 obtain ⟨Xx1,qXx1,H⟩:=H
 refine KE (v:=.pointer (some Xx1)) rfl rfl hE rfl (KM hE (Jj rfl (congrArg Value.pointer qXx1))) (fun a hE=>?_)
 refine KE (v:=.pointer (some ((Xx1).add 1))) rfl rfl hE rfl (KL hE rfl Za) (fun a hE=>?_)
 obtain ⟨Xx2,qXx2,H⟩:=H
 refine KE (v:=.int .i64 Xx2) rfl rfl hE rfl (Z3 hE rfl sc3 qXx2) (fun a hE=>?_)
 refine KE (v:=.agg (#[.int .i64 Xx2]:Array Value)) rfl rfl hE rfl (NU hE rfl KMH KNA (by rfl)) (fun a hE=>?_)
 refine KE (v:=(Value.iface JF (.agg (#[.int .i64 Xx2]:Array Value)))) rfl rfl hE rfl (KDp hE rfl KM9) (fun a hE=>?_)
 exact KKg hE rfl (hthr _ _ hR H)
def Ki (x0:Option Addr):M (Int):=do
 let Xx4←nilP x0
 let Xx5←nilP x0
 let Xx6←ldI .i64 ((Xx4).add 1)
 let Xx7←ldS ((Xx5).add 0)
 M.ite (decide (Xx6 < (Xx7.size:Int))) (do
  let Xx9←nilP x0
  let Xx10←nilP x0
  let Xx11←ldS ((Xx9).add 0)
  let Xx12←ldI .i64 ((Xx10).add 1)
  let Xx13←ixS Xx11 Xx12
  M.pure Xx13
  ) (do
  M.pure 0
  )
theorem Kw (x0:Option Addr):Kg Go.Proofs.Tryz.prog 170 #[.pointer x0] (fun (r:Int)=>.int .u8 r) (Ki x0) :=
 KI [] [0,3,7,13,17] [.I .u8] [(0,.P x0)] (.q .o (.q (.q (.r [0,1,2,4,0,16,32,64,128,264] [0,1,2,4,0,16,32,64,128,264] [0,1,3,7,0,16,48,112,240,511] (.pu 0 (.pu 1 (.pu 2 (.pu 4 (.pu 5 (.pu 6 (.pu 3 (.pu 7 (.pu 8 (.pu 9 (.st [9] .dn)))))))))))) (.q (.q (.r [0,1,2,4,0,16,32,64,136,511] [0,1,2,4,0,16,32,64,136,256] [0,1,3,7,0,16,48,112,255,511] (.pu 0 (.pu 1 (.pu 2 (.pu 4 (.pu 5 (.pu 6 (.pu 3 (.pu 7 (.pu 8 (.pu 9 (.st [8,9] .dn)))))))))))) .o) .o)) .o)) Go.Proofs.Tryz.func170 rfl rfl ⟨rfl,trivial⟩ rfl (by kernel_rfl) (by kernel_rfl)
def YL (x0:Int):M (Bool):=do
 let Xx3←M.ite (decide (x0 ≥ 48)) (do
  M.pure (decide (x0≤57))
  ) (do
  M.pure false
  )
 M.pure Xx3
theorem NA (x0:Int):Kg Go.Proofs.Tryz.prog 171 #[.int .u8 x0] (fun (r:Bool)=>.bool r) (YL x0) :=
 KI [] [] [.B] [(0,.I .u8 x0)] .o Go.Proofs.Tryz.func171 rfl rfl ⟨rfl,trivial⟩ rfl (by kernel_rfl) (by kernel_rfl)
noncomputable def KHe:Array Oper:=KIn Go.Proofs.Tryz.f172 9
def KHf:List (List Nat):=[[],[0],[1],[2],[],[],[5],[6],[7],[8],[3,4,9],[10],[11],[12],[12],[13,11,0,1,2,3,4,5,6,7,8,9,10,11,12,13],[14,15,0,1,2,3,4,5,6,7,8,9,10,11,12,13,14,15]]
def KHg:List (List Nat):=[[],[0],[1],[2],[],[],[5],[6],[7],[8],[3,4,9],[10],[11],[12],[12],[13],[14]]
def KHh:List (List Nat):=[[],[0],[0,1],[0,1,2],[],[],[5],[5,6],[5,6,7],[5,6,7,8],[0,1,2,3,4,5,6,7,8,9],[0,1,2,3,4,5,6,7,8,9,10],[0,1,2,3,4,5,6,7,8,9,10,11],[0,1,2,3,4,5,6,7,8,9,10,11,12],[0,1,2,3,4,5,6,7,8,9,10,11,12],[0,1,2,3,4,5,6,7,8,9,10,11,12,13],[0,1,2,3,4,5,6,7,8,9,10,11,12,13,14,15]]
theorem KKz:KEh Go.Proofs.Tryz.f172 9 KHf KHg KHh=true:=by kernel_rfl
theorem KJE:KEi 17 KHf KHg KHh [0,1,2,4,0,0,32,64,128,256,536,1024,2048,4096,4096,16383,65535] [0,1,2,4,0,0,32,64,128,256,536,1024,2048,4096,4096,8192,16384] [0,1,3,7,0,0,32,96,224,480,1023,2047,4095,8191,8191,16383,65535]=true:=by kernel_rfl
def JT (self1:(Int)→M (Value ⊕ (Int))) (C29:Option Addr) (C31:Int) (C32:Int) (C33:Int):M (Value ⊕ (Int)):=do
 M.ite (C33 != 0) (do
  M.pure (.inr C31)
  ) (do
  let Xx38←nilP C29
  let Xx39←ldI .i64 ((Xx38).add 1)
  let Xx40←nilP C29
  stV ((Xx40).add 1) (.int .i64 (IntKind.wrap .i64 (Xx39+1)))
  self1 C32
  )
def UB (C15:Option Addr) (C16:Int) (self1:(Int)→M (Value ⊕ (Int))):(Int)→M (Value ⊕ (Int)):=fun s=>match s with
 | Xx14=>do
  let Xx20←Ki C15
  let Xx21←YL Xx20
  M.ite Xx21 (do
   let Xx23←nilP C15
   let Xx24←nilP C15
   let Xx25←ldS ((Xx23).add 0)
   let Xx26←ldI .i64 ((Xx24).add 1)
   let Xx27←slS Xx25 C16 (IntKind.wrap .i64 (Xx26+1))
   let Xx28←Nz Go.Proofs.Tryz.prog KDu #[.string Xx27] (fun r:Int × Int=>.tuple #[.int .i64 r.1,.int .i64 r.2])
   M.ite (Xx28.2 == 7) (do
    thr (Kv C15) fun Xx43=>do
     JT self1 C15 Xx14 Xx28.1 Xx28.2
    ) (do
    JT self1 C15 Xx14 Xx28.1 Xx28.2
    )
   ) (do
   M.pure (.inr Xx14)
   )
def Z1 (C10:Option Addr) (C11:Int):M (Value ⊕ (Int)):=do
 M.loop (UB C10 C11) 0
def Z2 (C5:Option Addr) (C6:Int):M (Value ⊕ (Int)):=do
 let Xx8←nilP C5
 let Xx9←ldI .i64 ((Xx8).add 1)
 let Xx46←Ki C5
 let Xx47←YL Xx46
 let Xx48←M.ite (!Xx47) (do
  M.pure true
  ) (do
  let Xx49←M.ite (decide (Xx9 > C6)) (do
   let Xx50←Ki C5
   M.pure (Xx50 == 48)
   ) (do
   M.pure false
   )
  M.pure Xx49
  )
 M.ite Xx48 (do
  thr (Kv C5) fun Xx51=>do
   Z1 C5 C6
  ) (do
  Z1 C5 C6
  )
def JW (x0:Option Addr):M (Value ⊕ (Int)):=do
 let Xx3←nilP x0
 let Xx4←ldI .i64 ((Xx3).add 1)
 let Xx53←Ki x0
 M.ite (Xx53 == 45) (do
  let Xx54←nilP x0
  let Xx55←ldI .i64 ((Xx54).add 1)
  let Xx56←nilP x0
  stV ((Xx56).add 1) (.int .i64 (IntKind.wrap .i64 (Xx55+1)))
  Z2 x0 Xx4
  ) (do
  Z2 x0 Xx4
  )
theorem Yj (x0:Option Addr):GI Go.Proofs.Tryz.prog 172 #[.pointer x0] (fun (r:Int)=>.int .i64 r) (JW x0):=by
 refine YT [(0,.pointer x0)] Go.Proofs.Tryz.func172 rfl rfl (Nat.le_of_ble_eq_true rfl) (Ym ⟨rfl,trivial⟩) (fun w0 w Q R X a hret hthr hE hR H=>?_)
 unfold JW at H
 refine Kx (fun K hK_1=>?_)
 refine KH ?_
 refine KE (v:=.int .i64 0) rfl rfl hE rfl (Kf hE rfl) (fun a hE=>?_)
 refine Kc ?_
 refine hK_1 _ _ ?_
 refine Kx (fun K hK_2=>?_)
 refine KH ?_
 refine KE (v:=.pointer x0) rfl rfl hE rfl (KG hE rfl) (fun a hE=>?_)
 obtain ⟨Xx3,qXx3,H⟩:=H
 refine KE (v:=.pointer (some Xx3)) rfl rfl hE rfl (KM hE (Jj rfl (congrArg Value.pointer qXx3))) (fun a hE=>?_)
 refine KE (v:=.pointer (some ((Xx3).add 1))) rfl rfl hE rfl (KL hE rfl Za) (fun a hE=>?_)
 obtain ⟨Xx4,qXx4,H⟩:=H
 refine KE (v:=.int .i64 Xx4) rfl rfl hE rfl (Z3 hE rfl sc3 qXx4) (fun a hE=>?_)
 refine KE (v:=.int .i64 Xx4) rfl rfl hE rfl (Kf hE rfl) (fun a hE=>?_)
 refine Kc ?_
 refine hK_2 _ _ ?_
 refine Je (fun a w=>Env (⟨76,[]⟩:Frm) a [(0,.pointer x0),(3,.int .i64 Xx4)]∧Rest w0 w∧(Z2 x0 Xx4).wp w.heap Q) ?_ ?_
 ·rintro a w ⟨hE,hR,H⟩
  unfold Z2 at H
  refine Kx (fun K hK_7=>?_)
  refine KH ?_
  refine KE (v:=.pointer x0) rfl rfl hE rfl (KG hE rfl) (fun a hE=>?_)
  obtain ⟨Xx8,qXx8,H⟩:=H
  refine KE (v:=.pointer (some Xx8)) rfl rfl hE rfl (KM hE (Jj rfl (congrArg Value.pointer qXx8))) (fun a hE=>?_)
  refine KE (v:=.pointer (some ((Xx8).add 1))) rfl rfl hE rfl (KL hE rfl Za) (fun a hE=>?_)
  obtain ⟨Xx9,qXx9,H⟩:=H
  refine KE (v:=.int .i64 Xx9) rfl rfl hE rfl (Z3 hE rfl sc3 qXx9) (fun a hE=>?_)
  refine KE (v:=.int .i64 Xx4) rfl rfl hE rfl (KG hE rfl) (fun a hE=>?_)
  refine KE (v:=.bool (decide (Xx9 > Xx4))) rfl rfl hE rfl (Zk hE rfl rfl ZX KEd) (fun a hE=>?_)
  refine KE (v:=.bool (decide (Xx9 > Xx4))) rfl rfl hE rfl (Kf hE rfl) (fun a hE=>?_)
  refine Kc ?_
  refine hK_7 _ _ ?_
  refine Je (fun a w=>Env (⟨76,[]⟩:Frm) a [(0,.pointer x0),(3,.int .i64 Xx4)]∧Rest w0 w∧(Z1 x0 Xx4).wp w.heap Q) ?_ ?_
  ·rintro a w ⟨hE,hR,H⟩
   unfold Z1 at H
   refine Kx (fun K hK_12=>?_)
   refine KH ?_
   refine KE (v:=.int .i64 0) rfl rfl hE rfl (Kf hE rfl) (fun a hE=>?_)
   refine Kc ?_
   refine hK_12 _ _ ?_
   refine Kx (fun K hK_13=>?_)
   refine Yl ?_
   refine KDi (fun (s:Int)=>(⟨76,[]⟩:Frm)) (fun (s:Int)=>[(0,.pointer x0),(3,.int .i64 Xx4),(5,.int .i64 s)]) H (hE.cut (.cons rfl (.cons rfl (.cons rfl Subs.nil)))) hR (fun Y self1 hY_17 Xx14 a w hE hR H=>?_)
   replace hE:Env (⟨76,[]⟩:Frm) a [(0,.pointer x0),(3,.int .i64 Xx4),(5,.int .i64 Xx14)]:=hE
   replace H:(UB x0 Xx4 self1 Xx14).wp w.heap Q:=H
   unfold UB at H
   refine Kx (fun K hK_18=>?_)
   refine Kx (fun K hK_19=>?_)
   refine KH ?_
   refine KE (v:=.pointer x0) rfl rfl hE rfl (KG hE rfl) (fun a hE=>?_)
   refine Vs hE hR Kj rfl (Kw x0) (M.unbind H) (fun Xx20 a w ea hR H=>?_)
   have hE:=Env.put_some hE rfl ea; clear ea
   refine Vs hE hR GD rfl (NA Xx20) (M.unbind H) (fun Xx21 a w ea hR H=>?_)
   have hE:=Env.put_some hE rfl ea; clear ea
   refine Kc ?_
   refine hK_19 _ _ ?_
   refine UE Xx21 hE rfl (fun hb=>?_) (fun hb=>?_)
   ·replace H:=M.ite_t hb H
    refine Vg ?_
    refine hK_18 _ _ ?_
    refine Yl ?_
    refine Kx (fun K hK_22=>?_)
    obtain ⟨Xx23,qXx23,H⟩:=H
    obtain ⟨Xx24,qXx24,H⟩:=H
    obtain ⟨Xx25,qXx25,H⟩:=H
    obtain ⟨Xx26,qXx26,H⟩:=H
    obtain ⟨Xx27,qXx27,H⟩:=H
    refine NT (rops:=KHe) (by kernel_rfl) ?_
    have hT:Tab KHe _ _ _:=NC KKz rfl (by kernel_rfl)
    have hM:=TabM.of KJE
    refine YD (m:=17) (fun w:World=>(fun h:Heap=>(KO h ((Xx23).add 0)=some (.string Xx25))∧(KO h ((Xx24).add 1)=some (.int .i64 Xx26))) w.heap) [10,11,12,13,14,15,16] (unb 17 0) mo hR (by kernel_rfl) (by kernel_rfl) (fun w' e=>by rw [e]; exact ⟨qXx25,qXx26⟩) (fun w hh hR hs=>?_)
    replace H:=M.at hh H; clear hh
    refine KC (i:=0) (v:=.pointer x0) (unb 17 1) rfl rfl hT (anyM hM (by kernel_rfl)) hE rfl (KA rfl) (fun w=>KG hE rfl) (fun a hE=>?_)
    refine KC (i:=1) (v:=.pointer (some Xx23)) (unb 17 3) rfl rfl hT (anyM hM (by kernel_rfl)) hE rfl (KA rfl) (fun w=>KM hE (Jj rfl (congrArg Value.pointer qXx23))) (fun a hE=>?_)
    refine KC (i:=2) (v:=.pointer (some ((Xx23).add 0))) (unb 17 7) rfl rfl hT (anyM hM (by kernel_rfl)) hE rfl (KA rfl) (fun w=>KL hE rfl Y1) (fun a hE=>?_)
    refine KC (i:=4) (v:=.int .i64 Xx4) (unb 17 23) rfl rfl hT (anyM hM (by kernel_rfl)) hE rfl (KA rfl) (fun w=>KG hE rfl) (fun a hE=>?_)
    refine KC (i:=5) (v:=.pointer x0) (unb 17 55) rfl rfl hT (anyM hM (by kernel_rfl)) hE rfl (KA rfl) (fun w=>KG hE rfl) (fun a hE=>?_)
    refine KC (i:=6) (v:=.pointer (some Xx24)) (unb 17 119) rfl rfl hT (anyM hM (by kernel_rfl)) hE rfl (KA rfl) (fun w=>KM hE (Jj rfl (congrArg Value.pointer qXx24))) (fun a hE=>?_)
    refine KC (i:=7) (v:=.pointer (some ((Xx24).add 1))) (unb 17 247) rfl rfl hT (anyM hM (by kernel_rfl)) hE rfl (KA rfl) (fun w=>KL hE rfl Za) (fun a hE=>?_)
    refine Ut (i:=3) (v:=.string Xx25) (unb 17 255) rfl rfl hT (Yo hM (by kernel_rfl)) hE rfl (KA rfl) hs (fun w s=>Z3 hE rfl sc9 s.1) (fun a hE=>?_)
    refine Ut (i:=8) (v:=.int .i64 Xx26) (unb 17 511) rfl rfl hT (Yo hM (by kernel_rfl)) hE rfl (KA rfl) hs (fun w s=>Z3 hE rfl sc3 s.2) (fun a hE=>?_)
    refine KC (i:=9) (v:=.int .i64 (IntKind.wrap .i64 (Xx26+1))) (unb 17 1023) rfl rfl hT (anyM hM (by kernel_rfl)) hE rfl (KA rfl) (fun w=>Zk hE rfl rfl ZX N0) (fun a hE=>?_)
    refine KC (i:=10) (v:=.string Xx27) (unb 17 2047) rfl rfl hT (anyM hM (by kernel_rfl)) hE rfl (KA rfl) (fun w=>KBO hE rfl rfl rfl un9 qXx27) (fun a hE=>?_)
    refine KKM (i:=11) (unb 17 4095) rfl rfl rfl hT (oneM hM (by kernel_rfl)) rfl hE hR (KA rfl) KD2 rfl (WD) (M.unbind H) (fun Xx28 a w ea hR H=>?_)
    have hE:=Env.put_some hE rfl ea; clear ea
    refine KC (i:=12) (v:=.tuple #[.int .i64 Xx28.1,.int .i64 Xx28.2]) (unb 17 8191) rfl rfl hT (anyM hM (by kernel_rfl)) hE rfl (KA rfl) (fun w=>KG hE rfl) (fun a hE=>?_)
    refine KC (i:=13) (v:=.int .i64 Xx28.1) (unb 17 16383) rfl rfl hT (anyM hM (by kernel_rfl)) hE rfl (KA rfl) (fun w=>YU hE rfl rfl) (fun a hE=>?_)
    refine KC (i:=14) (v:=.int .i64 Xx28.2) (unb 17 32767) rfl rfl hT (anyM hM (by kernel_rfl)) hE rfl (KA rfl) (fun w=>YU hE rfl rfl) (fun a hE=>?_)
    refine KC (i:=15) (v:=.int .i64 Xx28.1) (unb 17 65535) rfl rfl hT (anyM hM (by kernel_rfl)) hE rfl (KA rfl) (fun w=>Kf hE rfl) (fun a hE=>?_)
    refine KC (i:=16) (v:=.int .i64 Xx28.2) (unb 17 131071) rfl rfl hT (anyM hM (by kernel_rfl)) hE rfl (KA rfl) (fun w=>Kf hE rfl) (fun a hE=>?_)
    refine GK hT (KA1 hM (by kernel_rfl)) ?_
    refine hK_22 _ _ ?_
    refine Je (fun a w=>Env (⟨76,[]⟩:Frm) a [(0,.pointer x0),(3,.int .i64 Xx4),(5,.int .i64 Xx14),(6,.int .i64 Xx28.1),(7,.int .i64 Xx28.2)]∧Rest w0 w∧(JT self1 x0 Xx14 Xx28.1 Xx28.2).wp w.heap Q) ?_ ?_
    ·rintro a w ⟨hE,hR,H⟩
     unfold JT at H
     refine Kx (fun K hK_34=>?_)
     refine Kx (fun K hK_35=>?_)
     refine KH ?_
     refine KE (v:=.int .i64 Xx28.2) rfl rfl hE rfl (KG hE rfl) (fun a hE=>?_)
     refine KE (v:=.bool (Xx28.2 != 0)) rfl rfl hE rfl (Zk hE rfl rfl ZX KEc) (fun a hE=>?_)
     refine Kc ?_
     refine hK_35 _ _ ?_
     refine UE (Xx28.2 != 0) hE rfl (fun hb=>?_) (fun hb=>?_)
     ·replace H:=M.ite_t hb H
      refine Kx (fun K hK_36=>?_)
      refine KH ?_
      refine KE (v:=.int .i64 Xx14) rfl rfl hE rfl (KG hE rfl) (fun a hE=>?_)
      refine KE (v:=.int .i64 Xx14) rfl rfl hE rfl (Kf hE rfl) (fun a hE=>?_)
      refine Kc ?_
      refine hK_36 _ _ ?_
      refine Gd ?_
      exact hret _ _ _ Xx14 _ hE hR (UF hE rfl (RV.tmp rfl RV.nil)) rfl H
     ·replace H:=M.ite_f hb H
      refine Vg ?_
      refine hK_34 _ _ ?_
      refine Kx (fun K hK_37=>?_)
      refine KH ?_
      refine KE (v:=.int .i64 Xx28.1) rfl rfl hE rfl (KG hE rfl) (fun a hE=>?_)
      refine KE (v:=.int .i64 Xx28.1) rfl rfl hE rfl (Kf hE rfl) (fun a hE=>?_)
      refine Kc ?_
      refine hK_37 _ _ ?_
      refine KH ?_
      refine KE (v:=.pointer x0) rfl rfl hE rfl (KG hE rfl) (fun a hE=>?_)
      obtain ⟨Xx38,qXx38,H⟩:=H
      refine KE (v:=.pointer (some Xx38)) rfl rfl hE rfl (KM hE (Jj rfl (congrArg Value.pointer qXx38))) (fun a hE=>?_)
      refine KE (v:=.pointer (some ((Xx38).add 1))) rfl rfl hE rfl (KL hE rfl Za) (fun a hE=>?_)
      obtain ⟨Xx39,qXx39,H⟩:=H
      refine KE (v:=.int .i64 Xx39) rfl rfl hE rfl (Z3 hE rfl sc3 qXx39) (fun a hE=>?_)
      refine KE (v:=.int .i64 (IntKind.wrap .i64 (Xx39+1))) rfl rfl hE rfl (Zk hE rfl rfl ZX N0) (fun a hE=>?_)
      obtain ⟨Xx40,qXx40,H⟩:=H
      refine KE (v:=.pointer (some Xx40)) rfl rfl hE rfl (KM hE (Jj rfl (congrArg Value.pointer qXx40))) (fun a hE=>?_)
      refine KE (v:=.pointer (some ((Xx40).add 1))) rfl rfl hE rfl (KL hE rfl Za) (fun a hE=>?_)
      obtain ⟨u_41,qu_41,H⟩:=H
      refine XA rfl rfl hE hR (VD hE rfl rfl sz3 qu_41) (fun a w hE hR hh=>?_)
      replace H:=M.at hh H; clear hh
      refine Kc ?_
      exact hY_17 Xx28.1 _ _ (hE.cut (.cons rfl (.cons rfl (.cons rfl Subs.nil)))) hR H
    ·skip
     refine Kx (fun K hK_42=>?_)
     refine KH ?_
     refine KE (v:=.int .i64 Xx28.2) rfl rfl hE rfl (KG hE rfl) (fun a hE=>?_)
     refine KE (v:=.bool (Xx28.2 == 7)) rfl rfl hE rfl (Zk hE rfl rfl ZX NE) (fun a hE=>?_)
     refine Kc ?_
     refine hK_42 _ _ ?_
     refine UE (Xx28.2 == 7) hE rfl (fun hb=>?_) (fun hb=>?_)
     ·replace H:=M.ite_t hb H
      refine KH ?_
      refine KE (v:=.pointer x0) rfl rfl hE rfl (KG hE rfl) (fun a hE=>?_)
      refine JU hE hR ZD rfl (ZK x0) H (fun _ _ hR HQ=>Xu.ne rfl (Xu.ne rfl (hthr _ _ hR HQ))) (fun Xx43 a w ea hR H=>?_)
      have hE:=Env.put_some hE rfl ea; clear ea
      refine Kc ?_
      exact ⟨hE.cut (.cons rfl (.cons rfl (.cons rfl (.cons rfl (.cons rfl Subs.nil))))),hR,H⟩
     ·replace H:=M.ite_f hb H
      refine Vg ?_
      exact ⟨hE.cut (.cons rfl (.cons rfl (.cons rfl (.cons rfl (.cons rfl Subs.nil))))),hR,H⟩
   ·replace H:=M.ite_f hb H
    refine KDd ?_
    refine Xu.same ?_
    refine hK_13 _ _ ?_
    refine Kx (fun K hK_44=>?_)
    refine KH ?_
    refine KE (v:=.int .i64 Xx14) rfl rfl hE rfl (KG hE rfl) (fun a hE=>?_)
    refine KE (v:=.int .i64 Xx14) rfl rfl hE rfl (Kf hE rfl) (fun a hE=>?_)
    refine Kc ?_
    refine hK_44 _ _ ?_
    refine Gd ?_
    exact hret _ _ _ Xx14 _ hE hR (UF hE rfl (RV.tmp rfl RV.nil)) rfl H
  ·skip
   refine Kx (fun K hK_45=>?_)
   refine KH ?_
   refine KE (v:=.pointer x0) rfl rfl hE rfl (KG hE rfl) (fun a hE=>?_)
   refine Vs hE hR Kj rfl (Kw x0) (M.unbind H) (fun Xx46 a w ea hR H=>?_)
   have hE:=Env.put_some hE rfl ea; clear ea
   refine Vs hE hR GD rfl (NA Xx46) (M.unbind H) (fun Xx47 a w ea hR H=>?_)
   have hE:=Env.put_some hE rfl ea; clear ea
   refine KE (v:=.bool (!Xx47)) rfl rfl hE rfl (r_un hE rfl KKE) (fun a hE=>?_)
   refine KE (v:=.bool (!Xx47)) rfl rfl hE rfl (KG hE rfl) (fun a hE=>?_)
   refine KEg (n:=(⟨76,[]⟩:Frm)) (w0:=w0) 7 (fun Xx48:Bool=>[(0,.pointer x0),(3,.int .i64 Xx4),(39,.bool Xx48)]) (M.unbind H) (fun Kr hKr H=>?_) ?_
   ·rcases WE (!Xx47) with hb | hb
    ·replace H:=M.ite_t hb H
     have hE:=hE.reb 32 (!Xx47) true hb rfl
     refine qT rfl hE rfl rfl rfl (fun a ea=>?_)
     have hE:=Env.put_some hE rfl ea; clear ea
     refine qT rfl hE rfl rfl rfl (fun a ea=>?_)
     have hE:=Env.put_some hE rfl ea; clear ea
     refine KFU rfl hE rfl rfl (fun b hb=>by cases hb) (fun a ea=>?_)
     have hE:=Env.put_some hE rfl ea; clear ea
     refine KFU rfl hE rfl rfl (fun b hb=>by cases hb) (fun a ea=>?_)
     have hE:=Env.put_some hE rfl ea; clear ea
     refine KFU rfl hE rfl rfl (fun b hb=>by cases hb) (fun a ea=>?_)
     have hE:=Env.put_some hE rfl ea; clear ea
     refine qT rfl hE rfl rfl rfl (fun a ea=>?_)
     have hE:=Env.put_some hE rfl ea; clear ea
     refine KE rfl rfl hE rfl (UW hE rfl rfl) (fun a hE=>?_)
     refine Kc ?_
     exact hKr _ _ _ (hE.cut (.cons rfl (.cons rfl (.cons rfl Subs.nil)))) hR H
    ·replace H:=M.ite_f hb H
     have hE:=hE.reb 32 (!Xx47) false hb rfl
     refine t_on rfl hE rfl rfl rfl ?_
     refine KE (v:=.bool (decide (Xx9 > Xx4))) rfl rfl hE rfl (KG hE rfl) (fun a hE=>?_)
     refine t_on rfl hE rfl rfl rfl ?_
     refine KE (v:=.bool (decide (Xx9 > Xx4))) rfl rfl hE rfl (KG hE rfl) (fun a hE=>?_)
     refine KEg (n:=(⟨76,[]⟩:Frm)) (w0:=w0) 4 (fun Xx49:Bool=>[(0,.pointer x0),(3,.int .i64 Xx4),(32,.bool false),(38,.bool Xx49)]) (M.unbind H) (fun Kr hKr H=>?_) ?_
     ·rcases WE (decide (Xx9 > Xx4)) with hb | hb
      ·replace H:=M.ite_t hb H
       have hE:=hE.reb 34 (decide (Xx9 > Xx4)) true hb rfl
       refine t_on rfl hE rfl rfl rfl ?_
       refine KE (v:=.pointer x0) rfl rfl hE rfl (KG hE rfl) (fun a hE=>?_)
       refine t_on rfl hE rfl rfl rfl ?_
       refine Vs hE hR Kj rfl (Kw x0) (M.unbind H) (fun Xx50 a w ea hR H=>?_)
       have hE:=Env.put_some hE rfl ea; clear ea
       refine t_on rfl hE rfl rfl rfl ?_
       refine KE (v:=.bool (Xx50 == 48)) rfl rfl hE rfl (Zk hE rfl rfl ZX NE) (fun a hE=>?_)
       refine t_on rfl hE rfl rfl rfl ?_
       refine KE rfl rfl hE rfl (UW hE rfl rfl) (fun a hE=>?_)
       refine Kc ?_
       exact hKr _ _ _ (hE.cut (.cons rfl (.cons rfl (.cons rfl (.cons rfl Subs.nil))))) hR H
      ·replace H:=M.ite_f hb H
       have hE:=hE.reb 34 (decide (Xx9 > Xx4)) false hb rfl
       refine qT rfl hE rfl rfl rfl (fun a ea=>?_)
       have hE:=Env.put_some hE rfl ea; clear ea
       refine qT rfl hE rfl rfl rfl (fun a ea=>?_)
       have hE:=Env.put_some hE rfl ea; clear ea
       refine qT rfl hE rfl rfl rfl (fun a ea=>?_)
       have hE:=Env.put_some hE rfl ea; clear ea
       refine t_on rfl hE rfl rfl rfl ?_
       refine KE rfl rfl hE rfl (Jf hE rfl rfl) (fun a hE=>?_)
       refine Kc ?_
       exact hKr _ _ _ (hE.cut (.cons rfl (.cons rfl (.cons rfl (.cons rfl Subs.nil))))) hR H
     ·intro Xx49 a w hE hR H
      refine KE rfl rfl hE rfl (Jf hE rfl rfl) (fun a hE=>?_)
      refine Kc ?_
      exact hKr _ _ _ (hE.cut (.cons rfl (.cons rfl (.cons rfl Subs.nil)))) hR H
   ·intro Xx48 a w hE hR H
    refine Kc ?_
    refine hK_45 _ _ ?_
    refine UE Xx48 hE rfl (fun hb=>?_) (fun hb=>?_)
    ·replace H:=M.ite_t hb H
     refine KH ?_
     refine KE (v:=.pointer x0) rfl rfl hE rfl (KG hE rfl) (fun a hE=>?_)
     refine JU hE hR ZD rfl (ZK x0) H (fun _ _ hR HQ=>hthr _ _ hR HQ) (fun Xx51 a w ea hR H=>?_)
     have hE:=Env.put_some hE rfl ea; clear ea
     refine Kc ?_
     exact ⟨hE.cut (.cons rfl (.cons rfl Subs.nil)),hR,H⟩
    ·replace H:=M.ite_f hb H
     refine Vg ?_
     exact ⟨hE.cut (.cons rfl (.cons rfl Subs.nil)),hR,H⟩
 ·skip
  refine Kx (fun K hK_52=>?_)
  refine KH ?_
  refine KE (v:=.pointer x0) rfl rfl hE rfl (KG hE rfl) (fun a hE=>?_)
  refine Vs hE hR Kj rfl (Kw x0) (M.unbind H) (fun Xx53 a w ea hR H=>?_)
  have hE:=Env.put_some hE rfl ea; clear ea
  refine KE (v:=.bool (Xx53 == 45)) rfl rfl hE rfl (Zk hE rfl rfl ZX NE) (fun a hE=>?_)
  refine Kc ?_
  refine hK_52 _ _ ?_
  refine UE (Xx53 == 45) hE rfl (fun hb=>?_) (fun hb=>?_)
  ·replace H:=M.ite_t hb H
   refine KH ?_
   refine KE (v:=.pointer x0) rfl rfl hE rfl (KG hE rfl) (fun a hE=>?_)
   obtain ⟨Xx54,qXx54,H⟩:=H
   refine KE (v:=.pointer (some Xx54)) rfl rfl hE rfl (KM hE (Jj rfl (congrArg Value.pointer qXx54))) (fun a hE=>?_)
   refine KE (v:=.pointer (some ((Xx54).add 1))) rfl rfl hE rfl (KL hE rfl Za) (fun a hE=>?_)
   obtain ⟨Xx55,qXx55,H⟩:=H
   refine KE (v:=.int .i64 Xx55) rfl rfl hE rfl (Z3 hE rfl sc3 qXx55) (fun a hE=>?_)
   refine KE (v:=.int .i64 (IntKind.wrap .i64 (Xx55+1))) rfl rfl hE rfl (Zk hE rfl rfl ZX N0) (fun a hE=>?_)
   obtain ⟨Xx56,qXx56,H⟩:=H
   refine KE (v:=.pointer (some Xx56)) rfl rfl hE rfl (KM hE (Jj rfl (congrArg Value.pointer qXx56))) (fun a hE=>?_)
   refine KE (v:=.pointer (some ((Xx56).add 1))) rfl rfl hE rfl (KL hE rfl Za) (fun a hE=>?_)
   obtain ⟨u_57,qu_57,H⟩:=H
   refine XA rfl rfl hE hR (VD hE rfl rfl sz3 qu_57) (fun a w hE hR hh=>?_)
   replace H:=M.at hh H; clear hh
   refine Kc ?_
   exact ⟨hE.cut (.cons rfl (.cons rfl Subs.nil)),hR,H⟩
  ·replace H:=M.ite_f hb H
   refine Vg ?_
   exact ⟨hE.cut (.cons rfl (.cons rfl Subs.nil)),hR,H⟩
end Gx
namespace Gx
open Go
set_option linter.unusedVariables false
set_option maxRecDepth 100000
def Jv (self1:(Int)→M (Value ⊕ (Unit))) (C11:Option Addr) (C14:Int):M (Value ⊕ (Unit)):=do
 let Xx15←nilP C11
 let Xx16←ldI .i64 ((Xx15).add 1)
 let Xx17←nilP C11
 stV ((Xx17).add 1) (.int .i64 (IntKind.wrap .i64 (Xx16+1)))
 self1 (IntKind.wrap .i64 (C14+1))
def Zt (self1:(Int)→M (Value ⊕ (Unit))) (C20:Option Addr) (C23:Int) (Xx19:Bool):M (Value ⊕ (Unit)):=do
 M.ite Xx19 (do
  thr (Kv C20) fun Xx24=>do
   Jv self1 C20 C23
  ) (do
  Jv self1 C20 C23
  )
noncomputable def KDI:Array Oper:=KIn Go.Proofs.Tryz.f174 3
def KHi:List (List Nat):=[[],[0],[1],[2],[],[4],[5],[6],[7],[3,8],[9],[10],[11,10],[12,10],[13,10],[10],[15,10],[16,10],[17,10],[14,18,10],[10],[10],[20,21,10],[19,22,10],[10,23]]
def KHj:List (List Nat):=[[],[0],[1],[2],[],[4],[5],[6],[7],[3,8],[9],[10],[10,11],[10,12],[10,13],[10],[10,15],[10,16],[10,17],[10,14,18],[10],[10],[10,20,21],[10,19,22],[10,23]]
def KHk:List (List Nat):=[[],[0],[0,1],[0,1,2],[],[4],[4,5],[4,5,6],[4,5,6,7],[0,1,2,3,4,5,6,7,8],[0,1,2,3,4,5,6,7,8,9],[0,1,2,3,4,5,6,7,8,9,10],[0,1,2,3,4,5,6,7,8,9,10,11],[0,1,2,3,4,5,6,7,8,9,10,11,12],[0,1,2,3,4,5,6,7,8,9,10,11,12,13],[0,1,2,3,4,5,6,7,8,9,10],[0,1,2,3,4,5,6,7,8,9,10,15],[0,1,2,3,4,5,6,7,8,9,10,15,16],[0,1,2,3,4,5,6,7,8,9,10,15,16,17],[0,1,2,3,4,5,6,7,8,9,10,11,12,13,14,15,16,17,18],[0,1,2,3,4,5,6,7,8,9,10],[0,1,2,3,4,5,6,7,8,9,10],[0,1,2,3,4,5,6,7,8,9,10,20,21],[0,1,2,3,4,5,6,7,8,9,10,11,12,13,14,15,16,17,18,19,20,21,22],[0,1,2,3,4,5,6,7,8,9,10,11,12,13,14,15,16,17,18,19,20,21,22,23]]
theorem KHl:KEh Go.Proofs.Tryz.f174 3 KHi KHj KHk=true:=by kernel_rfl
theorem KFk:KEi 25 KHi KHj KHk [0,1,2,4,0,16,32,64,128,264,512,1024,3072,5120,9216,1024,33792,66560,132096,279552,1024,1024,3146752,4719616,8389632] [0,1,2,4,0,16,32,64,128,264,512,1024,3072,5120,9216,1024,33792,66560,132096,279552,1024,1024,3146752,4719616,8389632] [0,1,3,7,0,16,48,112,240,511,1023,2047,4095,8191,16383,2047,34815,100351,231423,524287,2047,2047,3147775,8388607,16777215]=true:=by kernel_rfl
def UZ (C3:Option Addr) (C4:ByteArray) (C5:Int) (self1:(Int)→M (Value ⊕ (Unit))):(Int)→M (Value ⊕ (Unit)):=fun s=>match s with
 | Xx2=>do
  M.ite (decide (Xx2 < C5)) (do
   let Xx25←nilP C3
   let Xx26←nilP C3
   let Xx27←ldI .i64 ((Xx25).add 1)
   let Xx28←ldS ((Xx26).add 0)
   M.ite (decide (Xx27 ≥ (Xx28.size:Int))) (do
    Zt self1 C3 Xx2 true
    ) (do
    let Xx30←nilP C3
    let Xx31←nilP C3
    let Xx32←ixS C4 Xx2
    let Xx33←ldS ((Xx30).add 0)
    let Xx34←ldI .i64 ((Xx31).add 1)
    let Xx35←ixS Xx33 Xx34
    Zt self1 C3 Xx2 (Xx35 != Xx32)
    )
   ) (do
   M.pure (.inr ())
   )
def ZH (x0:Option Addr) (x1:ByteArray):M (Value ⊕ (Unit)):=do
 M.loop (UZ x0 x1 (x1.size:Int)) 0
theorem Zi (x0:Option Addr) (x1:ByteArray):GI Go.Proofs.Tryz.prog 174 #[.pointer x0,.string x1] (fun (r:Unit)=>.tuple #[]) (ZH x0 x1):=by
 refine YT [(0,.pointer x0),(1,.string x1)] Go.Proofs.Tryz.func174 rfl rfl (Nat.le_of_ble_eq_true rfl) (Ym ⟨rfl,rfl,trivial⟩) (fun w0 w Q R X a hret hthr hE hR H=>?_)
 unfold ZH at H
 refine Kx (fun K hK_1=>?_)
 refine KH ?_
 refine KE (v:=.string x1) rfl rfl hE rfl (KG hE rfl) (fun a hE=>?_)
 refine KE (v:=.int .i64 (x1.size:Int)) rfl rfl hE rfl (GJ hE rfl un9) (fun a hE=>?_)
 refine KE (v:=.int .i64 0) rfl rfl hE rfl (KG hE rfl) (fun a hE=>?_)
 refine Kc ?_
 refine hK_1 _ _ ?_
 refine Yl ?_
 refine KDi (fun (s:Int)=>(⟨45,[]⟩:Frm)) (fun (s:Int)=>[(0,.pointer x0),(1,.string x1),(6,.int .i64 (x1.size:Int)),(7,.int .i64 s)]) H (hE.cut (.cons rfl (.cons rfl (.cons rfl (.cons rfl Subs.nil))))) hR (fun Y self1 hY_6 Xx2 a w hE hR H=>?_)
 replace hE:Env (⟨45,[]⟩:Frm) a [(0,.pointer x0),(1,.string x1),(6,.int .i64 (x1.size:Int)),(7,.int .i64 Xx2)]:=hE
 replace H:(UZ x0 x1 (x1.size:Int) self1 Xx2).wp w.heap Q:=H
 unfold UZ at H
 refine Kx (fun K hK_7=>?_)
 refine KH ?_
 refine KE (v:=.bool (decide (Xx2 < (x1.size:Int)))) rfl rfl hE rfl (Zk hE rfl rfl ZX KA0) (fun a hE=>?_)
 refine Kc ?_
 refine hK_7 _ _ ?_
 refine Kx (fun K hK_8=>?_)
 refine UE (decide (Xx2 < (x1.size:Int))) hE rfl (fun hb=>?_) (fun hb=>?_)
 ·replace H:=M.ite_t hb H
  refine Vg ?_
  refine hK_8 _ _ ?_
  refine Kx (fun K hK_9=>?_)
  refine Yl ?_
  refine Kx (fun K hK_10=>?_)
  refine KH ?_
  refine KE (v:=.int .i64 Xx2) rfl rfl hE rfl (KG hE rfl) (fun a hE=>?_)
  refine KE (v:=.int .i64 Xx2) rfl rfl hE rfl (Kf hE rfl) (fun a hE=>?_)
  refine Kc ?_
  refine hK_10 _ _ ?_
  refine Je (fun a w=>Env (⟨45,[]⟩:Frm) a [(0,.pointer x0),(1,.string x1),(6,.int .i64 (x1.size:Int)),(7,.int .i64 Xx2)]∧Rest w0 w∧(Jv self1 x0 Xx2).wp w.heap Q) ?_ ?_
  ·rintro a w ⟨hE,hR,H⟩
   unfold Jv at H
   refine KH ?_
   refine KE (v:=.pointer x0) rfl rfl hE rfl (KG hE rfl) (fun a hE=>?_)
   obtain ⟨Xx15,qXx15,H⟩:=H
   refine KE (v:=.pointer (some Xx15)) rfl rfl hE rfl (KM hE (Jj rfl (congrArg Value.pointer qXx15))) (fun a hE=>?_)
   refine KE (v:=.pointer (some ((Xx15).add 1))) rfl rfl hE rfl (KL hE rfl Za) (fun a hE=>?_)
   obtain ⟨Xx16,qXx16,H⟩:=H
   refine KE (v:=.int .i64 Xx16) rfl rfl hE rfl (Z3 hE rfl sc3 qXx16) (fun a hE=>?_)
   refine KE (v:=.int .i64 (IntKind.wrap .i64 (Xx16+1))) rfl rfl hE rfl (Zk hE rfl rfl ZX N0) (fun a hE=>?_)
   obtain ⟨Xx17,qXx17,H⟩:=H
   refine KE (v:=.pointer (some Xx17)) rfl rfl hE rfl (KM hE (Jj rfl (congrArg Value.pointer qXx17))) (fun a hE=>?_)
   refine KE (v:=.pointer (some ((Xx17).add 1))) rfl rfl hE rfl (KL hE rfl Za) (fun a hE=>?_)
   obtain ⟨u_18,qu_18,H⟩:=H
   refine XA rfl rfl hE hR (VD hE rfl rfl sz3 qu_18) (fun a w hE hR hh=>?_)
   replace H:=M.at hh H; clear hh
   refine Kc ?_
   refine hK_9 _ _ ?_
   refine KH ?_
   refine KE (v:=.int .i64 (IntKind.wrap .i64 (Xx2+1))) rfl rfl hE rfl (Zk hE rfl rfl ZX N0) (fun a hE=>?_)
   refine KE (v:=.int .i64 (IntKind.wrap .i64 (Xx2+1))) rfl rfl hE rfl (KG hE rfl) (fun a hE=>?_)
   refine Kc ?_
   exact hY_6 (IntKind.wrap .i64 (Xx2+1)) _ _ (hE.cut (.cons rfl (.cons rfl (.cons rfl (.cons rfl Subs.nil))))) hR H
  ·skip
   refine Je (fun a w=>∃ (Xx19:Bool),Env (⟨45,[]⟩:Frm) a [(0,.pointer x0),(1,.string x1),(6,.int .i64 (x1.size:Int)),(7,.int .i64 Xx2),(34,.bool Xx19)]∧Rest w0 w∧(Zt self1 x0 Xx2 Xx19).wp w.heap Q) ?_ ?_
   ·rintro a w ⟨Xx19,hE,hR,H⟩
    unfold Zt at H
    refine UE Xx19 hE rfl (fun hb=>?_) (fun hb=>?_)
    ·replace H:=M.ite_t hb H
     refine KH ?_
     refine KE (v:=.pointer x0) rfl rfl hE rfl (KG hE rfl) (fun a hE=>?_)
     refine JU hE hR ZD rfl (ZK x0) H (fun _ _ hR HQ=>Xu.ne rfl (Xu.ne rfl (hthr _ _ hR HQ))) (fun Xx24 a w ea hR H=>?_)
     have hE:=Env.put_some hE rfl ea; clear ea
     refine Kc ?_
     exact ⟨hE.cut (.cons rfl (.cons rfl (.cons rfl (.cons rfl Subs.nil)))),hR,H⟩
    ·replace H:=M.ite_f hb H
     refine Vg ?_
     exact ⟨hE.cut (.cons rfl (.cons rfl (.cons rfl (.cons rfl Subs.nil)))),hR,H⟩
   ·skip
    obtain ⟨Xx25,qXx25,H⟩:=H
    obtain ⟨Xx26,qXx26,H⟩:=H
    obtain ⟨Xx27,qXx27,H⟩:=H
    obtain ⟨Xx28,qXx28,H⟩:=H
    rcases WE (decide (Xx27 ≥ (Xx28.size:Int))) with hb_29 | hb_29
    ·replace H:=M.ite_t hb_29 H
     refine NT (rops:=KDI) (by kernel_rfl) ?_
     have hT:Tab KDI _ _ _:=NC KHl rfl (by kernel_rfl)
     have hM:=TabM.of KFk
     refine YD (m:=25) (fun w:World=>(fun h:Heap=>(KO h ((Xx25).add 1)=some (.int .i64 Xx27))∧(KO h ((Xx26).add 0)=some (.string Xx28))) w.heap) [9,10,11,12,13,14,15,16,17,18,19,20,21,22,23,24] (unb 25 0) mo hR (by kernel_rfl) (by kernel_rfl) (fun w' e=>by rw [e]; exact ⟨qXx27,qXx28⟩) (fun w hh hR hs=>?_)
     replace H:=M.at hh H; clear hh
     refine KC (i:=0) (v:=.pointer x0) (unb 25 1) rfl rfl hT (anyM hM (by kernel_rfl)) hE rfl (KA rfl) (fun w=>KG hE rfl) (fun a hE=>?_)
     refine KC (i:=1) (v:=.pointer (some Xx25)) (unb 25 3) rfl rfl hT (anyM hM (by kernel_rfl)) hE rfl (KA rfl) (fun w=>KM hE (Jj rfl (congrArg Value.pointer qXx25))) (fun a hE=>?_)
     refine KC (i:=2) (v:=.pointer (some ((Xx25).add 1))) (unb 25 7) rfl rfl hT (anyM hM (by kernel_rfl)) hE rfl (KA rfl) (fun w=>KL hE rfl Za) (fun a hE=>?_)
     refine KC (i:=4) (v:=.pointer x0) (unb 25 23) rfl rfl hT (anyM hM (by kernel_rfl)) hE rfl (KA rfl) (fun w=>KG hE rfl) (fun a hE=>?_)
     refine KC (i:=5) (v:=.pointer (some Xx26)) (unb 25 55) rfl rfl hT (anyM hM (by kernel_rfl)) hE rfl (KA rfl) (fun w=>KM hE (Jj rfl (congrArg Value.pointer qXx26))) (fun a hE=>?_)
     refine KC (i:=6) (v:=.pointer (some ((Xx26).add 0))) (unb 25 119) rfl rfl hT (anyM hM (by kernel_rfl)) hE rfl (KA rfl) (fun w=>KL hE rfl Y1) (fun a hE=>?_)
     refine Ut (i:=3) (v:=.int .i64 Xx27) (unb 25 127) rfl rfl hT (Yo hM (by kernel_rfl)) hE rfl (KA rfl) hs (fun w s=>Z3 hE rfl sc3 s.1) (fun a hE=>?_)
     refine Ut (i:=7) (v:=.string Xx28) (unb 25 255) rfl rfl hT (Yo hM (by kernel_rfl)) hE rfl (KA rfl) hs (fun w s=>Z3 hE rfl sc9 s.2) (fun a hE=>?_)
     refine KC (i:=8) (v:=.int .i64 (Xx28.size:Int)) (unb 25 511) rfl rfl hT (anyM hM (by kernel_rfl)) hE rfl (KA rfl) (fun w=>GJ hE rfl un9) (fun a hE=>?_)
     refine KC (i:=9) (v:=.bool (decide (Xx27 ≥ (Xx28.size:Int)))) (unb 25 1023) rfl rfl hT (anyM hM (by kernel_rfl)) hE rfl (KA rfl) (fun w=>Zk hE rfl rfl ZX KBJ) (fun a hE=>?_)
     refine KC (i:=10) (v:=.bool (decide (Xx27 ≥ (Xx28.size:Int)))) (unb 25 2047) rfl rfl hT (anyM hM (by kernel_rfl)) hE rfl (KA rfl) (fun w=>KG hE rfl) (fun a hE=>?_)
     have hE:=hE.reb 20 (decide (Xx27 ≥ (Xx28.size:Int))) true hb_29 rfl
     replace hE:=hE.cut (l':=[(0,.pointer x0),(1,.string x1),(6,.int .i64 (x1.size:Int)),(7,.int .i64 Xx2),(4,.int .i64 Xx2),(20,.bool true)]) (.cons rfl (.cons rfl (.cons rfl (.cons rfl (.cons rfl (.cons rfl Subs.nil))))))
     refine zD [(11,some 21),(12,some 22),(13,some 23),(14,some 24),(15,some 25),(16,some 26),(17,some 27),(18,some 28),(19,some 29),(20,some 30),(21,some 31),(22,some 32),(23,some 33)] 1 hT hM hE (by kernel_rfl) (m':=16777215) (by kernel_rfl) (fun a hE=>?_)
     refine KC (i:=24) (v:=.bool true) (unb 25 33554431) rfl rfl hT (anyM hM (by kernel_rfl)) hE rfl (KA rfl) (fun w=>UW hE rfl rfl) (fun a hE=>?_)
     refine GK hT (KA1 hM (by kernel_rfl)) ?_
     exact ⟨true,hE.cut (.cons rfl (.cons rfl (.cons rfl (.cons rfl (.cons rfl Subs.nil))))),hR,H⟩
    ·replace H:=M.ite_f hb_29 H
     obtain ⟨Xx30,qXx30,H⟩:=H
     obtain ⟨Xx31,qXx31,H⟩:=H
     obtain ⟨Xx32,qXx32,H⟩:=H
     obtain ⟨Xx33,qXx33,H⟩:=H
     obtain ⟨Xx34,qXx34,H⟩:=H
     obtain ⟨Xx35,qXx35,H⟩:=H
     refine NT (rops:=KDI) (by kernel_rfl) ?_
     have hT:Tab KDI _ _ _:=NC KHl rfl (by kernel_rfl)
     have hM:=TabM.of KFk
     refine YD (m:=25) (fun w:World=>(fun h:Heap=>(KO h ((Xx25).add 1)=some (.int .i64 Xx27))∧(KO h ((Xx26).add 0)=some (.string Xx28))∧(KO h ((Xx30).add 0)=some (.string Xx33))∧(KO h ((Xx31).add 1)=some (.int .i64 Xx34))) w.heap) [19,23,24] (unb 25 0) mo hR (by kernel_rfl) (by kernel_rfl) (fun w' e=>by rw [e]; exact ⟨qXx27,qXx28,qXx33,qXx34⟩) (fun w hh hR hs=>?_)
     replace H:=M.at hh H; clear hh
     refine KC (i:=0) (v:=.pointer x0) (unb 25 1) rfl rfl hT (anyM hM (by kernel_rfl)) hE rfl (KA rfl) (fun w=>KG hE rfl) (fun a hE=>?_)
     refine KC (i:=1) (v:=.pointer (some Xx25)) (unb 25 3) rfl rfl hT (anyM hM (by kernel_rfl)) hE rfl (KA rfl) (fun w=>KM hE (Jj rfl (congrArg Value.pointer qXx25))) (fun a hE=>?_)
     refine KC (i:=2) (v:=.pointer (some ((Xx25).add 1))) (unb 25 7) rfl rfl hT (anyM hM (by kernel_rfl)) hE rfl (KA rfl) (fun w=>KL hE rfl Za) (fun a hE=>?_)
     refine KC (i:=4) (v:=.pointer x0) (unb 25 23) rfl rfl hT (anyM hM (by kernel_rfl)) hE rfl (KA rfl) (fun w=>KG hE rfl) (fun a hE=>?_)
     refine KC (i:=5) (v:=.pointer (some Xx26)) (unb 25 55) rfl rfl hT (anyM hM (by kernel_rfl)) hE rfl (KA rfl) (fun w=>KM hE (Jj rfl (congrArg Value.pointer qXx26))) (fun a hE=>?_)
     refine KC (i:=6) (v:=.pointer (some ((Xx26).add 0))) (unb 25 119) rfl rfl hT (anyM hM (by kernel_rfl)) hE rfl (KA rfl) (fun w=>KL hE rfl Y1) (fun a hE=>?_)
     refine Ut (i:=3) (v:=.int .i64 Xx27) (unb 25 127) rfl rfl hT (Yo hM (by kernel_rfl)) hE rfl (KA rfl) hs (fun w s=>Z3 hE rfl sc3 s.1) (fun a hE=>?_)
     refine Ut (i:=7) (v:=.string Xx28) (unb 25 255) rfl rfl hT (Yo hM (by kernel_rfl)) hE rfl (KA rfl) hs (fun w s=>Z3 hE rfl sc9 s.2.1) (fun a hE=>?_)
     refine KC (i:=8) (v:=.int .i64 (Xx28.size:Int)) (unb 25 511) rfl rfl hT (anyM hM (by kernel_rfl)) hE rfl (KA rfl) (fun w=>GJ hE rfl un9) (fun a hE=>?_)
     refine KC (i:=9) (v:=.bool (decide (Xx27 ≥ (Xx28.size:Int)))) (unb 25 1023) rfl rfl hT (anyM hM (by kernel_rfl)) hE rfl (KA rfl) (fun w=>Zk hE rfl rfl ZX KBJ) (fun a hE=>?_)
     refine KC (i:=10) (v:=.bool (decide (Xx27 ≥ (Xx28.size:Int)))) (unb 25 2047) rfl rfl hT (anyM hM (by kernel_rfl)) hE rfl (KA rfl) (fun w=>KG hE rfl) (fun a hE=>?_)
     have hE:=hE.reb 20 (decide (Xx27 ≥ (Xx28.size:Int))) false hb_29 rfl
     replace hE:=hE.cut (l':=[(0,.pointer x0),(1,.string x1),(6,.int .i64 (x1.size:Int)),(7,.int .i64 Xx2),(4,.int .i64 Xx2),(20,.bool false)]) (.cons rfl (.cons rfl (.cons rfl (.cons rfl (.cons rfl (.cons rfl Subs.nil))))))
     refine KC (i:=11) (v:=.pointer x0) (unb 25 4095) rfl rfl hT (anyM hM (by kernel_rfl)) hE rfl (KQ rfl hE rfl rfl rfl) (fun w=>KG hE rfl) (fun a hE=>?_)
     refine KC (i:=12) (v:=.pointer (some Xx30)) (unb 25 8191) rfl rfl hT (anyM hM (by kernel_rfl)) hE rfl (KQ rfl hE rfl rfl rfl) (fun w=>KM hE (Jj rfl (congrArg Value.pointer qXx30))) (fun a hE=>?_)
     refine KC (i:=13) (v:=.pointer (some ((Xx30).add 0))) (unb 25 16383) rfl rfl hT (anyM hM (by kernel_rfl)) hE rfl (KQ rfl hE rfl rfl rfl) (fun w=>KL hE rfl Y1) (fun a hE=>?_)
     refine KC (i:=15) (v:=.pointer x0) (unb 25 49151) rfl rfl hT (anyM hM (by kernel_rfl)) hE rfl (KQ rfl hE rfl rfl rfl) (fun w=>KG hE rfl) (fun a hE=>?_)
     refine KC (i:=16) (v:=.pointer (some Xx31)) (unb 25 114687) rfl rfl hT (anyM hM (by kernel_rfl)) hE rfl (KQ rfl hE rfl rfl rfl) (fun w=>KM hE (Jj rfl (congrArg Value.pointer qXx31))) (fun a hE=>?_)
     refine KC (i:=17) (v:=.pointer (some ((Xx31).add 1))) (unb 25 245759) rfl rfl hT (anyM hM (by kernel_rfl)) hE rfl (KQ rfl hE rfl rfl rfl) (fun w=>KL hE rfl Za) (fun a hE=>?_)
     refine KC (i:=20) (v:=.string x1) (unb 25 1294335) rfl rfl hT (anyM hM (by kernel_rfl)) hE rfl (KQ rfl hE rfl rfl rfl) (fun w=>KG hE rfl) (fun a hE=>?_)
     refine KC (i:=21) (v:=.int .i64 Xx2) (unb 25 3391487) rfl rfl hT (anyM hM (by kernel_rfl)) hE rfl (KQ rfl hE rfl rfl rfl) (fun w=>KG hE rfl) (fun a hE=>?_)
     refine KC (i:=22) (v:=.int .u8 Xx32) (unb 25 7585791) rfl rfl hT (anyM hM (by kernel_rfl)) hE rfl (KQ rfl hE rfl rfl rfl) (fun w=>KCh hE rfl rfl un9 qXx32) (fun a hE=>?_)
     refine Ut (i:=14) (v:=.string Xx33) (unb 25 7602175) rfl rfl hT (Yo hM (by kernel_rfl)) hE rfl (KQ rfl hE rfl rfl rfl) hs (fun w s=>Z3 hE rfl sc9 s.2.2.1) (fun a hE=>?_)
     refine Ut (i:=18) (v:=.int .i64 Xx34) (unb 25 7864319) rfl rfl hT (Yo hM (by kernel_rfl)) hE rfl (KQ rfl hE rfl rfl rfl) hs (fun w s=>Z3 hE rfl sc3 s.2.2.2) (fun a hE=>?_)
     refine KC (i:=19) (v:=.int .u8 Xx35) (unb 25 8388607) rfl rfl hT (anyM hM (by kernel_rfl)) hE rfl (KQ rfl hE rfl rfl rfl) (fun w=>KCh hE rfl rfl un9 qXx35) (fun a hE=>?_)
     refine KC (i:=23) (v:=.bool (Xx35 != Xx32)) (unb 25 16777215) rfl rfl hT (anyM hM (by kernel_rfl)) hE rfl (KQ rfl hE rfl rfl rfl) (fun w=>Zk hE rfl rfl ZX KEc) (fun a hE=>?_)
     refine KC (i:=24) (v:=.bool (Xx35 != Xx32)) (unb 25 33554431) rfl rfl hT (anyM hM (by kernel_rfl)) hE rfl (KA rfl) (fun w=>Jf hE rfl rfl) (fun a hE=>?_)
     refine GK hT (KA1 hM (by kernel_rfl)) ?_
     exact ⟨Xx35 != Xx32,hE.cut (.cons rfl (.cons rfl (.cons rfl (.cons rfl (.cons rfl Subs.nil))))),hR,H⟩
 ·replace H:=M.ite_f hb H
  refine KDd ?_
  refine Xu.same ?_
  exact hret _ _ _ () _ hE hR (UF hE rfl RV.nil) rfl H
def Uj (x0:ByteArray) (x1:Int):M (Int):=do
 let Xx3←Zw x0 x1
 M.pure Xx3
theorem Xn (x0:ByteArray) (x1:Int):Kg Go.Proofs.Tryz.prog 242 #[.string x0,.int .u8 x1] (fun (r:Int)=>.int .i64 r) (Uj x0 x1) :=
 KI [mkC Wc We [.S,.I .u8] [.I .i64] (fun (t:ByteArray × Int)=>Zw t.1 t.2) (fun (t:ByteArray × Int)=>W8 t.1 t.2)] [] [.I .i64] [(0,.S x0),(1,.I .u8 x1)] .o Go.Proofs.Tryz.func242 rfl rfl ⟨rfl,rfl,trivial⟩ rfl (by kernel_rfl) (by kernel_rfl)
end Gx
namespace Gx
open Go
set_option linter.unusedVariables false
set_option maxRecDepth 100000
def JI (C28:Option Addr) (C29:Int) (C30:Int):M (Value ⊕ (Int)):=do
 let Xx32←nilP C28
 let Xx33←ldI .i64 ((Xx32).add 1)
 let Xx34←nilP C28
 stV ((Xx34).add 1) (.int .i64 (IntKind.wrap .i64 (Xx33+1)))
 M.pure (.inr (IntKind.wrap .u8 (iOr .i64 (iShl .i64 C29 4) C30)))
def Kn (C38:Option Addr) (C39:Int) (C40:Int) (Xx37:Bool):M (Value ⊕ (Int)):=do
 M.ite Xx37 (do
  thr (Kv C38) fun Xx41=>do
   JI C38 C39 C40
  ) (do
  JI C38 C39 C40
  )
noncomputable def X8:Array Oper:=KIn Go.Proofs.Tryz.f218 11
def KFl:List (List Nat):=[[],[0],[1],[2],[],[4],[5],[6],[7],[3,8],[9],[10],[11,10],[10,12],[13,10],[14],[15,14],[16,14,14],[17],[18,17],[17,19,14],[14,20]]
def KFm:List (List Nat):=[[],[0],[1],[2],[],[4],[5],[6],[7],[3,8],[9],[10],[10,11],[10,12],[13],[14],[14,15],[14,16],[17],[17,18],[14,17,19],[14,20]]
def KFn:List (List Nat):=[[],[0],[0,1],[0,1,2],[],[4],[4,5],[4,5,6],[4,5,6,7],[0,1,2,3,4,5,6,7,8],[0,1,2,3,4,5,6,7,8,9],[0,1,2,3,4,5,6,7,8,9,10],[0,1,2,3,4,5,6,7,8,9,10,11],[0,1,2,3,4,5,6,7,8,9,10,11,12],[0,1,2,3,4,5,6,7,8,9,10,11,12,13],[0,1,2,3,4,5,6,7,8,9,10,11,12,13,14],[0,1,2,3,4,5,6,7,8,9,10,11,12,13,14,15],[0,1,2,3,4,5,6,7,8,9,10,11,12,13,14,15,16],[0,1,2,3,4,5,6,7,8,9,10,11,12,13,14,15,16,17],[0,1,2,3,4,5,6,7,8,9,10,11,12,13,14,15,16,17,18],[0,1,2,3,4,5,6,7,8,9,10,11,12,13,14,15,16,17,18,19],[0,1,2,3,4,5,6,7,8,9,10,11,12,13,14,15,16,17,18,19,20]]
theorem KBA:KEh Go.Proofs.Tryz.f218 11 KFl KFm KFn=true:=by kernel_rfl
theorem zw:KEi 22 KFl KFm KFn [0,1,2,4,0,16,32,64,128,264,512,1024,3072,5120,9216,16384,49152,81920,131072,393216,671744,1064960] [0,1,2,4,0,16,32,64,128,264,512,1024,3072,5120,8192,16384,49152,81920,131072,393216,671744,1064960] [0,1,3,7,0,16,48,112,240,511,1023,2047,4095,8191,16383,32767,65535,131071,262143,524287,1048575,2097151]=true:=by kernel_rfl
def JJ (C18:Option Addr) (C19:Int):M (Value ⊕ (Int)):=do
 let Xx21←nilP C18
 let Xx22←ldI .i64 ((Xx21).add 1)
 let Xx23←nilP C18
 stV ((Xx23).add 1) (.int .i64 (IntKind.wrap .i64 (Xx22+1)))
 let Xx26←Ki C18
 let Xx27←Uj (⟨#[48,49,50,51,52,53,54,55,56,57,97,98,99,100,101,102]⟩:ByteArray) Xx26
 let Xx42←nilP C18
 let Xx43←nilP C18
 let Xx44←ldI .i64 ((Xx42).add 1)
 let Xx45←ldS ((Xx43).add 0)
 M.ite (decide (Xx44 ≥ (Xx45.size:Int))) (do
  Kn C18 C19 Xx27 true
  ) (do
  M.ite (decide (Xx27 < 0)) (do
   Kn C18 C19 Xx27 true
   ) (do
   M.ite (C19 == 7) (do
    Kn C18 C19 Xx27 (decide (Xx27 < 15))
    ) (do
    Kn C18 C19 Xx27 false
    )
   )
  )
def Ko (C50:Option Addr) (C51:Int) (Xx49:Bool):M (Value ⊕ (Int)):=do
 M.ite Xx49 (do
  thr (Kv C50) fun Xx52=>do
   JJ C50 C51
  ) (do
  JJ C50 C51
  )
noncomputable def Np:Array Oper:=KIn Go.Proofs.Tryz.f218 7
def KHm:List (List Nat):=[[],[0],[1],[2],[],[4],[5],[6],[7],[3,8],[9],[10],[11,10],[10,12],[13,10],[14],[15,14],[16,14,14],[17],[18,17],[17,19,14],[14,20]]
def KHn:List (List Nat):=[[],[0],[1],[2],[],[4],[5],[6],[7],[3,8],[9],[10],[10,11],[10,12],[13],[14],[14,15],[14,16],[17],[17,18],[14,17,19],[14,20]]
def KHo:List (List Nat):=[[],[0],[0,1],[0,1,2],[],[4],[4,5],[4,5,6],[4,5,6,7],[0,1,2,3,4,5,6,7,8],[0,1,2,3,4,5,6,7,8,9],[0,1,2,3,4,5,6,7,8,9,10],[0,1,2,3,4,5,6,7,8,9,10,11],[0,1,2,3,4,5,6,7,8,9,10,11,12],[0,1,2,3,4,5,6,7,8,9,10,11,12,13],[0,1,2,3,4,5,6,7,8,9,10,11,12,13,14],[0,1,2,3,4,5,6,7,8,9,10,11,12,13,14,15],[0,1,2,3,4,5,6,7,8,9,10,11,12,13,14,15,16],[0,1,2,3,4,5,6,7,8,9,10,11,12,13,14,15,16,17],[0,1,2,3,4,5,6,7,8,9,10,11,12,13,14,15,16,17,18],[0,1,2,3,4,5,6,7,8,9,10,11,12,13,14,15,16,17,18,19],[0,1,2,3,4,5,6,7,8,9,10,11,12,13,14,15,16,17,18,19,20]]
theorem KDJ:KEh Go.Proofs.Tryz.f218 7 KHm KHn KHo=true:=by kernel_rfl
theorem KBB:KEi 22 KHm KHn KHo [0,1,2,4,0,16,32,64,128,264,512,1024,3072,5120,9216,16384,49152,81920,131072,393216,671744,1064960] [0,1,2,4,0,16,32,64,128,264,512,1024,3072,5120,8192,16384,49152,81920,131072,393216,671744,1064960] [0,1,3,7,0,16,48,112,240,511,1023,2047,4095,8191,16383,32767,65535,131071,262143,524287,1048575,2097151]=true:=by kernel_rfl
def Jw (x0:Option Addr):M (Value ⊕ (Int)):=do
 let Xx4←Ki x0
 let Xx6←M.ite (Xx4 == 39) (do
  M.pure true
  ) (do
  M.pure (Xx4 == 92)
  )
 M.ite Xx6 (do
  let Xx8←nilP x0
  let Xx9←ldI .i64 ((Xx8).add 1)
  let Xx10←nilP x0
  stV ((Xx10).add 1) (.int .i64 (IntKind.wrap .i64 (Xx9+1)))
  M.pure (.inr Xx4)
  ) (do
  thr (ZH x0 (⟨#[120]⟩:ByteArray)) fun Xx14=>do
   let Xx16←Ki x0
   let Xx17←Uj (⟨#[48,49,50,51,52,53,54,55,56,57,97,98,99,100,101,102]⟩:ByteArray) Xx16
   let Xx53←nilP x0
   let Xx54←nilP x0
   let Xx55←ldI .i64 ((Xx53).add 1)
   let Xx56←ldS ((Xx54).add 0)
   M.ite (decide (Xx55 ≥ (Xx56.size:Int))) (do
    Ko x0 Xx17 true
    ) (do
    M.ite (decide (Xx17 < 0)) (do
     Ko x0 Xx17 true
     ) (do
     M.ite (decide (Xx17 > 1)) (do
      Ko x0 Xx17 (decide (Xx17 < 7))
      ) (do
      Ko x0 Xx17 false
      )
     )
    )
  )
theorem NN (x0:Option Addr):GI Go.Proofs.Tryz.prog 218 #[.pointer x0] (fun (r:Int)=>.int .u8 r) (Jw x0):=by
 refine YT [(0,.pointer x0)] Go.Proofs.Tryz.func218 rfl rfl (Nat.le_of_ble_eq_true rfl) (Ym ⟨rfl,trivial⟩) (fun w0 w Q R X a hret hthr hE hR H=>?_)
 unfold Jw at H
 refine Kx (fun K hK_1=>?_)
 refine KH ?_
 refine KE (v:=.int .u8 0) rfl rfl hE rfl (Kf hE rfl) (fun a hE=>?_)
 refine Kc ?_
 refine hK_1 _ _ ?_
 refine Kx (fun K hK_2=>?_)
 refine Kx (fun K hK_3=>?_)
 refine KH ?_
 refine KE (v:=.pointer x0) rfl rfl hE rfl (KG hE rfl) (fun a hE=>?_)
 refine Vs hE hR Kj rfl (Kw x0) (M.unbind H) (fun Xx4 a w ea hR H=>?_)
 have hE:=Env.put_some hE rfl ea; clear ea
 refine KE (v:=.int .u8 Xx4) rfl rfl hE rfl (Kf hE rfl) (fun a hE=>?_)
 refine Kc ?_
 refine hK_3 _ _ ?_
 refine Kx (fun K hK_5=>?_)
 refine KH ?_
 refine KE (v:=.int .u8 Xx4) rfl rfl hE rfl (KG hE rfl) (fun a hE=>?_)
 refine KE (v:=.bool (Xx4 == 39)) rfl rfl hE rfl (Zk hE rfl rfl ZX NE) (fun a hE=>?_)
 refine KE (v:=.bool (Xx4 == 39)) rfl rfl hE rfl (KG hE rfl) (fun a hE=>?_)
 refine KEg (n:=(⟨97,[]⟩:Frm)) (w0:=w0) 3 (fun Xx6:Bool=>[(0,.pointer x0),(3,.int .u8 Xx4),(13,.bool Xx6)]) (M.unbind H) (fun Kr hKr H=>?_) ?_
 ·rcases WE (Xx4 == 39) with hb | hb
  ·replace H:=M.ite_t hb H
   have hE:=hE.reb 10 (Xx4 == 39) true hb rfl
   refine qT rfl hE rfl rfl rfl (fun a ea=>?_)
   have hE:=Env.put_some hE rfl ea; clear ea
   refine qT rfl hE rfl rfl rfl (fun a ea=>?_)
   have hE:=Env.put_some hE rfl ea; clear ea
   refine KE rfl rfl hE rfl (UW hE rfl rfl) (fun a hE=>?_)
   refine Kc ?_
   exact hKr _ _ _ (hE.cut (.cons rfl (.cons rfl (.cons rfl Subs.nil)))) hR H
  ·replace H:=M.ite_f hb H
   have hE:=hE.reb 10 (Xx4 == 39) false hb rfl
   refine t_on rfl hE rfl rfl rfl ?_
   refine KE (v:=.int .u8 Xx4) rfl rfl hE rfl (KG hE rfl) (fun a hE=>?_)
   refine t_on rfl hE rfl rfl rfl ?_
   refine KE (v:=.bool (Xx4 == 92)) rfl rfl hE rfl (Zk hE rfl rfl ZX NE) (fun a hE=>?_)
   refine KE rfl rfl hE rfl (Jf hE rfl rfl) (fun a hE=>?_)
   refine Kc ?_
   exact hKr _ _ _ (hE.cut (.cons rfl (.cons rfl (.cons rfl Subs.nil)))) hR H
 ·intro Xx6 a w hE hR H
  refine Kc ?_
  refine hK_5 _ _ ?_
  refine UE Xx6 hE rfl (fun hb=>?_) (fun hb=>?_)
  ·replace H:=M.ite_t hb H
   refine Kx (fun K hK_7=>?_)
   refine KH ?_
   refine KE (v:=.pointer x0) rfl rfl hE rfl (KG hE rfl) (fun a hE=>?_)
   obtain ⟨Xx8,qXx8,H⟩:=H
   refine KE (v:=.pointer (some Xx8)) rfl rfl hE rfl (KM hE (Jj rfl (congrArg Value.pointer qXx8))) (fun a hE=>?_)
   refine KE (v:=.pointer (some ((Xx8).add 1))) rfl rfl hE rfl (KL hE rfl Za) (fun a hE=>?_)
   obtain ⟨Xx9,qXx9,H⟩:=H
   refine KE (v:=.int .i64 Xx9) rfl rfl hE rfl (Z3 hE rfl sc3 qXx9) (fun a hE=>?_)
   refine KE (v:=.int .i64 (IntKind.wrap .i64 (Xx9+1))) rfl rfl hE rfl (Zk hE rfl rfl ZX N0) (fun a hE=>?_)
   obtain ⟨Xx10,qXx10,H⟩:=H
   refine KE (v:=.pointer (some Xx10)) rfl rfl hE rfl (KM hE (Jj rfl (congrArg Value.pointer qXx10))) (fun a hE=>?_)
   refine KE (v:=.pointer (some ((Xx10).add 1))) rfl rfl hE rfl (KL hE rfl Za) (fun a hE=>?_)
   obtain ⟨u_11,qu_11,H⟩:=H
   refine XA rfl rfl hE hR (VD hE rfl rfl sz3 qu_11) (fun a w hE hR hh=>?_)
   replace H:=M.at hh H; clear hh
   refine Kc ?_
   refine hK_7 _ _ ?_
   refine Kx (fun K hK_12=>?_)
   refine KH ?_
   refine KE (v:=.int .u8 Xx4) rfl rfl hE rfl (KG hE rfl) (fun a hE=>?_)
   refine KE (v:=.int .u8 Xx4) rfl rfl hE rfl (Kf hE rfl) (fun a hE=>?_)
   refine Kc ?_
   refine hK_12 _ _ ?_
   refine Gd ?_
   exact hret _ _ _ Xx4 _ hE hR (UF hE rfl (RV.tmp rfl RV.nil)) rfl H
  ·replace H:=M.ite_f hb H
   refine Vg ?_
   refine hK_2 _ _ ?_
   refine Kx (fun K hK_13=>?_)
   refine KH ?_
   refine KE (v:=.pointer x0) rfl rfl hE rfl (KG hE rfl) (fun a hE=>?_)
   refine JU hE hR ZY rfl (Zi x0 (⟨#[120]⟩:ByteArray)) H (fun _ _ hR HQ=>hthr _ _ hR HQ) (fun Xx14 a w ea hR H=>?_)
   have hE:=Env.put_some hE rfl ea; clear ea
   refine Kc ?_
   refine hK_13 _ _ ?_
   refine Kx (fun K hK_15=>?_)
   refine KH ?_
   refine KE (v:=.pointer x0) rfl rfl hE rfl (KG hE rfl) (fun a hE=>?_)
   refine Vs hE hR Kj rfl (Kw x0) (M.unbind H) (fun Xx16 a w ea hR H=>?_)
   have hE:=Env.put_some hE rfl ea; clear ea
   refine Vs hE hR Y7 rfl (Xn (⟨#[48,49,50,51,52,53,54,55,56,57,97,98,99,100,101,102]⟩:ByteArray) Xx16) (M.unbind H) (fun Xx17 a w ea hR H=>?_)
   have hE:=Env.put_some hE rfl ea; clear ea
   refine KE (v:=.int .i64 Xx17) rfl rfl hE rfl (Kf hE rfl) (fun a hE=>?_)
   refine Kc ?_
   refine hK_15 _ _ ?_
   refine Je (fun a w=>Env (⟨97,[]⟩:Frm) a [(0,.pointer x0),(4,.int .i64 Xx17)]∧Rest w0 w∧(JJ x0 Xx17).wp w.heap Q) ?_ ?_
   ·rintro a w ⟨hE,hR,H⟩
    unfold JJ at H
    refine Kx (fun K hK_20=>?_)
    refine KH ?_
    refine KE (v:=.pointer x0) rfl rfl hE rfl (KG hE rfl) (fun a hE=>?_)
    obtain ⟨Xx21,qXx21,H⟩:=H
    refine KE (v:=.pointer (some Xx21)) rfl rfl hE rfl (KM hE (Jj rfl (congrArg Value.pointer qXx21))) (fun a hE=>?_)
    refine KE (v:=.pointer (some ((Xx21).add 1))) rfl rfl hE rfl (KL hE rfl Za) (fun a hE=>?_)
    obtain ⟨Xx22,qXx22,H⟩:=H
    refine KE (v:=.int .i64 Xx22) rfl rfl hE rfl (Z3 hE rfl sc3 qXx22) (fun a hE=>?_)
    refine KE (v:=.int .i64 (IntKind.wrap .i64 (Xx22+1))) rfl rfl hE rfl (Zk hE rfl rfl ZX N0) (fun a hE=>?_)
    obtain ⟨Xx23,qXx23,H⟩:=H
    refine KE (v:=.pointer (some Xx23)) rfl rfl hE rfl (KM hE (Jj rfl (congrArg Value.pointer qXx23))) (fun a hE=>?_)
    refine KE (v:=.pointer (some ((Xx23).add 1))) rfl rfl hE rfl (KL hE rfl Za) (fun a hE=>?_)
    obtain ⟨u_24,qu_24,H⟩:=H
    refine XA rfl rfl hE hR (VD hE rfl rfl sz3 qu_24) (fun a w hE hR hh=>?_)
    replace H:=M.at hh H; clear hh
    refine Kc ?_
    refine hK_20 _ _ ?_
    refine Kx (fun K hK_25=>?_)
    refine KH ?_
    refine KE (v:=.pointer x0) rfl rfl hE rfl (KG hE rfl) (fun a hE=>?_)
    refine Vs hE hR Kj rfl (Kw x0) (M.unbind H) (fun Xx26 a w ea hR H=>?_)
    have hE:=Env.put_some hE rfl ea; clear ea
    refine Vs hE hR Y7 rfl (Xn (⟨#[48,49,50,51,52,53,54,55,56,57,97,98,99,100,101,102]⟩:ByteArray) Xx26) (M.unbind H) (fun Xx27 a w ea hR H=>?_)
    have hE:=Env.put_some hE rfl ea; clear ea
    refine KE (v:=.int .i64 Xx27) rfl rfl hE rfl (Kf hE rfl) (fun a hE=>?_)
    refine Kc ?_
    refine hK_25 _ _ ?_
    refine Je (fun a w=>Env (⟨97,[]⟩:Frm) a [(0,.pointer x0),(4,.int .i64 Xx17),(5,.int .i64 Xx27)]∧Rest w0 w∧(JI x0 Xx17 Xx27).wp w.heap Q) ?_ ?_
    ·rintro a w ⟨hE,hR,H⟩
     unfold JI at H
     refine Kx (fun K hK_31=>?_)
     refine KH ?_
     refine KE (v:=.pointer x0) rfl rfl hE rfl (KG hE rfl) (fun a hE=>?_)
     obtain ⟨Xx32,qXx32,H⟩:=H
     refine KE (v:=.pointer (some Xx32)) rfl rfl hE rfl (KM hE (Jj rfl (congrArg Value.pointer qXx32))) (fun a hE=>?_)
     refine KE (v:=.pointer (some ((Xx32).add 1))) rfl rfl hE rfl (KL hE rfl Za) (fun a hE=>?_)
     obtain ⟨Xx33,qXx33,H⟩:=H
     refine KE (v:=.int .i64 Xx33) rfl rfl hE rfl (Z3 hE rfl sc3 qXx33) (fun a hE=>?_)
     refine KE (v:=.int .i64 (IntKind.wrap .i64 (Xx33+1))) rfl rfl hE rfl (Zk hE rfl rfl ZX N0) (fun a hE=>?_)
     obtain ⟨Xx34,qXx34,H⟩:=H
     refine KE (v:=.pointer (some Xx34)) rfl rfl hE rfl (KM hE (Jj rfl (congrArg Value.pointer qXx34))) (fun a hE=>?_)
     refine KE (v:=.pointer (some ((Xx34).add 1))) rfl rfl hE rfl (KL hE rfl Za) (fun a hE=>?_)
     obtain ⟨u_35,qu_35,H⟩:=H
     refine XA rfl rfl hE hR (VD hE rfl rfl sz3 qu_35) (fun a w hE hR hh=>?_)
     replace H:=M.at hh H; clear hh
     refine Kc ?_
     refine hK_31 _ _ ?_
     refine Kx (fun K hK_36=>?_)
     refine KH ?_
     refine KE (v:=.int .i64 Xx17) rfl rfl hE rfl (KG hE rfl) (fun a hE=>?_)
     refine KE (v:=.int .i64 (iShl .i64 Xx17 4)) rfl rfl hE rfl (Zk hE rfl rfl ZX (KKD ⟨by decide,rfl⟩)) (fun a hE=>?_)
     refine KE (v:=.int .i64 Xx27) rfl rfl hE rfl (KG hE rfl) (fun a hE=>?_)
     refine KE (v:=.int .i64 (iOr .i64 (iShl .i64 Xx17 4) Xx27)) rfl rfl hE rfl (Zk hE rfl rfl ZX b_or) (fun a hE=>?_)
     refine KE (v:=.int .u8 (IntKind.wrap .u8 (iOr .i64 (iShl .i64 Xx17 4) Xx27))) rfl rfl hE rfl (KG0 hE rfl un3 un5) (fun a hE=>?_)
     refine KE (v:=.int .u8 (IntKind.wrap .u8 (iOr .i64 (iShl .i64 Xx17 4) Xx27))) rfl rfl hE rfl (Kf hE rfl) (fun a hE=>?_)
     refine Kc ?_
     refine hK_36 _ _ ?_
     refine Gd ?_
     exact hret _ _ _ (IntKind.wrap .u8 (iOr .i64 (iShl .i64 Xx17 4) Xx27)) _ hE hR (UF hE rfl (RV.tmp rfl RV.nil)) rfl H
    ·skip
     refine Je (fun a w=>∃ (Xx37:Bool),Env (⟨97,[]⟩:Frm) a [(0,.pointer x0),(4,.int .i64 Xx17),(5,.int .i64 Xx27),(82,.bool Xx37)]∧Rest w0 w∧(Kn x0 Xx17 Xx27 Xx37).wp w.heap Q) ?_ ?_
     ·rintro a w ⟨Xx37,hE,hR,H⟩
      unfold Kn at H
      refine UE Xx37 hE rfl (fun hb=>?_) (fun hb=>?_)
      ·replace H:=M.ite_t hb H
       refine KH ?_
       refine KE (v:=.pointer x0) rfl rfl hE rfl (KG hE rfl) (fun a hE=>?_)
       refine JU hE hR ZD rfl (ZK x0) H (fun _ _ hR HQ=>hthr _ _ hR HQ) (fun Xx41 a w ea hR H=>?_)
       have hE:=Env.put_some hE rfl ea; clear ea
       refine Kc ?_
       exact ⟨hE.cut (.cons rfl (.cons rfl (.cons rfl Subs.nil))),hR,H⟩
      ·replace H:=M.ite_f hb H
       refine Vg ?_
       exact ⟨hE.cut (.cons rfl (.cons rfl (.cons rfl Subs.nil))),hR,H⟩
     ·skip
      obtain ⟨Xx42,qXx42,H⟩:=H
      obtain ⟨Xx43,qXx43,H⟩:=H
      obtain ⟨Xx44,qXx44,H⟩:=H
      obtain ⟨Xx45,qXx45,H⟩:=H
      rcases WE (decide (Xx44 ≥ (Xx45.size:Int))) with hb_46 | hb_46
      ·replace H:=M.ite_t hb_46 H
       refine NT (rops:=X8) (by kernel_rfl) ?_
       have hT:Tab X8 _ _ _:=NC KBA rfl (by kernel_rfl)
       have hM:=TabM.of zw
       refine YD (m:=22) (fun w:World=>(fun h:Heap=>(KO h ((Xx42).add 1)=some (.int .i64 Xx44))∧(KO h ((Xx43).add 0)=some (.string Xx45))) w.heap) [9,10,11,12,13,14,15,16,17,18,19,20,21] (unb 22 0) mo hR (by kernel_rfl) (by kernel_rfl) (fun w' e=>by rw [e]; exact ⟨qXx44,qXx45⟩) (fun w hh hR hs=>?_)
       replace H:=M.at hh H; clear hh
       refine KC (i:=0) (v:=.pointer x0) (unb 22 1) rfl rfl hT (anyM hM (by kernel_rfl)) hE rfl (KA rfl) (fun w=>KG hE rfl) (fun a hE=>?_)
       refine KC (i:=1) (v:=.pointer (some Xx42)) (unb 22 3) rfl rfl hT (anyM hM (by kernel_rfl)) hE rfl (KA rfl) (fun w=>KM hE (Jj rfl (congrArg Value.pointer qXx42))) (fun a hE=>?_)
       refine KC (i:=2) (v:=.pointer (some ((Xx42).add 1))) (unb 22 7) rfl rfl hT (anyM hM (by kernel_rfl)) hE rfl (KA rfl) (fun w=>KL hE rfl Za) (fun a hE=>?_)
       refine KC (i:=4) (v:=.pointer x0) (unb 22 23) rfl rfl hT (anyM hM (by kernel_rfl)) hE rfl (KA rfl) (fun w=>KG hE rfl) (fun a hE=>?_)
       refine KC (i:=5) (v:=.pointer (some Xx43)) (unb 22 55) rfl rfl hT (anyM hM (by kernel_rfl)) hE rfl (KA rfl) (fun w=>KM hE (Jj rfl (congrArg Value.pointer qXx43))) (fun a hE=>?_)
       refine KC (i:=6) (v:=.pointer (some ((Xx43).add 0))) (unb 22 119) rfl rfl hT (anyM hM (by kernel_rfl)) hE rfl (KA rfl) (fun w=>KL hE rfl Y1) (fun a hE=>?_)
       refine Ut (i:=3) (v:=.int .i64 Xx44) (unb 22 127) rfl rfl hT (Yo hM (by kernel_rfl)) hE rfl (KA rfl) hs (fun w s=>Z3 hE rfl sc3 s.1) (fun a hE=>?_)
       refine Ut (i:=7) (v:=.string Xx45) (unb 22 255) rfl rfl hT (Yo hM (by kernel_rfl)) hE rfl (KA rfl) hs (fun w s=>Z3 hE rfl sc9 s.2) (fun a hE=>?_)
       refine KC (i:=8) (v:=.int .i64 (Xx45.size:Int)) (unb 22 511) rfl rfl hT (anyM hM (by kernel_rfl)) hE rfl (KA rfl) (fun w=>GJ hE rfl un9) (fun a hE=>?_)
       refine KC (i:=9) (v:=.bool (decide (Xx44 ≥ (Xx45.size:Int)))) (unb 22 1023) rfl rfl hT (anyM hM (by kernel_rfl)) hE rfl (KA rfl) (fun w=>Zk hE rfl rfl ZX KBJ) (fun a hE=>?_)
       refine KC (i:=10) (v:=.bool (decide (Xx44 ≥ (Xx45.size:Int)))) (unb 22 2047) rfl rfl hT (anyM hM (by kernel_rfl)) hE rfl (KA rfl) (fun w=>KG hE rfl) (fun a hE=>?_)
       have hE:=hE.reb 71 (decide (Xx44 ≥ (Xx45.size:Int))) true hb_46 rfl
       replace hE:=hE.cut (l':=[(0,.pointer x0),(4,.int .i64 Xx17),(5,.int .i64 Xx27),(71,.bool true)]) (.cons rfl (.cons rfl (.cons rfl (.cons rfl Subs.nil))))
       refine KCk (i:=11) (unb 22 4095) rfl rfl hT (anyM hM (by kernel_rfl)) (UT rfl hE rfl rfl rfl) (fun a ea=>?_)
       have hE:=Env.put_some hE rfl ea; clear ea
       refine KCk (i:=12) (unb 22 8191) rfl rfl hT (anyM hM (by kernel_rfl)) (UT rfl hE rfl rfl rfl) (fun a ea=>?_)
       have hE:=Env.put_some hE rfl ea; clear ea
       refine KC (i:=13) (v:=.bool true) (unb 22 16383) rfl rfl hT (anyM hM (by kernel_rfl)) hE rfl (KA rfl) (fun w=>UW hE rfl rfl) (fun a hE=>?_)
       refine KC (i:=14) (v:=.bool true) (unb 22 32767) rfl rfl hT (anyM hM (by kernel_rfl)) hE rfl (KA rfl) (fun w=>KG hE rfl) (fun a hE=>?_)
       refine zD [(15,some 76),(16,some 77),(17,some 78),(18,some 79),(19,some 80),(20,some 81)] 1 hT hM hE (by kernel_rfl) (m':=2097151) (by kernel_rfl) (fun a hE=>?_)
       refine KC (i:=21) (v:=.bool true) (unb 22 4194303) rfl rfl hT (anyM hM (by kernel_rfl)) hE rfl (KA rfl) (fun w=>UW hE rfl rfl) (fun a hE=>?_)
       refine GK hT (KA1 hM (by kernel_rfl)) ?_
       exact ⟨true,hE.cut (.cons rfl (.cons rfl (.cons rfl (.cons rfl Subs.nil)))),hR,H⟩
      ·replace H:=M.ite_f hb_46 H
       rcases WE (decide (Xx27 < 0)) with hb_47 | hb_47
       ·replace H:=M.ite_t hb_47 H
        refine NT (rops:=X8) (by kernel_rfl) ?_
        have hT:Tab X8 _ _ _:=NC KBA rfl (by kernel_rfl)
        have hM:=TabM.of zw
        refine YD (m:=22) (fun w:World=>(fun h:Heap=>(KO h ((Xx42).add 1)=some (.int .i64 Xx44))∧(KO h ((Xx43).add 0)=some (.string Xx45))) w.heap) [9,10,11,12,13,14,15,16,17,18,19,20,21] (unb 22 0) mo hR (by kernel_rfl) (by kernel_rfl) (fun w' e=>by rw [e]; exact ⟨qXx44,qXx45⟩) (fun w hh hR hs=>?_)
        replace H:=M.at hh H; clear hh
        refine KC (i:=0) (v:=.pointer x0) (unb 22 1) rfl rfl hT (anyM hM (by kernel_rfl)) hE rfl (KA rfl) (fun w=>KG hE rfl) (fun a hE=>?_)
        refine KC (i:=1) (v:=.pointer (some Xx42)) (unb 22 3) rfl rfl hT (anyM hM (by kernel_rfl)) hE rfl (KA rfl) (fun w=>KM hE (Jj rfl (congrArg Value.pointer qXx42))) (fun a hE=>?_)
        refine KC (i:=2) (v:=.pointer (some ((Xx42).add 1))) (unb 22 7) rfl rfl hT (anyM hM (by kernel_rfl)) hE rfl (KA rfl) (fun w=>KL hE rfl Za) (fun a hE=>?_)
        refine KC (i:=4) (v:=.pointer x0) (unb 22 23) rfl rfl hT (anyM hM (by kernel_rfl)) hE rfl (KA rfl) (fun w=>KG hE rfl) (fun a hE=>?_)
        refine KC (i:=5) (v:=.pointer (some Xx43)) (unb 22 55) rfl rfl hT (anyM hM (by kernel_rfl)) hE rfl (KA rfl) (fun w=>KM hE (Jj rfl (congrArg Value.pointer qXx43))) (fun a hE=>?_)
        refine KC (i:=6) (v:=.pointer (some ((Xx43).add 0))) (unb 22 119) rfl rfl hT (anyM hM (by kernel_rfl)) hE rfl (KA rfl) (fun w=>KL hE rfl Y1) (fun a hE=>?_)
        refine Ut (i:=3) (v:=.int .i64 Xx44) (unb 22 127) rfl rfl hT (Yo hM (by kernel_rfl)) hE rfl (KA rfl) hs (fun w s=>Z3 hE rfl sc3 s.1) (fun a hE=>?_)
        refine Ut (i:=7) (v:=.string Xx45) (unb 22 255) rfl rfl hT (Yo hM (by kernel_rfl)) hE rfl (KA rfl) hs (fun w s=>Z3 hE rfl sc9 s.2) (fun a hE=>?_)
        refine KC (i:=8) (v:=.int .i64 (Xx45.size:Int)) (unb 22 511) rfl rfl hT (anyM hM (by kernel_rfl)) hE rfl (KA rfl) (fun w=>GJ hE rfl un9) (fun a hE=>?_)
        refine KC (i:=9) (v:=.bool (decide (Xx44 ≥ (Xx45.size:Int)))) (unb 22 1023) rfl rfl hT (anyM hM (by kernel_rfl)) hE rfl (KA rfl) (fun w=>Zk hE rfl rfl ZX KBJ) (fun a hE=>?_)
        refine KC (i:=10) (v:=.bool (decide (Xx44 ≥ (Xx45.size:Int)))) (unb 22 2047) rfl rfl hT (anyM hM (by kernel_rfl)) hE rfl (KA rfl) (fun w=>KG hE rfl) (fun a hE=>?_)
        have hE:=hE.reb 71 (decide (Xx44 ≥ (Xx45.size:Int))) false hb_46 rfl
        replace hE:=hE.cut (l':=[(0,.pointer x0),(4,.int .i64 Xx17),(5,.int .i64 Xx27),(71,.bool false)]) (.cons rfl (.cons rfl (.cons rfl (.cons rfl Subs.nil))))
        refine KC (i:=11) (v:=.int .i64 Xx27) (unb 22 4095) rfl rfl hT (anyM hM (by kernel_rfl)) hE rfl (KQ rfl hE rfl rfl rfl) (fun w=>KG hE rfl) (fun a hE=>?_)
        refine KC (i:=12) (v:=.bool (decide (Xx27 < 0))) (unb 22 8191) rfl rfl hT (anyM hM (by kernel_rfl)) hE rfl (KQ rfl hE rfl rfl rfl) (fun w=>Zk hE rfl rfl ZX KA0) (fun a hE=>?_)
        refine KC (i:=13) (v:=.bool (decide (Xx27 < 0))) (unb 22 16383) rfl rfl hT (anyM hM (by kernel_rfl)) hE rfl (KA rfl) (fun w=>Jf hE rfl rfl) (fun a hE=>?_)
        refine KC (i:=14) (v:=.bool (decide (Xx27 < 0))) (unb 22 32767) rfl rfl hT (anyM hM (by kernel_rfl)) hE rfl (KA rfl) (fun w=>KG hE rfl) (fun a hE=>?_)
        have hE:=hE.reb 75 (decide (Xx27 < 0)) true hb_47 rfl
        replace hE:=hE.cut (l':=[(0,.pointer x0),(4,.int .i64 Xx17),(5,.int .i64 Xx27),(75,.bool true)]) (.cons rfl (.cons rfl (.cons rfl (.cons rfl Subs.nil))))
        refine zD [(15,some 76),(16,some 77),(17,some 78),(18,some 79),(19,some 80),(20,some 81)] 1 hT hM hE (by kernel_rfl) (m':=2097151) (by kernel_rfl) (fun a hE=>?_)
        refine KC (i:=21) (v:=.bool true) (unb 22 4194303) rfl rfl hT (anyM hM (by kernel_rfl)) hE rfl (KA rfl) (fun w=>UW hE rfl rfl) (fun a hE=>?_)
        refine GK hT (KA1 hM (by kernel_rfl)) ?_
        exact ⟨true,hE.cut (.cons rfl (.cons rfl (.cons rfl (.cons rfl Subs.nil)))),hR,H⟩
       ·replace H:=M.ite_f hb_47 H
        rcases WE (Xx17 == 7) with hb_48 | hb_48
        ·replace H:=M.ite_t hb_48 H
         refine NT (rops:=X8) (by kernel_rfl) ?_
         have hT:Tab X8 _ _ _:=NC KBA rfl (by kernel_rfl)
         have hM:=TabM.of zw
         refine YD (m:=22) (fun w:World=>(fun h:Heap=>(KO h ((Xx42).add 1)=some (.int .i64 Xx44))∧(KO h ((Xx43).add 0)=some (.string Xx45))) w.heap) [9,10,11,12,13,14,15,16,17,18,19,20,21] (unb 22 0) mo hR (by kernel_rfl) (by kernel_rfl) (fun w' e=>by rw [e]; exact ⟨qXx44,qXx45⟩) (fun w hh hR hs=>?_)
         replace H:=M.at hh H; clear hh
         refine KC (i:=0) (v:=.pointer x0) (unb 22 1) rfl rfl hT (anyM hM (by kernel_rfl)) hE rfl (KA rfl) (fun w=>KG hE rfl) (fun a hE=>?_)
         refine KC (i:=1) (v:=.pointer (some Xx42)) (unb 22 3) rfl rfl hT (anyM hM (by kernel_rfl)) hE rfl (KA rfl) (fun w=>KM hE (Jj rfl (congrArg Value.pointer qXx42))) (fun a hE=>?_)
         refine KC (i:=2) (v:=.pointer (some ((Xx42).add 1))) (unb 22 7) rfl rfl hT (anyM hM (by kernel_rfl)) hE rfl (KA rfl) (fun w=>KL hE rfl Za) (fun a hE=>?_)
         refine KC (i:=4) (v:=.pointer x0) (unb 22 23) rfl rfl hT (anyM hM (by kernel_rfl)) hE rfl (KA rfl) (fun w=>KG hE rfl) (fun a hE=>?_)
         refine KC (i:=5) (v:=.pointer (some Xx43)) (unb 22 55) rfl rfl hT (anyM hM (by kernel_rfl)) hE rfl (KA rfl) (fun w=>KM hE (Jj rfl (congrArg Value.pointer qXx43))) (fun a hE=>?_)
         refine KC (i:=6) (v:=.pointer (some ((Xx43).add 0))) (unb 22 119) rfl rfl hT (anyM hM (by kernel_rfl)) hE rfl (KA rfl) (fun w=>KL hE rfl Y1) (fun a hE=>?_)
         refine Ut (i:=3) (v:=.int .i64 Xx44) (unb 22 127) rfl rfl hT (Yo hM (by kernel_rfl)) hE rfl (KA rfl) hs (fun w s=>Z3 hE rfl sc3 s.1) (fun a hE=>?_)
         refine Ut (i:=7) (v:=.string Xx45) (unb 22 255) rfl rfl hT (Yo hM (by kernel_rfl)) hE rfl (KA rfl) hs (fun w s=>Z3 hE rfl sc9 s.2) (fun a hE=>?_)
         refine KC (i:=8) (v:=.int .i64 (Xx45.size:Int)) (unb 22 511) rfl rfl hT (anyM hM (by kernel_rfl)) hE rfl (KA rfl) (fun w=>GJ hE rfl un9) (fun a hE=>?_)
         refine KC (i:=9) (v:=.bool (decide (Xx44 ≥ (Xx45.size:Int)))) (unb 22 1023) rfl rfl hT (anyM hM (by kernel_rfl)) hE rfl (KA rfl) (fun w=>Zk hE rfl rfl ZX KBJ) (fun a hE=>?_)
         refine KC (i:=10) (v:=.bool (decide (Xx44 ≥ (Xx45.size:Int)))) (unb 22 2047) rfl rfl hT (anyM hM (by kernel_rfl)) hE rfl (KA rfl) (fun w=>KG hE rfl) (fun a hE=>?_)
         have hE:=hE.reb 71 (decide (Xx44 ≥ (Xx45.size:Int))) false hb_46 rfl
         replace hE:=hE.cut (l':=[(0,.pointer x0),(4,.int .i64 Xx17),(5,.int .i64 Xx27),(71,.bool false)]) (.cons rfl (.cons rfl (.cons rfl (.cons rfl Subs.nil))))
         refine KC (i:=11) (v:=.int .i64 Xx27) (unb 22 4095) rfl rfl hT (anyM hM (by kernel_rfl)) hE rfl (KQ rfl hE rfl rfl rfl) (fun w=>KG hE rfl) (fun a hE=>?_)
         refine KC (i:=12) (v:=.bool (decide (Xx27 < 0))) (unb 22 8191) rfl rfl hT (anyM hM (by kernel_rfl)) hE rfl (KQ rfl hE rfl rfl rfl) (fun w=>Zk hE rfl rfl ZX KA0) (fun a hE=>?_)
         refine KC (i:=13) (v:=.bool (decide (Xx27 < 0))) (unb 22 16383) rfl rfl hT (anyM hM (by kernel_rfl)) hE rfl (KA rfl) (fun w=>Jf hE rfl rfl) (fun a hE=>?_)
         refine KC (i:=14) (v:=.bool (decide (Xx27 < 0))) (unb 22 32767) rfl rfl hT (anyM hM (by kernel_rfl)) hE rfl (KA rfl) (fun w=>KG hE rfl) (fun a hE=>?_)
         have hE:=hE.reb 75 (decide (Xx27 < 0)) false hb_47 rfl
         replace hE:=hE.cut (l':=[(0,.pointer x0),(4,.int .i64 Xx17),(5,.int .i64 Xx27),(75,.bool false)]) (.cons rfl (.cons rfl (.cons rfl (.cons rfl Subs.nil))))
         refine KC (i:=15) (v:=.int .i64 Xx17) (unb 22 65535) rfl rfl hT (anyM hM (by kernel_rfl)) hE rfl (KQ rfl hE rfl rfl rfl) (fun w=>KG hE rfl) (fun a hE=>?_)
         refine KC (i:=16) (v:=.bool (Xx17 == 7)) (unb 22 131071) rfl rfl hT (anyM hM (by kernel_rfl)) hE rfl (KQ rfl hE rfl rfl rfl) (fun w=>Zk hE rfl rfl ZX NE) (fun a hE=>?_)
         refine KC (i:=17) (v:=.bool (Xx17 == 7)) (unb 22 262143) rfl rfl hT (anyM hM (by kernel_rfl)) hE rfl (KQ rfl hE rfl rfl rfl) (fun w=>KG hE rfl) (fun a hE=>?_)
         have hE:=hE.reb 78 (Xx17 == 7) true hb_48 rfl
         replace hE:=hE.cut (l':=[(0,.pointer x0),(4,.int .i64 Xx17),(5,.int .i64 Xx27),(75,.bool false),(78,.bool true)]) (.cons rfl (.cons rfl (.cons rfl (.cons rfl (.cons rfl Subs.nil)))))
         refine KC (i:=18) (v:=.int .i64 Xx27) (unb 22 524287) rfl rfl hT (anyM hM (by kernel_rfl)) hE rfl (KQ rfl hE rfl rfl rfl) (fun w=>KG hE rfl) (fun a hE=>?_)
         refine KC (i:=19) (v:=.bool (decide (Xx27 < 15))) (unb 22 1048575) rfl rfl hT (anyM hM (by kernel_rfl)) hE rfl (KQ rfl hE rfl rfl rfl) (fun w=>Zk hE rfl rfl ZX KA0) (fun a hE=>?_)
         refine KC (i:=20) (v:=.bool (decide (Xx27 < 15))) (unb 22 2097151) rfl rfl hT (anyM hM (by kernel_rfl)) hE rfl (KQ rfl hE rfl rfl rfl) (fun w=>UW hE rfl rfl) (fun a hE=>?_)
         refine KC (i:=21) (v:=.bool (decide (Xx27 < 15))) (unb 22 4194303) rfl rfl hT (anyM hM (by kernel_rfl)) hE rfl (KA rfl) (fun w=>Jf hE rfl rfl) (fun a hE=>?_)
         refine GK hT (KA1 hM (by kernel_rfl)) ?_
         exact ⟨decide (Xx27 < 15),hE.cut (.cons rfl (.cons rfl (.cons rfl (.cons rfl Subs.nil)))),hR,H⟩
        ·replace H:=M.ite_f hb_48 H
         refine NT (rops:=X8) (by kernel_rfl) ?_
         have hT:Tab X8 _ _ _:=NC KBA rfl (by kernel_rfl)
         have hM:=TabM.of zw
         refine YD (m:=22) (fun w:World=>(fun h:Heap=>(KO h ((Xx42).add 1)=some (.int .i64 Xx44))∧(KO h ((Xx43).add 0)=some (.string Xx45))) w.heap) [9,10,11,12,13,14,15,16,17,18,19,20,21] (unb 22 0) mo hR (by kernel_rfl) (by kernel_rfl) (fun w' e=>by rw [e]; exact ⟨qXx44,qXx45⟩) (fun w hh hR hs=>?_)
         replace H:=M.at hh H; clear hh
         refine KC (i:=0) (v:=.pointer x0) (unb 22 1) rfl rfl hT (anyM hM (by kernel_rfl)) hE rfl (KA rfl) (fun w=>KG hE rfl) (fun a hE=>?_)
         refine KC (i:=1) (v:=.pointer (some Xx42)) (unb 22 3) rfl rfl hT (anyM hM (by kernel_rfl)) hE rfl (KA rfl) (fun w=>KM hE (Jj rfl (congrArg Value.pointer qXx42))) (fun a hE=>?_)
         refine KC (i:=2) (v:=.pointer (some ((Xx42).add 1))) (unb 22 7) rfl rfl hT (anyM hM (by kernel_rfl)) hE rfl (KA rfl) (fun w=>KL hE rfl Za) (fun a hE=>?_)
         refine KC (i:=4) (v:=.pointer x0) (unb 22 23) rfl rfl hT (anyM hM (by kernel_rfl)) hE rfl (KA rfl) (fun w=>KG hE rfl) (fun a hE=>?_)
         refine KC (i:=5) (v:=.pointer (some Xx43)) (unb 22 55) rfl rfl hT (anyM hM (by kernel_rfl)) hE rfl (KA rfl) (fun w=>KM hE (Jj rfl (congrArg Value.pointer qXx43))) (fun a hE=>?_)
         refine KC (i:=6) (v:=.pointer (some ((Xx43).add 0))) (unb 22 119) rfl rfl hT (anyM hM (by kernel_rfl)) hE rfl (KA rfl) (fun w=>KL hE rfl Y1) (fun a hE=>?_)
         refine Ut (i:=3) (v:=.int .i64 Xx44) (unb 22 127) rfl rfl hT (Yo hM (by kernel_rfl)) hE rfl (KA rfl) hs (fun w s=>Z3 hE rfl sc3 s.1) (fun a hE=>?_)
         refine Ut (i:=7) (v:=.string Xx45) (unb 22 255) rfl rfl hT (Yo hM (by kernel_rfl)) hE rfl (KA rfl) hs (fun w s=>Z3 hE rfl sc9 s.2) (fun a hE=>?_)
         refine KC (i:=8) (v:=.int .i64 (Xx45.size:Int)) (unb 22 511) rfl rfl hT (anyM hM (by kernel_rfl)) hE rfl (KA rfl) (fun w=>GJ hE rfl un9) (fun a hE=>?_)
         refine KC (i:=9) (v:=.bool (decide (Xx44 ≥ (Xx45.size:Int)))) (unb 22 1023) rfl rfl hT (anyM hM (by kernel_rfl)) hE rfl (KA rfl) (fun w=>Zk hE rfl rfl ZX KBJ) (fun a hE=>?_)
         refine KC (i:=10) (v:=.bool (decide (Xx44 ≥ (Xx45.size:Int)))) (unb 22 2047) rfl rfl hT (anyM hM (by kernel_rfl)) hE rfl (KA rfl) (fun w=>KG hE rfl) (fun a hE=>?_)
         have hE:=hE.reb 71 (decide (Xx44 ≥ (Xx45.size:Int))) false hb_46 rfl
         replace hE:=hE.cut (l':=[(0,.pointer x0),(4,.int .i64 Xx17),(5,.int .i64 Xx27),(71,.bool false)]) (.cons rfl (.cons rfl (.cons rfl (.cons rfl Subs.nil))))
         refine KC (i:=11) (v:=.int .i64 Xx27) (unb 22 4095) rfl rfl hT (anyM hM (by kernel_rfl)) hE rfl (KQ rfl hE rfl rfl rfl) (fun w=>KG hE rfl) (fun a hE=>?_)
         refine KC (i:=12) (v:=.bool (decide (Xx27 < 0))) (unb 22 8191) rfl rfl hT (anyM hM (by kernel_rfl)) hE rfl (KQ rfl hE rfl rfl rfl) (fun w=>Zk hE rfl rfl ZX KA0) (fun a hE=>?_)
         refine KC (i:=13) (v:=.bool (decide (Xx27 < 0))) (unb 22 16383) rfl rfl hT (anyM hM (by kernel_rfl)) hE rfl (KA rfl) (fun w=>Jf hE rfl rfl) (fun a hE=>?_)
         refine KC (i:=14) (v:=.bool (decide (Xx27 < 0))) (unb 22 32767) rfl rfl hT (anyM hM (by kernel_rfl)) hE rfl (KA rfl) (fun w=>KG hE rfl) (fun a hE=>?_)
         have hE:=hE.reb 75 (decide (Xx27 < 0)) false hb_47 rfl
         replace hE:=hE.cut (l':=[(0,.pointer x0),(4,.int .i64 Xx17),(5,.int .i64 Xx27),(75,.bool false)]) (.cons rfl (.cons rfl (.cons rfl (.cons rfl Subs.nil))))
         refine KC (i:=15) (v:=.int .i64 Xx17) (unb 22 65535) rfl rfl hT (anyM hM (by kernel_rfl)) hE rfl (KQ rfl hE rfl rfl rfl) (fun w=>KG hE rfl) (fun a hE=>?_)
         refine KC (i:=16) (v:=.bool (Xx17 == 7)) (unb 22 131071) rfl rfl hT (anyM hM (by kernel_rfl)) hE rfl (KQ rfl hE rfl rfl rfl) (fun w=>Zk hE rfl rfl ZX NE) (fun a hE=>?_)
         refine KC (i:=17) (v:=.bool (Xx17 == 7)) (unb 22 262143) rfl rfl hT (anyM hM (by kernel_rfl)) hE rfl (KQ rfl hE rfl rfl rfl) (fun w=>KG hE rfl) (fun a hE=>?_)
         have hE:=hE.reb 78 (Xx17 == 7) false hb_48 rfl
         replace hE:=hE.cut (l':=[(0,.pointer x0),(4,.int .i64 Xx17),(5,.int .i64 Xx27),(75,.bool false),(78,.bool false)]) (.cons rfl (.cons rfl (.cons rfl (.cons rfl (.cons rfl Subs.nil)))))
         refine KCk (i:=18) (unb 22 524287) rfl rfl hT (anyM hM (by kernel_rfl)) (UT rfl hE rfl rfl rfl) (fun a ea=>?_)
         have hE:=Env.put_some hE rfl ea; clear ea
         refine KCk (i:=19) (unb 22 1048575) rfl rfl hT (anyM hM (by kernel_rfl)) (UT rfl hE rfl rfl rfl) (fun a ea=>?_)
         have hE:=Env.put_some hE rfl ea; clear ea
         refine KC (i:=20) (v:=.bool false) (unb 22 2097151) rfl rfl hT (anyM hM (by kernel_rfl)) hE rfl (KQ rfl hE rfl rfl rfl) (fun w=>Jf hE rfl rfl) (fun a hE=>?_)
         refine KC (i:=21) (v:=.bool false) (unb 22 4194303) rfl rfl hT (anyM hM (by kernel_rfl)) hE rfl (KA rfl) (fun w=>Jf hE rfl rfl) (fun a hE=>?_)
         refine GK hT (KA1 hM (by kernel_rfl)) ?_
         exact ⟨false,hE.cut (.cons rfl (.cons rfl (.cons rfl (.cons rfl Subs.nil)))),hR,H⟩
   ·skip
    refine Je (fun a w=>∃ (Xx49:Bool),Env (⟨97,[]⟩:Frm) a [(0,.pointer x0),(4,.int .i64 Xx17),(48,.bool Xx49)]∧Rest w0 w∧(Ko x0 Xx17 Xx49).wp w.heap Q) ?_ ?_
    ·rintro a w ⟨Xx49,hE,hR,H⟩
     unfold Ko at H
     refine UE Xx49 hE rfl (fun hb=>?_) (fun hb=>?_)
     ·replace H:=M.ite_t hb H
      refine KH ?_
      refine KE (v:=.pointer x0) rfl rfl hE rfl (KG hE rfl) (fun a hE=>?_)
      refine JU hE hR ZD rfl (ZK x0) H (fun _ _ hR HQ=>hthr _ _ hR HQ) (fun Xx52 a w ea hR H=>?_)
      have hE:=Env.put_some hE rfl ea; clear ea
      refine Kc ?_
      exact ⟨hE.cut (.cons rfl (.cons rfl Subs.nil)),hR,H⟩
     ·replace H:=M.ite_f hb H
      refine Vg ?_
      exact ⟨hE.cut (.cons rfl (.cons rfl Subs.nil)),hR,H⟩
    ·skip
     obtain ⟨Xx53,qXx53,H⟩:=H
     obtain ⟨Xx54,qXx54,H⟩:=H
     obtain ⟨Xx55,qXx55,H⟩:=H
     obtain ⟨Xx56,qXx56,H⟩:=H
     rcases WE (decide (Xx55 ≥ (Xx56.size:Int))) with hb_57 | hb_57
     ·replace H:=M.ite_t hb_57 H
      refine NT (rops:=Np) (by kernel_rfl) ?_
      have hT:Tab Np _ _ _:=NC KDJ rfl (by kernel_rfl)
      have hM:=TabM.of KBB
      refine YD (m:=22) (fun w:World=>(fun h:Heap=>(KO h ((Xx53).add 1)=some (.int .i64 Xx55))∧(KO h ((Xx54).add 0)=some (.string Xx56))) w.heap) [9,10,11,12,13,14,15,16,17,18,19,20,21] (unb 22 0) mo hR (by kernel_rfl) (by kernel_rfl) (fun w' e=>by rw [e]; exact ⟨qXx55,qXx56⟩) (fun w hh hR hs=>?_)
      replace H:=M.at hh H; clear hh
      refine KC (i:=0) (v:=.pointer x0) (unb 22 1) rfl rfl hT (anyM hM (by kernel_rfl)) hE rfl (KA rfl) (fun w=>KG hE rfl) (fun a hE=>?_)
      refine KC (i:=1) (v:=.pointer (some Xx53)) (unb 22 3) rfl rfl hT (anyM hM (by kernel_rfl)) hE rfl (KA rfl) (fun w=>KM hE (Jj rfl (congrArg Value.pointer qXx53))) (fun a hE=>?_)
      refine KC (i:=2) (v:=.pointer (some ((Xx53).add 1))) (unb 22 7) rfl rfl hT (anyM hM (by kernel_rfl)) hE rfl (KA rfl) (fun w=>KL hE rfl Za) (fun a hE=>?_)
      refine KC (i:=4) (v:=.pointer x0) (unb 22 23) rfl rfl hT (anyM hM (by kernel_rfl)) hE rfl (KA rfl) (fun w=>KG hE rfl) (fun a hE=>?_)
      refine KC (i:=5) (v:=.pointer (some Xx54)) (unb 22 55) rfl rfl hT (anyM hM (by kernel_rfl)) hE rfl (KA rfl) (fun w=>KM hE (Jj rfl (congrArg Value.pointer qXx54))) (fun a hE=>?_)
      refine KC (i:=6) (v:=.pointer (some ((Xx54).add 0))) (unb 22 119) rfl rfl hT (anyM hM (by kernel_rfl)) hE rfl (KA rfl) (fun w=>KL hE rfl Y1) (fun a hE=>?_)
      refine Ut (i:=3) (v:=.int .i64 Xx55) (unb 22 127) rfl rfl hT (Yo hM (by kernel_rfl)) hE rfl (KA rfl) hs (fun w s=>Z3 hE rfl sc3 s.1) (fun a hE=>?_)
      refine Ut (i:=7) (v:=.string Xx56) (unb 22 255) rfl rfl hT (Yo hM (by kernel_rfl)) hE rfl (KA rfl) hs (fun w s=>Z3 hE rfl sc9 s.2) (fun a hE=>?_)
      refine KC (i:=8) (v:=.int .i64 (Xx56.size:Int)) (unb 22 511) rfl rfl hT (anyM hM (by kernel_rfl)) hE rfl (KA rfl) (fun w=>GJ hE rfl un9) (fun a hE=>?_)
      refine KC (i:=9) (v:=.bool (decide (Xx55 ≥ (Xx56.size:Int)))) (unb 22 1023) rfl rfl hT (anyM hM (by kernel_rfl)) hE rfl (KA rfl) (fun w=>Zk hE rfl rfl ZX KBJ) (fun a hE=>?_)
      refine KC (i:=10) (v:=.bool (decide (Xx55 ≥ (Xx56.size:Int)))) (unb 22 2047) rfl rfl hT (anyM hM (by kernel_rfl)) hE rfl (KA rfl) (fun w=>KG hE rfl) (fun a hE=>?_)
      have hE:=hE.reb 37 (decide (Xx55 ≥ (Xx56.size:Int))) true hb_57 rfl
      replace hE:=hE.cut (l':=[(0,.pointer x0),(4,.int .i64 Xx17),(37,.bool true)]) (.cons rfl (.cons rfl (.cons rfl Subs.nil)))
      refine KCk (i:=11) (unb 22 4095) rfl rfl hT (anyM hM (by kernel_rfl)) (UT rfl hE rfl rfl rfl) (fun a ea=>?_)
      have hE:=Env.put_some hE rfl ea; clear ea
      refine KCk (i:=12) (unb 22 8191) rfl rfl hT (anyM hM (by kernel_rfl)) (UT rfl hE rfl rfl rfl) (fun a ea=>?_)
      have hE:=Env.put_some hE rfl ea; clear ea
      refine KC (i:=13) (v:=.bool true) (unb 22 16383) rfl rfl hT (anyM hM (by kernel_rfl)) hE rfl (KA rfl) (fun w=>UW hE rfl rfl) (fun a hE=>?_)
      refine KC (i:=14) (v:=.bool true) (unb 22 32767) rfl rfl hT (anyM hM (by kernel_rfl)) hE rfl (KA rfl) (fun w=>KG hE rfl) (fun a hE=>?_)
      refine zD [(15,some 42),(16,some 43),(17,some 44),(18,some 45),(19,some 46),(20,some 47)] 1 hT hM hE (by kernel_rfl) (m':=2097151) (by kernel_rfl) (fun a hE=>?_)
      refine KC (i:=21) (v:=.bool true) (unb 22 4194303) rfl rfl hT (anyM hM (by kernel_rfl)) hE rfl (KA rfl) (fun w=>UW hE rfl rfl) (fun a hE=>?_)
      refine GK hT (KA1 hM (by kernel_rfl)) ?_
      exact ⟨true,hE.cut (.cons rfl (.cons rfl (.cons rfl Subs.nil))),hR,H⟩
     ·replace H:=M.ite_f hb_57 H
      rcases WE (decide (Xx17 < 0)) with hb_58 | hb_58
      ·replace H:=M.ite_t hb_58 H
       refine NT (rops:=Np) (by kernel_rfl) ?_
       have hT:Tab Np _ _ _:=NC KDJ rfl (by kernel_rfl)
       have hM:=TabM.of KBB
       refine YD (m:=22) (fun w:World=>(fun h:Heap=>(KO h ((Xx53).add 1)=some (.int .i64 Xx55))∧(KO h ((Xx54).add 0)=some (.string Xx56))) w.heap) [9,10,11,12,13,14,15,16,17,18,19,20,21] (unb 22 0) mo hR (by kernel_rfl) (by kernel_rfl) (fun w' e=>by rw [e]; exact ⟨qXx55,qXx56⟩) (fun w hh hR hs=>?_)
       replace H:=M.at hh H; clear hh
       refine KC (i:=0) (v:=.pointer x0) (unb 22 1) rfl rfl hT (anyM hM (by kernel_rfl)) hE rfl (KA rfl) (fun w=>KG hE rfl) (fun a hE=>?_)
       refine KC (i:=1) (v:=.pointer (some Xx53)) (unb 22 3) rfl rfl hT (anyM hM (by kernel_rfl)) hE rfl (KA rfl) (fun w=>KM hE (Jj rfl (congrArg Value.pointer qXx53))) (fun a hE=>?_)
       refine KC (i:=2) (v:=.pointer (some ((Xx53).add 1))) (unb 22 7) rfl rfl hT (anyM hM (by kernel_rfl)) hE rfl (KA rfl) (fun w=>KL hE rfl Za) (fun a hE=>?_)
       refine KC (i:=4) (v:=.pointer x0) (unb 22 23) rfl rfl hT (anyM hM (by kernel_rfl)) hE rfl (KA rfl) (fun w=>KG hE rfl) (fun a hE=>?_)
       refine KC (i:=5) (v:=.pointer (some Xx54)) (unb 22 55) rfl rfl hT (anyM hM (by kernel_rfl)) hE rfl (KA rfl) (fun w=>KM hE (Jj rfl (congrArg Value.pointer qXx54))) (fun a hE=>?_)
       refine KC (i:=6) (v:=.pointer (some ((Xx54).add 0))) (unb 22 119) rfl rfl hT (anyM hM (by kernel_rfl)) hE rfl (KA rfl) (fun w=>KL hE rfl Y1) (fun a hE=>?_)
       refine Ut (i:=3) (v:=.int .i64 Xx55) (unb 22 127) rfl rfl hT (Yo hM (by kernel_rfl)) hE rfl (KA rfl) hs (fun w s=>Z3 hE rfl sc3 s.1) (fun a hE=>?_)
       refine Ut (i:=7) (v:=.string Xx56) (unb 22 255) rfl rfl hT (Yo hM (by kernel_rfl)) hE rfl (KA rfl) hs (fun w s=>Z3 hE rfl sc9 s.2) (fun a hE=>?_)
       refine KC (i:=8) (v:=.int .i64 (Xx56.size:Int)) (unb 22 511) rfl rfl hT (anyM hM (by kernel_rfl)) hE rfl (KA rfl) (fun w=>GJ hE rfl un9) (fun a hE=>?_)
       refine KC (i:=9) (v:=.bool (decide (Xx55 ≥ (Xx56.size:Int)))) (unb 22 1023) rfl rfl hT (anyM hM (by kernel_rfl)) hE rfl (KA rfl) (fun w=>Zk hE rfl rfl ZX KBJ) (fun a hE=>?_)
       refine KC (i:=10) (v:=.bool (decide (Xx55 ≥ (Xx56.size:Int)))) (unb 22 2047) rfl rfl hT (anyM hM (by kernel_rfl)) hE rfl (KA rfl) (fun w=>KG hE rfl) (fun a hE=>?_)
       have hE:=hE.reb 37 (decide (Xx55 ≥ (Xx56.size:Int))) false hb_57 rfl
       replace hE:=hE.cut (l':=[(0,.pointer x0),(4,.int .i64 Xx17),(37,.bool false)]) (.cons rfl (.cons rfl (.cons rfl Subs.nil)))
       refine KC (i:=11) (v:=.int .i64 Xx17) (unb 22 4095) rfl rfl hT (anyM hM (by kernel_rfl)) hE rfl (KQ rfl hE rfl rfl rfl) (fun w=>KG hE rfl) (fun a hE=>?_)
       refine KC (i:=12) (v:=.bool (decide (Xx17 < 0))) (unb 22 8191) rfl rfl hT (anyM hM (by kernel_rfl)) hE rfl (KQ rfl hE rfl rfl rfl) (fun w=>Zk hE rfl rfl ZX KA0) (fun a hE=>?_)
       refine KC (i:=13) (v:=.bool (decide (Xx17 < 0))) (unb 22 16383) rfl rfl hT (anyM hM (by kernel_rfl)) hE rfl (KA rfl) (fun w=>Jf hE rfl rfl) (fun a hE=>?_)
       refine KC (i:=14) (v:=.bool (decide (Xx17 < 0))) (unb 22 32767) rfl rfl hT (anyM hM (by kernel_rfl)) hE rfl (KA rfl) (fun w=>KG hE rfl) (fun a hE=>?_)
       have hE:=hE.reb 41 (decide (Xx17 < 0)) true hb_58 rfl
       replace hE:=hE.cut (l':=[(0,.pointer x0),(4,.int .i64 Xx17),(41,.bool true)]) (.cons rfl (.cons rfl (.cons rfl Subs.nil)))
       refine zD [(15,some 42),(16,some 43),(17,some 44),(18,some 45),(19,some 46),(20,some 47)] 1 hT hM hE (by kernel_rfl) (m':=2097151) (by kernel_rfl) (fun a hE=>?_)
       refine KC (i:=21) (v:=.bool true) (unb 22 4194303) rfl rfl hT (anyM hM (by kernel_rfl)) hE rfl (KA rfl) (fun w=>UW hE rfl rfl) (fun a hE=>?_)
       refine GK hT (KA1 hM (by kernel_rfl)) ?_
       exact ⟨true,hE.cut (.cons rfl (.cons rfl (.cons rfl Subs.nil))),hR,H⟩
      ·replace H:=M.ite_f hb_58 H
       rcases WE (decide (Xx17 > 1)) with hb_59 | hb_59
       ·replace H:=M.ite_t hb_59 H
        refine NT (rops:=Np) (by kernel_rfl) ?_
        have hT:Tab Np _ _ _:=NC KDJ rfl (by kernel_rfl)
        have hM:=TabM.of KBB
        refine YD (m:=22) (fun w:World=>(fun h:Heap=>(KO h ((Xx53).add 1)=some (.int .i64 Xx55))∧(KO h ((Xx54).add 0)=some (.string Xx56))) w.heap) [9,10,11,12,13,14,15,16,17,18,19,20,21] (unb 22 0) mo hR (by kernel_rfl) (by kernel_rfl) (fun w' e=>by rw [e]; exact ⟨qXx55,qXx56⟩) (fun w hh hR hs=>?_)
        replace H:=M.at hh H; clear hh
        refine KC (i:=0) (v:=.pointer x0) (unb 22 1) rfl rfl hT (anyM hM (by kernel_rfl)) hE rfl (KA rfl) (fun w=>KG hE rfl) (fun a hE=>?_)
        refine KC (i:=1) (v:=.pointer (some Xx53)) (unb 22 3) rfl rfl hT (anyM hM (by kernel_rfl)) hE rfl (KA rfl) (fun w=>KM hE (Jj rfl (congrArg Value.pointer qXx53))) (fun a hE=>?_)
        refine KC (i:=2) (v:=.pointer (some ((Xx53).add 1))) (unb 22 7) rfl rfl hT (anyM hM (by kernel_rfl)) hE rfl (KA rfl) (fun w=>KL hE rfl Za) (fun a hE=>?_)
        refine KC (i:=4) (v:=.pointer x0) (unb 22 23) rfl rfl hT (anyM hM (by kernel_rfl)) hE rfl (KA rfl) (fun w=>KG hE rfl) (fun a hE=>?_)
        refine KC (i:=5) (v:=.pointer (some Xx54)) (unb 22 55) rfl rfl hT (anyM hM (by kernel_rfl)) hE rfl (KA rfl) (fun w=>KM hE (Jj rfl (congrArg Value.pointer qXx54))) (fun a hE=>?_)
        refine KC (i:=6) (v:=.pointer (some ((Xx54).add 0))) (unb 22 119) rfl rfl hT (anyM hM (by kernel_rfl)) hE rfl (KA rfl) (fun w=>KL hE rfl Y1) (fun a hE=>?_)
        refine Ut (i:=3) (v:=.int .i64 Xx55) (unb 22 127) rfl rfl hT (Yo hM (by kernel_rfl)) hE rfl (KA rfl) hs (fun w s=>Z3 hE rfl sc3 s.1) (fun a hE=>?_)
        refine Ut (i:=7) (v:=.string Xx56) (unb 22 255) rfl rfl hT (Yo hM (by kernel_rfl)) hE rfl (KA rfl) hs (fun w s=>Z3 hE rfl sc9 s.2) (fun a hE=>?_)
        refine KC (i:=8) (v:=.int .i64 (Xx56.size:Int)) (unb 22 511) rfl rfl hT (anyM hM (by kernel_rfl)) hE rfl (KA rfl) (fun w=>GJ hE rfl un9) (fun a hE=>?_)
        refine KC (i:=9) (v:=.bool (decide (Xx55 ≥ (Xx56.size:Int)))) (unb 22 1023) rfl rfl hT (anyM hM (by kernel_rfl)) hE rfl (KA rfl) (fun w=>Zk hE rfl rfl ZX KBJ) (fun a hE=>?_)
        refine KC (i:=10) (v:=.bool (decide (Xx55 ≥ (Xx56.size:Int)))) (unb 22 2047) rfl rfl hT (anyM hM (by kernel_rfl)) hE rfl (KA rfl) (fun w=>KG hE rfl) (fun a hE=>?_)
        have hE:=hE.reb 37 (decide (Xx55 ≥ (Xx56.size:Int))) false hb_57 rfl
        replace hE:=hE.cut (l':=[(0,.pointer x0),(4,.int .i64 Xx17),(37,.bool false)]) (.cons rfl (.cons rfl (.cons rfl Subs.nil)))
        refine KC (i:=11) (v:=.int .i64 Xx17) (unb 22 4095) rfl rfl hT (anyM hM (by kernel_rfl)) hE rfl (KQ rfl hE rfl rfl rfl) (fun w=>KG hE rfl) (fun a hE=>?_)
        refine KC (i:=12) (v:=.bool (decide (Xx17 < 0))) (unb 22 8191) rfl rfl hT (anyM hM (by kernel_rfl)) hE rfl (KQ rfl hE rfl rfl rfl) (fun w=>Zk hE rfl rfl ZX KA0) (fun a hE=>?_)
        refine KC (i:=13) (v:=.bool (decide (Xx17 < 0))) (unb 22 16383) rfl rfl hT (anyM hM (by kernel_rfl)) hE rfl (KA rfl) (fun w=>Jf hE rfl rfl) (fun a hE=>?_)
        refine KC (i:=14) (v:=.bool (decide (Xx17 < 0))) (unb 22 32767) rfl rfl hT (anyM hM (by kernel_rfl)) hE rfl (KA rfl) (fun w=>KG hE rfl) (fun a hE=>?_)
        have hE:=hE.reb 41 (decide (Xx17 < 0)) false hb_58 rfl
        replace hE:=hE.cut (l':=[(0,.pointer x0),(4,.int .i64 Xx17),(41,.bool false)]) (.cons rfl (.cons rfl (.cons rfl Subs.nil)))
        refine KC (i:=15) (v:=.int .i64 Xx17) (unb 22 65535) rfl rfl hT (anyM hM (by kernel_rfl)) hE rfl (KQ rfl hE rfl rfl rfl) (fun w=>KG hE rfl) (fun a hE=>?_)
        refine KC (i:=16) (v:=.bool (decide (Xx17 > 1))) (unb 22 131071) rfl rfl hT (anyM hM (by kernel_rfl)) hE rfl (KQ rfl hE rfl rfl rfl) (fun w=>Zk hE rfl rfl ZX KEd) (fun a hE=>?_)
        refine KC (i:=17) (v:=.bool (decide (Xx17 > 1))) (unb 22 262143) rfl rfl hT (anyM hM (by kernel_rfl)) hE rfl (KQ rfl hE rfl rfl rfl) (fun w=>KG hE rfl) (fun a hE=>?_)
        have hE:=hE.reb 44 (decide (Xx17 > 1)) true hb_59 rfl
        replace hE:=hE.cut (l':=[(0,.pointer x0),(4,.int .i64 Xx17),(41,.bool false),(44,.bool true)]) (.cons rfl (.cons rfl (.cons rfl (.cons rfl Subs.nil))))
        refine KC (i:=18) (v:=.int .i64 Xx17) (unb 22 524287) rfl rfl hT (anyM hM (by kernel_rfl)) hE rfl (KQ rfl hE rfl rfl rfl) (fun w=>KG hE rfl) (fun a hE=>?_)
        refine KC (i:=19) (v:=.bool (decide (Xx17 < 7))) (unb 22 1048575) rfl rfl hT (anyM hM (by kernel_rfl)) hE rfl (KQ rfl hE rfl rfl rfl) (fun w=>Zk hE rfl rfl ZX KA0) (fun a hE=>?_)
        refine KC (i:=20) (v:=.bool (decide (Xx17 < 7))) (unb 22 2097151) rfl rfl hT (anyM hM (by kernel_rfl)) hE rfl (KQ rfl hE rfl rfl rfl) (fun w=>UW hE rfl rfl) (fun a hE=>?_)
        refine KC (i:=21) (v:=.bool (decide (Xx17 < 7))) (unb 22 4194303) rfl rfl hT (anyM hM (by kernel_rfl)) hE rfl (KA rfl) (fun w=>Jf hE rfl rfl) (fun a hE=>?_)
        refine GK hT (KA1 hM (by kernel_rfl)) ?_
        exact ⟨decide (Xx17 < 7),hE.cut (.cons rfl (.cons rfl (.cons rfl Subs.nil))),hR,H⟩
       ·replace H:=M.ite_f hb_59 H
        refine NT (rops:=Np) (by kernel_rfl) ?_
        have hT:Tab Np _ _ _:=NC KDJ rfl (by kernel_rfl)
        have hM:=TabM.of KBB
        refine YD (m:=22) (fun w:World=>(fun h:Heap=>(KO h ((Xx53).add 1)=some (.int .i64 Xx55))∧(KO h ((Xx54).add 0)=some (.string Xx56))) w.heap) [9,10,11,12,13,14,15,16,17,18,19,20,21] (unb 22 0) mo hR (by kernel_rfl) (by kernel_rfl) (fun w' e=>by rw [e]; exact ⟨qXx55,qXx56⟩) (fun w hh hR hs=>?_)
        replace H:=M.at hh H; clear hh
        refine KC (i:=0) (v:=.pointer x0) (unb 22 1) rfl rfl hT (anyM hM (by kernel_rfl)) hE rfl (KA rfl) (fun w=>KG hE rfl) (fun a hE=>?_)
        refine KC (i:=1) (v:=.pointer (some Xx53)) (unb 22 3) rfl rfl hT (anyM hM (by kernel_rfl)) hE rfl (KA rfl) (fun w=>KM hE (Jj rfl (congrArg Value.pointer qXx53))) (fun a hE=>?_)
        refine KC (i:=2) (v:=.pointer (some ((Xx53).add 1))) (unb 22 7) rfl rfl hT (anyM hM (by kernel_rfl)) hE rfl (KA rfl) (fun w=>KL hE rfl Za) (fun a hE=>?_)
        refine KC (i:=4) (v:=.pointer x0) (unb 22 23) rfl rfl hT (anyM hM (by kernel_rfl)) hE rfl (KA rfl) (fun w=>KG hE rfl) (fun a hE=>?_)
        refine KC (i:=5) (v:=.pointer (some Xx54)) (unb 22 55) rfl rfl hT (anyM hM (by kernel_rfl)) hE rfl (KA rfl) (fun w=>KM hE (Jj rfl (congrArg Value.pointer qXx54))) (fun a hE=>?_)
        refine KC (i:=6) (v:=.pointer (some ((Xx54).add 0))) (unb 22 119) rfl rfl hT (anyM hM (by kernel_rfl)) hE rfl (KA rfl) (fun w=>KL hE rfl Y1) (fun a hE=>?_)
        refine Ut (i:=3) (v:=.int .i64 Xx55) (unb 22 127) rfl rfl hT (Yo hM (by kernel_rfl)) hE rfl (KA rfl) hs (fun w s=>Z3 hE rfl sc3 s.1) (fun a hE=>?_)
        refine Ut (i:=7) (v:=.string Xx56) (unb 22 255) rfl rfl hT (Yo hM (by kernel_rfl)) hE rfl (KA rfl) hs (fun w s=>Z3 hE rfl sc9 s.2) (fun a hE=>?_)
        refine KC (i:=8) (v:=.int .i64 (Xx56.size:Int)) (unb 22 511) rfl rfl hT (anyM hM (by kernel_rfl)) hE rfl (KA rfl) (fun w=>GJ hE rfl un9) (fun a hE=>?_)
        refine KC (i:=9) (v:=.bool (decide (Xx55 ≥ (Xx56.size:Int)))) (unb 22 1023) rfl rfl hT (anyM hM (by kernel_rfl)) hE rfl (KA rfl) (fun w=>Zk hE rfl rfl ZX KBJ) (fun a hE=>?_)
        refine KC (i:=10) (v:=.bool (decide (Xx55 ≥ (Xx56.size:Int)))) (unb 22 2047) rfl rfl hT (anyM hM (by kernel_rfl)) hE rfl (KA rfl) (fun w=>KG hE rfl) (fun a hE=>?_)
        have hE:=hE.reb 37 (decide (Xx55 ≥ (Xx56.size:Int))) false hb_57 rfl
        replace hE:=hE.cut (l':=[(0,.pointer x0),(4,.int .i64 Xx17),(37,.bool false)]) (.cons rfl (.cons rfl (.cons rfl Subs.nil)))
        refine KC (i:=11) (v:=.int .i64 Xx17) (unb 22 4095) rfl rfl hT (anyM hM (by kernel_rfl)) hE rfl (KQ rfl hE rfl rfl rfl) (fun w=>KG hE rfl) (fun a hE=>?_)
        refine KC (i:=12) (v:=.bool (decide (Xx17 < 0))) (unb 22 8191) rfl rfl hT (anyM hM (by kernel_rfl)) hE rfl (KQ rfl hE rfl rfl rfl) (fun w=>Zk hE rfl rfl ZX KA0) (fun a hE=>?_)
        refine KC (i:=13) (v:=.bool (decide (Xx17 < 0))) (unb 22 16383) rfl rfl hT (anyM hM (by kernel_rfl)) hE rfl (KA rfl) (fun w=>Jf hE rfl rfl) (fun a hE=>?_)
        refine KC (i:=14) (v:=.bool (decide (Xx17 < 0))) (unb 22 32767) rfl rfl hT (anyM hM (by kernel_rfl)) hE rfl (KA rfl) (fun w=>KG hE rfl) (fun a hE=>?_)
        have hE:=hE.reb 41 (decide (Xx17 < 0)) false hb_58 rfl
        replace hE:=hE.cut (l':=[(0,.pointer x0),(4,.int .i64 Xx17),(41,.bool false)]) (.cons rfl (.cons rfl (.cons rfl Subs.nil)))
        refine KC (i:=15) (v:=.int .i64 Xx17) (unb 22 65535) rfl rfl hT (anyM hM (by kernel_rfl)) hE rfl (KQ rfl hE rfl rfl rfl) (fun w=>KG hE rfl) (fun a hE=>?_)
        refine KC (i:=16) (v:=.bool (decide (Xx17 > 1))) (unb 22 131071) rfl rfl hT (anyM hM (by kernel_rfl)) hE rfl (KQ rfl hE rfl rfl rfl) (fun w=>Zk hE rfl rfl ZX KEd) (fun a hE=>?_)
        refine KC (i:=17) (v:=.bool (decide (Xx17 > 1))) (unb 22 262143) rfl rfl hT (anyM hM (by kernel_rfl)) hE rfl (KQ rfl hE rfl rfl rfl) (fun w=>KG hE rfl) (fun a hE=>?_)
        have hE:=hE.reb 44 (decide (Xx17 > 1)) false hb_59 rfl
        replace hE:=hE.cut (l':=[(0,.pointer x0),(4,.int .i64 Xx17),(41,.bool false),(44,.bool false)]) (.cons rfl (.cons rfl (.cons rfl (.cons rfl Subs.nil))))
        refine KCk (i:=18) (unb 22 524287) rfl rfl hT (anyM hM (by kernel_rfl)) (UT rfl hE rfl rfl rfl) (fun a ea=>?_)
        have hE:=Env.put_some hE rfl ea; clear ea
        refine KCk (i:=19) (unb 22 1048575) rfl rfl hT (anyM hM (by kernel_rfl)) (UT rfl hE rfl rfl rfl) (fun a ea=>?_)
        have hE:=Env.put_some hE rfl ea; clear ea
        refine KC (i:=20) (v:=.bool false) (unb 22 2097151) rfl rfl hT (anyM hM (by kernel_rfl)) hE rfl (KQ rfl hE rfl rfl rfl) (fun w=>Jf hE rfl rfl) (fun a hE=>?_)
        refine KC (i:=21) (v:=.bool false) (unb 22 4194303) rfl rfl hT (anyM hM (by kernel_rfl)) hE rfl (KA rfl) (fun w=>Jf hE rfl rfl) (fun a hE=>?_)
        refine GK hT (KA1 hM (by kernel_rfl)) ?_
        exact ⟨false,hE.cut (.cons rfl (.cons rfl (.cons rfl Subs.nil))),hR,H⟩
end Gx
namespace Gx
open Go
set_option linter.unusedVariables false
set_option maxRecDepth 100000
def JX (self1:(Sl)→M (Value ⊕ (ByteArray))) (C24:Sl) (Xx22:Int):M (Value ⊕ (ByteArray)):=do
 let Xx25←bdL ZG 1 #[.int .u8 Xx22]
 let Xx26←apL ZG 1 1 (#[.int .u8 0]:Array Value) C24 Xx25
 self1 Xx26
def J9 (self1:(Sl)→M (Value ⊕ (ByteArray))) (C14:Option Addr) (C15:Sl) (C16:Int):M (Value ⊕ (ByteArray)):=do
 let Xx18←nilP C14
 let Xx19←ldI .i64 ((Xx18).add 1)
 let Xx20←nilP C14
 stV ((Xx20).add 1) (.int .i64 (IntKind.wrap .i64 (Xx19+1)))
 M.ite (C16 == 92) (do
  thr (Jw C14) fun Xx28=>do
   JX self1 C15 Xx28
  ) (do
  JX self1 C15 C16
  )
def Us (C7:Option Addr) (self1:(Sl)→M (Value ⊕ (ByteArray))):(Sl)→M (Value ⊕ (ByteArray)):=fun s=>match s with
 | Xx6=>do
  let Xx11←Ki C7
  M.ite (Xx11 != 39) (do
   let Xx13←Ki C7
   let Xx30←M.ite (decide (Xx13 < 32)) (do
    M.pure true
    ) (do
    M.pure (decide (Xx13 > 126))
    )
   M.ite Xx30 (do
    thr (Kv C7) fun Xx31=>do
     J9 self1 C7 Xx6 Xx13
    ) (do
    J9 self1 C7 Xx6 Xx13
    )
   ) (do
   let Xx33←nilP C7
   let Xx34←ldI .i64 ((Xx33).add 1)
   let Xx35←nilP C7
   stV ((Xx35).add 1) (.int .i64 (IntKind.wrap .i64 (Xx34+1)))
   let Xx38←b2s Xx6
   M.pure (.inr Xx38)
   )
def U0 (x0:Option Addr):M (Value ⊕ (ByteArray)):=do
 thr (ZH x0 (⟨#[39]⟩:ByteArray)) fun Xx5=>do
  M.loop (Us x0) Sl.nil
theorem zx (x0:Option Addr):GI Go.Proofs.Tryz.prog 173 #[.pointer x0] (fun (r:ByteArray)=>.string r) (U0 x0):=by
 refine YT [(0,.pointer x0)] Go.Proofs.Tryz.func173 rfl rfl (Nat.le_of_ble_eq_true rfl) (Ym ⟨rfl,trivial⟩) (fun w0 w Q R X a hret hthr hE hR H=>?_)
 unfold U0 at H
 refine Kx (fun K hK_1=>?_)
 refine KH ?_
 refine KE (v:=.string ByteArray.empty) rfl rfl hE rfl (Kf hE rfl) (fun a hE=>?_)
 refine Kc ?_
 refine hK_1 _ _ ?_
 refine Kx (fun K hK_2=>?_)
 refine KH ?_
 refine KE (v:=(Sl.nil:Sl).v) rfl rfl hE rfl (Kf hE rfl) (fun a hE=>?_)
 refine Kc ?_
 refine hK_2 _ _ ?_
 refine Kx (fun K hK_3=>?_)
 refine Kx (fun K hK_4=>?_)
 refine KH ?_
 refine KE (v:=.pointer x0) rfl rfl hE rfl (KG hE rfl) (fun a hE=>?_)
 refine JU hE hR ZY rfl (Zi x0 (⟨#[39]⟩:ByteArray)) H (fun _ _ hR HQ=>hthr _ _ hR HQ) (fun Xx5 a w ea hR H=>?_)
 have hE:=Env.put_some hE rfl ea; clear ea
 refine Kc ?_
 refine hK_4 _ _ ?_
 refine Yl ?_
 refine KDi (fun (s:Sl)=>(⟨44,[]⟩:Frm)) (fun (s:Sl)=>[(0,.pointer x0),(3,(s:Sl).v)]) H (hE.cut (.cons rfl (.cons rfl Subs.nil))) hR (fun Y self1 hY_8 Xx6 a w hE hR H=>?_)
 replace hE:Env (⟨44,[]⟩:Frm) a [(0,.pointer x0),(3,(Xx6:Sl).v)]:=hE
 replace H:(Us x0 self1 Xx6).wp w.heap Q:=H
 unfold Us at H
 refine Kx (fun K hK_9=>?_)
 refine Kx (fun K hK_10=>?_)
 refine KH ?_
 refine KE (v:=.pointer x0) rfl rfl hE rfl (KG hE rfl) (fun a hE=>?_)
 refine Vs hE hR Kj rfl (Kw x0) (M.unbind H) (fun Xx11 a w ea hR H=>?_)
 have hE:=Env.put_some hE rfl ea; clear ea
 refine KE (v:=.bool (Xx11 != 39)) rfl rfl hE rfl (Zk hE rfl rfl ZX KEc) (fun a hE=>?_)
 refine Kc ?_
 refine hK_10 _ _ ?_
 refine UE (Xx11 != 39) hE rfl (fun hb=>?_) (fun hb=>?_)
 ·replace H:=M.ite_t hb H
  refine Vg ?_
  refine hK_9 _ _ ?_
  refine Yl ?_
  refine Kx (fun K hK_12=>?_)
  refine KH ?_
  refine KE (v:=.pointer x0) rfl rfl hE rfl (KG hE rfl) (fun a hE=>?_)
  refine Vs hE hR Kj rfl (Kw x0) (M.unbind H) (fun Xx13 a w ea hR H=>?_)
  have hE:=Env.put_some hE rfl ea; clear ea
  refine KE (v:=.int .u8 Xx13) rfl rfl hE rfl (Kf hE rfl) (fun a hE=>?_)
  refine Kc ?_
  refine hK_12 _ _ ?_
  refine Je (fun a w=>Env (⟨44,[]⟩:Frm) a [(0,.pointer x0),(3,(Xx6:Sl).v),(4,.int .u8 Xx13)]∧Rest w0 w∧(J9 self1 x0 Xx6 Xx13).wp w.heap Q) ?_ ?_
  ·rintro a w ⟨hE,hR,H⟩
   unfold J9 at H
   refine Kx (fun K hK_17=>?_)
   refine KH ?_
   refine KE (v:=.pointer x0) rfl rfl hE rfl (KG hE rfl) (fun a hE=>?_)
   obtain ⟨Xx18,qXx18,H⟩:=H
   refine KE (v:=.pointer (some Xx18)) rfl rfl hE rfl (KM hE (Jj rfl (congrArg Value.pointer qXx18))) (fun a hE=>?_)
   refine KE (v:=.pointer (some ((Xx18).add 1))) rfl rfl hE rfl (KL hE rfl Za) (fun a hE=>?_)
   obtain ⟨Xx19,qXx19,H⟩:=H
   refine KE (v:=.int .i64 Xx19) rfl rfl hE rfl (Z3 hE rfl sc3 qXx19) (fun a hE=>?_)
   refine KE (v:=.int .i64 (IntKind.wrap .i64 (Xx19+1))) rfl rfl hE rfl (Zk hE rfl rfl ZX N0) (fun a hE=>?_)
   obtain ⟨Xx20,qXx20,H⟩:=H
   refine KE (v:=.pointer (some Xx20)) rfl rfl hE rfl (KM hE (Jj rfl (congrArg Value.pointer qXx20))) (fun a hE=>?_)
   refine KE (v:=.pointer (some ((Xx20).add 1))) rfl rfl hE rfl (KL hE rfl Za) (fun a hE=>?_)
   obtain ⟨u_21,qu_21,H⟩:=H
   refine XA rfl rfl hE hR (VD hE rfl rfl sz3 qu_21) (fun a w hE hR hh=>?_)
   replace H:=M.at hh H; clear hh
   refine Kc ?_
   refine hK_17 _ _ ?_
   refine Je (fun a w=>∃ (Xx22:Int),Env (⟨44,[]⟩:Frm) a [(0,.pointer x0),(3,(Xx6:Sl).v),(4,.int .u8 Xx22)]∧Rest w0 w∧(JX self1 Xx6 Xx22).wp w.heap Q) ?_ ?_
   ·rintro a w ⟨Xx22,hE,hR,H⟩
    unfold JX at H
    refine KH ?_
    refine KE (v:=(Xx6:Sl).v) rfl rfl hE rfl (KG hE rfl) (fun a hE=>?_)
    refine KE (v:=.int .u8 Xx22) rfl rfl hE rfl (KG hE rfl) (fun a hE=>?_)
    obtain ⟨Xx25,qXx25,H⟩:=H
    refine q8 (v:=(Xx25:Sl).v) rfl rfl hE rfl hR (Nv (cells:=#[.int .u8 Xx22]) hE rfl un35 sz5 zr5 rfl rfl qXx25) (fun a w hE hR hh=>?_)
    replace H:=M.at hh H; clear hh
    refine t_ex (fun Xx26=>(Xx26:Sl).v) rfl rfl hR (M.unbind H) (fun Q H=>KDl hE rfl rfl ap35 H) (fun Xx26 a w ea hR H=>?_)
    have hE:=Env.put_some hE rfl ea; clear ea
    refine KE (v:=(Xx26:Sl).v) rfl rfl hE rfl (Kf hE rfl) (fun a hE=>?_)
    refine Kc ?_
    exact hY_8 Xx26 _ _ (hE.cut (.cons rfl (.cons rfl Subs.nil))) hR H
   ·skip
    refine Kx (fun K hK_27=>?_)
    refine KH ?_
    refine KE (v:=.int .u8 Xx13) rfl rfl hE rfl (KG hE rfl) (fun a hE=>?_)
    refine KE (v:=.bool (Xx13 == 92)) rfl rfl hE rfl (Zk hE rfl rfl ZX NE) (fun a hE=>?_)
    refine Kc ?_
    refine hK_27 _ _ ?_
    refine UE (Xx13 == 92) hE rfl (fun hb=>?_) (fun hb=>?_)
    ·replace H:=M.ite_t hb H
     refine KH ?_
     refine KE (v:=.pointer x0) rfl rfl hE rfl (KG hE rfl) (fun a hE=>?_)
     refine JU hE hR Gu rfl (NN x0) H (fun _ _ hR HQ=>Xu.ne rfl (Xu.ne rfl (hthr _ _ hR HQ))) (fun Xx28 a w ea hR H=>?_)
     have hE:=Env.put_some hE rfl ea; clear ea
     refine KE (v:=.int .u8 Xx28) rfl rfl hE rfl (Kf hE rfl) (fun a hE=>?_)
     refine Kc ?_
     exact ⟨Xx28,hE.cut (.cons rfl (.cons rfl (.cons rfl Subs.nil))),hR,H⟩
    ·replace H:=M.ite_f hb H
     refine Vg ?_
     exact ⟨Xx13,hE.cut (.cons rfl (.cons rfl (.cons rfl Subs.nil))),hR,H⟩
  ·skip
   refine Kx (fun K hK_29=>?_)
   refine KH ?_
   refine KE (v:=.int .u8 Xx13) rfl rfl hE rfl (KG hE rfl) (fun a hE=>?_)
   refine KE (v:=.bool (decide (Xx13 < 32))) rfl rfl hE rfl (Zk hE rfl rfl ZX KA0) (fun a hE=>?_)
   refine KE (v:=.bool (decide (Xx13 < 32))) rfl rfl hE rfl (KG hE rfl) (fun a hE=>?_)
   refine KEg (n:=(⟨44,[]⟩:Frm)) (w0:=w0) 3 (fun Xx30:Bool=>[(0,.pointer x0),(3,(Xx6:Sl).v),(4,.int .u8 Xx13),(17,.bool Xx30)]) (M.unbind H) (fun Kr hKr H=>?_) ?_
   ·rcases WE (decide (Xx13 < 32)) with hb | hb
    ·replace H:=M.ite_t hb H
     have hE:=hE.reb 14 (decide (Xx13 < 32)) true hb rfl
     refine qT rfl hE rfl rfl rfl (fun a ea=>?_)
     have hE:=Env.put_some hE rfl ea; clear ea
     refine qT rfl hE rfl rfl rfl (fun a ea=>?_)
     have hE:=Env.put_some hE rfl ea; clear ea
     refine KE rfl rfl hE rfl (UW hE rfl rfl) (fun a hE=>?_)
     refine Kc ?_
     exact hKr _ _ _ (hE.cut (.cons rfl (.cons rfl (.cons rfl (.cons rfl Subs.nil))))) hR H
    ·replace H:=M.ite_f hb H
     have hE:=hE.reb 14 (decide (Xx13 < 32)) false hb rfl
     refine t_on rfl hE rfl rfl rfl ?_
     refine KE (v:=.int .u8 Xx13) rfl rfl hE rfl (KG hE rfl) (fun a hE=>?_)
     refine t_on rfl hE rfl rfl rfl ?_
     refine KE (v:=.bool (decide (Xx13 > 126))) rfl rfl hE rfl (Zk hE rfl rfl ZX KEd) (fun a hE=>?_)
     refine KE rfl rfl hE rfl (Jf hE rfl rfl) (fun a hE=>?_)
     refine Kc ?_
     exact hKr _ _ _ (hE.cut (.cons rfl (.cons rfl (.cons rfl (.cons rfl Subs.nil))))) hR H
   ·intro Xx30 a w hE hR H
    refine Kc ?_
    refine hK_29 _ _ ?_
    refine UE Xx30 hE rfl (fun hb=>?_) (fun hb=>?_)
    ·replace H:=M.ite_t hb H
     refine KH ?_
     refine KE (v:=.pointer x0) rfl rfl hE rfl (KG hE rfl) (fun a hE=>?_)
     refine JU hE hR ZD rfl (ZK x0) H (fun _ _ hR HQ=>Xu.ne rfl (Xu.ne rfl (hthr _ _ hR HQ))) (fun Xx31 a w ea hR H=>?_)
     have hE:=Env.put_some hE rfl ea; clear ea
     refine Kc ?_
     exact ⟨hE.cut (.cons rfl (.cons rfl (.cons rfl Subs.nil))),hR,H⟩
    ·replace H:=M.ite_f hb H
     refine Vg ?_
     exact ⟨hE.cut (.cons rfl (.cons rfl (.cons rfl Subs.nil))),hR,H⟩
 ·replace H:=M.ite_f hb H
  refine KDd ?_
  refine Xu.same ?_
  refine hK_3 _ _ ?_
  refine Kx (fun K hK_32=>?_)
  refine KH ?_
  refine KE (v:=.pointer x0) rfl rfl hE rfl (KG hE rfl) (fun a hE=>?_)
  obtain ⟨Xx33,qXx33,H⟩:=H
  refine KE (v:=.pointer (some Xx33)) rfl rfl hE rfl (KM hE (Jj rfl (congrArg Value.pointer qXx33))) (fun a hE=>?_)
  refine KE (v:=.pointer (some ((Xx33).add 1))) rfl rfl hE rfl (KL hE rfl Za) (fun a hE=>?_)
  obtain ⟨Xx34,qXx34,H⟩:=H
  refine KE (v:=.int .i64 Xx34) rfl rfl hE rfl (Z3 hE rfl sc3 qXx34) (fun a hE=>?_)
  refine KE (v:=.int .i64 (IntKind.wrap .i64 (Xx34+1))) rfl rfl hE rfl (Zk hE rfl rfl ZX N0) (fun a hE=>?_)
  obtain ⟨Xx35,qXx35,H⟩:=H
  refine KE (v:=.pointer (some Xx35)) rfl rfl hE rfl (KM hE (Jj rfl (congrArg Value.pointer qXx35))) (fun a hE=>?_)
  refine KE (v:=.pointer (some ((Xx35).add 1))) rfl rfl hE rfl (KL hE rfl Za) (fun a hE=>?_)
  obtain ⟨u_36,qu_36,H⟩:=H
  refine XA rfl rfl hE hR (VD hE rfl rfl sz3 qu_36) (fun a w hE hR hh=>?_)
  replace H:=M.at hh H; clear hh
  refine Kc ?_
  refine hK_32 _ _ ?_
  refine Kx (fun K hK_37=>?_)
  refine KH ?_
  refine KE (v:=(Xx6:Sl).v) rfl rfl hE rfl (KG hE rfl) (fun a hE=>?_)
  obtain ⟨Xx38,qXx38,H⟩:=H
  refine KE (v:=.string Xx38) rfl rfl hE rfl (KHJ hE rfl un35 un9 un5 qXx38) (fun a hE=>?_)
  refine KE (v:=.string Xx38) rfl rfl hE rfl (Kf hE rfl) (fun a hE=>?_)
  refine Kc ?_
  refine hK_37 _ _ ?_
  refine Gd ?_
  exact hret _ _ _ Xx38 _ hE hR (UF hE rfl (RV.tmp rfl RV.nil)) rfl H
def JM (x0:Option Addr) (x1:Int):M (Value ⊕ (Array Value)):=do
 let Xx2←mkB KB (#[.int .i64 0,.int .i64 0,.string ByteArray.empty,.slice none 0 0]:Array Value)
 let Xx4←nilP x0
 let Xx5←ldI .i64 ((Xx4).add 1)
 let Xx6←nilP x0
 stV ((Xx6).add 1) (.int .i64 (IntKind.wrap .i64 (Xx5+1)))
 thr (ZH x0 (⟨#[91]⟩:ByteArray)) fun Xx9=>do
  thr (JW x0) fun Xx11=>do
   let Xx12←mkB KB (#[.int .i64 0,.int .i64 0,.string ByteArray.empty,.slice none 0 0]:Array Value)
   M.need ((#[.int .i64 x1,.int .i64 Xx11,.string ByteArray.empty,.slice none 0 0]:Array Value).size=4)
   stG Xx12 (#[.int .i64 x1,.int .i64 Xx11,.string ByteArray.empty,.slice none 0 0]:Array Value)
   thr (ZH x0 (⟨#[93]⟩:ByteArray)) fun Xx15=>do
    let Xx17←ldG 4 Xx12
    M.need (Xx17.size=4)
    stG Xx2 Xx17
    let Rr19←ldG 4 Xx2
    M.pure (.inr Rr19)
theorem YB (x0:Option Addr) (x1:Int):GI Go.Proofs.Tryz.prog 175 #[.pointer x0,.int .i64 x1] (fun (r:Array Value)=>.agg r) (JM x0 x1):=by
 refine YT [(0,.pointer x0),(1,.int .i64 x1)] Go.Proofs.Tryz.func175 rfl rfl (Nat.le_of_ble_eq_true rfl) (Ym ⟨rfl,rfl,trivial⟩) (fun w0 w Q R X a hret hthr hE hR H=>?_)
 unfold JM at H
 refine Kx (fun K hK_1=>?_)
 refine KH ?_
 obtain ⟨Xx2,qXx2,H⟩:=H
 refine q8 (v:=.pointer (some Xx2)) rfl rfl hE rfl hR (NQ zr24 qXx2) (fun a w hE hR hh=>?_)
 replace H:=M.at hh H; clear hh
 refine Kc ?_
 refine hK_1 _ _ ?_
 refine Kx (fun K hK_3=>?_)
 refine KH ?_
 refine KE (v:=.pointer x0) rfl rfl hE rfl (KG hE rfl) (fun a hE=>?_)
 obtain ⟨Xx4,qXx4,H⟩:=H
 refine KE (v:=.pointer (some Xx4)) rfl rfl hE rfl (KM hE (Jj rfl (congrArg Value.pointer qXx4))) (fun a hE=>?_)
 refine KE (v:=.pointer (some ((Xx4).add 1))) rfl rfl hE rfl (KL hE rfl Za) (fun a hE=>?_)
 obtain ⟨Xx5,qXx5,H⟩:=H
 refine KE (v:=.int .i64 Xx5) rfl rfl hE rfl (Z3 hE rfl sc3 qXx5) (fun a hE=>?_)
 refine KE (v:=.int .i64 (IntKind.wrap .i64 (Xx5+1))) rfl rfl hE rfl (Zk hE rfl rfl ZX N0) (fun a hE=>?_)
 obtain ⟨Xx6,qXx6,H⟩:=H
 refine KE (v:=.pointer (some Xx6)) rfl rfl hE rfl (KM hE (Jj rfl (congrArg Value.pointer qXx6))) (fun a hE=>?_)
 refine KE (v:=.pointer (some ((Xx6).add 1))) rfl rfl hE rfl (KL hE rfl Za) (fun a hE=>?_)
 obtain ⟨u_7,qu_7,H⟩:=H
 refine XA rfl rfl hE hR (VD hE rfl rfl sz3 qu_7) (fun a w hE hR hh=>?_)
 replace H:=M.at hh H; clear hh
 refine Kc ?_
 refine hK_3 _ _ ?_
 refine Kx (fun K hK_8=>?_)
 refine KH ?_
 refine KE (v:=.pointer x0) rfl rfl hE rfl (KG hE rfl) (fun a hE=>?_)
 refine JU hE hR ZY rfl (Zi x0 (⟨#[91]⟩:ByteArray)) H (fun _ _ hR HQ=>hthr _ _ hR HQ) (fun Xx9 a w ea hR H=>?_)
 have hE:=Env.put_some hE rfl ea; clear ea
 refine Kc ?_
 refine hK_8 _ _ ?_
 refine Kx (fun K hK_10=>?_)
 refine KH ?_
 refine KE (v:=.int .i64 x1) rfl rfl hE rfl (KG hE rfl) (fun a hE=>?_)
 refine KE (v:=.pointer x0) rfl rfl hE rfl (KG hE rfl) (fun a hE=>?_)
 refine JU hE hR YA rfl (Yj x0) H (fun _ _ hR HQ=>hthr _ _ hR HQ) (fun Xx11 a w ea hR H=>?_)
 have hE:=Env.put_some hE rfl ea; clear ea
 refine KE (v:=.agg (#[.int .i64 x1,.int .i64 Xx11,.string ByteArray.empty,.slice none 0 0]:Array Value)) rfl rfl hE rfl (NU hE rfl zr24 pl24 (by rfl)) (fun a hE=>?_)
 obtain ⟨Xx12,qXx12,H⟩:=H
 refine q8 (v:=.pointer (some Xx12)) rfl rfl hE rfl hR (NQ zr24 qXx12) (fun a w hE hR hh=>?_)
 replace H:=M.at hh H; clear hh
 obtain ⟨qz,H⟩:=H
 obtain ⟨u_13,qu_13,H⟩:=H
 refine XA rfl rfl hE hR (UX hE rfl rfl sz24 qz qu_13) (fun a w hE hR hh=>?_)
 replace H:=M.at hh H; clear hh
 refine Kc ?_
 refine hK_10 _ _ ?_
 refine Kx (fun K hK_14=>?_)
 refine KH ?_
 refine KE (v:=.pointer x0) rfl rfl hE rfl (KG hE rfl) (fun a hE=>?_)
 refine JU hE hR ZY rfl (Zi x0 (⟨#[93]⟩:ByteArray)) H (fun _ _ hR HQ=>hthr _ _ hR HQ) (fun Xx15 a w ea hR H=>?_)
 have hE:=Env.put_some hE rfl ea; clear ea
 refine Kc ?_
 refine hK_14 _ _ ?_
 refine Kx (fun K hK_16=>?_)
 refine KH ?_
 obtain ⟨Xx17,qXx17,H⟩:=H
 refine KE (v:=.agg Xx17) rfl rfl hE rfl (KEb hE rfl ag24 qXx17) (fun a hE=>?_)
 obtain ⟨qz,H⟩:=H
 obtain ⟨u_18,qu_18,H⟩:=H
 refine XA rfl rfl hE hR (UX hE rfl rfl sz24 qz qu_18) (fun a w hE hR hh=>?_)
 replace H:=M.at hh H; clear hh
 refine Kc ?_
 refine hK_16 _ _ ?_
 refine Gd ?_
 obtain ⟨Rr19,qRr19,H⟩:=H
 exact hret _ _ _ Rr19 _ hE hR (UF hE rfl (RV.cellG rfl ag24 qRr19 RV.nil)) rfl H
def Jc (C3:Option Addr) (C4:Int) (C5:Addr):M (Value ⊕ (Array Value)):=do
 let Xx7←Ki C3
 let Xx10←M.ite (Xx7 == 45) (do
  M.pure true
  ) (do
  let Xx11←YL Xx7
  M.pure Xx11
  )
 M.ite Xx10 (do
  thr (JW C3) fun Xx13=>do
   let Xx14←Xm Xx13
   M.need (Xx14.size=4)
   stG C5 Xx14
   let Rr16←ldG 4 C5
   M.pure (.inr Rr16)
  ) (do
  M.ite (Xx7 == 39) (do
   thr (U0 C3) fun Xx19=>do
    let Xx20←GT Xx19
    M.need (Xx20.size=4)
    stG C5 Xx20
    let Rr22←ldG 4 C5
    M.pure (.inr Rr22)
   ) (do
   M.ite (Xx7 == 116) (do
    thr (ZH C3 (⟨#[116,114,117,101]⟩:ByteArray)) fun Xx25=>do
     let Xx27←YK true
     M.need (Xx27.size=4)
     stG C5 Xx27
     let Rr29←ldG 4 C5
     M.pure (.inr Rr29)
    ) (do
    M.ite (Xx7 == 102) (do
     thr (ZH C3 (⟨#[102,97,108,115,101]⟩:ByteArray)) fun Xx32=>do
      let Xx34←YK false
      M.need (Xx34.size=4)
      stG C5 Xx34
      let Rr36←ldG 4 C5
      M.pure (.inr Rr36)
     ) (do
     M.ite (Xx7 == 118) (do
      thr (JM C3 6) fun Xx39=>do
       M.need (Xx39.size=4)
       stG C5 Xx39
       let Rr41←ldG 4 C5
       M.pure (.inr Rr41)
      ) (do
      M.ite (Xx7 == 101) (do
       thr (JM C3 7) fun Xx44=>do
        M.need (Xx44.size=4)
        stG C5 Xx44
        let Rr46←ldG 4 C5
        M.pure (.inr Rr46)
       ) (do
       M.ite (Xx7 == 91) (do
        thr (KBG Go.Proofs.Tryz.prog Y6 #[.pointer C3,.int .i64 C4,.int .u8 93,.int .i64 1] (fun r:Sl=>(r:Sl).v)) fun Xx49=>do
         M.need ((#[.int .i64 4,.int .i64 0,.string ByteArray.empty,(Xx49:Sl).v]:Array Value).size=4)
         stG C5 (#[.int .i64 4,.int .i64 0,.string ByteArray.empty,(Xx49:Sl).v]:Array Value)
         let Rr51←ldG 4 C5
         M.pure (.inr Rr51)
        ) (do
        M.ite (Xx7 == 123) (do
         thr (KBG Go.Proofs.Tryz.prog Y6 #[.pointer C3,.int .i64 C4,.int .u8 125,.int .i64 2] (fun r:Sl=>(r:Sl).v)) fun Xx54=>do
          M.need ((#[.int .i64 5,.int .i64 0,.string ByteArray.empty,(Xx54:Sl).v]:Array Value).size=4)
          stG C5 (#[.int .i64 5,.int .i64 0,.string ByteArray.empty,(Xx54:Sl).v]:Array Value)
          let Rr56←ldG 4 C5
          M.pure (.inr Rr56)
         ) (do
         thr (Kv C3) fun Xx58=>do
          M.need ((#[.int .i64 0,.int .i64 0,.string ByteArray.empty,.slice none 0 0]:Array Value).size=4)
          stG C5 (#[.int .i64 0,.int .i64 0,.string ByteArray.empty,.slice none 0 0]:Array Value)
          let Rr61←ldG 4 C5
          M.pure (.inr Rr61)
         )
        )
       )
      )
     )
    )
   )
  )
def Ji (x0:Option Addr) (x1:Int):M (Value ⊕ (Array Value)):=do
 let Xx2←mkB KB (#[.int .i64 0,.int .i64 0,.string ByteArray.empty,.slice none 0 0]:Array Value)
 M.ite (decide (x1 > 8)) (do
  thr (Kv x0) fun Xx63=>do
   Jc x0 x1 Xx2
  ) (do
  Jc x0 x1 Xx2
  )
theorem Y9 (x0:Option Addr) (x1:Int):GI Go.Proofs.Tryz.prog 131 #[.pointer x0,.int .i64 x1] (fun (r:Array Value)=>.agg r) (Ji x0 x1):=by
 refine YT [(0,.pointer x0),(1,.int .i64 x1)] Go.Proofs.Tryz.func131 rfl rfl (Nat.le_of_ble_eq_true rfl) (Ym ⟨rfl,rfl,trivial⟩) (fun w0 w Q R X a hret hthr hE hR H=>?_)
 unfold Ji at H
 refine Kx (fun K hK_1=>?_)
 refine KH ?_
 obtain ⟨Xx2,qXx2,H⟩:=H
 refine q8 (v:=.pointer (some Xx2)) rfl rfl hE rfl hR (NQ zr24 qXx2) (fun a w hE hR hh=>?_)
 replace H:=M.at hh H; clear hh
 refine Kc ?_
 refine hK_1 _ _ ?_
 refine Je (fun a w=>Env (⟨67,[]⟩:Frm) a [(0,.pointer x0),(1,.int .i64 x1),(4,.pointer (some Xx2))]∧Rest w0 w∧(Jc x0 x1 Xx2).wp w.heap Q) ?_ ?_
 ·rintro a w ⟨hE,hR,H⟩
  unfold Jc at H
  refine Kx (fun K hK_6=>?_)
  refine KH ?_
  refine KE (v:=.pointer x0) rfl rfl hE rfl (KG hE rfl) (fun a hE=>?_)
  refine Vs hE hR Kj rfl (Kw x0) (M.unbind H) (fun Xx7 a w ea hR H=>?_)
  have hE:=Env.put_some hE rfl ea; clear ea
  refine KE (v:=.int .u8 Xx7) rfl rfl hE rfl (Kf hE rfl) (fun a hE=>?_)
  refine Kc ?_
  refine hK_6 _ _ ?_
  refine Kx (fun K hK_8=>?_)
  refine Yl ?_
  refine Kx (fun K hK_9=>?_)
  refine KH ?_
  refine KE (v:=.int .u8 Xx7) rfl rfl hE rfl (KG hE rfl) (fun a hE=>?_)
  refine KE (v:=.bool (Xx7 == 45)) rfl rfl hE rfl (Zk hE rfl rfl ZX NE) (fun a hE=>?_)
  refine KE (v:=.bool (Xx7 == 45)) rfl rfl hE rfl (KG hE rfl) (fun a hE=>?_)
  refine KEg (n:=(⟨67,[]⟩:Frm)) (w0:=w0) 3 (fun Xx10:Bool=>[(0,.pointer x0),(1,.int .i64 x1),(4,.pointer (some Xx2)),(5,.int .u8 Xx7),(18,.bool Xx10)]) (M.unbind H) (fun Kr hKr H=>?_) ?_
  ·rcases WE (Xx7 == 45) with hb | hb
   ·replace H:=M.ite_t hb H
    have hE:=hE.reb 15 (Xx7 == 45) true hb rfl
    refine qT rfl hE rfl rfl rfl (fun a ea=>?_)
    have hE:=Env.put_some hE rfl ea; clear ea
    refine qT rfl hE rfl rfl rfl (fun a ea=>?_)
    have hE:=Env.put_some hE rfl ea; clear ea
    refine KE rfl rfl hE rfl (UW hE rfl rfl) (fun a hE=>?_)
    refine Kc ?_
    exact hKr _ _ _ (hE.cut (.cons rfl (.cons rfl (.cons rfl (.cons rfl (.cons rfl Subs.nil)))))) hR H
   ·replace H:=M.ite_f hb H
    have hE:=hE.reb 15 (Xx7 == 45) false hb rfl
    refine t_on rfl hE rfl rfl rfl ?_
    refine KE (v:=.int .u8 Xx7) rfl rfl hE rfl (KG hE rfl) (fun a hE=>?_)
    refine t_on rfl hE rfl rfl rfl ?_
    refine Vs hE hR GD rfl (NA Xx7) (M.unbind H) (fun Xx11 a w ea hR H=>?_)
    have hE:=Env.put_some hE rfl ea; clear ea
    refine KE rfl rfl hE rfl (Jf hE rfl rfl) (fun a hE=>?_)
    refine Kc ?_
    exact hKr _ _ _ (hE.cut (.cons rfl (.cons rfl (.cons rfl (.cons rfl (.cons rfl Subs.nil)))))) hR H
  ·intro Xx10 a w hE hR H
   refine KE (v:=.bool Xx10) rfl rfl hE rfl (Kf hE rfl) (fun a hE=>?_)
   refine Kc ?_
   refine hK_9 _ _ ?_
   refine UE Xx10 hE rfl (fun hb=>?_) (fun hb=>?_)
   ·replace H:=M.ite_t hb H
    refine Kx (fun K hK_12=>?_)
    refine KH ?_
    refine KE (v:=.pointer x0) rfl rfl hE rfl (KG hE rfl) (fun a hE=>?_)
    refine JU hE hR YA rfl (Yj x0) H (fun _ _ hR HQ=>Xu.ne rfl (hthr _ _ hR HQ)) (fun Xx13 a w ea hR H=>?_)
    have hE:=Env.put_some hE rfl ea; clear ea
    refine Vs hE hR KAu rfl (KBf Xx13) (M.unbind H) (fun Xx14 a w ea hR H=>?_)
    have hE:=Env.put_some hE rfl ea; clear ea
    obtain ⟨qz,H⟩:=H
    obtain ⟨u_15,qu_15,H⟩:=H
    refine XA rfl rfl hE hR (UX hE rfl rfl sz24 qz qu_15) (fun a w hE hR hh=>?_)
    replace H:=M.at hh H; clear hh
    refine Kc ?_
    refine hK_12 _ _ ?_
    refine Gd ?_
    obtain ⟨Rr16,qRr16,H⟩:=H
    exact hret _ _ _ Rr16 _ hE hR (UF hE rfl (RV.cellG rfl ag24 qRr16 RV.nil)) rfl H
   ·replace H:=M.ite_f hb H
    refine Kx (fun K hK_17=>?_)
    refine KH ?_
    refine KE (v:=.int .u8 Xx7) rfl rfl hE rfl (KG hE rfl) (fun a hE=>?_)
    refine KE (v:=.bool (Xx7 == 39)) rfl rfl hE rfl (Zk hE rfl rfl ZX NE) (fun a hE=>?_)
    refine KE (v:=.bool (Xx7 == 39)) rfl rfl hE rfl (Kf hE rfl) (fun a hE=>?_)
    refine Kc ?_
    refine hK_17 _ _ ?_
    refine UE (Xx7 == 39) hE rfl (fun hb=>?_) (fun hb=>?_)
    ·replace H:=M.ite_t hb H
     refine Kx (fun K hK_18=>?_)
     refine KH ?_
     refine KE (v:=.pointer x0) rfl rfl hE rfl (KG hE rfl) (fun a hE=>?_)
     refine JU hE hR ql rfl (zx x0) H (fun _ _ hR HQ=>Xu.ne rfl (hthr _ _ hR HQ)) (fun Xx19 a w ea hR H=>?_)
     have hE:=Env.put_some hE rfl ea; clear ea
     refine Vs hE hR KAv rfl (KBh Xx19) (M.unbind H) (fun Xx20 a w ea hR H=>?_)
     have hE:=Env.put_some hE rfl ea; clear ea
     obtain ⟨qz,H⟩:=H
     obtain ⟨u_21,qu_21,H⟩:=H
     refine XA rfl rfl hE hR (UX hE rfl rfl sz24 qz qu_21) (fun a w hE hR hh=>?_)
     replace H:=M.at hh H; clear hh
     refine Kc ?_
     refine hK_18 _ _ ?_
     refine Gd ?_
     obtain ⟨Rr22,qRr22,H⟩:=H
     exact hret _ _ _ Rr22 _ hE hR (UF hE rfl (RV.cellG rfl ag24 qRr22 RV.nil)) rfl H
    ·replace H:=M.ite_f hb H
     refine Kx (fun K hK_23=>?_)
     refine KH ?_
     refine KE (v:=.int .u8 Xx7) rfl rfl hE rfl (KG hE rfl) (fun a hE=>?_)
     refine KE (v:=.bool (Xx7 == 116)) rfl rfl hE rfl (Zk hE rfl rfl ZX NE) (fun a hE=>?_)
     refine KE (v:=.bool (Xx7 == 116)) rfl rfl hE rfl (Kf hE rfl) (fun a hE=>?_)
     refine Kc ?_
     refine hK_23 _ _ ?_
     refine UE (Xx7 == 116) hE rfl (fun hb=>?_) (fun hb=>?_)
     ·replace H:=M.ite_t hb H
      refine Kx (fun K hK_24=>?_)
      refine KH ?_
      refine KE (v:=.pointer x0) rfl rfl hE rfl (KG hE rfl) (fun a hE=>?_)
      refine JU hE hR ZY rfl (Zi x0 (⟨#[116,114,117,101]⟩:ByteArray)) H (fun _ _ hR HQ=>Xu.ne rfl (hthr _ _ hR HQ)) (fun Xx25 a w ea hR H=>?_)
      have hE:=Env.put_some hE rfl ea; clear ea
      refine Kc ?_
      refine hK_24 _ _ ?_
      refine Kx (fun K hK_26=>?_)
      refine KH ?_
      refine Vs hE hR Gt rfl (Nk true) (M.unbind H) (fun Xx27 a w ea hR H=>?_)
      have hE:=Env.put_some hE rfl ea; clear ea
      obtain ⟨qz,H⟩:=H
      obtain ⟨u_28,qu_28,H⟩:=H
      refine XA rfl rfl hE hR (UX hE rfl rfl sz24 qz qu_28) (fun a w hE hR hh=>?_)
      replace H:=M.at hh H; clear hh
      refine Kc ?_
      refine hK_26 _ _ ?_
      refine Gd ?_
      obtain ⟨Rr29,qRr29,H⟩:=H
      exact hret _ _ _ Rr29 _ hE hR (UF hE rfl (RV.cellG rfl ag24 qRr29 RV.nil)) rfl H
     ·replace H:=M.ite_f hb H
      refine Kx (fun K hK_30=>?_)
      refine KH ?_
      refine KE (v:=.int .u8 Xx7) rfl rfl hE rfl (KG hE rfl) (fun a hE=>?_)
      refine KE (v:=.bool (Xx7 == 102)) rfl rfl hE rfl (Zk hE rfl rfl ZX NE) (fun a hE=>?_)
      refine KE (v:=.bool (Xx7 == 102)) rfl rfl hE rfl (Kf hE rfl) (fun a hE=>?_)
      refine Kc ?_
      refine hK_30 _ _ ?_
      refine UE (Xx7 == 102) hE rfl (fun hb=>?_) (fun hb=>?_)
      ·replace H:=M.ite_t hb H
       refine Kx (fun K hK_31=>?_)
       refine KH ?_
       refine KE (v:=.pointer x0) rfl rfl hE rfl (KG hE rfl) (fun a hE=>?_)
       refine JU hE hR ZY rfl (Zi x0 (⟨#[102,97,108,115,101]⟩:ByteArray)) H (fun _ _ hR HQ=>Xu.ne rfl (hthr _ _ hR HQ)) (fun Xx32 a w ea hR H=>?_)
       have hE:=Env.put_some hE rfl ea; clear ea
       refine Kc ?_
       refine hK_31 _ _ ?_
       refine Kx (fun K hK_33=>?_)
       refine KH ?_
       refine Vs hE hR Gt rfl (Nk false) (M.unbind H) (fun Xx34 a w ea hR H=>?_)
       have hE:=Env.put_some hE rfl ea; clear ea
       obtain ⟨qz,H⟩:=H
       obtain ⟨u_35,qu_35,H⟩:=H
       refine XA rfl rfl hE hR (UX hE rfl rfl sz24 qz qu_35) (fun a w hE hR hh=>?_)
       replace H:=M.at hh H; clear hh
       refine Kc ?_
       refine hK_33 _ _ ?_
       refine Gd ?_
       obtain ⟨Rr36,qRr36,H⟩:=H
       exact hret _ _ _ Rr36 _ hE hR (UF hE rfl (RV.cellG rfl ag24 qRr36 RV.nil)) rfl H
      ·replace H:=M.ite_f hb H
       refine Kx (fun K hK_37=>?_)
       refine KH ?_
       refine KE (v:=.int .u8 Xx7) rfl rfl hE rfl (KG hE rfl) (fun a hE=>?_)
       refine KE (v:=.bool (Xx7 == 118)) rfl rfl hE rfl (Zk hE rfl rfl ZX NE) (fun a hE=>?_)
       refine KE (v:=.bool (Xx7 == 118)) rfl rfl hE rfl (Kf hE rfl) (fun a hE=>?_)
       refine Kc ?_
       refine hK_37 _ _ ?_
       refine UE (Xx7 == 118) hE rfl (fun hb=>?_) (fun hb=>?_)
       ·replace H:=M.ite_t hb H
        refine Kx (fun K hK_38=>?_)
        refine KH ?_
        refine KE (v:=.pointer x0) rfl rfl hE rfl (KG hE rfl) (fun a hE=>?_)
        refine JU hE hR Wf rfl (YB x0 6) H (fun _ _ hR HQ=>Xu.ne rfl (hthr _ _ hR HQ)) (fun Xx39 a w ea hR H=>?_)
        have hE:=Env.put_some hE rfl ea; clear ea
        obtain ⟨qz,H⟩:=H
        obtain ⟨u_40,qu_40,H⟩:=H
        refine XA rfl rfl hE hR (UX hE rfl rfl sz24 qz qu_40) (fun a w hE hR hh=>?_)
        replace H:=M.at hh H; clear hh
        refine Kc ?_
        refine hK_38 _ _ ?_
        refine Gd ?_
        obtain ⟨Rr41,qRr41,H⟩:=H
        exact hret _ _ _ Rr41 _ hE hR (UF hE rfl (RV.cellG rfl ag24 qRr41 RV.nil)) rfl H
       ·replace H:=M.ite_f hb H
        refine Kx (fun K hK_42=>?_)
        refine KH ?_
        refine KE (v:=.int .u8 Xx7) rfl rfl hE rfl (KG hE rfl) (fun a hE=>?_)
        refine KE (v:=.bool (Xx7 == 101)) rfl rfl hE rfl (Zk hE rfl rfl ZX NE) (fun a hE=>?_)
        refine KE (v:=.bool (Xx7 == 101)) rfl rfl hE rfl (Kf hE rfl) (fun a hE=>?_)
        refine Kc ?_
        refine hK_42 _ _ ?_
        refine UE (Xx7 == 101) hE rfl (fun hb=>?_) (fun hb=>?_)
        ·replace H:=M.ite_t hb H
         refine Kx (fun K hK_43=>?_)
         refine KH ?_
         refine KE (v:=.pointer x0) rfl rfl hE rfl (KG hE rfl) (fun a hE=>?_)
         refine JU hE hR Wf rfl (YB x0 7) H (fun _ _ hR HQ=>Xu.ne rfl (hthr _ _ hR HQ)) (fun Xx44 a w ea hR H=>?_)
         have hE:=Env.put_some hE rfl ea; clear ea
         obtain ⟨qz,H⟩:=H
         obtain ⟨u_45,qu_45,H⟩:=H
         refine XA rfl rfl hE hR (UX hE rfl rfl sz24 qz qu_45) (fun a w hE hR hh=>?_)
         replace H:=M.at hh H; clear hh
         refine Kc ?_
         refine hK_43 _ _ ?_
         refine Gd ?_
         obtain ⟨Rr46,qRr46,H⟩:=H
         exact hret _ _ _ Rr46 _ hE hR (UF hE rfl (RV.cellG rfl ag24 qRr46 RV.nil)) rfl H
        ·replace H:=M.ite_f hb H
         refine Kx (fun K hK_47=>?_)
         refine KH ?_
         refine KE (v:=.int .u8 Xx7) rfl rfl hE rfl (KG hE rfl) (fun a hE=>?_)
         refine KE (v:=.bool (Xx7 == 91)) rfl rfl hE rfl (Zk hE rfl rfl ZX NE) (fun a hE=>?_)
         refine KE (v:=.bool (Xx7 == 91)) rfl rfl hE rfl (Kf hE rfl) (fun a hE=>?_)
         refine Kc ?_
         refine hK_47 _ _ ?_
         refine UE (Xx7 == 91) hE rfl (fun hb=>?_) (fun hb=>?_)
         ·replace H:=M.ite_t hb H
          refine Kx (fun K hK_48=>?_)
          refine KH ?_
          refine KE (v:=.pointer x0) rfl rfl hE rfl (KG hE rfl) (fun a hE=>?_)
          refine KE (v:=.int .i64 x1) rfl rfl hE rfl (KG hE rfl) (fun a hE=>?_)
          refine JU hE hR Y8 rfl (X1) H (fun _ _ hR HQ=>Xu.ne rfl (hthr _ _ hR HQ)) (fun Xx49 a w ea hR H=>?_)
          have hE:=Env.put_some hE rfl ea; clear ea
          refine KE (v:=.agg (#[.int .i64 4,.int .i64 0,.string ByteArray.empty,(Xx49:Sl).v]:Array Value)) rfl rfl hE rfl (NU hE rfl zr24 pl24 (by rfl)) (fun a hE=>?_)
          obtain ⟨qz,H⟩:=H
          obtain ⟨u_50,qu_50,H⟩:=H
          refine XA rfl rfl hE hR (UX hE rfl rfl sz24 qz qu_50) (fun a w hE hR hh=>?_)
          replace H:=M.at hh H; clear hh
          refine Kc ?_
          refine hK_48 _ _ ?_
          refine Gd ?_
          obtain ⟨Rr51,qRr51,H⟩:=H
          exact hret _ _ _ Rr51 _ hE hR (UF hE rfl (RV.cellG rfl ag24 qRr51 RV.nil)) rfl H
         ·replace H:=M.ite_f hb H
          refine Kx (fun K hK_52=>?_)
          refine KH ?_
          refine KE (v:=.int .u8 Xx7) rfl rfl hE rfl (KG hE rfl) (fun a hE=>?_)
          refine KE (v:=.bool (Xx7 == 123)) rfl rfl hE rfl (Zk hE rfl rfl ZX NE) (fun a hE=>?_)
          refine KE (v:=.bool (Xx7 == 123)) rfl rfl hE rfl (Kf hE rfl) (fun a hE=>?_)
          refine Kc ?_
          refine hK_52 _ _ ?_
          refine UE (Xx7 == 123) hE rfl (fun hb=>?_) (fun hb=>?_)
          ·replace H:=M.ite_t hb H
           refine Kx (fun K hK_53=>?_)
           refine KH ?_
           refine KE (v:=.pointer x0) rfl rfl hE rfl (KG hE rfl) (fun a hE=>?_)
           refine KE (v:=.int .i64 x1) rfl rfl hE rfl (KG hE rfl) (fun a hE=>?_)
           refine JU hE hR Y8 rfl (X1) H (fun _ _ hR HQ=>Xu.ne rfl (hthr _ _ hR HQ)) (fun Xx54 a w ea hR H=>?_)
           have hE:=Env.put_some hE rfl ea; clear ea
           refine KE (v:=.agg (#[.int .i64 5,.int .i64 0,.string ByteArray.empty,(Xx54:Sl).v]:Array Value)) rfl rfl hE rfl (NU hE rfl zr24 pl24 (by rfl)) (fun a hE=>?_)
           obtain ⟨qz,H⟩:=H
           obtain ⟨u_55,qu_55,H⟩:=H
           refine XA rfl rfl hE hR (UX hE rfl rfl sz24 qz qu_55) (fun a w hE hR hh=>?_)
           replace H:=M.at hh H; clear hh
           refine Kc ?_
           refine hK_53 _ _ ?_
           refine Gd ?_
           obtain ⟨Rr56,qRr56,H⟩:=H
           exact hret _ _ _ Rr56 _ hE hR (UF hE rfl (RV.cellG rfl ag24 qRr56 RV.nil)) rfl H
          ·replace H:=M.ite_f hb H
           refine Vg ?_
           refine hK_8 _ _ ?_
           refine Kx (fun K hK_57=>?_)
           refine KH ?_
           refine KE (v:=.pointer x0) rfl rfl hE rfl (KG hE rfl) (fun a hE=>?_)
           refine JU hE hR ZD rfl (ZK x0) H (fun _ _ hR HQ=>hthr _ _ hR HQ) (fun Xx58 a w ea hR H=>?_)
           have hE:=Env.put_some hE rfl ea; clear ea
           refine Kc ?_
           refine hK_57 _ _ ?_
           refine Kx (fun K hK_59=>?_)
           refine KH ?_
           refine KE (v:=.agg (#[.int .i64 0,.int .i64 0,.string ByteArray.empty,.slice none 0 0]:Array Value)) rfl rfl hE rfl (KFb bd24) (fun a hE=>?_)
           obtain ⟨qz,H⟩:=H
           obtain ⟨u_60,qu_60,H⟩:=H
           refine XA rfl rfl hE hR (UX hE rfl rfl sz24 qz qu_60) (fun a w hE hR hh=>?_)
           replace H:=M.at hh H; clear hh
           refine Kc ?_
           refine hK_59 _ _ ?_
           refine Gd ?_
           obtain ⟨Rr61,qRr61,H⟩:=H
           exact hret _ _ _ Rr61 _ hE hR (UF hE rfl (RV.cellG rfl ag24 qRr61 RV.nil)) rfl H
 ·skip
  refine Kx (fun K hK_62=>?_)
  refine KH ?_
  refine KE (v:=.int .i64 x1) rfl rfl hE rfl (KG hE rfl) (fun a hE=>?_)
  refine KE (v:=.bool (decide (x1 > 8))) rfl rfl hE rfl (Zk hE rfl rfl ZX KEd) (fun a hE=>?_)
  refine Kc ?_
  refine hK_62 _ _ ?_
  refine UE (decide (x1 > 8)) hE rfl (fun hb=>?_) (fun hb=>?_)
  ·replace H:=M.ite_t hb H
   refine KH ?_
   refine KE (v:=.pointer x0) rfl rfl hE rfl (KG hE rfl) (fun a hE=>?_)
   refine JU hE hR ZD rfl (ZK x0) H (fun _ _ hR HQ=>hthr _ _ hR HQ) (fun Xx63 a w ea hR H=>?_)
   have hE:=Env.put_some hE rfl ea; clear ea
   refine Kc ?_
   exact ⟨hE.cut (.cons rfl (.cons rfl (.cons rfl Subs.nil))),hR,H⟩
  ·replace H:=M.ite_f hb H
   refine Vg ?_
   exact ⟨hE.cut (.cons rfl (.cons rfl (.cons rfl Subs.nil))),hR,H⟩
def Zj (C3:Value) (C4:Addr) (C5:Addr) (self1:(Int)→M (Unit)):(Int)→M (Unit):=fun s=>match s with
 | Xx2=>do
  let Xx9←ldL C4
  M.ite (decide (Xx2 < (Xx9.len:Int))) (do
   let Xx12←ldI .i64 C5
   let Xx13←ldL C4
   let Xx14←slL Xx13 Xx2 Xx13.len 4
   let Xx16←ldL C4
   let Xx17←slL3 Xx16 Xx2 (IntKind.wrap .i64 (Xx2+(iMin Xx12 (Xx14.len:Int)))) (IntKind.wrap .i64 (Xx2+(iMin Xx12 (Xx14.len:Int)))) 4
   let Xx18←Gh Go.Proofs.Tryz.prog (fun r:Bool=>.bool r) C3 [(Xx17:Sl).v]
   M.ite (!Xx18) (do
    M.pure ()
    ) (do
    let Xx19←ldI .i64 C5
    self1 (IntKind.wrap .i64 (Xx2+Xx19))
    )
   ) (do
   M.pure ()
   )
def J2 (x0:Value) (x1:Addr) (x2:Addr):M (Unit):=do
 M.loop (Zj x0 x1 x2) 0
theorem Ve (x0:Value) (x1:Addr) (x2:Addr):Kg Go.Proofs.Tryz.prog 136 #[x0,.pointer (some x1),.pointer (some x2)] (fun (r:Unit)=>.tuple #[]) (J2 x0 x1 x2) :=
 KI [] [] [] [(0,.V x0),(1,.A x1),(2,.A x2)] (.q .o (.b (.l [(0,.V),(1,.A),(2,.A)] [(4,.I .i64)] (fun (t:Value × Addr × Addr)=>Zj t.1 t.2.1 t.2.2) (fun _=>.q .o (.q (.b (.q (.r [0,0,0,6,8,17,63] [0,0,0,6,8,17,32] [0,0,0,6,14,31,63] (.pu 2 (.pu 0 (.pu 1 (.pu 3 (.pu 4 (.pu 5 (.pu 6 (.st [5,6] .dn))))))))) .o)) .o))))) Go.Proofs.Tryz.func136 rfl rfl ⟨rfl,rfl,rfl,trivial⟩ rfl (by kernel_rfl) (by kernel_rfl)
def qv (x0:Int):M (Bool):=do
 let Xx3←M.ite (decide (x0 < 48)) (do
  M.pure true
  ) (do
  M.pure (decide (x0 > 57))
  )
 M.pure Xx3
theorem KDK (x0:Int):Kg Go.Proofs.Tryz.prog 160 #[.int .u8 x0] (fun (r:Bool)=>.bool r) (qv x0) :=
 KI [] [] [.B] [(0,.I .u8 x0)] .o Go.Proofs.Tryz.func160 rfl rfl ⟨rfl,trivial⟩ rfl (by kernel_rfl) (by kernel_rfl)
end Gx
