/- Own proofs: what those Lean programs compute. No condition. -/
import Derived.Test.YtpibdohdkfkcnaaGreatDoorP0
import Derived.Test.YtpibdohdkfkcnaaGreatDoorP1
import Derived.Test.YtpibdohdkfkcnaaGreatDoorP2
import Derived.Test.YtpibdohdkfkcnaaGreatDoorP3
import Derived.Test.YtpibdohdkfkcnaaGreatDoorP4
import Derived.Test.YtpibdohdkfkcnaaGreatDoorP5
import Derived.Test.YtpibdohdkfkcnaaGreatDoorP6
import Derived.Test.YtpibdohdkfkcnaaGreatDoorP7
import Derived.Test.YtpibdohdkfkcnaaGreatDoorP8
import Derived.Test.YtpibdohdkfkcnaaGreatDoorP9
import Derived.KernelRfl
set_option linter.unusedVariables false
set_option linter.unusedSimpArgs false
set_option maxRecDepth 100000
namespace Gx
open Go
structure Shp where
 (n u p v s:Nat×Nat)
def shp0:Shp:=⟨(0,0),(0,0),(0,0),(0,0),(0,0)⟩
def shpV (x:Shp):Array Value:=#[.int .i64 (x.n.1:Int),.int .i64 (x.n.2:Int),.int .i64 (x.u.1:Int),.int .i64 (x.u.2:Int),.int .i64 (x.p.1:Int),.int .i64 (x.p.2:Int),.int .i64 (x.v.1:Int),.int .i64 (x.v.2:Int),.int .i64 (x.s.1:Int),.int .i64 (x.s.2:Int)]
def Xz (op:Int):Shp:=
 if op=1∨op=2 then⟨(0,0),(0,32),(0,0),(0,0),(0,0)⟩else
 if op=3 then⟨(0,0),(0,0),(0,0),(0,32),(0,0)⟩else
 if op=4∨op=15∨op=16∨op=42∨op=46∨op=47 then⟨(1,1),(0,0),(0,0),(0,0),(0,0)⟩else
 if op=5∨op=6∨op=7∨op=8∨op=9∨op=10∨op=32∨op=33 then⟨(0,32),(0,0),(0,0),(0,0),(0,0)⟩else
 if op=17∨op=43 then⟨(1,32),(0,0),(0,0),(0,0),(0,0)⟩else
 if op=48 then⟨(0,1),(0,0),(0,0),(0,0),(0,0)⟩else
 if op=14 then⟨(1,1),(0,0),(1,1),(0,0),(0,0)⟩else
 if op=18 then⟨(0,0),(1,32),(0,0),(0,0),(0,0)⟩else
 if op=19 then⟨(0,0),(0,0),(1,1),(0,0),(0,0)⟩else
 if op=20∨op=21∨op=52 then⟨(0,0),(0,0),(0,0),(0,0),(1,1)⟩else
 if op=22∨op=23∨op=50∨op=51 then⟨(0,0),(0,0),(0,0),(0,0),(1,32)⟩else
 if op=53 then⟨(0,0),(0,0),(0,0),(0,0),(3,3)⟩else
 if op=26∨op=27∨op=29 then⟨(0,0),(1,1),(0,0),(0,0),(0,0)⟩else
 if op=28 then⟨(0,0),(2,2),(0,0),(0,0),(0,0)⟩else
 if op=34 then⟨(0,0),(0,0),(0,0),(1,1),(0,0)⟩else
 if op=54∨op=56 then⟨(0,0),(1,1),(0,0),(0,0),(1,1)⟩else
 if op=55 then⟨(0,0),(0,0),(0,0),(0,0),(2,2)⟩else
 if op=57 then⟨(3,3),(0,0),(0,0),(0,0),(0,0)⟩else
 if op=58 then⟨(1,1),(0,0),(0,0),(1,1),(0,0)⟩else
 shp0
theorem KPc {β:Type} {ps:List (Nat×Nat)} {z cs:Array Value} {parts:List (Nat×Value)} {f:Array Value→M β} {h:Heap} {Q:β→Heap→Prop} (hc:Instr.fill (ps[·]?) z parts=some cs) (H:(f cs).wp h Q):(Xb ps z parts>>=f).wp h Q:=⟨cs,hc,H⟩
theorem KGr (x:Shp):∀u∈(shpV x).toList,one u=true:=by
 intro u hu
 simp only [shpV,List.mem_cons,List.not_mem_nil,or_false]at hu
 rcases hu with rfl|rfl|rfl|rfl|rfl|rfl|rfl|rfl|rfl|rfl<;>rfl
theorem KJm {op:Int} {h:Heap} {Q:Array Value→Heap→Prop} (H:∀h',Ext h h'→Q (shpV (Xz op)) h'):(XP op).wp h Q:=by
 unfold XP
 refine ZV (fun h1 e1 s1 g1=>?_)
 have put:∀{x:Shp} {h2:Heap},Ext h1 h2→(∀h',Ext h h'→Q (shpV x) h')→(M.need ((shpV x).size=10)>>=fun _=>stG ⟨h.size,0,none⟩ (shpV x)>>=fun _=>ldG 10 ⟨h.size,0,none⟩>>=fun r=>(M.pure r:M (Array Value))).wp h2 Q:=fun {x h2} e2 HH=>by
  refine Zt rfl (stR (e2.blk g1) (by simp [shpV]) (KGr x) (fun h' u g'=>?_))
  have e:lay (Array.replicate 10 (.int .i64 0):Array Value) 0 (shpV x).toList=shpV x:=Kp (by simp [shpV])
  rw [e]at g'
  exact ldR g' rfl (KI (HH _ ((e1.trans e2).upd u (Nat.le_refl _))))
 have leaf:∀{x:Shp} {h2:Heap} {parts:List (Nat×Value)},Ext h1 h2→Instr.fill (([(0,2),(2,2),(4,2),(6,2),(8,2)]:List (Nat×Nat))[·]?) (Array.replicate 10 (.int .i64 0):Array Value) parts=some (shpV x)→(∀h',Ext h h'→Q (shpV x) h')→
   (Xb [(0,2),(2,2),(4,2),(6,2),(8,2)] (Array.replicate 10 (.int .i64 0):Array Value) parts>>=fun c=>M.need (c.size=10)>>=fun _=>stG ⟨h.size,0,none⟩ c>>=fun _=>ldG 10 ⟨h.size,0,none⟩>>=fun r=>(M.pure r:M (Array Value))).wp h2 Q:=fun e2 hf HH=>KPc hf (put e2 HH)
 by_cases n1:op=1
 ·subst n1
  exact iteT rfl (iteT rfl (KL (JW (k:=0) (fun h2 e2=>leaf (x:=⟨(0,0),(0,32),(0,0),(0,0),(0,0)⟩) (e2) rfl H))))
 replace n1:(op==1)=false:=decide_eq_false n1
 by_cases n2:op=2
 ·subst n2
  exact iteF rfl (iteT rfl (KL (JW (k:=0) (fun h2 e2=>leaf (x:=⟨(0,0),(0,32),(0,0),(0,0),(0,0)⟩) (e2) rfl H))))
 replace n2:(op==2)=false:=decide_eq_false n2
 by_cases n3:op=3
 ·subst n3
  exact iteF rfl (iteF rfl (iteT rfl (KL (JW (k:=0) (fun h2 e2=>leaf (x:=⟨(0,0),(0,0),(0,0),(0,32),(0,0)⟩) (e2) rfl H)))))
 replace n3:(op==3)=false:=decide_eq_false n3
 by_cases n4:op=4
 ·subst n4
  exact iteF rfl (iteF rfl (iteF rfl (iteT rfl (iteT rfl (KL (ZW (k:=1) (fun h2 e2=>leaf (x:=⟨(1,1),(0,0),(0,0),(0,0),(0,0)⟩) (e2) rfl H)))))))
 replace n4:(op==4)=false:=decide_eq_false n4
 by_cases n15:op=15
 ·subst n15
  exact iteF rfl (iteF rfl (iteF rfl (iteF rfl (iteT rfl (iteT rfl (KL (ZW (k:=1) (fun h2 e2=>leaf (x:=⟨(1,1),(0,0),(0,0),(0,0),(0,0)⟩) (e2) rfl H))))))))
 replace n15:(op==15)=false:=decide_eq_false n15
 by_cases n16:op=16
 ·subst n16
  exact iteF rfl (iteF rfl (iteF rfl (iteF rfl (iteF rfl (iteT rfl (iteT rfl (KL (ZW (k:=1) (fun h2 e2=>leaf (x:=⟨(1,1),(0,0),(0,0),(0,0),(0,0)⟩) (e2) rfl H)))))))))
 replace n16:(op==16)=false:=decide_eq_false n16
 by_cases n42:op=42
 ·subst n42
  exact iteF rfl (iteF rfl (iteF rfl (iteF rfl (iteF rfl (iteF rfl (iteT rfl (iteT rfl (KL (ZW (k:=1) (fun h2 e2=>leaf (x:=⟨(1,1),(0,0),(0,0),(0,0),(0,0)⟩) (e2) rfl H))))))))))
 replace n42:(op==42)=false:=decide_eq_false n42
 by_cases n46:op=46
 ·subst n46
  exact iteF rfl (iteF rfl (iteF rfl (iteF rfl (iteF rfl (iteF rfl (iteF rfl (iteT rfl (iteT rfl (KL (ZW (k:=1) (fun h2 e2=>leaf (x:=⟨(1,1),(0,0),(0,0),(0,0),(0,0)⟩) (e2) rfl H)))))))))))
 replace n46:(op==46)=false:=decide_eq_false n46
 by_cases n47:op=47
 ·subst n47
  exact iteF rfl (iteF rfl (iteF rfl (iteF rfl (iteF rfl (iteF rfl (iteF rfl (iteF rfl (iteT rfl (KL (ZW (k:=1) (fun h2 e2=>leaf (x:=⟨(1,1),(0,0),(0,0),(0,0),(0,0)⟩) (e2) rfl H)))))))))))
 replace n47:(op==47)=false:=decide_eq_false n47
 by_cases n5:op=5
 ·subst n5
  exact iteF rfl (iteF rfl (iteF rfl (iteF rfl (iteF rfl (iteF rfl (iteF rfl (iteF rfl (iteF rfl (iteT rfl (iteT rfl (KL (JW (k:=0) (fun h2 e2=>leaf (x:=⟨(0,32),(0,0),(0,0),(0,0),(0,0)⟩) (e2) rfl H)))))))))))))
 replace n5:(op==5)=false:=decide_eq_false n5
 by_cases n6:op=6
 ·subst n6
  exact iteF rfl (iteF rfl (iteF rfl (iteF rfl (iteF rfl (iteF rfl (iteF rfl (iteF rfl (iteF rfl (iteF rfl (iteT rfl (iteT rfl (KL (JW (k:=0) (fun h2 e2=>leaf (x:=⟨(0,32),(0,0),(0,0),(0,0),(0,0)⟩) (e2) rfl H))))))))))))))
 replace n6:(op==6)=false:=decide_eq_false n6
 by_cases n7:op=7
 ·subst n7
  exact iteF rfl (iteF rfl (iteF rfl (iteF rfl (iteF rfl (iteF rfl (iteF rfl (iteF rfl (iteF rfl (iteF rfl (iteF rfl (iteT rfl (iteT rfl (KL (JW (k:=0) (fun h2 e2=>leaf (x:=⟨(0,32),(0,0),(0,0),(0,0),(0,0)⟩) (e2) rfl H)))))))))))))))
 replace n7:(op==7)=false:=decide_eq_false n7
 by_cases n8:op=8
 ·subst n8
  exact iteF rfl (iteF rfl (iteF rfl (iteF rfl (iteF rfl (iteF rfl (iteF rfl (iteF rfl (iteF rfl (iteF rfl (iteF rfl (iteF rfl (iteT rfl (iteT rfl (KL (JW (k:=0) (fun h2 e2=>leaf (x:=⟨(0,32),(0,0),(0,0),(0,0),(0,0)⟩) (e2) rfl H))))))))))))))))
 replace n8:(op==8)=false:=decide_eq_false n8
 by_cases n9:op=9
 ·subst n9
  exact iteF rfl (iteF rfl (iteF rfl (iteF rfl (iteF rfl (iteF rfl (iteF rfl (iteF rfl (iteF rfl (iteF rfl (iteF rfl (iteF rfl (iteF rfl (iteT rfl (iteT rfl (KL (JW (k:=0) (fun h2 e2=>leaf (x:=⟨(0,32),(0,0),(0,0),(0,0),(0,0)⟩) (e2) rfl H)))))))))))))))))
 replace n9:(op==9)=false:=decide_eq_false n9
 by_cases n10:op=10
 ·subst n10
  exact iteF rfl (iteF rfl (iteF rfl (iteF rfl (iteF rfl (iteF rfl (iteF rfl (iteF rfl (iteF rfl (iteF rfl (iteF rfl (iteF rfl (iteF rfl (iteF rfl (iteT rfl (iteT rfl (KL (JW (k:=0) (fun h2 e2=>leaf (x:=⟨(0,32),(0,0),(0,0),(0,0),(0,0)⟩) (e2) rfl H))))))))))))))))))
 replace n10:(op==10)=false:=decide_eq_false n10
 by_cases n32:op=32
 ·subst n32
  exact iteF rfl (iteF rfl (iteF rfl (iteF rfl (iteF rfl (iteF rfl (iteF rfl (iteF rfl (iteF rfl (iteF rfl (iteF rfl (iteF rfl (iteF rfl (iteF rfl (iteF rfl (iteT rfl (iteT rfl (KL (JW (k:=0) (fun h2 e2=>leaf (x:=⟨(0,32),(0,0),(0,0),(0,0),(0,0)⟩) (e2) rfl H)))))))))))))))))))
 replace n32:(op==32)=false:=decide_eq_false n32
 by_cases n33:op=33
 ·subst n33
  exact iteF rfl (iteF rfl (iteF rfl (iteF rfl (iteF rfl (iteF rfl (iteF rfl (iteF rfl (iteF rfl (iteF rfl (iteF rfl (iteF rfl (iteF rfl (iteF rfl (iteF rfl (iteF rfl (iteT rfl (KL (JW (k:=0) (fun h2 e2=>leaf (x:=⟨(0,32),(0,0),(0,0),(0,0),(0,0)⟩) (e2) rfl H)))))))))))))))))))
 replace n33:(op==33)=false:=decide_eq_false n33
 by_cases n17:op=17
 ·subst n17
  exact iteF rfl (iteF rfl (iteF rfl (iteF rfl (iteF rfl (iteF rfl (iteF rfl (iteF rfl (iteF rfl (iteF rfl (iteF rfl (iteF rfl (iteF rfl (iteF rfl (iteF rfl (iteF rfl (iteF rfl (iteT rfl (iteT rfl (KL (JW (k:=1) (fun h2 e2=>leaf (x:=⟨(1,32),(0,0),(0,0),(0,0),(0,0)⟩) (e2) rfl H)))))))))))))))))))))
 replace n17:(op==17)=false:=decide_eq_false n17
 by_cases n43:op=43
 ·subst n43
  exact iteF rfl (iteF rfl (iteF rfl (iteF rfl (iteF rfl (iteF rfl (iteF rfl (iteF rfl (iteF rfl (iteF rfl (iteF rfl (iteF rfl (iteF rfl (iteF rfl (iteF rfl (iteF rfl (iteF rfl (iteF rfl (iteT rfl (KL (JW (k:=1) (fun h2 e2=>leaf (x:=⟨(1,32),(0,0),(0,0),(0,0),(0,0)⟩) (e2) rfl H)))))))))))))))))))))
 replace n43:(op==43)=false:=decide_eq_false n43
 by_cases n48:op=48
 ·subst n48
  exact iteF rfl (iteF rfl (iteF rfl (iteF rfl (iteF rfl (iteF rfl (iteF rfl (iteF rfl (iteF rfl (iteF rfl (iteF rfl (iteF rfl (iteF rfl (iteF rfl (iteF rfl (iteF rfl (iteF rfl (iteF rfl (iteF rfl (iteT rfl (leaf (x:=⟨(0,1),(0,0),(0,0),(0,0),(0,0)⟩) (Ext.refl _) rfl H))))))))))))))))))))
 replace n48:(op==48)=false:=decide_eq_false n48
 by_cases n14:op=14
 ·subst n14
  exact iteF rfl (iteF rfl (iteF rfl (iteF rfl (iteF rfl (iteF rfl (iteF rfl (iteF rfl (iteF rfl (iteF rfl (iteF rfl (iteF rfl (iteF rfl (iteF rfl (iteF rfl (iteF rfl (iteF rfl (iteF rfl (iteF rfl (iteF rfl (iteT rfl (KL (ZW (k:=1) (fun h2 e2=>KL (ZW (k:=1) (fun h3 e3=>leaf (x:=⟨(1,1),(0,0),(1,1),(0,0),(0,0)⟩) ((e2.trans e3)) rfl H)))))))))))))))))))))))))
 replace n14:(op==14)=false:=decide_eq_false n14
 by_cases n18:op=18
 ·subst n18
  exact iteF rfl (iteF rfl (iteF rfl (iteF rfl (iteF rfl (iteF rfl (iteF rfl (iteF rfl (iteF rfl (iteF rfl (iteF rfl (iteF rfl (iteF rfl (iteF rfl (iteF rfl (iteF rfl (iteF rfl (iteF rfl (iteF rfl (iteF rfl (iteF rfl (iteT rfl (KL (JW (k:=1) (fun h2 e2=>leaf (x:=⟨(0,0),(1,32),(0,0),(0,0),(0,0)⟩) (e2) rfl H))))))))))))))))))))))))
 replace n18:(op==18)=false:=decide_eq_false n18
 by_cases n19:op=19
 ·subst n19
  exact iteF rfl (iteF rfl (iteF rfl (iteF rfl (iteF rfl (iteF rfl (iteF rfl (iteF rfl (iteF rfl (iteF rfl (iteF rfl (iteF rfl (iteF rfl (iteF rfl (iteF rfl (iteF rfl (iteF rfl (iteF rfl (iteF rfl (iteF rfl (iteF rfl (iteF rfl (iteT rfl (KL (ZW (k:=1) (fun h2 e2=>leaf (x:=⟨(0,0),(0,0),(1,1),(0,0),(0,0)⟩) (e2) rfl H)))))))))))))))))))))))))
 replace n19:(op==19)=false:=decide_eq_false n19
 by_cases n20:op=20
 ·subst n20
  exact iteF rfl (iteF rfl (iteF rfl (iteF rfl (iteF rfl (iteF rfl (iteF rfl (iteF rfl (iteF rfl (iteF rfl (iteF rfl (iteF rfl (iteF rfl (iteF rfl (iteF rfl (iteF rfl (iteF rfl (iteF rfl (iteF rfl (iteF rfl (iteF rfl (iteF rfl (iteF rfl (iteT rfl (iteT rfl (KL (ZW (k:=1) (fun h2 e2=>leaf (x:=⟨(0,0),(0,0),(0,0),(0,0),(1,1)⟩) (e2) rfl H)))))))))))))))))))))))))))
 replace n20:(op==20)=false:=decide_eq_false n20
 by_cases n21:op=21
 ·subst n21
  exact iteF rfl (iteF rfl (iteF rfl (iteF rfl (iteF rfl (iteF rfl (iteF rfl (iteF rfl (iteF rfl (iteF rfl (iteF rfl (iteF rfl (iteF rfl (iteF rfl (iteF rfl (iteF rfl (iteF rfl (iteF rfl (iteF rfl (iteF rfl (iteF rfl (iteF rfl (iteF rfl (iteF rfl (iteT rfl (iteT rfl (KL (ZW (k:=1) (fun h2 e2=>leaf (x:=⟨(0,0),(0,0),(0,0),(0,0),(1,1)⟩) (e2) rfl H))))))))))))))))))))))))))))
 replace n21:(op==21)=false:=decide_eq_false n21
 by_cases n52:op=52
 ·subst n52
  exact iteF rfl (iteF rfl (iteF rfl (iteF rfl (iteF rfl (iteF rfl (iteF rfl (iteF rfl (iteF rfl (iteF rfl (iteF rfl (iteF rfl (iteF rfl (iteF rfl (iteF rfl (iteF rfl (iteF rfl (iteF rfl (iteF rfl (iteF rfl (iteF rfl (iteF rfl (iteF rfl (iteF rfl (iteF rfl (iteT rfl (KL (ZW (k:=1) (fun h2 e2=>leaf (x:=⟨(0,0),(0,0),(0,0),(0,0),(1,1)⟩) (e2) rfl H))))))))))))))))))))))))))))
 replace n52:(op==52)=false:=decide_eq_false n52
 by_cases n22:op=22
 ·subst n22
  exact iteF rfl (iteF rfl (iteF rfl (iteF rfl (iteF rfl (iteF rfl (iteF rfl (iteF rfl (iteF rfl (iteF rfl (iteF rfl (iteF rfl (iteF rfl (iteF rfl (iteF rfl (iteF rfl (iteF rfl (iteF rfl (iteF rfl (iteF rfl (iteF rfl (iteF rfl (iteF rfl (iteF rfl (iteF rfl (iteF rfl (iteT rfl (iteT rfl (KL (JW (k:=1) (fun h2 e2=>leaf (x:=⟨(0,0),(0,0),(0,0),(0,0),(1,32)⟩) (e2) rfl H))))))))))))))))))))))))))))))
 replace n22:(op==22)=false:=decide_eq_false n22
 by_cases n23:op=23
 ·subst n23
  exact iteF rfl (iteF rfl (iteF rfl (iteF rfl (iteF rfl (iteF rfl (iteF rfl (iteF rfl (iteF rfl (iteF rfl (iteF rfl (iteF rfl (iteF rfl (iteF rfl (iteF rfl (iteF rfl (iteF rfl (iteF rfl (iteF rfl (iteF rfl (iteF rfl (iteF rfl (iteF rfl (iteF rfl (iteF rfl (iteF rfl (iteF rfl (iteT rfl (iteT rfl (KL (JW (k:=1) (fun h2 e2=>leaf (x:=⟨(0,0),(0,0),(0,0),(0,0),(1,32)⟩) (e2) rfl H)))))))))))))))))))))))))))))))
 replace n23:(op==23)=false:=decide_eq_false n23
 by_cases n50:op=50
 ·subst n50
  exact iteF rfl (iteF rfl (iteF rfl (iteF rfl (iteF rfl (iteF rfl (iteF rfl (iteF rfl (iteF rfl (iteF rfl (iteF rfl (iteF rfl (iteF rfl (iteF rfl (iteF rfl (iteF rfl (iteF rfl (iteF rfl (iteF rfl (iteF rfl (iteF rfl (iteF rfl (iteF rfl (iteF rfl (iteF rfl (iteF rfl (iteF rfl (iteF rfl (iteT rfl (iteT rfl (KL (JW (k:=1) (fun h2 e2=>leaf (x:=⟨(0,0),(0,0),(0,0),(0,0),(1,32)⟩) (e2) rfl H))))))))))))))))))))))))))))))))
 replace n50:(op==50)=false:=decide_eq_false n50
 by_cases n51:op=51
 ·subst n51
  exact iteF rfl (iteF rfl (iteF rfl (iteF rfl (iteF rfl (iteF rfl (iteF rfl (iteF rfl (iteF rfl (iteF rfl (iteF rfl (iteF rfl (iteF rfl (iteF rfl (iteF rfl (iteF rfl (iteF rfl (iteF rfl (iteF rfl (iteF rfl (iteF rfl (iteF rfl (iteF rfl (iteF rfl (iteF rfl (iteF rfl (iteF rfl (iteF rfl (iteF rfl (iteT rfl (KL (JW (k:=1) (fun h2 e2=>leaf (x:=⟨(0,0),(0,0),(0,0),(0,0),(1,32)⟩) (e2) rfl H))))))))))))))))))))))))))))))))
 replace n51:(op==51)=false:=decide_eq_false n51
 by_cases n53:op=53
 ·subst n53
  exact iteF rfl (iteF rfl (iteF rfl (iteF rfl (iteF rfl (iteF rfl (iteF rfl (iteF rfl (iteF rfl (iteF rfl (iteF rfl (iteF rfl (iteF rfl (iteF rfl (iteF rfl (iteF rfl (iteF rfl (iteF rfl (iteF rfl (iteF rfl (iteF rfl (iteF rfl (iteF rfl (iteF rfl (iteF rfl (iteF rfl (iteF rfl (iteF rfl (iteF rfl (iteF rfl (iteT rfl (KL (ZW (k:=3) (fun h2 e2=>leaf (x:=⟨(0,0),(0,0),(0,0),(0,0),(3,3)⟩) (e2) rfl H)))))))))))))))))))))))))))))))))
 replace n53:(op==53)=false:=decide_eq_false n53
 by_cases n26:op=26
 ·subst n26
  exact iteF rfl (iteF rfl (iteF rfl (iteF rfl (iteF rfl (iteF rfl (iteF rfl (iteF rfl (iteF rfl (iteF rfl (iteF rfl (iteF rfl (iteF rfl (iteF rfl (iteF rfl (iteF rfl (iteF rfl (iteF rfl (iteF rfl (iteF rfl (iteF rfl (iteF rfl (iteF rfl (iteF rfl (iteF rfl (iteF rfl (iteF rfl (iteF rfl (iteF rfl (iteF rfl (iteF rfl (iteT rfl (iteT rfl (KL (ZW (k:=1) (fun h2 e2=>leaf (x:=⟨(0,0),(1,1),(0,0),(0,0),(0,0)⟩) (e2) rfl H)))))))))))))))))))))))))))))))))))
 replace n26:(op==26)=false:=decide_eq_false n26
 by_cases n27:op=27
 ·subst n27
  exact iteF rfl (iteF rfl (iteF rfl (iteF rfl (iteF rfl (iteF rfl (iteF rfl (iteF rfl (iteF rfl (iteF rfl (iteF rfl (iteF rfl (iteF rfl (iteF rfl (iteF rfl (iteF rfl (iteF rfl (iteF rfl (iteF rfl (iteF rfl (iteF rfl (iteF rfl (iteF rfl (iteF rfl (iteF rfl (iteF rfl (iteF rfl (iteF rfl (iteF rfl (iteF rfl (iteF rfl (iteF rfl (iteT rfl (iteT rfl (KL (ZW (k:=1) (fun h2 e2=>leaf (x:=⟨(0,0),(1,1),(0,0),(0,0),(0,0)⟩) (e2) rfl H))))))))))))))))))))))))))))))))))))
 replace n27:(op==27)=false:=decide_eq_false n27
 by_cases n29:op=29
 ·subst n29
  exact iteF rfl (iteF rfl (iteF rfl (iteF rfl (iteF rfl (iteF rfl (iteF rfl (iteF rfl (iteF rfl (iteF rfl (iteF rfl (iteF rfl (iteF rfl (iteF rfl (iteF rfl (iteF rfl (iteF rfl (iteF rfl (iteF rfl (iteF rfl (iteF rfl (iteF rfl (iteF rfl (iteF rfl (iteF rfl (iteF rfl (iteF rfl (iteF rfl (iteF rfl (iteF rfl (iteF rfl (iteF rfl (iteF rfl (iteT rfl (KL (ZW (k:=1) (fun h2 e2=>leaf (x:=⟨(0,0),(1,1),(0,0),(0,0),(0,0)⟩) (e2) rfl H))))))))))))))))))))))))))))))))))))
 replace n29:(op==29)=false:=decide_eq_false n29
 by_cases n28:op=28
 ·subst n28
  exact iteF rfl (iteF rfl (iteF rfl (iteF rfl (iteF rfl (iteF rfl (iteF rfl (iteF rfl (iteF rfl (iteF rfl (iteF rfl (iteF rfl (iteF rfl (iteF rfl (iteF rfl (iteF rfl (iteF rfl (iteF rfl (iteF rfl (iteF rfl (iteF rfl (iteF rfl (iteF rfl (iteF rfl (iteF rfl (iteF rfl (iteF rfl (iteF rfl (iteF rfl (iteF rfl (iteF rfl (iteF rfl (iteF rfl (iteF rfl (iteT rfl (KL (ZW (k:=2) (fun h2 e2=>leaf (x:=⟨(0,0),(2,2),(0,0),(0,0),(0,0)⟩) (e2) rfl H)))))))))))))))))))))))))))))))))))))
 replace n28:(op==28)=false:=decide_eq_false n28
 by_cases n34:op=34
 ·subst n34
  exact iteF rfl (iteF rfl (iteF rfl (iteF rfl (iteF rfl (iteF rfl (iteF rfl (iteF rfl (iteF rfl (iteF rfl (iteF rfl (iteF rfl (iteF rfl (iteF rfl (iteF rfl (iteF rfl (iteF rfl (iteF rfl (iteF rfl (iteF rfl (iteF rfl (iteF rfl (iteF rfl (iteF rfl (iteF rfl (iteF rfl (iteF rfl (iteF rfl (iteF rfl (iteF rfl (iteF rfl (iteF rfl (iteF rfl (iteF rfl (iteF rfl (iteT rfl (KL (ZW (k:=1) (fun h2 e2=>leaf (x:=⟨(0,0),(0,0),(0,0),(1,1),(0,0)⟩) (e2) rfl H))))))))))))))))))))))))))))))))))))))
 replace n34:(op==34)=false:=decide_eq_false n34
 by_cases n54:op=54
 ·subst n54
  exact iteF rfl (iteF rfl (iteF rfl (iteF rfl (iteF rfl (iteF rfl (iteF rfl (iteF rfl (iteF rfl (iteF rfl (iteF rfl (iteF rfl (iteF rfl (iteF rfl (iteF rfl (iteF rfl (iteF rfl (iteF rfl (iteF rfl (iteF rfl (iteF rfl (iteF rfl (iteF rfl (iteF rfl (iteF rfl (iteF rfl (iteF rfl (iteF rfl (iteF rfl (iteF rfl (iteF rfl (iteF rfl (iteF rfl (iteF rfl (iteF rfl (iteF rfl (iteT rfl (iteT rfl (KL (ZW (k:=1) (fun h2 e2=>KL (ZW (k:=1) (fun h3 e3=>leaf (x:=⟨(0,0),(1,1),(0,0),(0,0),(1,1)⟩) ((e2.trans e3)) rfl H))))))))))))))))))))))))))))))))))))))))))
 replace n54:(op==54)=false:=decide_eq_false n54
 by_cases n56:op=56
 ·subst n56
  exact iteF rfl (iteF rfl (iteF rfl (iteF rfl (iteF rfl (iteF rfl (iteF rfl (iteF rfl (iteF rfl (iteF rfl (iteF rfl (iteF rfl (iteF rfl (iteF rfl (iteF rfl (iteF rfl (iteF rfl (iteF rfl (iteF rfl (iteF rfl (iteF rfl (iteF rfl (iteF rfl (iteF rfl (iteF rfl (iteF rfl (iteF rfl (iteF rfl (iteF rfl (iteF rfl (iteF rfl (iteF rfl (iteF rfl (iteF rfl (iteF rfl (iteF rfl (iteF rfl (iteT rfl (KL (ZW (k:=1) (fun h2 e2=>KL (ZW (k:=1) (fun h3 e3=>leaf (x:=⟨(0,0),(1,1),(0,0),(0,0),(1,1)⟩) ((e2.trans e3)) rfl H))))))))))))))))))))))))))))))))))))))))))
 replace n56:(op==56)=false:=decide_eq_false n56
 by_cases n55:op=55
 ·subst n55
  exact iteF rfl (iteF rfl (iteF rfl (iteF rfl (iteF rfl (iteF rfl (iteF rfl (iteF rfl (iteF rfl (iteF rfl (iteF rfl (iteF rfl (iteF rfl (iteF rfl (iteF rfl (iteF rfl (iteF rfl (iteF rfl (iteF rfl (iteF rfl (iteF rfl (iteF rfl (iteF rfl (iteF rfl (iteF rfl (iteF rfl (iteF rfl (iteF rfl (iteF rfl (iteF rfl (iteF rfl (iteF rfl (iteF rfl (iteF rfl (iteF rfl (iteF rfl (iteF rfl (iteF rfl (iteT rfl (KL (ZW (k:=2) (fun h2 e2=>leaf (x:=⟨(0,0),(0,0),(0,0),(0,0),(2,2)⟩) (e2) rfl H)))))))))))))))))))))))))))))))))))))))))
 replace n55:(op==55)=false:=decide_eq_false n55
 by_cases n57:op=57
 ·subst n57
  exact iteF rfl (iteF rfl (iteF rfl (iteF rfl (iteF rfl (iteF rfl (iteF rfl (iteF rfl (iteF rfl (iteF rfl (iteF rfl (iteF rfl (iteF rfl (iteF rfl (iteF rfl (iteF rfl (iteF rfl (iteF rfl (iteF rfl (iteF rfl (iteF rfl (iteF rfl (iteF rfl (iteF rfl (iteF rfl (iteF rfl (iteF rfl (iteF rfl (iteF rfl (iteF rfl (iteF rfl (iteF rfl (iteF rfl (iteF rfl (iteF rfl (iteF rfl (iteF rfl (iteF rfl (iteF rfl (iteT rfl (KL (ZW (k:=3) (fun h2 e2=>leaf (x:=⟨(3,3),(0,0),(0,0),(0,0),(0,0)⟩) (e2) rfl H))))))))))))))))))))))))))))))))))))))))))
 replace n57:(op==57)=false:=decide_eq_false n57
 by_cases n58:op=58
 ·subst n58
  exact iteF rfl (iteF rfl (iteF rfl (iteF rfl (iteF rfl (iteF rfl (iteF rfl (iteF rfl (iteF rfl (iteF rfl (iteF rfl (iteF rfl (iteF rfl (iteF rfl (iteF rfl (iteF rfl (iteF rfl (iteF rfl (iteF rfl (iteF rfl (iteF rfl (iteF rfl (iteF rfl (iteF rfl (iteF rfl (iteF rfl (iteF rfl (iteF rfl (iteF rfl (iteF rfl (iteF rfl (iteF rfl (iteF rfl (iteF rfl (iteF rfl (iteF rfl (iteF rfl (iteF rfl (iteF rfl (iteF rfl (iteT rfl (KL (ZW (k:=1) (fun h2 e2=>KL (ZW (k:=1) (fun h3 e3=>leaf (x:=⟨(1,1),(0,0),(0,0),(1,1),(0,0)⟩) ((e2.trans e3)) rfl H)))))))))))))))))))))))))))))))))))))))))))))
 replace n58:(op==58)=false:=decide_eq_false n58
 have HZ:∀h',Ext h h'→Q (shpV shp0) h':=fun h' e=>by
  have hz:Xz op=shp0:=by
   unfold Xz
   simp only [eqI,decide_eq_false_iff_not]at n1 n2 n3 n4 n15 n16 n42 n46 n47 n5 n6 n7 n8 n9 n10 n32 n33 n17 n43 n48 n14 n18 n19 n20 n21 n52 n22 n23 n50 n51 n53 n26 n27 n29 n28 n34 n54 n56 n55 n57 n58
   simp only [n1,n2,n3,n4,n15,n16,n42,n46,n47,n5,n6,n7,n8,n9,n10,n32,n33,n17,n43,n48,n14,n18,n19,n20,n21,n52,n22,n23,n50,n51,n53,n26,n27,n29,n28,n34,n54,n56,n55,n57,n58,or_false,if_false]
  have:=H h' e
  rw [hz]at this
  exact this
 exact iteF n1 (iteF n2 (iteF n3 (iteF n4 (iteF n15 (iteF n16 (iteF n42 (iteF n46 (iteF n47 (iteF n5 (iteF n6 (iteF n7 (iteF n8 (iteF n9 (iteF n10 (iteF n32 (iteF n33 (iteF n17 (iteF n43 (iteF n48 (iteF n14 (iteF n18 (iteF n19 (iteF n20 (iteF n21 (iteF n52 (iteF n22 (iteF n23 (iteF n50 (iteF n51 (iteF n53 (iteF n26 (iteF n27 (iteF n29 (iteF n28 (iteF n34 (iteF n54 (iteF n56 (iteF n55 (iteF n57 (iteF n58 (put (x:=shp0) (Ext.refl _) HZ)))))))))))))))))))))))))))))))))))))))))
end Gx
namespace Gx
open Go
structure Ac where
 ns:List (List UInt8)
 us:List Int
 ps:List (Int×List Vl)
 vs:List Vl
 ss:List (List St)
def Ac.cnt (a:Ac):Nat:=a.ns.length+a.us.length+a.ps.length+a.vs.length+a.ss.length
def X1 (en:Nat) (x:Shp) (tr:List Tkn→Nat→PR (List St)):Nat→Ac→List Tkn→Nat→PR Ac:=fun i a ts n=>
 if i<x.n.2 then(match KHp en ts with
  | .error e=>.error e
  | .ok (s,r)=>.ok ({a with ns:=a.ns++[s]},r,n))
 else if i<x.n.2+x.u.2 then(match numT en ts with
  | .error e=>.error e
  | .ok (m,r)=>.ok ({a with us:=a.us++[m]},r,n))
 else if a.ps.length<x.p.2 then(match KJk en ts n with
  | .error e=>.error e
  | .ok (p,r,n')=>.ok ({a with ps:=a.ps++[p]},r,n'))
 else if a.vs.length<x.v.2 then(match valT en 8 ts with
  | .error e=>.error e
  | .ok (v,r)=>.ok ({a with vs:=a.vs++[v]},r,n))
 else match tr ts n with
  | .error e=>.error e
  | .ok (l,r,n')=>.ok ({a with ss:=a.ss++[l]},r,n')
def VR:RepT Vl:=fun S h v c=>JE S h v c
theorem KBX:Stay VR:=⟨fun h e e2=>(h.same e).mono e2⟩
theorem VGw.toR {lo:Nat} {S:Nat→Prop} {h:Heap} {r:Sl} {css:List (Array Value)} {l:List Vl} (G:VGw lo S h r css l):RGw VR 4 lo S h r css l:=⟨G.gw,G.w4,G.len,G.rep⟩
theorem RGw.toV {lo:Nat} {S:Nat→Prop} {h:Heap} {r:Sl} {css:List (Array Value)} {l:List Vl} (G:RGw VR 4 lo S h r css l):VGw lo S h r css l:=⟨G.gw,G.wn,G.len,G.rep⟩
def SS (z:Nat) (h:Heap) (r:Fin 5→Sl):Nat→Prop:=fun k=>z≤k∧k<h.size∧∀i,¬Sl.on (r i) k
def updR (r:Fin 5→Sl) (j:Fin 5) (x:Sl):Fin 5→Sl:=fun i=>if i=j then x else r i
theorem N3 (r:Fin 5→Sl) (j:Fin 5) (x:Sl):updR r j x j=x:=if_pos rfl
theorem KBY (r:Fin 5→Sl) {i j:Fin 5} (x:Sl) (h:i≠j):updR r j x i=r i:=if_neg h
structure StI (z sb:Nat) (op:Int) (r:Fin 5→Sl) (a:Ac) (h:Heap):Prop where
 cell:h[sb]?=some (.cells #[.int .i64 op,(r 0).v,(r 1).v,(r 2).v,(r 3).v,(r 4).v] Zm (0,0))
 g0:∃css,RGw KIq 1 z (SS z h r) h (r 0) css a.ns
 g1:∃css,RGw KIr 1 z (SS z h r) h (r 1) css a.us
 g2:∃css,RGw KEN 2 z (SS z h r) h (r 2) css a.ps
 g3:∃css,RGw VR 4 z (SS z h r) h (r 3) css a.vs
 g4:∃css,RGw KIs 1 z (SS z h r) h (r 4) css a.ss
 dj:∀i j,i≠j→∀k,Sl.on (r i) k→¬Sl.on (r j) k
theorem KGs {α:Type} {Rep:RepT α} (ok:Stay Rep) {z b sz:Nat} {h h':Heap} {r:Fin 5→Sl} {i:Fin 5} {css:List (Array Value)} {l:List α} (G:RGw Rep sz z (SS z h r) h (r i) css l) (K:Kb b h h') (hb:b<z):RGw Rep sz z (SS z h' r) h' (r i) css l:=
 G.same ok (fun k hk=>K.same k (G.gw.lt hk).1 (by have:=(G.gw.lt hk).2;omega)) (fun k hk=>K.same k hk.2.1 (by have:=hk.1;omega)) (fun k hk=>⟨hk.1,Nat.lt_of_lt_of_le hk.2.1 K.size,hk.2.2⟩)
theorem StI.km {z sb b:Nat} {op:Int} {r:Fin 5→Sl} {a:Ac} {h h':Heap} (I:StI z sb op r a h) (K:Kb b h h') (hb:b<z) (hbs:b≠sb):StI z sb op r a h':=by
 obtain⟨c0,G0⟩:=I.g0
 obtain⟨c1,G1⟩:=I.g1
 obtain⟨c2,G2⟩:=I.g2
 obtain⟨c3,G3⟩:=I.g3
 obtain⟨c4,G4⟩:=I.g4
 exact⟨K.blk I.cell (fun e=>hbs e.symm),⟨c0,KGs W7 G0 K hb⟩,⟨c1,KGs W8 G1 K hb⟩,⟨c2,KGs WY G2 K hb⟩,⟨c3,KGs KBX G3 K hb⟩,⟨c4,KGs Yd G4 K hb⟩,I.dj⟩
theorem StI.z_le {z sb:Nat} {op:Int} {r:Fin 5→Sl} {a:Ac} {h:Heap} (I:StI z sb op r a h) (i:Fin 5) (k:Nat) (hk:Sl.on (r i) k):z≤k∧k<h.size:=by
 obtain⟨c0,G0⟩:=I.g0
 obtain⟨c1,G1⟩:=I.g1
 obtain⟨c2,G2⟩:=I.g2
 obtain⟨c3,G3⟩:=I.g3
 obtain⟨c4,G4⟩:=I.g4
 match i,hk with
 |0,hk=>exact⟨(G0.gw.lt hk).2,(G0.gw.lt hk).1⟩
 |1,hk=>exact⟨(G1.gw.lt hk).2,(G1.gw.lt hk).1⟩
 |2,hk=>exact⟨(G2.gw.lt hk).2,(G2.gw.lt hk).1⟩
 |3,hk=>exact⟨(G3.gw.lt hk).2,(G3.gw.lt hk).1⟩
 |4,hk=>exact⟨(G4.gw.lt hk).2,(G4.gw.lt hk).1⟩
structure Grown (z b sb:Nat) (r:Fin 5→Sl) (j:Fin 5) (x:Sl) (h h4:Heap):Prop where
 size:h.size≤h4.size
 zh:z≤h.size
 same:∀k,k<h.size→k≠b→k≠sb→¬Sl.on (r j) k→h4[k]?=h[k]?
 on_:∀k,Sl.on x k→Sl.on (r j) k∨h.size≤k
 sbz:sb<z
 bz:b<z
theorem KDU {α:Type} {Rep:RepT α} (ok:Stay Rep) {z b sb sz:Nat} {op:Int} {a:Ac} {h h4:Heap} {r:Fin 5→Sl} {j:Fin 5} {x:Sl} {css:List (Array Value)} {l:List α} (g:Grown z b sb r j x h h4) (I:StI z sb op r a h) (G:RGw Rep sz z (fun k=>(SS z h r k∨h.size≤k)∧k<h4.size∧¬Sl.on x k) h4 x css l):RGw Rep sz z (SS z h4 (updR r j x)) h4 (updR r j x j) css l:=by
 rw [N3]
 have hzh:=g.zh
 refine G.same ok (fun k hk=>rfl) (fun k hk=>rfl) (fun k hk=>⟨hk.1.elim (fun h=>h.1) (fun h=>by omega),hk.2.1,fun i=>?_⟩)
 by_cases hi:i=j
 ·subst hi
  rw [N3]
  exact hk.2.2
 ·rw [KBY r x hi]
  exact fun ho=>hk.1.elim (fun h=>h.2.2 i ho) (fun h=>by have:=(I.z_le i k ho).2;omega)
theorem U9 {α:Type} {Rep:RepT α} (ok:Stay Rep) {z b sb sz:Nat} {op:Int} {a:Ac} {h h4:Heap} {r:Fin 5→Sl} {i j:Fin 5} {x:Sl} {css:List (Array Value)} {l:List α} (g:Grown z b sb r j x h h4) (I:StI z sb op r a h) (hij:i≠j) (G:RGw Rep sz z (SS z h r) h (r i) css l):RGw Rep sz z (SS z h4 (updR r j x)) h4 (updR r j x i) css l:=by
 rw [KBY r x hij]
 have hs:=g.size
 have hsb:=g.sbz
 have hbz:=g.bz
 refine G.same ok (fun k hk=>g.same k (G.gw.lt hk).1 (by have:=(G.gw.lt hk).2;omega) (by have:=(G.gw.lt hk).2;omega) (I.dj i j hij k hk)) (fun k hk=>g.same k hk.2.1 (by have:=hk.1;omega) (by have:=hk.1;omega) (hk.2.2 j)) (fun k hk=>⟨hk.1,by have:=hk.2.1;omega,fun i'=>?_⟩)
 by_cases hi:i'=j
 ·subst hi
  rw [N3]
  exact fun ho=>(g.on_ k ho).elim (hk.2.2 i') (fun h=>by have:=hk.2.1;omega)
 ·rw [KBY r x hi]
  exact hk.2.2 i'
theorem KGt {z b sb:Nat} {op:Int} {a:Ac} {h h4:Heap} {r:Fin 5→Sl} {j:Fin 5} {x:Sl} (g:Grown z b sb r j x h h4) (I:StI z sb op r a h):∀i i',i≠i'→∀k,Sl.on (updR r j x i) k→¬Sl.on (updR r j x i') k:=by
 intro i i' hii k h1 h2
 by_cases hi:i=j
 ·subst hi
  rw [N3]at h1
  rw [KBY r x (fun e=>hii e.symm)]at h2
  rcases g.on_ k h1 with h3|h3
  ·exact I.dj i i' hii k h3 h2
  ·have:=(I.z_le i' k h2).2;omega
 ·rw [KBY r x hi]at h1
  by_cases hi':i'=j
  ·subst hi'
   rw [N3]at h2
   rcases g.on_ k h2 with h3|h3
   ·exact I.dj i i' hii k h1 h3
   ·have:=(I.z_le i k h1).2;omega
  ·rw [KBY r x hi']at h2
   exact I.dj i i' hii k h1 h2
theorem KIt {α β:Type} {Rep:RepT α} (ok:Stay Rep) {sz lo bytes:Nat} {S:Nat→Prop} {ty:TypeId} {z:Array Value} {h:Heap} {Q:β→Heap→Prop} {P:Heap→Prop} {r:Sl} {css:List (Array Value)} {l:List α} {a:α} {c:Array Value} {f:Sl→M β} (hz:z.size=sz) (hsz:0<sz) (G:RGw Rep sz lo S h r css l) (hS:∀k,S k→k<h.size∧¬Sl.on r k)
  (hc:c.size=sz) (h1:∀u∈c.toList,one u=true) (hv:Rep S h a c) (hlo:lo≤h.size) (hm:(l.length+1)*bytes≤140737488355328) (hm2:l.length+1≤9223372036854775807) (hP:∀h',Ext h h'→P h')
  (H:∀h' r',RGw Rep sz lo S h' r' (css++[c]) (l++[a])→h.size≤h'.size→(∀i,i<h.size→¬Sl.on r i→h'[i]?=h[i]?)→(∀i,Sl.on r' i→Sl.on r i∨h.size≤i)→(f r').wp h' Q):
  (bdL ty 1 c>>=fun x=>chk P>>=fun _=>apL ty sz bytes z r x>>=f).wp h Q:=by
 have key:=KQ7 (ty:=ty) (Q:=Q) (f:=f) ok hz hsz G hS hc h1 hv hlo hm hm2 H
 obtain⟨x,hx,hw⟩:=key
 exact⟨x,hx,(),hP _ (Ext.push _ _),hw⟩
end Gx
namespace Gx
open Go
def stW:List UInt8:=[86,32,69,32,105,110,106,101,99,116,32,97,100,100,86,32,111,117,116,32,105,110,32,98,111,116,104,32,111,117,116,69,32,105,110,69,32,98,111,116,104,69,32,111,117,116,86,32,105,110,86,32,98,111,116,104,86,32,104,97,115,32,104,97,115,75,101,121,32,104,97,115,78,111,116,32,104,97,115,76,97,98,101,108,32,104,97,115,73,100,32,105,115,32,119,104,101,114,101,32,110,111,116,32,97,110,100,32,111,114,32,100,101,100,117,112,32,115,105,109,112,108,101,80,97,116,104,32,108,105,109,105,116,32,115,107,105,112,32,114,97,110,103,101,32,116,97,105,108,32,105,100,32,108,97,98,101,108,32,118,97,108,117,101,115,32,118,97,108,117,101,77,97,112,32,99,111,110,115,116,97,110,116,32,99,111,117,110,116,32,115,117,109,32,109,105,110,32,109,97,120,32,102,111,108,100,32,117,110,102,111,108,100,32,112,97,116,104,32,97,115,32,115,101,108,101,99,116,32,111,114,100,101,114,32,111,114,100,101,114,68,101,115,99,32,111,114,100,101,114,66,121,32,111,114,100,101,114,66,121,68,101,115,99,32,103,114,111,117,112,67,111,117,110,116,32,108,111,111,112,115,32,117,110,105,111,110,32,99,111,97,108,101,115,99,101,32,111,112,116,105,111,110,97,108,32,99,104,111,111,115,101,32,116,105,109,101,115,32,117,110,116,105,108,32,101,109,105,116,32,97,100,100,69,32,112,114,111,112,101,114,116,121,32,100,114,111,112,32,105,100,101,110,116,105,116,121]
def Shp.least (x:Shp):Nat:=x.n.1+x.u.1+x.p.1+x.v.1+x.s.1
def Shp.most (x:Shp):Nat:=x.n.2+x.u.2+x.p.2+x.v.2+x.s.2
def KDV (en:Nat) (tr:List Tkn→Nat→PR (List St)) (ts:List Tkn) (n:Nat):PR St:=
 match nxT en 1 ts with
 | .error e=>.error e
 | .ok (t,r)=>if idxW (splW stW) t.s=0 then .error (GO en ts,160)else if n+1>256 then .error (GO en ts,3)else
  match takT en 4 [40] r with
  | .error e=>.error e
  | .ok r1=>match KDS en (Xz (idxW (splW stW) t.s:Nat)).least (Xz (idxW (splW stW) t.s:Nat)).most (X1 en (Xz (idxW (splW stW) t.s:Nat)) tr) ⟨[],[],[],[],[]⟩ r1 (n+1)with
   | .error e=>.error e
   | .ok (a,r2,n2)=>.ok (.mk (idxW (splW stW) t.s:Nat) a.ns a.us a.ps a.vs a.ss,r2,n2)
def KGu (stp:List Tkn→Nat→PR St):Nat→List St→List Tkn→Nat→PR (List St)
 |0,_,_,_=>.error (0,0)
 |f+1,l,ts,n=>if isT 4 [46] ts=true then(match stp ts.tail n with
   | .error e=>.error e
   | .ok (s,r,n')=>KGu stp f (l++[s]) r n')else .ok (l,ts,n)
def GQ (en:Nat):Nat→List Tkn→Nat→PR (List St)
 |0,ts,_=>.error (GO en ts,3)
 |d+1,ts,n=>match KDV en (GQ en d) ts n with
  | .error e=>.error e
  | .ok (s,r,n')=>KGu (KDV en (GQ en d)) (r.length+1) [s] r n'
def KGv (en d:Nat):Prop:=∀(ts:List Tkn) (n:Nat) (h:Heap) (Q:Value⊕Sl→Heap→Prop) (lo b:Nat),PRd lo b en h ts n→
 (∀l r n' h' x,GQ en d ts n=.ok (l,r,n')→Kb b h h'→PRd lo b en h' r n'→Xy (HS h h') h' x l→Q (.inr x) h')→
 (∀e h',GQ en d ts n=.error e→Kb b h h'→Q (.inl (US e)) h')→(Zo (some ⟨b,0,none⟩) ((9 - d:Nat):Int)).wp h Q
theorem KJn {en d lo b sb z c2 c3 c7 i n:Nat} {op:Int} {x:Shp} {r:Fin 5→Sl} {a:Ac} {h:Heap} {ts:List Tkn} {Q1:Value⊕Unit→Heap→Prop} (TR:KGv en d) (hd:d≤7) (I:StI z sb op r a h) (R:PRd lo b en h ts n)
  (k2:h[c2]?=some (.cells #[.pointer (some ⟨b,0,none⟩)] JF (0,0))) (k3:h[c3]?=some (.cells #[.int .i64 ((8 - d:Nat):Int)] VE (0,0))) (k7:h[c7]?=some (.cells (shpV x) Vc (0,0)))
  (l2:lo≤c2) (l3:lo≤c3) (l7:lo≤c7) (ls:lo≤sb) (z2:c2<z) (z3:c3<z) (z7:c7<z) (zs:sb<z) (zh:z≤h.size) (d2:c2≠sb) (d3:c3≠sb) (d7:c7≠sb) (hcnt:a.cnt≤i) (hi:i≤1000) (hx1:x.n.2≤1000) (hx2:x.u.2≤1000)
  (G1:∀a' r' n' h2 rr,X1 en x (GQ en d) i a ts n=.ok (a',r',n')→Km (fun k=>k=b∨k=sb∨z≤k) h h2→PRd lo b en h2 r' n'→StI z sb op rr a' h2→a'.cnt≤i+1→Q1 (.inr ()) h2)
  (G2:∀e h2,X1 en x (GQ en d) i a ts n=.error e→Kb b h h2→Q1 (.inl (US e)) h2):
  (VP (i:Int) ⟨c7,0,none⟩ ⟨sb,0,none⟩ ⟨c2,0,none⟩ ⟨c3,0,none⟩).wp h Q1:=by
 have hbl:=R.bl
 unfold VP
 unfold Ac.cnt at hcnt G1
 have c7a:∀{m:Nat} {v:Int},(shpV x)[m]?=some (.int .i64 v)→∀{o p:Nat},o+p=m→KM h (((⟨c7,0,none⟩:Addr).add o).add p)=some (.int .i64 v):=fun {m v} hv {o p} hop=>by
  rw [Ke,Ke,KP k7,show 0+o+p=m by omega];exact hv
 have cells:∀{h2:Heap},Kb b h h2→StI z sb op r a h2∧h2[c2]?=some (.cells #[.pointer (some ⟨b,0,none⟩)] JF (0,0))∧h2[c3]?=some (.cells #[.int .i64 ((8 - d:Nat):Int)] VE (0,0)):=fun {h2} K=>⟨I.km K (by omega) (by omega),K.blk k2 (by omega),K.blk k3 (by omega)⟩
 have fin:∀{j:Fin 5} {h2 h3:Heap} {x':Sl} {m:Nat},Kb b h h2→StI z sb op r a h2→h2.size≤h3.size→(∀k,k<h2.size→¬Sl.on (r j) k→h3[k]?=h2[k]?)→(∀k,Sl.on x' k→Sl.on (r j) k∨h2.size≤k)→m<6→
   (∀h4,Upd sb h3 h4→h4[sb]?=some (.cells ((#[.int .i64 op,(r 0).v,(r 1).v,(r 2).v,(r 3).v,(r 4).v]:Array Value).setIfInBounds m x'.v) Zm (0,0))→Grown z b sb r j x' h2 h4→Km (fun k=>k=b∨k=sb∨z≤k) h h4→(∀ts' n',PRd lo b en h2 ts' n'→PRd lo b en h4 ts' n')→Q1 (.inr ()) h4)→
   (stV ((⟨sb,0,none⟩:Addr).add m) x'.v>>=fun _=>(M.pure (.inr ()):M (Value⊕Unit))).wp h3 Q1:=fun {j h2 h3 x' m} K2 I2 hs same on_ hm HH=>by
  have hsb2:sb<h2.size:=JT I2.cell
  have gs:=(same sb hsb2 (fun ho=>by have:=(I2.z_le j sb ho).1;omega)).trans I2.cell
  obtain⟨w,hw⟩:∃w,(#[.int .i64 op,(r 0).v,(r 1).v,(r 2).v,(r 3).v,(r 4).v]:Array Value)[m]?=some w:=⟨_,Array.getElem?_eq_getElem (show m<6 from hm)⟩
  refine Gu (x:=w) (by rw [Ke,Nat.zero_add,KP gs];exact hw) (by rw [Ke];exact ZL gs) (qy _) (KI ?_)
  rw [Ke,Nat.zero_add]
  have u:=Upd.hset h3 sb m x'.v
  have g':=Ul (o:=m) (v:=x'.v) gs
  generalize hset h3 ⟨sb,m,none⟩ x'.v=h4 at u g'⊢
  have hu:=u.size
  have hK:=K2.size
  refine HH h4 u g' ⟨by omega,by omega,fun k hk hb hsb hno=>(u.ne k hsb).trans (same k hk hno),on_,zs,by omega⟩ ⟨by omega,fun k hk hn=>?_⟩ (fun ts' n' R'=>R'.same (by omega) (fun k hk=>(u.ne k (by omega)).trans (same k (by omega) (fun ho=>by have:=(I2.z_le j k ho).1;omega))))
  have n1:k≠b:=fun e=>hn (.inl e)
  have n2:k≠sb:=fun e=>hn (.inr (.inl e))
  have n3:¬z≤k:=fun e=>hn (.inr (.inr e))
  exact(u.ne k n2).trans ((same k (by omega) (fun ho=>n3 (I2.z_le j k ho).1)).trans (K2.same k hk n1))
 have mono_:∀{α:Type} {Rep:RepT α} (ok:Stay Rep) {sz:Nat} {j:Fin 5} {h2 h3 h4:Heap} {x':Sl} {css:List (Array Value)} {l:List α},StI z sb op r a h2→Upd sb h3 h4→(∀k,Sl.on x' k→Sl.on (r j) k∨h2.size≤k)→h2.size≤h3.size→RGw Rep sz z (SS z h2 r) h3 x' css l→RGw Rep sz z (fun k=>(SS z h2 r k∨h2.size≤k)∧k<h4.size∧¬Sl.on x' k) h4 x' css l:=fun {α Rep} ok {sz j h2 h3 h4 x' css l} I2 u on_ hs G=>by
  have hu:=u.size
  exact G.same ok (fun k hk=>u.ne k (by have:=(G.gw.lt hk).2;omega)) (fun k hk=>u.ne k (by have:=hk.1;omega)) (fun k hk=>⟨.inl hk,by have:=hk.2.1;omega,fun ho=>(on_ k ho).elim (hk.2.2 j) (fun h=>by have:=hk.2.1;omega)⟩)
 have ckS:∀{h2:Heap},StI z sb op r a h2→∀{m:Nat} {v:Value},(#[.int .i64 op,(r 0).v,(r 1).v,(r 2).v,(r 3).v,(r 4).v]:Array Value)[m]?=some v→KM h2 ((⟨sb,0,none⟩:Addr).add m)=some v:=fun {h2} I2 {m v} hv=>by rw [Ke,Nat.zero_add,KP I2.cell];exact hv
 refine ZC (n:=(x.n.2:Int)) (c7a (m:=1) rfl rfl) ?_
 rw [show decide ((i:Int)<(x.n.2:Int))=decide (i<x.n.2)from decide_eq_decide.2 (by omega)]
 unfold X1 at G1 G2
 refine KY (fun q1=>?_) (fun q1=>?_)
 ·rw [if_pos (of_decide_eq_true q1)]at G1 G2
  refine Jm (n:=r 0) (ckS I rfl) (GV (n:=some ⟨b,0,none⟩) (oneC k2) (Zv (KJj R (fun s r' h2 hr hsl K2 R2=>?_) (fun e h2 hr K2=>G2 e h2 (by rw [hr]) K2))))
  rw [hr]at G1
  dsimp only at G1
  obtain⟨I2,k22,k32⟩:=cells K2
  obtain⟨css,G0⟩:=I2.g0
  have hz2:=K2.size
  refine X5 ⟨ckS I2 rfl,oneC k22⟩ (KIt W7 (a:=s) (sz:=1) rfl (by decide) G0 (fun k hk=>⟨hk.2.1,hk.2.2 0⟩) rfl (fun u hu=>by simp only [List.mem_cons,List.not_mem_nil,or_false]at hu;subst hu;rfl) rfl (by omega) (by omega) (by omega) (fun h' e'=>⟨ckS (I2.km (Km.ext (S:=fun k=>k=b) e') (by omega) (by omega)) rfl,oneC (e'.blk k22)⟩) (fun h3 x' G3 hs same on_=>?_))
  refine fin (j:=0) K2 I2 hs same on_ (by decide) (fun h4 u4 g4 gr F PR4=>G1 _ r' n h4 (updR r 0 x') rfl F (PR4 _ _ R2) ⟨g4,⟨_,KDU W7 gr I2 (mono_ W7 (j:=0) I2 u4 on_ hs G3)⟩,I2.g1.imp (fun c G=>U9 W8 gr I2 (by decide) G),I2.g2.imp (fun c G=>U9 WY gr I2 (by decide) G),I2.g3.imp (fun c G=>U9 KBX gr I2 (by decide) G),I2.g4.imp (fun c G=>U9 Yd gr I2 (by decide) G),KGt gr I2⟩ (by dsimp only;rw [List.length_append,List.length_singleton];omega))
 rw [if_neg (of_decide_eq_false q1)]at G1 G2
 refine ZC (n:=(x.n.2:Int)) (c7a (m:=1) rfl rfl) (ZC (n:=(x.u.2:Int)) (c7a (m:=3) rfl rfl) ?_)
 rw [w64 (by omega) (by omega),show decide ((i:Int)<(x.n.2:Int)+(x.u.2:Int))=decide (i<x.n.2+x.u.2)from decide_eq_decide.2 (by omega)]
 refine KY (fun q2=>?_) (fun q2=>?_)
 ·rw [if_pos (of_decide_eq_true q2)]at G1 G2
  refine Jm (n:=r 1) (ckS I rfl) (GV (n:=some ⟨b,0,none⟩) (oneC k2) (Zv (KLd R (fun m r' h2 hr hI K2 R2=>?_) (fun e h2 hr K2=>G2 e h2 (by rw [hr]) K2))))
  rw [hr]at G1
  dsimp only at G1
  obtain⟨I2,k22,k32⟩:=cells K2
  obtain⟨css,G0⟩:=I2.g1
  have hz2:=K2.size
  refine X5 ⟨ckS I2 rfl,oneC k22⟩ (KIt W8 (a:=m) (sz:=1) rfl (by decide) G0 (fun k hk=>⟨hk.2.1,hk.2.2 1⟩) rfl (fun u hu=>by simp only [List.mem_cons,List.not_mem_nil,or_false]at hu;subst hu;rfl) ⟨rfl,hI⟩ (by omega) (by omega) (by omega) (fun h' e'=>⟨ckS (I2.km (Km.ext (S:=fun k=>k=b) e') (by omega) (by omega)) rfl,oneC (e'.blk k22)⟩) (fun h3 x' G3 hs same on_=>?_))
  refine fin (j:=1) K2 I2 hs same on_ (by decide) (fun h4 u4 g4 gr F PR4=>G1 _ r' n h4 (updR r 1 x') rfl F (PR4 _ _ R2) ⟨g4,I2.g0.imp (fun c G=>U9 W7 gr I2 (by decide) G),⟨_,KDU W8 gr I2 (mono_ W8 (j:=1) I2 u4 on_ hs G3)⟩,I2.g2.imp (fun c G=>U9 WY gr I2 (by decide) G),I2.g3.imp (fun c G=>U9 KBX gr I2 (by decide) G),I2.g4.imp (fun c G=>U9 Yd gr I2 (by decide) G),KGt gr I2⟩ (by dsimp only;rw [List.length_append,List.length_singleton];omega))
 rw [if_neg (of_decide_eq_false q2)]at G1 G2
 have hl2:(r 2).len=a.ps.length:=by obtain⟨css,G0⟩:=I.g2;exact G0.rlen (by decide)
 refine Jm (n:=r 2) (ckS I rfl) (ZC (n:=(x.p.2:Int)) (c7a (m:=5) rfl rfl) ?_)
 rw [hl2,show decide (((a.ps.length:Nat):Int)<(x.p.2:Int))=decide (a.ps.length<x.p.2)from decide_eq_decide.2 (by omega)]
 refine KY (fun q3=>?_) (fun q3=>?_)
 ·rw [if_pos (of_decide_eq_true q3)]at G1 G2
  refine Jm (n:=r 2) (ckS I rfl) (GV (n:=some ⟨b,0,none⟩) (oneC k2) (Zv (KJl R (fun p r' n' h2 c hr K2 R2 V2=>?_) (fun e h2 hr K2=>G2 e h2 (by rw [hr]) K2))))
  rw [hr]at G1
  dsimp only at G1
  obtain⟨I2,k22,k32⟩:=cells K2
  obtain⟨css,G0⟩:=I2.g2
  have hz2:=K2.size
  have V2':KEN (SS z h2 r) h2 p c:=WY.same V2 (fun _ _=>rfl) (fun k hk=>⟨by have:=hk.1;omega,hk.2,fun i ho=>by have:=(I.z_le i k ho).2;have:=hk.1;omega⟩)
  obtain⟨y,hcy,hI,_⟩:=id V2
  have hcs:c.size=2:=by rw [hcy];rfl
  have hco:∀u∈c.toList,one u=true:=by rw [hcy];exact KFZ
  refine X5 ⟨ckS I2 rfl,oneC k22⟩ (GB hcs (KIt WY (a:=p) (sz:=2) rfl (by decide) G0 (fun k hk=>⟨hk.2.1,hk.2.2 2⟩) hcs hco V2' (by omega) (by omega) (by omega) (fun h' e'=>⟨ckS (I2.km (Km.ext (S:=fun k=>k=b) e') (by omega) (by omega)) rfl,oneC (e'.blk k22)⟩) (fun h3 x' G3 hs same on_=>?_)))
  refine fin (j:=2) K2 I2 hs same on_ (by decide) (fun h4 u4 g4 gr F PR4=>G1 _ r' n' h4 (updR r 2 x') rfl F (PR4 _ _ R2) ⟨g4,I2.g0.imp (fun c G=>U9 W7 gr I2 (by decide) G),I2.g1.imp (fun c G=>U9 W8 gr I2 (by decide) G),⟨_,KDU WY gr I2 (mono_ WY (j:=2) I2 u4 on_ hs G3)⟩,I2.g3.imp (fun c G=>U9 KBX gr I2 (by decide) G),I2.g4.imp (fun c G=>U9 Yd gr I2 (by decide) G),KGt gr I2⟩ (by dsimp only;rw [List.length_append,List.length_singleton];omega))
 rw [if_neg (of_decide_eq_false q3)]at G1 G2
 have hl3:(r 3).len=a.vs.length:=by obtain⟨css,G0⟩:=I.g3;exact G0.rlen (by decide)
 refine Jm (n:=r 3) (ckS I rfl) (ZC (n:=(x.v.2:Int)) (c7a (m:=7) rfl rfl) ?_)
 rw [hl3,show decide (((a.vs.length:Nat):Int)<(x.v.2:Int))=decide (a.vs.length<x.v.2)from decide_eq_decide.2 (by omega)]
 refine KY (fun q4=>?_) (fun q4=>?_)
 ·rw [if_pos (of_decide_eq_true q4)]at G1 G2
  obtain⟨css,G0⟩:=I.g3
  refine Jm (n:=r 3) (ckS I rfl) (GV (n:=some ⟨b,0,none⟩) (oneC k2) ?_)
  simp only [Ke,Nat.zero_add]
  refine KLf (z:=z) (kb:=sb) (cb:=c2) (off:=4) R I.cell rfl (oneC k2) (by omega) (by omega) d2 ls (by omega) zs z2 zh G0.toV (fun k hk=>⟨hk.1,hk.2.1,hk.2.2 3⟩) (by omega) hbl (fun v r' h' x' css' hv K' R' g' V' on'=>?_) (fun e h' hv K'=>G2 e h' (by rw [hv]) K')
  rw [hv]at G1
  have gr:Grown z b sb r 3 x' h h':=⟨K'.size,zh,fun k hk hb hsb hno=>K'.same k hk (fun hh=>hh.elim hb (fun hh=>hh.elim hsb hno)),on',zs,by omega⟩
  refine G1 _ r' n h' (updR r 3 x') rfl (K'.wkb (fun k hk=>hk.imp id (fun hh=>hh.imp id (fun ho=>(I.z_le 3 k ho).1)))) R' ⟨g',I.g0.imp (fun c G=>U9 W7 gr I (by decide) G),I.g1.imp (fun c G=>U9 W8 gr I (by decide) G),I.g2.imp (fun c G=>U9 WY gr I (by decide) G),⟨_,KDU KBX gr I V'.toR⟩,I.g4.imp (fun c G=>U9 Yd gr I (by decide) G),KGt gr I⟩ (by dsimp only;rw [List.length_append,List.length_singleton];omega)
 rw [if_neg (of_decide_eq_false q4)]at G1 G2
 refine Jm (n:=r 4) (ckS I rfl) (GV (n:=some ⟨b,0,none⟩) (oneC k2) (ZC (oneC k3) ?_))
 rw [w64 (by omega) (by omega),show(((8 - d:Nat):Int)+1)=((9 - d:Nat):Int) by omega]
 refine Zv (TR ts n h _ lo b R (fun l r' n' h2 y hr K2 R2 V2=>?_) (fun e h2 hr K2=>G2 e h2 (by rw [hr]) K2))
 rw [hr]at G1
 dsimp only at G1
 obtain⟨I2,k22,k32⟩:=cells K2
 obtain⟨css,G0⟩:=I2.g4
 have hz2:=K2.size
 have V2':KIs (SS z h2 r) h2 l #[y.v]:=⟨y,rfl,RowS.same GP V2 (fun _ _=>rfl) (fun k hk=>⟨by have:=hk.1;omega,hk.2,fun i ho=>by have:=(I.z_le i k ho).2;have:=hk.1;omega⟩)⟩
 refine X5 ⟨ckS I2 rfl,oneC k22,oneC k32⟩ (KIt Yd (a:=l) (sz:=1) rfl (by decide) G0 (fun k hk=>⟨hk.2.1,hk.2.2 4⟩) rfl (fun u hu=>by simp only [List.mem_cons,List.not_mem_nil,or_false]at hu;subst hu;exact qy _) V2' (by omega) (by omega) (by omega) (fun h' e'=>⟨ckS (I2.km (Km.ext (S:=fun k=>k=b) e') (by omega) (by omega)) rfl,oneC (e'.blk k22),oneC (e'.blk k32)⟩) (fun h3 x' G3 hs same on_=>?_))
 refine fin (j:=4) K2 I2 hs same on_ (by decide) (fun h4 u4 g4 gr F PR4=>G1 _ r' n' h4 (updR r 4 x') rfl F (PR4 _ _ R2) ⟨g4,I2.g0.imp (fun c G=>U9 W7 gr I2 (by decide) G),I2.g1.imp (fun c G=>U9 W8 gr I2 (by decide) G),I2.g2.imp (fun c G=>U9 WY gr I2 (by decide) G),I2.g3.imp (fun c G=>U9 KBX gr I2 (by decide) G),⟨_,KDU Yd gr I2 (mono_ Yd (j:=4) I2 u4 on_ hs G3)⟩,KGt gr I2⟩ (by dsimp only;rw [List.length_append,List.length_singleton];omega))
end Gx
namespace Gx
open Go
def shOk (x:Shp):Bool:=decide ((x.n.1≤32∧x.n.2≤32)∧(x.u.1≤32∧x.u.2≤32)∧(x.p.1≤32∧x.p.2≤32)∧(x.v.1≤32∧x.v.2≤32)∧(x.s.1≤32∧x.s.2≤32))
theorem KQ9 {p:Prop} [Decidable p] {a b:Shp} (ha:shOk a=true) (hb:shOk b=true):shOk (if p then a else b)=true:=by
 split
 ·exact ha
 ·exact hb
theorem KNL (op:Int):shOk (Xz op)=true:=by
 unfold Xz
 repeat' first|rfl|refine KQ9 rfl ?_
theorem KRA:(splW stW).length=60:=by decide+kernel
theorem KPd {β:Type} {sz len:Nat} {z cs:Array Value} {parts:List (Nat×Value)} {f:Array Value→M β} {h:Heap} {Q:β→Heap→Prop} (hc:Instr.fill (fun i=>some (i*sz,sz)) (zRow z (len*sz)) parts=some cs) (H:(f cs).wp h Q):(XI sz len z parts>>=f).wp h Q:=⟨cs,hc,H⟩
def Shp.at (x:Shp):Nat→Nat×Nat
 |0=>x.n
 |1=>x.u
 |2=>x.p
 |3=>x.v
 |_=>x.s
def sumT (x:Shp):Nat→Nat×Nat
 |0=>(0,0)
 |i+1=>((sumT x i).1+(x.at i).1,(sumT x i).2+(x.at i).2)
theorem KLi (x:Shp) {i m:Nat} (hi:i<5) (hm:m<2):(shpV x)[i*2+m]?=(YW (x.at i))[m]?:=by
 match i,hi,m,hm with
 |0,_,0,_=>rfl
 |0,_,1,_=>rfl
 |1,_,0,_=>rfl
 |1,_,1,_=>rfl
 |2,_,0,_=>rfl
 |2,_,1,_=>rfl
 |3,_,0,_=>rfl
 |3,_,1,_=>rfl
 |4,_,0,_=>rfl
 |4,_,1,_=>rfl
theorem KGw (p:Nat×Nat):∀u∈(YW p).toList,one u=true:=by
 intro u hu
 simp only [YW,List.mem_cons,List.not_mem_nil,or_false]at hu
 rcases hu with rfl|rfl<;>rfl
theorem KFa {op:Int} {x1 x2 x3 x4 x5:Sl}:∀u∈(#[.int .i64 op,x1.v,x2.v,x3.v,x4.v,x5.v]:Array Value).toList,one u=true:=by
 intro u hu
 simp only [List.mem_cons,List.not_mem_nil,or_false]at hu
 rcases hu with rfl|rfl|rfl|rfl|rfl|rfl
 ·rfl
 all_goals exact qy _
theorem StI.rep {z sb:Nat} {op:Int} {r:Fin 5→Sl} {a:Ac} {h:Heap} (I:StI z sb op r a h) (hop:I64 op) (hv:a.vs.length≤9223372036854775807):YX (fun k=>z≤k∧k<h.size) h (.mk op a.ns a.us a.ps a.vs a.ss) #[.int .i64 op,(r 0).v,(r 1).v,(r 2).v,(r 3).v,(r 4).v]:=by
 obtain⟨c0,G0⟩:=I.g0
 obtain⟨c1,G1⟩:=I.g1
 obtain⟨c2,G2⟩:=I.g2
 obtain⟨c3,G3⟩:=I.g3
 obtain⟨c4,G4⟩:=I.g4
 have key:∀{i:Fin 5} (k:Nat),(SS z h r k∨Sl.on (r i) k)→z≤k∧k<h.size:=fun {i} k hk=>hk.elim (fun hk=>⟨hk.1,hk.2.1⟩) (fun ho=>I.z_le i k ho)
 exact YX.eq.2 ⟨r 0,r 1,r 2,r 3,r 4,rfl,hop,(G0.row W7 (by decide)).same W7 (fun _ _=>rfl) key,(G1.row W8 (by decide)).same W8 (fun _ _=>rfl) key,(G2.row WY (by decide)).same WY (fun _ _=>rfl) key,(G3.toV.rep_ hv).same (fun _ _=>rfl) key,(G4.row Yd (by decide)).same Yd (fun _ _=>rfl) key⟩
theorem KNM {x:Shp} (hx:shOk x=true) (i:Nat):(x.at i).1≤32∧(x.at i).2≤32:=by
 have h:=of_decide_eq_true hx
 match i with
 |0=>exact h.1
 |1=>exact h.2.1
 |2=>exact h.2.2.1
 |3=>exact h.2.2.2.1
 |_+4=>exact h.2.2.2.2
theorem KEO {x:Shp} (hx:shOk x=true):∀i,(sumT x i).1≤32*i∧(sumT x i).2≤32*i
 |0=>⟨Nat.le_refl _,Nat.le_refl _⟩
 |i+1=>by
  have h1:=KEO hx i
  have h2:=KNM hx i
  rw [sumT]
  dsimp only
  omega
theorem KCJ (x:Shp):sumT x 5=(x.least,x.most):=by
 simp only [sumT,Shp.at,Shp.least,Shp.most,Nat.zero_add]
theorem KNN {en d:Nat} (hd:d≤7) (TR:KGv en d) {lo b n c2 c3 c4 c6 c7 c8 op:Nat} {hh:Heap} {ts:List Tkn} {sh:Shp} {Q:Value⊕Array Value→Heap→Prop} (R:PRd lo b en hh ts n) (hok:shOk sh=true)
  (g2:hh[c2]?=some (.cells #[.pointer (some ⟨b,0,none⟩)] JF (0,0))) (g3:hh[c3]?=some (.cells #[.int .i64 ((8 - d:Nat):Int)] VE (0,0)))
  (g4:hh[c4]?=some (.cells (#[.int .i64 0,.slice none 0 0,.slice none 0 0,.slice none 0 0,.slice none 0 0,.slice none 0 0]:Array Value) Zm (0,0))) (g6:hh[c6]?=some (.cells #[.int .i64 (op:Int),(Sl.nil:Sl).v,(Sl.nil:Sl).v,(Sl.nil:Sl).v,(Sl.nil:Sl).v,(Sl.nil:Sl).v] Zm (0,0)))
  (l2:lo≤c2) (l3:lo≤c3) (l4:lo≤c4) (l6:lo≤c6) (d2:c2≠c6) (d3:c3≠c6) (d4:c4≠c6) (hop60:op≤60)
  (g7:hh[c7]?=some (.cells (shpV sh) Vc (0,0))) (g8:hh[c8]?=some (.cells (YW (sh.least,sh.most)) ZI (0,0))) (l7:lo≤c7) (d7:c7≠c6)
  (H1:∀a r' n' h' c,KDS en sh.least sh.most (X1 en sh (GQ en d)) ⟨[],[],[],[],[]⟩ ts n=.ok (a,r',n')→Km (fun k=>k=b∨k=c6∨k=c4) hh h'→PRd lo b en h' r' n'→YX (fun k=>hh.size≤k∧k<h'.size) h' (.mk (op:Int) a.ns a.us a.ps a.vs a.ss) c→Q (.inr c) h')
  (H2:∀e h',KDS en sh.least sh.most (X1 en sh (GQ en d)) ⟨[],[],[],[],[]⟩ ts n=.error e→Km (fun k=>k=b∨k=c6∨k=c4) hh h'→Q (.inl (US e)) h'):
  (ldP ⟨c2,0,none⟩>>=fun x72=>ldG 2 ⟨c8,0,none⟩>>=fun x73=>thr (Jo x72 x73 (Value.func (.func UT) #[] #[.pointer (some ⟨c7,0,none⟩),.pointer (some ⟨c6,0,none⟩),.pointer (some ⟨c2,0,none⟩),.pointer (some ⟨c3,0,none⟩)])) fun _=>
   ldG 6 ⟨c6,0,none⟩>>=fun x76=>M.need (x76.size=6)>>=fun _=>stG ⟨c4,0,none⟩ x76>>=fun _=>ldG 6 ⟨c4,0,none⟩>>=fun r4=>(M.pure (.inr r4):M (Value⊕Array Value))).wp hh Q:=by
 have hbl:=R.bl
 have hlh:=R.lh
 have y2:=JT g2
 have y3:=JT g3
 have y4:=JT g4
 have y6:=JT g6
 have y7:=JT g7
 refine GV (n:=some ⟨b,0,none⟩) (oneC g2) (ldR g8 rfl ?_)
 have hcnt0:(⟨[],[],[],[],[]⟩:Ac).cnt=0:=rfl
 refine Zv (KOH (one:=X1 en sh (GQ en d)) (a0:=⟨[],[],[],[],[]⟩) (sb:=c6) (fun i a h20=>(∃rr,StI (hh.size+1) c6 (op:Int) rr a h20)∧h20[c2]?=some (.cells #[.pointer (some ⟨b,0,none⟩)] JF (0,0))∧h20[c3]?=some (.cells #[.int .i64 ((8 - d:Nat):Int)] VE (0,0))∧h20[c7]?=some (.cells (shpV sh) Vc (0,0))∧a.cnt≤i) R (by omega) (by omega) (by omega) ?_ ?_ ?_ ?_ ?_ ?_)
 ·have:=KEO hok 5
  rw [KCJ]at this
  dsimp only at this
  omega
 ·intro h20 e20
  exact⟨⟨fun _=>Sl.nil,e20.blk g6,⟨[],RGw.nil _ _ _ _ _⟩,⟨[],RGw.nil _ _ _ _ _⟩,⟨[],RGw.nil _ _ _ _ _⟩,⟨[],RGw.nil _ _ _ _ _⟩,⟨[],RGw.nil _ _ _ _ _⟩,fun _ _ _ k hk=>absurd hk (by unfold Sl.on;rintro⟨a,ha,_⟩;cases ha)⟩,e20.blk g2,e20.blk g3,e20.blk g7,Nat.le_refl _⟩
 ·rintro i a ha hb ⟨⟨rr,I⟩,k1,k2,k7,hcn⟩ hsz K
  exact⟨⟨rr,I.km K (by omega) (by omega)⟩,K.blk k1 (by omega),K.blk k2 (by omega),K.blk k7 (by omega),hcn⟩
 ·rintro i a ts2 n2 h20 Q1 hi ⟨⟨rr,I⟩,k1,k2,k7,hcn⟩ hsz R20 G1 G2
  refine KB8 NX (Nw (i:Int) ⟨c7,0,none⟩ ⟨c6,0,none⟩ ⟨c2,0,none⟩ ⟨c3,0,none⟩) ?_
  have hm5:=KEO hok 5
  rw [KCJ]at hm5
  dsimp only at hm5
  have hn1:=(KNM hok 0).2
  have hn2:=(KNM hok 1).2
  refine KJn TR hd I R20 k1 k2 k7 (by omega) (by omega) (by omega) (by omega) (by omega) (by omega) (by omega) (by omega) (by omega) (by omega) (by omega) (by omega) hcn (by omega) (Nat.le_trans hn1 (by decide)) (Nat.le_trans hn2 (by decide)) ?_ ?_
  ·intro a' r' n' h21 rr' ho K21 R21 I21 hc21
   exact G1 a' r' n' h21 ho (K21.wkb (fun k hk=>hk.elim .inl (fun hk=>hk.elim (fun e=>.inr (.inl e)) (fun e=>.inr (.inr (by omega)))))) R21 ⟨⟨rr',I21⟩,K21.blk k1 (by omega),K21.blk k2 (by omega),K21.blk k7 (by omega),hc21⟩
  ·intro e h21 ho K21
   exact G2 e h21 ho (K21.wkb (fun k hk=>.inl hk))
 ·rintro i a r' n' h20 hs F20 R20 hi ⟨⟨rr,I⟩,k1,k2,k7,hcn⟩ hsz
  rw [hs]at H1
  have hF:=F20.size
  have k3:=F20.blk g4 (by omega)
  refine ldR I.cell rfl (Zt rfl (stR k3 (Nat.le_refl 6) KFa (fun h21 u21 g21=>?_)))
  have g21:h21[c4]?=some (.cells #[.int .i64 (op:Int),(rr 0).v,(rr 1).v,(rr 2).v,(rr 3).v,(rr 4).v] Zm (0,0)):=by
   have e:lay (#[.int .i64 0,.slice none 0 0,.slice none 0 0,.slice none 0 0,.slice none 0 0,.slice none 0 0]:Array Value) 0 (#[.int .i64 (op:Int),(rr 0).v,(rr 1).v,(rr 2).v,(rr 3).v,(rr 4).v]:Array Value).toList=#[.int .i64 (op:Int),(rr 0).v,(rr 1).v,(rr 2).v,(rr 3).v,(rr 4).v]:=Kp (by rfl)
   rw [←e];exact g21
  refine ldR g21 rfl (KI ?_)
  have hu21:=u21.size
  refine H1 _ r' n' h21 _ rfl ⟨by omega,fun k hk hn=>(u21.ne k (fun e=>hn (.inr (.inr e)))).trans (F20.same k hk (fun e=>e.elim (fun e=>hn (.inl e)) (fun e=>e.elim (fun e=>hn (.inr (.inl e))) (fun e=>by omega))))⟩ (R20.upd u21 (by omega)) ?_
  have hvs:a.vs.length≤9223372036854775807:=by
   have hm5:=KEO hok 5
   rw [KCJ]at hm5
   unfold Ac.cnt at hcn
   dsimp only at hm5
   omega
  refine YX.stay (fun k hk=>u21.ne k (by have:=hk.1;omega)) (fun k hk=>⟨by have:=hk.1;omega,by have:=hk.2;omega⟩) _ _ (I.rep ⟨by show(-9223372036854775808:Int)≤(op:Int);omega,by show(op:Int)≤9223372036854775807;omega⟩ hvs)
 ·intro e h20 hs F20
  rw [hs]at H2
  have hF:=F20.size
  exact H2 e h20 rfl ⟨by omega,fun k hk hn=>F20.same k hk (fun e=>e.elim (fun e=>hn (.inl e)) (fun e=>e.elim (fun e=>hn (.inr (.inl e))) (fun e=>by omega)))⟩
end Gx
namespace Gx
open Go
theorem zr10 (z:Value):zRow #[z,z] (5*2)=#[z,z,z,z,z,z,z,z,z,z]:=by
 apply Array.ext'
 simp [zRow,List.range,List.range.loop]
theorem KNO (a0 a1 a2 a3 a4 a5 a6 a7 a8 a9 z:Value):Instr.fill (fun i=>some (i*2,2)) (zRow #[z,z] (5*2)) [(0,.agg #[a0,a1]),(1,.agg #[a2,a3]),(2,.agg #[a4,a5]),(3,.agg #[a6,a7]),(4,.agg #[a8,a9])]=some #[a0,a1,a2,a3,a4,a5,a6,a7,a8,a9]:=by
 rw [zr10,GX (off:=0) (size:=2) rfl rfl (by simp),GX (off:=2) (size:=2) rfl rfl (by simp [Gv]),GX (off:=4) (size:=2) rfl rfl (by simp [Gv]),GX (off:=6) (size:=2) rfl rfl (by simp [Gv]),GX (off:=8) (size:=2) rfl rfl (by simp [Gv])]
 show some _=some _
 refine congrArg some (Array.ext' ?_)
 simp [lay,Value.cells]
theorem KHr {en d:Nat} (hd:d≤7) (TR:KGv en d) {lo b n c2 c3 c4 c6 op:Nat} {h:Heap} {r:List Tkn} {Q:Value⊕Array Value→Heap→Prop} (R:PRd lo b en h r n)
  (g2:h[c2]?=some (.cells #[.pointer (some ⟨b,0,none⟩)] JF (0,0))) (g3:h[c3]?=some (.cells #[.int .i64 ((8 - d:Nat):Int)] VE (0,0)))
  (g4:h[c4]?=some (.cells (#[.int .i64 0,.slice none 0 0,.slice none 0 0,.slice none 0 0,.slice none 0 0,.slice none 0 0]:Array Value) Zm (0,0))) (g6:h[c6]?=some (.cells #[.int .i64 (op:Int),(Sl.nil:Sl).v,(Sl.nil:Sl).v,(Sl.nil:Sl).v,(Sl.nil:Sl).v,(Sl.nil:Sl).v] Zm (0,0)))
  (l2:lo≤c2) (l3:lo≤c3) (l4:lo≤c4) (l6:lo≤c6) (d2:c2≠c6) (d3:c3≠c6) (d4:c4≠c6) (hop60:op≤60)
  (H1:∀r1 a r' n' h' c,takT en 4 [40] r=.ok r1→KDS en (Xz (op:Int)).least (Xz (op:Int)).most (X1 en (Xz (op:Int)) (GQ en d)) ⟨[],[],[],[],[]⟩ r1 n=.ok (a,r',n')→Km (fun k=>k=b∨k=c6∨k=c4) h h'→PRd lo b en h' r' n'→YX (fun k=>h.size≤k∧k<h'.size) h' (.mk (op:Int) a.ns a.us a.ps a.vs a.ss) c→Q (.inr c) h')
  (H2:∀e h',takT en 4 [40] r=.error e→Kb b h h'→Q (.inl (US e)) h')
  (H3:∀r1 e h',takT en 4 [40] r=.ok r1→KDS en (Xz (op:Int)).least (Xz (op:Int)).most (X1 en (Xz (op:Int)) (GQ en d)) ⟨[],[],[],[],[]⟩ r1 n=.error e→Km (fun k=>k=b∨k=c6∨k=c4) h h'→Q (.inl (US e)) h'):
  (Ja ⟨c2,0,none⟩ ⟨c3,0,none⟩ ⟨c4,0,none⟩ ⟨c6,0,none⟩).wp h Q:=by
 have hbl:=R.bl
 have hlh:=R.lh
 unfold Ja
 refine GV (n:=some ⟨b,0,none⟩) (oneC g2) (Zv (UL (s:=[40]) R (fun r1 h9 hr1 K9 R9=>?_) (fun e h9 hr1 K9=>H2 e h9 hr1 K9)))
 have hz9:=K9.size
 have v1:=K9.blk g2 (by omega)
 have v2:=K9.blk g3 (by omega)
 have v3:=K9.blk g4 (by omega)
 have v6:=K9.blk g6 (by omega)
 refine ZC (n:=(op:Int)) (by rw [add_zero,KP v6];rfl) (KL (KJm (fun h10 e10=>?_)))
 have hok:=KNL (op:Int)
 obtain⟨sh,hsh⟩:∃sh,sh=Xz (op:Int):=⟨_,rfl⟩
 rw [←hsh]at H1 H3 hok⊢
 refine ZV (fun h11 e11 s11 g11=>Zt rfl (stR g11 (by simp [shpV]) (KGr sh) (fun h12 u12 g12=>?_)))
 have g12:h12[h10.size]?=some (.cells (shpV sh) Vc (0,0)):=by
  have e:lay (Array.replicate 10 (.int .i64 0):Array Value) 0 (shpV sh).toList=shpV sh:=Kp (by simp [shpV])
  rw [←e];exact g12
 have E12:Ext h9 h12:=(e10.trans e11).upd u12 e10.size
 refine ZV (fun h13 e13 s13 g13=>Zt rfl (stR g13 (Nat.le_refl 2) (KGw (0,0)) (fun h14 u14 g14=>?_)))
 have g14:h14[h12.size]?=some (.cells (YW (0,0)) ZI (0,0)):=by
  have e:lay (#[.int .i64 0,.int .i64 0]:Array Value) 0 (YW (0,0)).toList=YW (0,0):=Kp (by rfl)
  rw [←e];exact g14
 have E14:Ext h12 h14:=e13.upd u14 (Nat.le_refl _)
 have g12':=E14.blk g12
 have cs7:∀{o j:Nat},j<5→o=j*2→∀m,m<2→KM h14 (((⟨h10.size,0,none⟩:Addr).add o).add m)=(YW (sh.at j))[m]?:=fun {o j} hj ho m hm=>by
  rw [Ke,Ke,KP g12',show 0+o+m=j*2+m by omega];exact KLi sh hj hm
 refine Xc (cs:=YW (sh.at 0)) rfl (cs7 (by decide) (by decide)) (Xc (cs:=YW (sh.at 1)) rfl (cs7 (by decide) (by decide)) (Xc (cs:=YW (sh.at 2)) rfl (cs7 (by decide) (by decide)) (Xc (cs:=YW (sh.at 3)) rfl (cs7 (by decide) (by decide)) (Xc (cs:=YW (sh.at 4)) rfl (cs7 (by decide) (by decide)) (KPd (cs:=shpV sh) (KNO _ _ _ _ _ _ _ _ _ _ _) (Nh ?_))))))
 have e15:=Ext.push h14 (.cells (shpV sh) ZI)
 have g15:(h14.push (.cells (shpV sh) ZI))[h14.size]?=some (.cells (shpV sh) ZI (0,0)):=ZH
 have hs15:(h14.push (.cells (shpV sh) ZI)).size=h14.size+1:=Array.size_push ..
 generalize h14.push (.cells (shpV sh) ZI)=h15 at e15 g15 hs15⊢
 have hz10:=e10.size
 have hz12:=E12.size
 have hz14:=E14.size
 have hlt10:h10.size<h12.size:=JT g12
 have hlt12:h12.size<h14.size:=JT g14
 have E15:Ext h9 h15:=(E12.trans E14).trans e15
 refine M.loop_inv (fun(y:Int) hh=>∃i:Nat,y=(i:Int)∧i≤5∧Km (fun k=>k=h12.size) h15 hh∧hh[h12.size]?=some (.cells (YW (sumT sh i)) ZI (0,0))) (fun y _=>5 - y.toNat) ?_ ⟨0,rfl,Nat.zero_le _,Km.refl _ _,e15.blk g14⟩
 rintro y hh ⟨i,rfl,hi,KK,gc⟩ self hself
 have hzK:=KK.size
 unfold Ur
 refine KY (fun hlt=>?_) (fun hge=>?_)
 ·have hlt:i<5:=by have:=of_decide_eq_true hlt;dsimp only at this;omega
  have g15':=KK.blk g15 (show ¬h14.size=h12.size by omega)
  refine X6 (by omega) (by dsimp only;omega) rfl (Xc (cs:=YW (sh.at i)) rfl (fun m hm=>by rw [Ke,Ke,KP g15',show 0+(i:Int).toNat*2+m=i*2+m by omega];exact KLi sh hlt hm) (ZV (fun h16 e16 s16 g16=>Zt rfl (stR g16 (Nat.le_refl 2) (KGw (sh.at i)) (fun h17 u17 g17=>?_)))))
  have g17:h17[hh.size]?=some (.cells (YW (sh.at i)) ZI (0,0)):=by
   have e:lay (#[.int .i64 0,.int .i64 0]:Array Value) 0 (YW (sh.at i)).toList=YW (sh.at i):=Kp (by rfl)
   rw [←e];exact g17
  have E17:Ext hh h17:=e16.upd u17 (Nat.le_refl _)
  have gc17:=E17.blk gc
  have hcl:=JT gc
  have hsum:=KEO hok i
  have hat:=KNM hok i
  have l60:KM h17 ((⟨h12.size,0,none⟩:Addr).add 0)=some (.int .i64 ((sumT sh i).1:Int)):=by rw [add_zero,KP gc17];rfl
  have l65:KM h17 ((⟨h12.size,0,none⟩:Addr).add 1)=some (.int .i64 ((sumT sh i).2:Int)):=by rw [Ke,KP gc17];rfl
  have l62:KM h17 ((⟨hh.size,0,none⟩:Addr).add 0)=some (.int .i64 ((sh.at i).1:Int)):=by rw [add_zero,KP g17];rfl
  have l67:KM h17 ((⟨hh.size,0,none⟩:Addr).add 1)=some (.int .i64 ((sh.at i).2:Int)):=by rw [Ke,KP g17];rfl
  refine ZC l67 ((fun key=>KL (KD3 (ZC l60 (KD3 (ZC l62 (ZC l65 (KI key))) (ZC l65 (ZC l62 (KI key))))) (KD3 (ZC l62 (KD3 (ZC l60 (ZC l65 (KI key))) (ZC l65 (ZC l60 (KI key))))) (ZC l65 (KD3 (ZC l60 (ZC l62 (KI key))) (ZC l62 (ZC l60 (KI key)))))))) ?_)
  dsimp only
  rw [show((sumT sh i).1:Int)+((sh.at i).1:Int)=((sumT sh (i+1)).1:Int) by rw [sumT];push_cast;rfl,show((sumT sh i).2:Int)+((sh.at i).2:Int)=((sumT sh (i+1)).2:Int) by rw [sumT];push_cast;rfl]
  have hs1:=KEO hok (i+1)
  rw [w64 (n:=((sumT sh (i+1)).1:Int)) (by omega) (by omega),w64 (n:=((sumT sh (i+1)).2:Int)) (by omega) (by omega),w64 (n:=(i:Int)+1) (by omega) (by omega)]
  refine Gu l60 (by rw [Ke];exact ZL gc17) rfl ?_
  rw [show(⟨h12.size,0,none⟩:Addr).add 0=⟨h12.size,0+0,none⟩from rfl]
  have u18:=Upd.hset h17 h12.size (0+0) (.int .i64 ((sumT sh (i+1)).1:Int))
  have g18:=Ul (o:=0+0) (v:=.int .i64 ((sumT sh (i+1)).1:Int)) gc17
  generalize hset h17 ⟨h12.size,0+0,none⟩ (.int .i64 ((sumT sh (i+1)).1:Int))=h18 at u18 g18⊢
  refine X5 (by rw [Ke,KP ((u18.ne _ (by omega)).trans g17)];rfl) ?_
  refine Gu (x:=.int .i64 ((sumT sh i).2:Int)) (by rw [Ke,KP g18];rfl) (by rw [Ke];exact ZL g18) rfl ?_
  rw [show(⟨h12.size,0,none⟩:Addr).add 1=⟨h12.size,0+1,none⟩from rfl]
  have u19:=Upd.hset h18 h12.size (0+1) (.int .i64 ((sumT sh (i+1)).2:Int))
  have g19:=Ul (o:=0+1) (v:=.int .i64 ((sumT sh (i+1)).2:Int)) g18
  generalize hset h18 ⟨h12.size,0+1,none⟩ (.int .i64 ((sumT sh (i+1)).2:Int))=h19 at u19 g19⊢
  have hu18:=u18.size
  have hu19:=u19.size
  have hE17:=E17.size
  refine hself _ _ ⟨i+1,by push_cast;rfl,by omega,⟨by omega,fun k hk hn=>?_⟩,g19⟩ (by omega)
  exact(u19.ne k hn).trans ((u18.ne k hn).trans ((E17.same k (by omega)).trans (KK.same k hk hn)))
 ·have hge:i=5:=by have:=of_decide_eq_false hge;dsimp only at this;omega
  subst hge
  rw [KCJ]at gc
  have hz15:=E15.size
  have KE:Kb b h h15:=K9.trans (Km.ext E15)
  have sm:∀k,k<h.size→k≠b→hh[k]?=h[k]?:=fun k hk hb=>(KK.same k (by omega) (by omega)).trans (KE.same k hk hb)
  have RR:PRd lo b en hh r1 n:=(R9.ext E15).same (by omega) (fun k hk=>KK.same k (by omega) (by omega))
  have y2:=JT g2
  have y3:=JT g3
  have y4:=JT g4
  have y6:=JT g6
  refine KNN hd TR RR hok ((sm c2 y2 (by omega)).trans g2) ((sm c3 y3 (by omega)).trans g3) ((sm c4 y4 (by omega)).trans g4) ((sm c6 y6 (by omega)).trans g6) l2 l3 l4 l6 d2 d3 d4 hop60 (KK.blk (e15.blk g12') (by omega)) gc (by omega) (by omega) ?_ ?_
  ·intro a r' n' h' c hs K' R' S'
   refine H1 r1 a r' n' h' c hr1 hs ⟨by have:=K'.size;omega,fun k hk hn=>(K'.same k (by omega) hn).trans (sm k hk (fun e=>hn (.inl e)))⟩ R' (YX.stay (fun _ _=>rfl) (fun k hk=>⟨by have:=hk.1;omega,hk.2⟩) _ _ S')
  ·intro e h' hs K'
   exact H3 r1 e h' hr1 hs ⟨by have:=K'.size;omega,fun k hk hn=>(K'.same k (by omega) hn).trans (sm k hk (fun e=>hn (.inl e)))⟩
end Gx
namespace Gx
open Go
theorem KEP {en d:Nat} (hd:d≤7) (TR:KGv en d) {lo b n:Nat} {h:Heap} {ts:List Tkn} {Q:Value⊕Array Value→Heap→Prop} (R:PRd lo b en h ts n)
  (H1:∀s r n' h' c,KDV en (GQ en d) ts n=.ok (s,r,n')→Kb b h h'→PRd lo b en h' r n'→YX (HS h h') h' s c→Q (.inr c) h')
  (H2:∀e h',KDV en (GQ en d) ts n=.error e→Kb b h h'→Q (.inl (US e)) h'):(UK (some ⟨b,0,none⟩) ((8 - d:Nat):Int)).wp h Q:=by
 unfold UK
 have hlh:=R.lh
 have hbl:=R.bl
 refine ZV (fun h1 e1 s1 g1=>ZV (fun h2 e2 s2 g2=>ZV (fun h3 e3 s3 g3=>?_)))
 have E3:=(e1.trans e2).trans e3
 have R3:=R.ext E3
 have q1:=e3.blk (e2.blk g1)
 have q2:=e3.blk g2
 refine GV (n:=some ⟨b,0,none⟩) (oneC q1) (KL (Xx R3 (GV (n:=some ⟨b,0,none⟩) (oneC q1) (Zv (YV R3 (fun t r h4 hn K4 R4=>?_) (fun e h4 hn K4=>H2 e h4 (by unfold KDV;rw [hn]) ((Km.ext E3).trans K4)))))))
 unfold KDV at H1 H2
 rw [hn]at H1 H2
 dsimp only at H1 H2
 have hz3:=E3.size
 have hz4:=K4.size
 have p1:=K4.blk q1 (by omega)
 have p2:=K4.blk q2 (by omega)
 have p3:=K4.blk g3 (by omega)
 refine KNI (n:=bs t.s) rfl (KL (KDQ (s:=stW) (by decide) (fun h5 e5=>?_)))
 have hop60:=KFX (splW stW) t.s
 rw [KRA]at hop60
 obtain⟨op,hope⟩:∃op,op=idxW (splW stW) t.s:=⟨_,rfl⟩
 rw [←hope]at H1 H2 hop60⊢
 refine ZV (fun h6 e6 s6 g6=>Zt rfl (stR g6 (Nat.le_refl 6) (KFa (op:=(op:Int)) (x1:=Sl.nil) (x2:=Sl.nil) (x3:=Sl.nil) (x4:=Sl.nil) (x5:=Sl.nil)) (fun h7 u7 g7=>?_)))
 have g7:h7[h5.size]?=some (.cells #[.int .i64 (op:Int),(Sl.nil:Sl).v,(Sl.nil:Sl).v,(Sl.nil:Sl).v,(Sl.nil:Sl).v,(Sl.nil:Sl).v] Zm (0,0)):=by
  have e:lay (#[.int .i64 0,.slice none 0 0,.slice none 0 0,.slice none 0 0,.slice none 0 0,.slice none 0 0]:Array Value) 0 (#[.int .i64 (op:Int),(Sl.nil:Sl).v,(Sl.nil:Sl).v,(Sl.nil:Sl).v,(Sl.nil:Sl).v,(Sl.nil:Sl).v]:Array Value).toList=#[.int .i64 (op:Int),(Sl.nil:Sl).v,(Sl.nil:Sl).v,(Sl.nil:Sl).v,(Sl.nil:Sl).v,(Sl.nil:Sl).v]:=Kp (by rfl)
  rw [←e];exact g7
 have E7:Ext h4 h7:=(e5.trans e6).upd u7 e5.size
 have R7:=R4.ext E7
 have K7:Kb b h h7:=((Km.ext E3).trans K4).trans (Km.ext E7)
 have hz5:=e5.size
 have hz7:h5.size<h7.size:=JT g7
 refine ZC (n:=(op:Int)) (by rw [add_zero,KP g7];rfl) ?_
 rw [eqI,show decide ((op:Int)=0)=decide (op=0)from decide_eq_decide.2 (by omega)]
 refine KY (fun h0=>?_) (fun h0=>?_)
 ·rw [if_pos (of_decide_eq_true h0)]at H2
  exact Zv (Y8 (H2 _ h7 rfl K7))
 rw [if_neg (of_decide_eq_false h0)]at H1 H2
 unfold UD
 have p1':=E7.blk p1
 have p2':=E7.blk p2
 have p3':=E7.blk p3
 obtain⟨x,gx,T,hc,hb⟩:=R7.obj
 have hnb:=R7.nb
 refine GV (n:=some ⟨b,0,none⟩) (oneC p1') (Zi (ZC (n:=(n:Int)) (by rw [Ke,KP gx];rfl) (Zi (Gu (x:=.int .i64 (n:Int)) (by rw [Ke,KP gx];rfl) (by rw [Ke];exact ZL gx) rfl ?_))))
 rw [w64 (by omega) (by omega),Ke,show(n:Int)+1=((n+1:Nat):Int) by push_cast;rfl]
 have u8:=Upd.hset h7 b (0+2) (.int .i64 ((n+1:Nat):Int))
 have g8:=Ul (o:=0+2) (v:=.int .i64 ((n+1:Nat):Int)) gx
 generalize hset h7 ⟨b,0+2,none⟩ (.int .i64 ((n+1:Nat):Int))=h8 at u8 g8⊢
 have K8:Kb b h h8:=K7.trans u8.kb
 have w1:=(u8.ne _ (by omega)).trans p1'
 refine GV (n:=some ⟨b,0,none⟩) (oneC w1) (Zi (ZC (n:=((n+1:Nat):Int)) (by rw [Ke,KP g8];rfl) ?_))
 rw [show decide (((n+1:Nat):Int)>256)=decide (n+1>256)from decide_eq_decide.2 (by omega)]
 refine KY (fun hbig=>?_) (fun hbig=>?_)
 ·rw [if_pos (of_decide_eq_true hbig)]at H2
  exact Zv (Y8 (H2 _ h8 rfl K8))
 have hbig:=of_decide_eq_false hbig
 rw [if_neg hbig]at H1 H2
 have hz8:=u8.size
 have R8:PRd lo b en h8 r (n+1):=⟨⟨x,g8,T.sameB (fun a ha hne=>u8.ne _ (hb a ha hne).1),hc,hb⟩,hbl,by have:=R7.lh;omega,R7.small,R7.good,by omega⟩
 have hlt:=u8.size
 have dn2:=(u8.ne _ (show h1.size≠b by omega)).trans p2'
 have dn3:=(u8.ne _ (show h2.size≠b by omega)).trans p3'
 have dn6:=(u8.ne _ (show h5.size≠b by omega)).trans g7
 refine KHr hd TR R8 w1 dn2 dn3 dn6 (by omega) (by omega) (by omega) (by omega) (by omega) (by omega) (by omega) hop60 ?_ ?_ ?_
 ·intro r1 a r' n' h' c hr1 hs K' R' S'
  rw [hr1]at H1
  dsimp only at H1
  rw [hs]at H1
  have hk8:=K8.size
  exact H1 _ r' n' h' c rfl ⟨by have:=K'.size;omega,fun k hk hn=>(K'.same k (by omega) (fun e=>e.elim hn (fun e=>by omega))).trans (K8.same k hk hn)⟩ R' (YX.stay (fun _ _=>rfl) (fun k hk=>⟨by have:=hk.1;omega,hk.2⟩) _ _ S')
 ·intro e h' hr1 K'
  rw [hr1]at H2
  exact H2 e h' rfl (K8.trans K')
 ·intro r1 e h' hr1 hs K'
  rw [hr1]at H2
  dsimp only at H2
  rw [hs]at H2
  have hk8:=K8.size
  exact H2 e h' rfl ⟨by have:=K'.size;omega,fun k hk hn=>(K'.same k (by omega) (fun e=>e.elim hn (fun e=>by omega))).trans (K8.same k hk hn)⟩
end Gx
namespace Gx
open Go
theorem KLj {en:Nat} {k:Int} {ts r:List Tkn} {t:Tkn} (h:nxT en k ts=.ok (t,r)):r.length<ts.length:=by
 cases ts with
 |nil=>cases h
 |cons t' r'=>
  rw [qE]at h
  split at h
  ·cases h;exact Nat.lt_succ_self _
  ·cases h
theorem KFb {en:Nat} {k:Int} {s:List UInt8} {ts r:List Tkn} (h:takT en k s ts=.ok r):r.length<ts.length:=by
 unfold takT at h
 split at h
 ·next h1=>cases h;exact KGm h1
 ·cases h
theorem KNP {en:Nat} {ts r:List Tkn} {s:List UInt8} (h:KHp en ts=.ok (s,r)):r.length<ts.length:=by
 unfold KHp at h
 split at h
 ·cases h
 ·next t r' h1=>
  split at h
  ·cases h;exact KLj h1
  ·cases h
theorem KPe {en:Nat} {ts r:List Tkn} {m:Int} (h:numT en ts=.ok (m,r)):r.length<ts.length:=by
 unfold numT at h
 split at h
 ·cases h
 ·next t r' h1=>
  split at h
  ·cases h
  ·cases h;exact KLj h1
theorem KIu {σ:Type} {en least:Nat} {one:Nat→σ→List Tkn→Nat→PR σ} (ho:∀i a ts n a' r n',one i a ts n=.ok (a',r,n')→r.length≤ts.length):∀(f i:Nat) (a:σ) (ts:List Tkn) (n:Nat) (a':σ) (r:List Tkn) (n':Nat),KDR en least one f i a ts n=.ok (a',r,n')→r.length≤ts.length
 |0,i,a,ts,n,a',r,n',h=>by
  rw [KDR]at h
  cases h;exact Nat.le_refl _
 |f+1,i,a,ts,n,a',r,n',h=>by
  rw [KDR]at h
  split at h
  ·cases h;exact Nat.le_refl _
  ·split at h
   ·cases h
   ·next ts1 h1=>
    have l1:ts1.length≤ts.length:=by
     split at h1
     ·exact Nat.le_of_lt (KFb h1)
     ·cases h1;exact Nat.le_refl _
    split at h
    ·cases h
    ·next a2 ts2 n2 h2=>
     exact Nat.le_trans (KIu ho f _ _ _ _ _ _ _ h) (Nat.le_trans (ho _ _ _ _ _ _ _ h2) l1)
theorem KIv {σ:Type} {en least most:Nat} {one:Nat→σ→List Tkn→Nat→PR σ} (ho:∀i a ts n a' r n',one i a ts n=.ok (a',r,n')→r.length≤ts.length) {a a':σ} {ts r:List Tkn} {n n':Nat} (h:KDS en least most one a ts n=.ok (a',r,n')):r.length<ts.length:=by
 unfold KDS at h
 split at h
 ·cases h
 ·next a2 ts2 n2 h2=>
  have l2:=KIu ho _ _ _ _ _ _ _ _ h2
  unfold KPb at h
  split at h
  ·cases h
  ·split at h
   ·cases h
   ·next r2 h3=>
    have:=KFb h3
    cases h
    omega
theorem KNQ {en:Nat} {ts r:List Tkn} {n n':Nat} {p:Int×List Vl} (h:KJk en ts n=.ok (p,r,n')):r.length≤ts.length:=by
 unfold KJk at h
 split at h
 ·split at h
  ·cases h
  ·next v r' h1=>have:=KDP _ _ _ _ h1;cases h;omega
 ·split at h
  ·cases h
  ·next r1 h1=>
   have l1:=KFb h1
   have l0:ts.tail.length≤ts.length:=by rw [List.length_tail];omega
   split at h
   ·cases h
   ·next l2 r2 n2 h2=>
    have:=KIv (one:=KGp en) (fun i a ts n a' r n' ho=>by
     unfold KGp at ho
     split at ho
     ·cases ho
     ·next v r' h1=>have:=KDP _ _ _ _ h1;cases ho;omega) h2
    cases h
    omega
theorem KJo {en:Nat} {x:Shp} {tr:List Tkn→Nat→PR (List St)} (ht:∀ts n l r n',tr ts n=.ok (l,r,n')→r.length≤ts.length) (i:Nat) (a:Ac) (ts:List Tkn) (n:Nat) (a':Ac) (r:List Tkn) (n':Nat) (h:X1 en x tr i a ts n=.ok (a',r,n')):r.length≤ts.length:=by
 unfold X1 at h
 split at h
 ·split at h
  ·cases h
  ·next h1=>have:=KNP h1;cases h;omega
 ·split at h
  ·split at h
   ·cases h
   ·next h1=>have:=KPe h1;cases h;omega
  ·split at h
   ·split at h
    ·cases h
    ·next h1=>have:=KNQ h1;cases h;omega
   ·split at h
    ·split at h
     ·cases h
     ·next h1=>have:=KDP _ _ _ _ h1;cases h;omega
    ·split at h
     ·cases h
     ·next h1=>have:=ht _ _ _ _ _ h1;cases h;omega
theorem KFc {en:Nat} {tr:List Tkn→Nat→PR (List St)} (ht:∀ts n l r n',tr ts n=.ok (l,r,n')→r.length≤ts.length) {ts r:List Tkn} {n n':Nat} {s:St} (h:KDV en tr ts n=.ok (s,r,n')):r.length<ts.length:=by
 unfold KDV at h
 split at h
 ·cases h
 ·next t r0 h0=>
  have l0:=KLj h0
  split at h
  ·cases h
  ·split at h
   ·cases h
   ·split at h
    ·cases h
    ·next r1 h1=>
     have l1:=KFb h1
     split at h
     ·cases h
     ·next a r2 n2 h2=>
      have:=KIv (KJo ht) h2
      cases h
      omega
theorem KIw {stp:List Tkn→Nat→PR St} (hs:∀ts n s r n',stp ts n=.ok (s,r,n')→r.length<ts.length):∀(f:Nat) (l:List St) (ts:List Tkn) (n:Nat) (l':List St) (r:List Tkn) (n':Nat),KGu stp f l ts n=.ok (l',r,n')→r.length≤ts.length
 |0,l,ts,n,l',r,n',h=>by rw [KGu]at h;cases h
 |f+1,l,ts,n,l',r,n',h=>by
  rw [KGu]at h
  split at h
  ·split at h
   ·cases h
   ·next s r1 n1 h1=>
    have h2:=hs _ _ _ _ _ h1
    have h3:=KIw hs f _ _ _ _ _ _ h
    rw [List.length_tail]at h2
    omega
  ·cases h;exact Nat.le_refl _
theorem KFd {en:Nat}:∀(d:Nat) (ts:List Tkn) (n:Nat) (l:List St) (r:List Tkn) (n':Nat),GQ en d ts n=.ok (l,r,n')→r.length≤ts.length
 |0,ts,n,l,r,n',h=>by rw [GQ]at h;cases h
 |d+1,ts,n,l,r,n',h=>by
  rw [GQ]at h
  split at h
  ·cases h
  ·next s r1 n1 h1=>
   have h2:=KFc (fun _ _ _ _ _=>KFd d _ _ _ _ _) h1
   have h3:=KIw (fun _ _ _ _ _ h=>KFc (fun _ _ _ _ _=>KFd d _ _ _ _ _) h) _ _ _ _ _ _ _ h
   omega
theorem StR.ones {S:Nat→Prop} {h:Heap} {s:St} {c:Array Value} (H:StR S h s c):c.size=6∧∀u∈c.toList,one u=true:=by
 cases s with
 |mk op names nums preds vals subs=>
  obtain⟨x1,x2,x3,x4,x5,rfl,_⟩:=YX.eq.1 H
  exact⟨rfl,KFa⟩
theorem KEQ {en:Nat}:∀d,d≤8→KGv en d
 |0,_=>by
  intro ts n h Q lo b R H1 H2
  unfold Zo
  exact KY (fun _=>KL (Xx R (Zv (Y8 (H2 _ h rfl (Km.refl _ _)))))) (fun hc=>absurd (of_decide_eq_false hc) (by decide))
 |d+1,hd=>by
  have TR:=KEQ (en:=en) d (by omega)
  intro ts n h Q lo b R H1 H2
  unfold Zo
  rw [show 9 - (d+1)=8 - d by omega]
  refine KY (fun hc=>absurd (of_decide_eq_true hc) (by omega)) (fun _=>?_)
  unfold Z9
  rw [GQ]at H1 H2
  refine Zv (KEP (by omega) TR R (fun s r n' h1 c hs K1 R1 S1=>?_) (fun e h1 hs K1=>H2 e h1 (by rw [hs]) K1))
  rw [hs]at H1 H2
  dsimp only at H1 H2
  have hst:∀{ts n s r n'},KDV en (GQ en d) ts n=.ok (s,r,n')→r.length<ts.length:=fun h=>KFc (fun _ _ _ _ _=>KFd d _ _ _ _ _) h
  have l1:=hst hs
  have hz1:=K1.size
  have sm:=R.small
  have lh:=R.lh
  have bl:=R.bl
  refine GB (StR.ones S1).1 (Nh ?_)
  have e2:=Ext.push h1 (.cells c Zm)
  have g2:(h1.push (.cells c Zm))[h1.size]?=some (.cells c Zm (0,0)):=ZH
  have hs2:(h1.push (.cells c Zm)).size=h1.size+1:=Array.size_push ..
  generalize h1.push (.cells c Zm)=h2 at e2 g2 hs2⊢
  have K2:Kb b h h2:=K1.trans (Km.ext e2)
  have R2:=R1.ext e2
  have G2':RGw StR 6 h.size (fun k=>h.size≤k∧k<h2.size∧¬Sl.on ⟨some ⟨h1.size,0,none⟩,1,1⟩ k) h2 ⟨some ⟨h1.size,0,none⟩,1,1⟩ [c] [s]:=⟨KLh g2 (StR.ones S1).1 hz1,fun x hx=>by simp only [List.mem_cons,List.not_mem_nil,or_false]at hx;subst hx;exact StR.ones S1,rfl,fun j a1 a2=>by
   obtain rfl:j=0:=by simp only [List.length_cons,List.length_nil]at a1;omega
   exact YX.stay (fun k hk=>e2.same k hk.2) (fun k hk=>⟨hk.1,by have:=hk.2;omega,fun ho=>by obtain⟨a,ha,rfl⟩:=ho;cases ha;exact absurd hk.2 (Nat.lt_irrefl _)⟩) _ _ S1⟩
  refine M.loop_inv (fun(x:Sl) hh=>∃(f:Nat) (l:List St) (css:List (Array Value)) (ts':List Tkn) (n1:Nat),ts'.length<f∧l.length+ts'.length≤ts.length∧Kb b h hh∧PRd lo b en hh ts' n1∧RGw StR 6 h.size (fun k=>h.size≤k∧k<hh.size∧¬Sl.on x k) hh x css l∧KGu (KDV en (GQ en d)) f l ts' n1=KGu (KDV en (GQ en d)) (r.length+1) [s] r n') (fun x _=>ts.length+1 - x.len) ?_
   ⟨r.length+1,[s],[c],r,n',by omega,by simp;omega,K2,R2,G2',rfl⟩
  rintro x hh ⟨f,l,css,ts',n1,hf,hl,K,R',G,hL⟩ self hself
  have hxl:x.len=l.length:=G.rlen (by decide)
  obtain⟨f,rfl⟩:∃g,f=g+1:=⟨f - 1,by omega⟩
  rw [KGu]at hL
  have hKs:=K.size
  unfold Ju
  refine KL (KDM R' ?_)
  refine KY (fun hdot=>?_) (fun hdot=>?_)
  ·rw [if_pos hdot]at hL
   have hlt:=KGm hdot
   have htk:takT en 4 [46] ts'=.ok ts'.tail:=by unfold takT;rw [if_pos hdot]
   refine Zv (UL (s:=[46]) R' (fun r3 h3 hr3 K3 R3=>?_) (fun e h3 hr3 K3=>by rw [htk]at hr3;cases hr3))
   rw [htk]at hr3
   cases hr3
   have KK3:=K.trans K3
   refine Zv (KEP (by omega) TR R3 (fun s4 r4 n4 h4 c4 hs4 K4 R4 S4=>?_) (fun e h4 hs4 K4=>H2 e h4 (by rw [←hL,hs4]) (KK3.trans K4)))
   rw [hs4]at hL
   dsimp only at hL
   have l4:=hst hs4
   have KK4:=KK3.trans K4
   have hz4:=K4.size
   have hz3:=K3.size
   have onlt:∀k,Sl.on x k→h.size≤k∧k<hh.size:=fun k hk=>⟨(G.gw.lt hk).2,(G.gw.lt hk).1⟩
   have G4:RGw StR 6 h.size (fun k=>h.size≤k∧k<h4.size∧¬Sl.on x k) h4 x css l:=G.same GP (fun k hk=>(K4.same k (by have:=(onlt k hk).2;omega) (by have:=(onlt k hk).1;omega)).trans (K3.same k (onlt k hk).2 (by have:=(onlt k hk).1;omega))) (fun k hk=>(K4.same k (by have:=hk.2.1;omega) (by have:=hk.1;omega)).trans (K3.same k hk.2.1 (by have:=hk.1;omega))) (fun k hk=>⟨hk.1,by have:=hk.2.1;omega,hk.2.2⟩)
   have S4':StR (fun k=>h.size≤k∧k<h4.size∧¬Sl.on x k) h4 s4 c4:=YX.stay (fun _ _=>rfl) (fun k hk=>⟨by have:=hk.1;omega,hk.2,fun ho=>by have:=(onlt k ho).2;have:=hk.1;omega⟩) _ _ S4
   refine GB (StR.ones S4).1 (KQ7 GP (a:=s4) (sz:=6) (lo:=h.size) (bytes:=128) rfl (by decide) G4 (fun k hk=>hk.2) (StR.ones S4).1 (StR.ones S4).2 S4' (by omega) (by omega) (by omega) (fun h5 x5 G5 hs5 same5 on5=>?_))
   have hx5:x5.len=(l++[s4]).length:=G5.rlen (by decide)
   rw [List.length_append,List.length_singleton]at hx5
   refine hself _ _ ⟨f,l++[s4],css++[c4],r4,n4,by omega,by rw [List.length_append,List.length_singleton];omega,⟨by omega,fun k hk hkb=>(same5 k (by omega) (fun ho=>by have:=(onlt k ho).1;omega)).trans (KK4.same k hk hkb)⟩,R4.same hs5 (fun k hk=>same5 k (by omega) (fun ho=>by have:=(onlt k ho).1;omega)),?_,hL⟩ (by omega)
   exact G5.same GP (fun _ _=>rfl) (fun _ _=>rfl) (fun k hk=>⟨hk.1,by have:=hk.2.1;omega,fun ho=>(on5 k ho).elim hk.2.2 (fun h=>by have:=hk.2.1;omega)⟩)
  ·rw [if_neg (by rw [hdot];decide)]at hL
   refine KI (H1 l ts' n1 hh x hL.symm K R' ?_)
   exact(G.row GP (by decide)).same GP (fun _ _=>rfl) (fun k hk=>hk.elim (fun hk=>⟨hk.1,hk.2.1⟩) (fun ho=>⟨(G.gw.lt ho).2,(G.gw.lt ho).1⟩))
end Gx
namespace Gx
open Go Go.Proofs Go.Shelf Go.RowKit Go.Lib Gx.Last
def NT (p4 p5:Addr):M (Int×Int):=do
 let i←ldI .i64 p4
 let e←ldI .i64 p5
 M.pure (i,e)
def KLk (p4 p5 q:Addr):M Unit:=do
 let x12←ldI .i64 (q.add 0)
 let x14←ldI .i64 (q.add 1)
 stV p4 (.int .i64 x12)
 chk (fun h:Heap=>(KM h (q.add 0)=some (.int .i64 x12))∧(KM h (q.add 1)=some (.int .i64 x14)))
 stV p5 (.int .i64 x14)
 M.pure ()
def qF (p4 p5:Addr) (u:Value):M Unit:=do
 let x←M.get (fun _ (x:Int×Int)=>u=US x)
 let q←mkB WR (#[.int .i64 0,.int .i64 0]:Array Value)
 M.need ((#[.int .i64 x.1,.int .i64 x.2]:Array Value).size=2)
 stG q (#[.int .i64 x.1,.int .i64 x.2]:Array Value)
 KLk p4 p5 q
def KHs (p4 p5:Addr) (n:Int):M (Int×Int):=do
 stV p4 (.int .i64 n)
 stV p5 (.int .i64 0)
 NT p4 p5
def KIx (p4 p5:Addr):M (Int×Int):=do
 let x16←ldI .i64 p4
 let x17←ldI .i64 p5
 stV p4 (.int .i64 x16)
 chk (fun h:Heap=>(KM h p4=some (.int .i64 x16))∧(KM h p5=some (.int .i64 x17)))
 stV p5 (.int .i64 x17)
 NT p4 p5
def prdM (x0:ByteArray) (x1:Value):M (Int×Int):=do
 let p4←mkB VE (#[.int .i64 0]:Array Value)
 let p5←mkB GD (#[.int .i64 0]:Array Value)
 let t←KCj x0
 stV p4 (.int .i64 t.2.1)
 stV p5 (.int .i64 t.2.2)
 let e←ldI .i64 p5
 M.ite (e !=0) (KIx p4 p5) (do
  let r←mkB Nk (#[(t.1:Sl).v,.int .i64 (x0.size:Int),.int .i64 0]:Array Value)
  let v←KCY Go.Proofs.Tryz.prog uEnc x1 [.pointer (some r)]
  match v with
  | .inl u=>qF p4 p5 u>>=fun _=>NT p4 p5
  | .inr _=>do
   let l←ldL (r.add 0)
   M.ite (decide ((l.len:Int)>0)) (do
    let hr←ZN (some r)
    let v←JH hr 160
    match v with
    | .inl u=>qF p4 p5 u>>=fun _=>NT p4 p5
    | .inr _=>M.fail) (KHs p4 p5 (x0.size:Int)))
def KER (r:Int×Int):Value:=.tuple #[.int .i64 r.1,.int .i64 r.2]
theorem KRB:szB Go.Proofs.Tryz.prog 137 2=true:=by kernel_rfl
theorem KNR:Wl Go.Proofs.Tryz.prog 137 0=some 0:=by kernel_rfl
theorem KNS:Wl Go.Proofs.Tryz.prog 137 1=some 1:=by kernel_rfl
theorem KRC:((Go.Proofs.Tryz.prog.info? 139).bind (·.zero))=some (.agg (#[.slice none 0 0,.int .i64 0,.int .i64 0]:Array Value)):=by kernel_rfl
theorem KRD:WA Go.Proofs.Tryz.prog 139=some [(0,1),(1,1),(2,1)]:=by kernel_rfl
theorem KPf:GS Go.Proofs.Tryz.f104 7 [[],[0],[],[2],[1,0,1],[3,4,0,1,2,3,4]] [[],[0],[],[2],[1],[3]] [[],[0],[],[2],[0,1],[0,1,2,3,4]]=true:=by kernel_rfl
theorem KRE:GS Go.Proofs.Tryz.f63 3 [[],[],[0,0],[1,2,0,1,2]] [[],[],[0],[1]] [[],[],[0],[0,1,2]]=true:=by kernel_rfl
theorem N4 {P:Program} {Q:Exit→Act→List Frame→World→Prop} {a:Act} {cs cs':List Frame} {w:World} {id d1:Nat} {ty1:TypeId} {pos1:String} {aft1:Array Edge} {n:Frm} {l:List (Nat×Value)} {v:Value}
  (hE:Env n a l) (hn1:Nat.blt d1 n.size=true) (hv:recoverD cs=some (v,cs')∨(recoverD cs=none∧v=.nilIface∧cs'=cs))
  (h:∀a',Env n a' ((d1,v)::l)→Q .normal a' cs' w):
  (Code.region id #[⟨some d1,.call {callee:=.builtin .recover,args:=#[],argTypes:=#[]},ty1,pos1,aft1,none⟩] false).wpS P Q a cs w:=by
 refine wpS_region ?_
 have hf:=h _ (hE.put d1 v hn1)
 show wpOpsS P _ Q [0] a cs w
 rcases hv with hv|⟨hv,rfl,rfl⟩
 ·simp [wpOpsS,Region.wanted,NK,hv]
  exact hf
 ·simp [wpOpsS,Region.wanted,NK,hv]
  exact hf
abbrev a104 (p4 p5:Addr):Act:={tmps:=#[.pointer (some p4),.pointer (some p5)]++Array.replicate (15 - 2) undef,defers:=[]}
theorem KIy (p4 p5:Addr):Env ⟨15,[]⟩ (a104 p4 p5) [(0,.pointer (some p4)),(1,.pointer (some p5))]:=
 Env.enter (n:=15) #[.pointer (some p4),.pointer (some p5)] _ (Nat.le_of_ble_eq_true rfl) (Z8 ⟨rfl,rfl,trivial⟩)
theorem KNT {p4 p5:Addr} {w:World} {R:Ending→FrameMode→World→Prop} (h:R (.returned (.tuple #[])) .returning w):CallsD Go.Proofs.Tryz.prog 104 #[.pointer (some p4),.pointer (some p5)] .returning w R:=by
 refine callsD_of_wpS Go.Proofs.Tryz.func104 rfl (fun c₀ cs hu=>?_)
 refine wpS_seq (N4 (v:=.nilIface) (cs':=c₀::cs) (KIy p4 p5) rfl (.inr ⟨by simp [recoverD,hu],rfl,rfl⟩) (fun a hE=>?_))
 refine KCE (N:=fun a w'=>w'=w∧Env ⟨15,[]⟩ a [(0,.pointer (some p4))]) (R:=fun _ _=>False) ?_ (fun a w' hh=>?_) (fun _ _ h=>h.elim)
 ·refine J6 ?_
  refine KR (fun K hK_2=>?_)
  refine KC ?_
  refine KB (v:=.bool true) rfl rfl hE rfl (Kk hE rfl rfl (g_ni (b:=true) (.inl ⟨rfl,rfl⟩)) (KFs KIM (.inl ⟨rfl,rfl⟩))) (fun a hE=>?_)
  refine KN ?_
  refine hK_2 _ _ ?_
  refine ZA true hE rfl (fun _=>?_) (fun hb=>by cases hb)
  refine KC ?_
  refine KB (v:=.nilIface) rfl rfl hE rfl (KQ hE rfl) (fun a hE=>?_)
  refine KN ?_
  exact⟨rfl,hE.cut (.cons rfl Subs.nil)⟩
 ·obtain⟨rfl,hE⟩:=hh
  exact⟨hE.defers,.returning,by rw [←hu],_,Kn (rs:=[]) (vs:=[]) hE rfl RV.nil,h⟩
theorem KNU {p4 p5:Addr} {w:World} {u:Value} {Q:Unit→Heap→Prop} {R:Ending→FrameMode→World→Prop} (H:(qF p4 p5 u).wp w.heap Q)
  (h:∀w',Rest w w'→Q () w'.heap→R (.returned (.tuple #[])) (.panicking [{v:=u,recovered:=true}]) w'):CallsD Go.Proofs.Tryz.prog 104 #[.pointer (some p4),.pointer (some p5)] (.panicking [{v:=u,recovered:=false}]) w R:=by
 refine callsD_of_wpS Go.Proofs.Tryz.func104 rfl (fun c₀ cs hu=>?_)
 obtain⟨x,hi,H⟩:=H
 subst hi
 refine wpS_seq (N4 (v:=US x) (cs':={c₀ with mode:=.panicking [{v:=US x,recovered:=true}]}::cs) (KIy p4 p5) rfl (.inl (by simp [recoverD,hu])) (fun a hE=>?_))
 have hR:Rest w w:=Rest.refl w
 refine KCE (N:=fun a w'=>Rest w w'∧Q () w'.heap∧Env ⟨15,[]⟩ a [(0,.pointer (some p4))]) (R:=fun _ _=>False) ?_ (fun a w' hh=>?_) (fun _ _ h=>h.elim)
 ·unfold US at hE
  refine J6 ?_
  refine KR (fun K hK_2=>?_)
  refine KC ?_
  refine KB (v:=.bool false) rfl rfl hE rfl (Kk hE rfl rfl (g_ni (b:=false) (.inr ⟨⟨_,_,rfl⟩,rfl⟩)) (KFs KIM (.inr ⟨⟨_,_,rfl⟩,rfl⟩))) (fun a hE=>?_)
  refine KN ?_
  refine hK_2 _ _ ?_
  refine ZA false hE rfl (fun hb=>by cases hb) (fun _=>?_)
  refine KR (fun K hK_3=>?_)
  refine KC ?_
  refine KB (v:=.tuple #[.agg #[.int .i64 x.1,.int .i64 x.2],.bool true]) rfl rfl hE rfl (KGQ hE rfl Tryz.underlying137) (fun a hE=>?_)
  refine KB (v:=.bool true) rfl rfl hE rfl (JQ hE rfl rfl) (fun a hE=>?_)
  refine KB (v:=.agg #[.int .i64 x.1,.int .i64 x.2]) rfl rfl hE rfl (JQ hE rfl rfl) (fun a hE=>?_)
  refine KN ?_
  refine hK_3 _ _ ?_
  refine ZA true hE rfl (fun _=>?_) (fun hb=>by cases hb)
  refine KR (fun K hK_4=>?_)
  refine KC ?_
  obtain⟨q,hq,H⟩:=H
  refine JM (v:=.pointer (some q)) rfl rfl hE rfl hR (Z0 KQj hq) (fun a w hE hR hh=>?_)
  replace H:=M.at hh H;clear hh
  obtain⟨qz,H⟩:=H
  obtain⟨u_3,qu_3,H⟩:=H
  refine JA rfl rfl hE hR (Kh hE rfl rfl KRB qz qu_3) (fun a w hE hR hh=>?_)
  replace H:=M.at hh H;clear hh
  refine KN ?_
  refine hK_4 _ _ ?_
  replace hE:Env ⟨15,[]⟩ a [(0,.pointer (some p4)),(1,.pointer (some p5)),(3,.pointer (some q))]:=hE.cut (.cons rfl (.cons rfl (.cons rfl Subs.nil)))
  obtain⟨x12,qx12,H⟩:=H
  obtain⟨x14,qx14,H⟩:=H
  have hT:=VT KPf rfl rfl
  refine Jv (fun w:World=>(fun h:Heap=>(KM h ((q).add 0)=some (.int .i64 x12))∧(KM h ((q).add 1)=some (.int .i64 x14))) w.heap) [5] #[false,false,false,false,false,false] mo hR rfl rfl (fun w' e=>by rw [e];exact⟨qx12,qx14⟩) (fun w hh hR hs=>?_)
  replace H:=M.at hh H;clear hh
  refine KG (i:=0) (v:=.pointer (some ((q).add 0))) #[true,false,false,false,false,false] rfl rfl hT (by kernel_rfl) hE rfl (KA rfl) (fun w=>KD hE rfl KNR) (fun a hE=>?_)
  refine KG (i:=2) (v:=.pointer (some ((q).add 1))) #[true,false,true,false,false,false] rfl rfl hT (by kernel_rfl) hE rfl (KA rfl) (fun w=>KD hE rfl KNS) (fun a hE=>?_)
  refine Zs (i:=1) (v:=.int .i64 x12) #[true,true,true,false,false,false] rfl rfl hT (by kernel_rfl) hE rfl (KA rfl) hs (fun w s=>KS hE rfl sc3 s.1) (fun a hE=>?_)
  refine Zs (i:=3) (v:=.int .i64 x14) #[true,true,true,true,false,false] rfl rfl hT (by kernel_rfl) hE rfl (KA rfl) hs (fun w s=>KS hE rfl sc23 s.2) (fun a hE=>?_)
  obtain⟨u_3,qu_3,H⟩:=H
  obtain⟨_,sA,H⟩:=H
  refine KJF (i:=4) #[true,true,true,true,true,false] rfl rfl hT (by kernel_rfl) rfl hE hR (KA rfl) (ZB hE rfl rfl sz3 qu_3)  (fun w' e=>by rw [e];exact sA) (fun a w hE hR hh hs=>?_)
  replace H:=M.at hh H;clear hh
  obtain⟨u_4,qu_4,H⟩:=H
  refine YD (i:=5) #[true,true,true,true,true,true] rfl rfl hT (by kernel_rfl) rfl hE hR (KA rfl) (ZB hE rfl rfl sz23 qu_4)  (fun a w hE hR hh=>?_)
  replace H:=M.at hh H;clear hh
  refine VD hT (by kernel_rfl) ?_
  exact⟨hR,H,hE.cut (.cons rfl Subs.nil)⟩
 ·obtain⟨hR,hq,hE⟩:=hh
  exact⟨hE.defers,_,rfl,_,Kn (rs:=[]) (vs:=[]) hE rfl RV.nil,h _ hR hq⟩
theorem KDW {Q:Int×Int→Heap→Prop} {w0 w:World} {a:Act} {l:List (Nat×Value)} {p4 p5:Addr} {l0:List Deferred} (hE:EnvD l0 38 a l) (h4:look l 4=some (.pointer (some p4))) (h5:look l 5=some (.pointer (some p5))) (hR:Rest w0 w) (H:(NT p4 p5).wp w.heap Q):
  ∃v,(results Tryz.f63 a.tmps).run Tryz.prog w=.ok v w∧∃r,Ending.returned v=.returned (KER r)∧Q r w.heap∧Rest w0 w:=by
 obtain⟨i,qi,H⟩:=H
 obtain⟨e,qe,H⟩:=H
 exact⟨_,Kn (a:={tmps:=a.tmps,defers:=[]}) (rs:=[.cell 4 3,.cell 5 23]) hE.env rfl (RV.cell h4 sc3 qi (RV.cell h5 sc23 qe RV.nil)),(i,e),rfl,H,hR⟩
abbrev dfp (p4 p5:Addr):Deferred:={target:=.fn (.func 104) #[.pointer (some p4),.pointer (some p5)],args:=#[]}
theorem KGx {p4 p5:Addr} {w:World}:(invoke (.fn (.func 104) #[.pointer (some p4),.pointer (some p5)]) #[]).run Tryz.prog w=.ok (.enter 104 #[.pointer (some p4),.pointer (some p5)]) w:=by
 have h:=KJ Tryz.func104 (by kernel_rfl) rfl #[.pointer (some p4),.pointer (some p5)] w
 simp [invoke,h]
theorem KPg {Q:Int×Int→Heap→Prop} {w0 w:World} {a:Act} {l:List (Nat×Value)} {p4 p5:Addr} (hE:EnvD [dfp p4 p5] 38 a l) (h4:look l 4=some (.pointer (some p4))) (h5:look l 5=some (.pointer (some p5))) (hR:Rest w0 w) (H:(NT p4 p5).wp w.heap Q):
  Leaves Tryz.prog Tryz.f63 a.tmps (fun e w'=>∃r,e=.returned (KER r)∧Q r w'.heap∧Rest w0 w') a.defers .returning w:=by
 rw [hE.def_]
 refine leaves_cons (by simp) KGx (KNT ?_)
 exact KDW hE h4 h5 hR H
theorem KLl {Q:Int×Int→Heap→Prop} {w0 w:World} {a:Act} {l:List (Nat×Value)} {p4 p5:Addr} {u:Value} (hE:EnvD [dfp p4 p5] 38 a l) (h4:look l 4=some (.pointer (some p4))) (h5:look l 5=some (.pointer (some p5))) (hR:Rest w0 w) (H:(qF p4 p5 u>>=fun _=>NT p4 p5).wp w.heap Q):
  Leaves Tryz.prog Tryz.f63 a.tmps (fun e w'=>∃r,e=.returned (KER r)∧Q r w'.heap∧Rest w0 w') a.defers (.panicking [{v:=u,recovered:=false}]) w:=by
 rw [hE.def_]
 refine leaves_cons (by simp) KGx (KNU (M.unbind H) (fun w' hR' H'=>?_))
 show Leaves _ _ _ _ [] (settle (.panicking [{v:=u,recovered:=true}])) w'
 exact KDW hE h4 h5 (hR.trans hR') H'
end Gx
namespace Gx
open Go Go.Proofs Go.Shelf Go.RowKit Go.Lib Gx.Last
section
variable {P:Program} {ops:Array Oper} {Q:Exit→Act→World→Prop} {a:Act} {w w0:World} {l:List (Nat×Value)} {rest:List Oper} {o:Oper} {ds:List Deferred} {m:Nat}
theorem KOI {d:Option Nat} {f:FuncId} {as':Array Operand} {ts:Array TypeId} {ty:TypeId} {pos:String} {aft:Array Edge} {vs:List Value} {ρ:Type} {enc:ρ→Value} {F:M ρ} {Qx:ρ→Heap→Prop}
  (hE:EnvD ds m a l) (hR:Rest w0 w) (hc:Callee? P f) (ha:opvs l as'.toList=some vs) (hS:ZG P f vs.toArray enc F) (H:F.wp w.heap Qx)
  (h:∀r a' w',a'=a.put d (enc r)→Rest w0 w'→Qx r w'.heap→wpListIn (Fw none) 1 P ops Q rest a' w'):
  wpListIn (Fw none) 1 P ops Q (⟨d,.call {callee:=.value (.func f),args:=as',argTypes:=ts},ty,pos,aft,none⟩::rest) a w:=by
 refine wpListIn_plain rfl fun K' hK=>⟨fun _ _=>trivial,?_⟩
 have hrun:(execOp a.eval ⟨d,.call {callee:=.value (.func f),args:=as',argTypes:=ts},ty,pos,aft,none⟩).run P w=.ok (.enter f vs.toArray) w:=Nb (a:={tmps:=a.tmps,defers:=[]}) hE.env hc ha
 rw [zo hrun (fun d h=>by cases h),Oper.uponIn_enter]
 refine⟨fun _=>Nat.le_refl 1,YY ((hS w _ H).mono ?_)⟩
 rintro e w' ⟨r,he,hq,hr⟩
 subst he
 exact hK _ _ (h r _ w' rfl (hR.trans hr) hq)
theorem KNV {d:Option Nat} {x:Operand} {as':Array Operand} {ts:Array TypeId} {ty:TypeId} {pos:String} {aft:Array Edge} {v:Value} {vs:List Value} {ρ:Type} {enc:ρ→Value} {Qx:Value⊕ρ→Heap→Prop}
  (hE:EnvD ds m a l) (hR:Rest w0 w) (hx:opv l x=some v) (ha:opvs l as'.toList=some vs) (H:(KCY P enc v vs).wp w.heap Qx)
  (hp:∀v w',Rest w0 w'→Qx (.inl v) w'.heap→Q (.panic [{v:=v,recovered:=false}]) a w')
  (h:∀r a' w',a'=a.put d (enc r)→Rest w0 w'→Qx (.inr r) w'.heap→wpListIn (Fw none) 1 P ops Q rest a' w'):
  wpListIn (Fw none) 1 P ops Q (⟨d,.call {callee:=.value x,args:=as',argTypes:=ts},ty,pos,aft,none⟩::rest) a w:=by
 obtain⟨f,cap,rfl,hc,hC⟩:=H w rfl
 refine wpListIn_plain rfl fun K' hK=>⟨fun _ _=>trivial,?_⟩
 have hrun:(execOp a.eval ⟨d,.call {callee:=.value x,args:=as',argTypes:=ts},ty,pos,aft,none⟩).run P w=.ok (.enter f (vs.toArray++cap)) w:=KEb (a:={tmps:=a.tmps,defers:=[]}) hE.env hx hc ha
 rw [zo hrun (fun d h=>by cases h),Oper.uponIn_enter]
 refine⟨fun _=>Nat.le_refl 1,YY (hC.mono ?_)⟩
 rintro e w' ⟨r,he,hq,hr⟩
 cases r with
 |inl v=>subst he;exact hp v w' (hR.trans hr) hq
 |inr r=>subst he;exact hK _ _ (h r _ w' rfl (hR.trans hr) hq)
end
theorem KRF (x0:ByteArray) (x1:Value):ZG Go.Proofs.Tryz.prog VJ #[.string x0,x1] KER (prdM x0 x1):=by
 intro W0 Q H
 refine calls_of_wp_defers Go.Proofs.Tryz.func63 rfl ?_
 refine(fun hs=>wpIn_wide.1 hs) (?_:Code.wpIn (Fw none) 1 _ _ _ _ _)
 have hE0:Env ⟨38,[]⟩ {tmps:=#[.string x0,x1]++Array.replicate (38 - 2) undef,defers:=[]} [(0,.string x0),(1,x1)]:=Env.enter (n:=38) #[.string x0,x1] _ (Nat.le_of_ble_eq_true rfl) (Z8 ⟨rfl,rfl,trivial⟩)
 have hE:EnvD [] 38 {tmps:=#[.string x0,x1]++Array.replicate (38 - 2) undef,defers:=[]} [(0,.string x0),(1,x1)]:=⟨hE0,rfl⟩
 have hR:Rest W0 W0:=Rest.refl W0
 obtain⟨p4,q4,H⟩:=H
 refine wpIn_seq (Uo ?_)
 refine KCa (v:=.pointer (some p4)) rfl rfl hE rfl hR (fun b hE=>Z0 zr3 q4) (fun a w1 hE hR hh=>?_)
 replace H:=M.at hh H;clear hh
 obtain⟨p5,q5,H⟩:=H
 refine KCa (v:=.pointer (some p5)) rfl rfl hE rfl hR (fun b hE=>Z0 zr23 q5) (fun a w1 hE hR hh=>?_)
 replace H:=M.at hh H;clear hh
 refine z8 ?_
 refine wpIn_seq (Uo ?_)
 refine VI (v:=.string x0) rfl rfl hE rfl (fun b hE=>KF hE rfl) (fun a hE=>?_)
 refine KOI hE hR KJQ rfl (KKj x0) (M.unbind H) (fun t a1 w1 ea hR H=>?_)
 replace hE:EnvD [] 38 a1 _:=ea▸hE.put 10 (.tuple #[(t.1:Sl).v,.int .i64 t.2.1,.int .i64 t.2.2]) rfl
 refine VI (v:=.tuple #[(t.1:Sl).v,.int .i64 t.2.1,.int .i64 t.2.2]) rfl rfl hE rfl (fun b hE=>KF hE rfl) (fun a hE=>?_)
 refine VI (v:=(t.1:Sl).v) rfl rfl hE rfl (fun b hE=>JQ hE rfl rfl) (fun a hE=>?_)
 refine VI (v:=.int .i64 t.2.1) rfl rfl hE rfl (fun b hE=>JQ hE rfl rfl) (fun a hE=>?_)
 refine VI (v:=.int .i64 t.2.2) rfl rfl hE rfl (fun b hE=>JQ hE rfl rfl) (fun a hE=>?_)
 refine VI (v:=(t.1:Sl).v) rfl rfl hE rfl (fun b hE=>KQ hE rfl) (fun a hE=>?_)
 obtain⟨u_6,qu_6,H⟩:=H
 refine KFx rfl rfl hE hR (fun b hE=>ZB hE rfl rfl sz3 qu_6) (fun a w hE hR hh=>?_)
 replace H:=M.at hh H;clear hh
 obtain⟨u_7,qu_7,H⟩:=H
 refine KFx rfl rfl hE hR (fun b hE=>ZB hE rfl rfl sz23 qu_7) (fun a w hE hR hh=>?_)
 replace H:=M.at hh H;clear hh
 replace hE:EnvD [] 38 a [(0,.string x0),(1,x1),(4,.pointer (some p4)),(5,.pointer (some p5)),(6,(t.1:Sl).v)]:=⟨hE.env.cut (.cons rfl (.cons rfl (.cons rfl (.cons rfl (.cons rfl Subs.nil))))),hE.def_⟩
 refine z8 ?_
 obtain⟨e,qe,H⟩:=H
 refine wpIn_seq (wpIn_mono (Q:=Exit.then (fun a w1=>EnvD [] 38 a [(0,.string x0),(1,x1),(4,.pointer (some p4)),(5,.pointer (some p5)),(6,(t.1:Sl).v)]∧Rest W0 w1∧w1.heap=w.heap∧(e !=0)=false)
  (bodyPostD Tryz.prog Tryz.f63 (fun e w'=>∃r,e=.returned (KER r)∧Q r w'.heap∧Rest W0 w'))) ?_ ?_)
 ·refine wpIn_seq (Uo ?_)
  refine VI (v:=.int .i64 e) rfl rfl hE rfl (fun b hE=>KS hE rfl sc23 qe) (fun a hE=>?_)
  refine VI (v:=.bool (e !=0)) rfl rfl hE rfl (fun b hE=>Kk hE rfl rfl Ki KDZ) (fun a hE=>?_)
  refine z8 ?_
  refine KKZ (e !=0) hE rfl (fun hb=>?_) (fun hb=>?_)
  ·replace H:=M.ite_t hb H
   obtain⟨x16,qx16,H⟩:=H
   obtain⟨x17,qx17,H⟩:=H
   refine wpIn_seq (wpIn_mono (Q:=Ps (fun a w'=>Env ⟨38,[]⟩ a [(4,.pointer (some p4)),(5,.pointer (some p5))]∧Rest W0 w'∧(NT p4 p5).wp w'.heap Q) X0 (fun _ _=>False)) ?_ ?_)
   ·have hE':Env ⟨38,[]⟩ a [(4,.pointer (some p4)),(5,.pointer (some p5))]:=by
     have h1:=hE.env.cut (l':=[(4,.pointer (some p4)),(5,.pointer (some p5))]) (.cons rfl (.cons rfl Subs.nil))
     have h2:=hE.def_
     cases a
     cases h2
     exact h1
    replace hE:=hE'
    have hT:=VT KRE rfl rfl
    refine Jv (fun w:World=>(fun h:Heap=>(KM h p4=some (.int .i64 x16))∧(KM h p5=some (.int .i64 x17))) w.heap) [3] #[false,false,false,false] mo hR rfl rfl (fun w' e=>by rw [e];exact⟨qx16,qx17⟩) (fun w hh hR hs=>?_)
    replace H:=M.at hh H;clear hh
    refine Zs (i:=0) (v:=.int .i64 x16) #[true,false,false,false] rfl rfl hT (by kernel_rfl) hE rfl (KA rfl) hs (fun w s=>KS hE rfl sc3 s.1) (fun a hE=>?_)
    refine Zs (i:=1) (v:=.int .i64 x17) #[true,true,false,false] rfl rfl hT (by kernel_rfl) hE rfl (KA rfl) hs (fun w s=>KS hE rfl sc23 s.2) (fun a hE=>?_)
    obtain⟨u_3,qu_3,H⟩:=H
    obtain⟨_,sA,H⟩:=H
    refine KJF (i:=2) #[true,true,true,false] rfl rfl hT (by kernel_rfl) rfl hE hR (KA rfl) (ZB hE rfl rfl sz3 qu_3)  (fun w' e=>by rw [e];exact sA) (fun a w hE hR hh hs=>?_)
    replace H:=M.at hh H;clear hh
    obtain⟨u_4,qu_4,H⟩:=H
    refine YD (i:=3) #[true,true,true,true] rfl rfl hT (by kernel_rfl) rfl hE hR (KA rfl) (ZB hE rfl rfl sz23 qu_4)  (fun a w hE hR hh=>?_)
    replace H:=M.at hh H;clear hh
    refine VD hT (by kernel_rfl) ?_
    exact⟨hE.cut (.cons rfl (.cons rfl Subs.nil)),hR,H⟩
   ·intro e' a w hh
    cases e' with
    |normal=>
     obtain⟨hE,hR,H⟩:=hh
     refine wpIn_ret ?_
     show Leaves _ _ _ _ a.defers .returning w
     rw [hE.defers]
     exact KDW (l0:=[]) (l:=[(4,.pointer (some p4)),(5,.pointer (some p5))]) ⟨by have h2:=hE.defers;cases a;cases h2;exact hE,hE.defers⟩ rfl rfl hR H
    |exit i=>exact hh.2.elim
    |ret=>exact hh.elim
    |goto l=>exact hh.elim
    |panic c=>obtain⟨_,_,hh⟩:=hh;exact hh.elim
    |outgrown=>exact hh.elim
  ·refine wpIn_skip ?_
   exact⟨⟨hE.env.cut (.cons rfl (.cons rfl (.cons rfl (.cons rfl (.cons rfl Subs.nil))))),hE.def_⟩,hR,rfl,hb⟩
 ·intro e' a w2 hh
  cases e' with
  |normal=>
   obtain⟨hE,hR,hh2,hb⟩:=hh
   replace H:=M.ite_f hb H
   replace H:=M.at hh2 H;clear hh2
   refine wpIn_seq (Uo ?_)
   refine VI (v:=.func (.func 104) #[] #[.pointer (some p4),.pointer (some p5)]) rfl rfl hE rfl (fun b hE=>GU hE rfl) (fun a hE=>?_)
   refine KKY hE rfl (fun a hE=>?_)
   replace hE:EnvD [dfp p4 p5] 38 a [(0,.string x0),(1,x1),(4,.pointer (some p4)),(5,.pointer (some p5)),(6,(t.1:Sl).v)]:=⟨hE.env.cut (.cons rfl (.cons rfl (.cons rfl (.cons rfl (.cons rfl Subs.nil))))),hE.def_⟩
   refine z8 ?_
   refine wpIn_seq (Uo ?_)
   refine VI (v:=(t.1:Sl).v) rfl rfl hE rfl (fun b hE=>KF hE rfl) (fun a hE=>?_)
   refine VI (v:=.string x0) rfl rfl hE rfl (fun b hE=>KF hE rfl) (fun a hE=>?_)
   refine VI (v:=.int .i64 (x0.size:Int)) rfl rfl hE rfl (fun b hE=>Yg hE rfl un9') (fun a hE=>?_)
   refine VI (v:=.agg (#[(t.1:Sl).v,.int .i64 (x0.size:Int),.int .i64 0]:Array Value)) rfl rfl hE rfl (fun b hE=>Vs hE rfl KRC KRD (by rfl)) (fun a hE=>?_)
   obtain⟨r,qr,H⟩:=H
   refine KCa (v:=.pointer (some r)) rfl rfl hE rfl hR (fun b hE=>KFj hE rfl qr) (fun a w1 hE hR hh=>?_)
   replace H:=M.at hh H;clear hh
   refine VI (v:=.pointer (some r)) rfl rfl hE rfl (fun b hE=>KQ hE rfl) (fun a hE=>?_)
   replace hE:EnvD [dfp p4 p5] 38 a [(0,.string x0),(1,x1),(4,.pointer (some p4)),(5,.pointer (some p5)),(7,.pointer (some r))]:=⟨hE.env.cut (.cons rfl (.cons rfl (.cons rfl (.cons rfl (.cons rfl Subs.nil))))),hE.def_⟩
   refine z8 ?_
   refine wpIn_seq (Uo ?_)
   refine VI (v:=x1) rfl rfl hE rfl (fun b hE=>KF hE rfl) (fun a hE=>?_)
   refine VI (v:=.pointer (some r)) rfl rfl hE rfl (fun b hE=>KF hE rfl) (fun a hE=>?_)
   refine KNV hE hR rfl rfl (M.unbind H) (fun u w1 hR H=>?_) (fun cs a1 w1 ea hR H=>?_)
   ·exact KLl hE rfl rfl hR H
   replace hE:EnvD [dfp p4 p5] 38 a1 _:=ea▸hE.put 26 (uEnc cs) rfl
   replace hE:EnvD [dfp p4 p5] 38 a1 [(0,.string x0),(4,.pointer (some p4)),(5,.pointer (some p5)),(7,.pointer (some r))]:=⟨hE.env.cut (.cons rfl (.cons rfl (.cons rfl (.cons rfl Subs.nil)))),hE.def_⟩
   refine z8 ?_
   obtain⟨sl,qsl,H⟩:=H
   refine wpIn_seq (wpIn_mono (Q:=Exit.then (fun a w1=>EnvD [dfp p4 p5] 38 a [(0,.string x0),(4,.pointer (some p4)),(5,.pointer (some p5))]∧Rest W0 w1∧(KHs p4 p5 (x0.size:Int)).wp w1.heap Q)
    (bodyPostD Tryz.prog Tryz.f63 (fun e w'=>∃r,e=.returned (KER r)∧Q r w'.heap∧Rest W0 w'))) ?_ ?_)
   ·refine wpIn_seq (Uo ?_)
    refine VI (v:=.pointer (some r)) rfl rfl hE rfl (fun b hE=>KF hE rfl) (fun a hE=>?_)
    refine VI (v:=.pointer (some r)) rfl rfl hE rfl (fun b hE=>KO hE rfl) (fun a hE=>?_)
    refine VI (v:=.pointer (some (r.add 0))) rfl rfl hE rfl (fun b hE=>KD hE rfl YO) (fun a hE=>?_)
    refine VI (v:=(sl:Sl).v) rfl rfl hE rfl (fun b hE=>KS hE rfl sc22 qsl) (fun a hE=>?_)
    refine VI (v:=.int .i64 (sl.len:Int)) rfl rfl hE rfl (fun b hE=>KAy hE rfl 29 un22) (fun a hE=>?_)
    refine VI (v:=.bool (decide ((sl.len:Int)>0))) rfl rfl hE rfl (fun b hE=>Kk hE rfl rfl Ki qv) (fun a hE=>?_)
    refine z8 ?_
    refine KKZ (decide ((sl.len:Int)>0)) hE rfl (fun hb=>?_) (fun hb=>?_)
    ·replace H:=M.ite_t hb H
     refine Uo ?_
     refine VI (v:=.pointer (some r)) rfl rfl hE rfl (fun b hE=>KF hE rfl) (fun a hE=>?_)
     refine KOI hE hR ZX rfl (Zg (some r)) (M.unbind H) (fun i a1 w1 ea hR H=>?_)
     replace hE:EnvD [dfp p4 p5] 38 a1 _:=ea▸hE.put 34 (.int .i64 i) rfl
     refine KHG hE hR JB rfl (Ji i 160) (M.unbind H) (fun u w1 hR H=>?_) (fun cs a1 w1 ea hR H=>H.elim)
     exact KLl hE rfl rfl hR H
    ·replace H:=M.ite_f hb H
     refine wpIn_skip ?_
     exact⟨⟨hE.env.cut (.cons rfl (.cons rfl (.cons rfl Subs.nil))),hE.def_⟩,hR,H⟩
   ·intro e a w hh
    cases e with
    |normal=>
     obtain⟨hE,hR,H⟩:=hh
     obtain⟨u_6,qu_6,H⟩:=H
     refine wpIn_seq (Uo ?_)
     refine VI (v:=.string x0) rfl rfl hE rfl (fun b hE=>KF hE rfl) (fun a hE=>?_)
     refine VI (v:=.int .i64 (x0.size:Int)) rfl rfl hE rfl (fun b hE=>Yg hE rfl un9') (fun a hE=>?_)
     refine KFx rfl rfl hE hR (fun b hE=>ZB hE rfl rfl sz3 qu_6) (fun a w hE hR hh=>?_)
     replace H:=M.at hh H;clear hh
     obtain⟨u_7,qu_7,H⟩:=H
     refine KFx rfl rfl hE hR (fun b hE=>ZB hE rfl rfl sz23 qu_7) (fun a w hE hR hh=>?_)
     replace H:=M.at hh H;clear hh
     refine z8 ?_
     refine wpIn_ret ?_
     exact KPg hE rfl rfl hR H
    |exit i=>exact hh
    |ret=>exact hh
    |goto l=>exact hh
    |panic c=>exact hh
    |outgrown=>exact hh
  |exit i=>exact hh
  |ret=>exact hh
  |goto l=>exact hh
  |panic c=>exact hh
  |outgrown=>exact hh
end Gx
namespace Gx
open Go
def prdP {α:Type} (f:Nat→List Tkn→Nat→Except (Int×Int) (α×List Tkn×Nat)) (s:List UInt8):(Int×Int)×Option α:=
 if(lexP s).2.2≠0 then((((lexP s).2.1:Int),(lexP s).2.2),none)else
 match f s.length (lexP s).1 0 with
 | .error e=>(e,none)
 | .ok (a,r,_)=>if r=[]then(((s.length:Int),0),some a)else((GO s.length r,160),none)
theorem KLm {p4 p5:Nat} {x:Int×Int} {v4 v5:Int} {h:Heap} {Q:Int×Int→Heap→Prop} (g4:h[p4]?=some (.cells #[.int .i64 v4] VE (0,0))) (g5:h[p5]?=some (.cells #[.int .i64 v5] GD (0,0))) (hne:p4≠p5)
  (H:∀h',Km (fun k=>k=p4∨k=p5) h h'→Q x h'):(qF ⟨p4,0,none⟩ ⟨p5,0,none⟩ (US x)>>=fun _=>NT ⟨p4,0,none⟩ ⟨p5,0,none⟩).wp h Q:=by
 unfold qF
 refine Kf ⟨x,rfl,?_⟩
 have y4:=JT g4
 have y5:=JT g5
 refine Kf (ZV (fun h1 e1 s1 g1=>Kf (Zt rfl (Kf (stR g1 (Nat.le_refl 2) (by intro u hu;simp only [List.mem_cons,List.not_mem_nil,or_false]at hu;rcases hu with rfl|rfl<;>rfl) (fun h2 u2 g2=>?_))))))
 have g2:h2[h.size]?=some (.cells #[.int .i64 x.1,.int .i64 x.2] WR (0,0)):=by
  have e:lay (#[.int .i64 0,.int .i64 0]:Array Value) 0 (#[.int .i64 x.1,.int .i64 x.2]:Array Value).toList=#[.int .i64 x.1,.int .i64 x.2]:=Kp (by rfl)
  rw [←e];exact g2
 have q4:=(u2.ne _ (by omega)).trans (e1.blk g4)
 have q5:=(u2.ne _ (by omega)).trans (e1.blk g5)
 unfold KLk
 have l0:KM h2 ((⟨h.size,0,none⟩:Addr).add 0)=some (.int .i64 x.1):=by rw [add_zero,KP g2];rfl
 have l1:KM h2 ((⟨h.size,0,none⟩:Addr).add 1)=some (.int .i64 x.2):=by rw [Ke,KP g2];rfl
 refine Kf (ZC l0 (Kf (ZC l1 (Kf (stO q4 rfl (fun h3 u3 k3=>Kf (X5 ?_ (Kf (stO ((u3.ne _ (by omega)).trans q5) rfl (fun h4 u4 k4=>ZM ?_))))))))))
 ·have g3:=(u3.ne _ (by omega)).trans g2
  exact⟨by rw [add_zero,KP g3];rfl,by rw [Ke,KP g3];rfl⟩
 ·unfold NT
  refine ZC (oneC ((u4.ne _ (by omega)).trans k3)) (ZC (oneC k4) (KI (H h4 ⟨by have:=e1.size;rw [u4.size,u3.size,u2.size];omega,fun k hk hn=>?_⟩)))
  exact(u4.ne k (fun e=>hn (.inr e))).trans ((u3.ne k (fun e=>hn (.inl e))).trans ((u2.ne k (by omega)).trans (e1.same k hk)))
theorem TkR.off {h:Heap} {x:Sl} {ts:List Tkn} (T:TkR h x ts) (hne:ts≠[]) {a:Addr} (ha:x.base=some a):a.block<h.size∧∀(k:Nat) (v:Value) (ty:TypeId),h[k]?=some (.cells #[v] ty (0,0))→a.block≠k:=by
 cases ts with
 |nil=>exact absurd rfl hne
 |cons t r=>
  obtain⟨a',ha',hc⟩:=T.at (i:=0) (by simp)
  rw [ha]at ha'
  cases ha'
  have h0:=hc 0 (by decide)
  have h1:=hc 1 (by decide)
  rw [show(t::r)[0].cells=#[.int .i64 t.k,.string (bs t.s),.int .i64 t.n,.int .i64 t.a]from rfl]at h0 h1
  refine⟨?_,fun k v ty hk hak=>?_⟩
  ·have:=XT h0
   rwa [JS,JS]at this
  ·unfold KM at h1
   rw [JS,JS,hak,hk]at h1
   dsimp only at h1
   split at h1
   ·cases h1
   ·rw [show((a.add (0*4)).add 1).off=a.off+0*4+1 from rfl]at h1
    rw [Array.getElem?_eq_none (by simp)]at h1
    cases h1
theorem KIz {α:Type} {f:Nat→List Tkn→Nat→Except (Int×Int) (α×List Tkn×Nat)} {s:List UInt8} {cv:Value} {c:Nat} {h:Heap} {Q:Int×Int→Heap→Prop} (I:α→Heap→Prop) (he:ErrV h) (hcs:c<h.size)
  (hI:∀a ha hb,I a ha→ha.size≤hb.size→(∀k,k<ha.size→k≠h.size→k≠h.size+1→hb[k]?=ha[k]?)→I a hb)
  (hcb:∀(lo b:Nat) (h1:Heap) (Q1:Value⊕Unit→Heap→Prop),Ext h h1→h.size+2≤b→PRd lo b s.length h1 (lexP s).1 0→
   (∀a r n' h2,f s.length (lexP s).1 0=.ok (a,r,n')→Km (fun k=>k=b∨k=c) h1 h2→PRd lo b s.length h2 r n'→I a h2→Q1 (.inr ()) h2)→
   (∀e h2,f s.length (lexP s).1 0=.error e→Km (fun k=>k=b∨k=c) h1 h2→Q1 (.inl (US e)) h2)→(KCY Go.Proofs.Tryz.prog uEnc cv [.pointer (some ⟨b,0,none⟩)]).wp h1 Q1)
  (H1:∀a h',prdP f s=(((s.length:Int),0),some a)→Km (fun k=>k=c) h h'→I a h'→Q ((s.length:Int),0) h')
  (H2:∀x h',prdP f s=(x,none)→Km (fun k=>k=c) h h'→Q x h'):(prdM (bs s) cv).wp h Q:=by
 unfold prdM
 unfold prdP at H1 H2
 refine ZV (fun h1 e1 s1 g1=>ZV (fun h2 e2 s2 g2=>KL (KNF (he.ext (e1.trans e2)) (fun h3 t e3 T htc=>?_))))
 have E3:=(e1.trans e2).trans e3
 have hz1:=e1.size
 have q1:=e3.blk (e2.blk g1)
 have q2:=e3.blk g2
 have hs1:h1.size=h.size+1:=s1
 have hs2:h2.size=h1.size+1:=s2
 have hz3:=e3.size
 refine stO q1 rfl (fun h4 u4 k4=>stO ((u4.ne _ (by omega)).trans q2) rfl (fun h5 u5 k5=>?_))
 have k4':=(u5.ne _ (by omega)).trans k4
 have hz5:h5.size=h3.size:=by rw [u5.size,u4.size]
 have sm5:∀k,k<h3.size→k≠h.size→k≠h1.size→h5[k]?=h3[k]?:=fun k hk a1 a2=>(u5.ne k a2).trans (u4.ne k a1)
 refine ZC (oneC k5) (KY (fun hne=>?_) (fun heq=>?_))
 ·have hne:(lexP s).2.2≠0:=by simpa using hne
  rw [if_pos hne]at H2
  unfold KIx
  refine ZC (oneC k4') (ZC (oneC k5) (stO k4' rfl (fun h6 u6 k6=>X5 ⟨oneC k6,oneC ((u6.ne _ (by omega)).trans k5)⟩ (stO ((u6.ne _ (by omega)).trans k5) rfl (fun h7 u7 k7=>?_)))))
  unfold NT
  refine ZC (oneC ((u7.ne _ (by omega)).trans k6)) (ZC (oneC k7) (KI (H2 _ h7 rfl ⟨by rw [u7.size,u6.size];omega,fun k hk hn=>?_⟩)))
  exact(u7.ne k (by omega)).trans ((u6.ne k (by omega)).trans ((sm5 k (by omega) (by omega) (by omega)).trans (E3.same k hk)))
 ·have h0:(lexP s).2.2=0:=by simpa using heq
  rw [if_neg (by rw [h0];simp)]at H1 H2
  obtain⟨hsl,hlx,htl,_⟩:=KPV h0
  refine ZV (fun h6 e6 s6 g6=>?_)
  have hs6:h6.size=h5.size+1:=s6
  have E6:Ext h h6:=⟨by omega,fun k hk=>(e6.same k (by omega)).trans ((sm5 k (by omega) (by omega) (by omega)).trans (E3.same k hk))⟩
  have hoff:=fun hne a ha=>TkR.off T (hne:(lexP s).1≠[]) (a:=a) ha
  have T6:TkR h6 t (lexP s).1:=T.sameB (fun a ha hne=>(e6.same _ (by have:=(hoff hne a ha).1;omega)).trans (sm5 _ (hoff hne a ha).1 ((hoff hne a ha).2 _ _ _ q1) ((hoff hne a ha).2 _ _ _ q2)))
  have hgood:∀u∈(lexP s).1,tokB u=true∧I64 u.n:=by
   rw [hlx]
   exact fun u hu=>⟨(KEJ s u hu).1,KLZ s u hu⟩
  have R6:PRd (h5.size+1) h5.size s.length h6 (lexP s).1 0:=⟨⟨t,by rw [Zc]at g6;exact g6,T6,htc,fun a ha hne=>⟨by have:=(hoff hne a ha).1;omega,by have:=(hoff hne a ha).1;omega⟩⟩,by omega,by omega,by rw [hlx];exact Nat.le_trans htl (by decide),hgood,by decide⟩
  have kk4:=e6.blk k4'
  have kk5:=e6.blk k5
  refine KL (hcb (h5.size+1) h5.size h6 _ E6 (by omega) R6 (fun a r n' h7 hf K7 R7 I7=>?_) (fun e h7 hf K7=>?_))
  ·rw [hf]at H1 H2
   dsimp only at H1 H2⊢
   have hz7:=K7.size
   have m4:=K7.blk kk4 (by omega)
   have m5:=K7.blk kk5 (by omega)
   have K07:Km (fun k=>k=c) h h7:=⟨by omega,fun k hk hn=>(K7.same k (by omega) (by omega)).trans (E6.same k hk)⟩
   obtain⟨x,gx,Tx,hxc,_⟩:=R7.obj
   have hxl:=Tx.1
   refine Jm (n:=x) (by rw [Ke,KP gx];rfl) (KY (fun hgt=>?_) (fun hle=>?_))
   ·have hgt:=of_decide_eq_true hgt
    have hr:¬r=[]:=fun e=>by subst e;rw [List.length_nil]at hxl;omega
    rw [if_neg hr]at H2
    refine KL (Xx R7 (KL ?_))
    unfold JH
    refine KI ?_
    exact KLm (x:=(GO s.length r,160)) m4 m5 (by omega) (fun h8 K8=>H2 _ h8 rfl ⟨by have:=K8.size;omega,fun k hk hn=>(K8.same k (by omega) (by omega)).trans (K07.same k hk hn)⟩)
   ·have hle:=of_decide_eq_false hle
    have hr:r=[]:=List.eq_nil_of_length_eq_zero (by omega)
    rw [if_pos hr]at H1
    unfold KHs NT
    rw [Zc]
    refine stO m4 rfl (fun h8 u8 k8=>stO ((u8.ne _ (by omega)).trans m5) rfl (fun h9 u9 k9=>ZC (oneC ((u9.ne _ (by omega)).trans k8)) (ZC (oneC k9) (KI (H1 a h9 rfl ?_ ?_)))))
    ·exact⟨by rw [u9.size,u8.size];omega,fun k hk hn=>(u9.ne k (by omega)).trans ((u8.ne k (by omega)).trans (K07.same k hk hn))⟩
    ·exact hI a h7 h9 I7 (by rw [u9.size,u8.size];exact Nat.le_refl _) (fun k hk a1 a2=>(u9.ne k (by omega)).trans (u8.ne k (by omega)))
  ·rw [hf]at H2
   dsimp only at H2⊢
   have hz7:=K7.size
   have m4:=K7.blk kk4 (by omega)
   have m5:=K7.blk kk5 (by omega)
   exact KLm (x:=e) m4 m5 (by omega) (fun h8 K8=>H2 _ h8 rfl ⟨by have:=K8.size;omega,fun k hk hn=>(K8.same k (by omega) (by omega)).trans ((K7.same k (by omega) (by omega)).trans (E6.same k hk))⟩)
end Gx
namespace Gx
open Go
def valF (en:Nat) (ts:List Tkn) (n:Nat):Except (Int×Int) (Vl×List Tkn×Nat):=match valT en 8 ts with
 | .error e=>.error e
 | .ok (v,r)=>.ok (v,r,n)
def parF (en:Nat) (ts:List Tkn) (n:Nat):Except (Int×Int) (List St×List Tkn×Nat):=match takT en 1 [103] ts with
 | .error e=>.error e
 | .ok r1=>match takT en 4 [46] r1 with
  | .error e=>.error e
  | .ok r2=>GQ en 8 r2 n
def KPh (cs:Array Value):Prop:=∀(o:Nat) (t:Tkn),(∀j,j<4→cs[o+j]?=t.cells[j]?)→False
theorem KRG (v:Value):KPh #[v]:=fun o t hh=>by
 have h1:=hh 1 (by decide)
 rw [Array.getElem?_eq_none (by simp)]at h1
 cases h1
theorem KRH:KPh vz:=fun o t hh=>by
 have h3:=hh 3 (by decide)
 have h1:=hh 1 (by decide)
 cases o with
 |zero=>cases h1
 |succ o=>
  rw [Array.getElem?_eq_none (by show 4≤o+1+3;omega)]at h3
  cases h3
theorem PRd.updc {lo b en n c:Nat} {h h':Heap} {r:List Tkn} {cs:Array Value} {ty:TypeId} (R:PRd lo b en h r n) (u:Upd c h h') (hcb:b≠c) (g:h[c]?=some (.cells cs ty (0,0))) (hn:KPh cs):PRd lo b en h' r n:=by
 obtain⟨x,gx,T,hc,hb⟩:=R.obj
 refine⟨⟨x,(u.ne _ hcb).trans gx,T.sameB (fun a ha hne=>u.ne _ (fun hac=>?_)),hc,hb⟩,R.bl,by rw [u.size];exact R.lh,R.small,R.good,R.nb⟩
 cases r with
 |nil=>exact hne rfl
 |cons t r=>
  obtain⟨a',ha',hcc⟩:=T.at (i:=0) (by simp)
  rw [ha]at ha'
  cases ha'
  refine hn a.off t (fun j hj=>?_)
  have h1:=hcc j hj
  rw [show(t::r)[0]=t from rfl]at h1
  unfold KM at h1
  rw [JS,JS,hac,g]at h1
  dsimp only at h1
  split at h1
  ·have h2:t.cells[j]?=some t.cells[j]:=Array.getElem?_eq_getElem (show j<4 from hj)
   rw [h2]at h1
   cases h1
  ·rw [←h1]
   by_cases hj0:j=0
   ·subst hj0;simp [Addr.add]
   ·simp [Addr.add,hj0]
theorem KHt {s:List UInt8} {h:Heap} {Q:Array Value×Int×Int→Heap→Prop} (he:ErrV h) (hz:∀x,prdP valF s=(x,none)→x.2≠0)
  (H1:∀v h' c,prdP valF s=(((s.length:Int),0),some v)→Ext h h'→JE (HS h h') h' v c→Q (c,(s.length:Int),0) h')
  (H2:∀x h',prdP valF s=(x,none)→Ext h h'→Q (vz,x.1,x.2) h'):(Xj (bs s)).wp h Q:=by
 unfold Xj
 refine ZV (fun h1 e1 s1 g1=>ZV (fun h2 e2 s2 g2=>KL (GI (KRF _ _) ?_)))
 have E2:=e1.trans e2
 have hz1:=e1.size
 have hs1:h1.size=h.size+1:=s1
 have hs2:h2.size=h1.size+1:=s2
 have k1:=e2.blk g1
 refine KIz (f:=valF) (c:=h1.size) (fun v ha=>∃c,ha[h1.size]?=some (.cells c KH (0,0))∧JE (fun k=>h2.size+2≤k∧k<ha.size) ha v c) (he.ext E2) (by omega) ?_ ?_ ?_ ?_
 ·rintro v ha hb ⟨c,g,V⟩ hsz hk
  exact⟨c,(hk _ (JT g) (by omega) (by omega)).trans g,(V.same (fun k hh=>hk k hh.2 (by have:=hh.1;omega) (by have:=hh.1;omega))).mono (fun k hh=>⟨hh.1,by have:=hh.2;omega⟩)⟩
 ·intro lo b h3 Q1 e3 hb R G1 G2
  refine KB8 KBv (KCv (some ⟨b,0,none⟩) ⟨h1.size,0,none⟩) ?_
  unfold NE
  unfold valF at G1 G2
  have hbl:=R.lt
  have hlo:=R.bl
  refine Zv (NN _ 8 (Nat.le_refl _) _ 0 h3 _ lo b R (fun v r h4 c hv K4 R4 V4=>?_) (fun e h4 hv K4=>G2 e h4 (by rw [hv]) (K4.wkb (fun k hk=>.inl hk))))
  rw [hv]at G1
  have hz4:=K4.size
  have g4:=K4.blk (e3.blk g2) (show ¬h1.size=b by omega)
  refine Zt V4.size (stR g4 (by rw [V4.size];exact Nat.le_refl 4) V4.to.one (fun h5 u5 g5=>KI (G1 v r 0 h5 rfl ?_ (R4.updc u5 (by omega) g4 KRH) ⟨c,?_,?_⟩)))
  ·exact⟨by rw [u5.size];exact hz4,fun k hk hn=>(u5.ne k (fun e=>hn (.inr e))).trans (K4.same k hk (fun e=>hn (.inl e)))⟩
  ·have e:lay vz 0 c.toList=c:=by rw [Kp (by rw [Array.length_toList,V4.size];rfl)]
   rw [←e];exact g5
  ·exact(V4.same (fun k hk=>u5.ne k (by have:=hk.1;have:=R.lh;omega))).mono (fun k hk=>⟨by have:=hk.1;omega,by have:=hk.2;rw [u5.size];omega⟩)
 ·rintro v h' hv K ⟨c,g,V⟩
  have hzk:=K.size
  have E':Ext h h':=⟨by omega,fun k hk=>(K.same k (by omega) (by omega)).trans (E2.same k hk)⟩
  refine iteF rfl (ldR g V.size (Zt V.size ?_))
  have k1':=K.blk k1 (show ¬h.size=h1.size by omega)
  refine stR k1' (by rw [V.size];exact Nat.le_refl 4) V.to.one (fun h5 u5 g5=>?_)
  have g5:h5[h.size]?=some (.cells c KH (0,0)):=by
   have e:lay vz 0 c.toList=c:=by rw [Kp (by rw [Array.length_toList,V.size];rfl)]
   rw [←e];exact g5
  refine ldR g5 V.size (KI (H1 v h5 c hv (E'.upd u5 (Nat.le_refl _)) ?_))
  exact(V.same (fun k hk=>u5.ne k (by have:=hk.1;omega))).mono (fun k hk=>⟨by have:=hk.1;omega,by have:=hk.2;rw [u5.size];omega⟩)
 ·intro x h' hx K
  have hzk:=K.size
  have E':Ext h h':=⟨by omega,fun k hk=>(K.same k (by omega) (by omega)).trans (E2.same k hk)⟩
  refine iteT (by simpa using hz x hx) (Zt rfl ?_)
  have k1':=K.blk k1 (show ¬h.size=h1.size by omega)
  refine stR k1' (Nat.le_refl 4) (Zy 0 0 [] Sl.nil) (fun h5 u5 g5=>?_)
  have g5:h5[h.size]?=some (.cells vz KH (0,0)):=by
   have e:lay vz 0 (vz:Array Value).toList=vz:=by rw [Kp (by rfl)]
   rw [←e];exact g5
  exact ldR g5 rfl (KI (H2 x h5 hx (E'.upd u5 (Nat.le_refl _))))
theorem KDX {s:List UInt8} {h:Heap} {Q:Sl×Int×Int→Heap→Prop} (he:ErrV h) (hz:∀x,prdP parF s=(x,none)→x.2≠0)
  (H1:∀l h' x,prdP parF s=(((s.length:Int),0),some l)→Ext h h'→Xy (HS h h') h' x l→Q (x,(s.length:Int),0) h')
  (H2:∀x h',prdP parF s=(x,none)→Ext h h'→Q (Sl.nil,x.1,x.2) h'):(YQ (bs s)).wp h Q:=by
 unfold YQ
 refine ZV (fun h2 e2 s2 g2=>KL (GI (KRF _ _) ?_))
 have hs2:h2.size=h.size+1:=s2
 refine KIz (f:=parF) (c:=h.size) (fun l ha=>∃x:Sl,ha[h.size]?=some (.cells #[x.v] YZ (0,0))∧Xy (fun k=>h2.size+2≤k∧k<ha.size) ha x l) (he.ext e2) (by omega) ?_ ?_ ?_ ?_
 ·rintro l ha hb ⟨x,g,V⟩ hsz hk
  exact⟨x,(hk _ (JT g) (by omega) (by omega)).trans g,RowS.same GP V (fun k hh=>hk k hh.2 (by have:=hh.1;omega) (by have:=hh.1;omega)) (fun k hh=>⟨hh.1,by have:=hh.2;omega⟩)⟩
 ·intro lo b h3 Q1 e3 hb R G1 G2
  refine KB8 KBu (KCq (some ⟨b,0,none⟩) ⟨h.size,0,none⟩) ?_
  unfold NC
  unfold parF at G1 G2
  have hbl:=R.lt
  have hlo:=R.bl
  have hlh:=R.lh
  refine Zv (KEK (s:=[103]) R (fun r1 h4 h1t K4 R4=>?_) (fun e h4 h1t K4=>G2 e h4 (by rw [h1t]) (K4.wkb (fun k hk=>.inl hk))))
  rw [h1t]at G1 G2
  dsimp only at G1 G2
  refine Zv (UL (s:=[46]) R4 (fun r2 h5 h2t K5 R5=>?_) (fun e h5 h2t K5=>G2 e h5 (by rw [h2t]) ((K4.trans K5).wkb (fun k hk=>.inl hk))))
  rw [h2t]at G1 G2
  dsimp only at G1 G2
  refine Zv (KEQ 8 (Nat.le_refl _) _ 0 h5 _ lo b R5 (fun l r n' h6 x hl K6 R6 V6=>?_) (fun e h6 hl K6=>G2 e h6 hl (((K4.trans K5).trans K6).wkb (fun k hk=>.inl hk))))
  have K46:=(K4.trans K5).trans K6
  have hz46:=K46.size
  have hz4:=(K4.trans K5).size
  have g6:=K46.blk (e3.blk g2) (show ¬h.size=b by omega)
  refine stO g6 (qy _) (fun h7 u7 g7=>KI (G1 l r n' h7 hl ?_ (R6.updc u7 (by omega) g6 (KRG _)) ⟨x,g7,?_⟩))
  ·exact⟨by rw [u7.size];exact hz46,fun k hk hn=>(u7.ne k (fun e=>hn (.inr e))).trans (K46.same k hk (fun e=>hn (.inl e)))⟩
  ·exact RowS.same GP V6 (fun k hk=>u7.ne k (by have:=hk.1;omega)) (fun k hk=>⟨by have:=hk.1;omega,by have:=hk.2;rw [u7.size];omega⟩)
 ·rintro l h' hv K ⟨x,g,V⟩
  have hzk:=K.size
  refine iteF rfl (Jm (oneC g) (KI (H1 l h' x hv ⟨by omega,fun k hk=>(K.same k (by omega) (by omega)).trans (e2.same k hk)⟩ ?_)))
  exact RowS.same GP V (fun _ _=>rfl) (fun k hk=>⟨by have:=hk.1;omega,hk.2⟩)
 ·intro x h' hx K
  have hzk:=K.size
  exact iteT (by simpa using hz x hx) (KI (H2 x h' hx ⟨by omega,fun k hk=>(K.same k (by omega) (by omega)).trans (e2.same k hk)⟩))
end Gx
namespace Gx
open Go
def bgA:List UInt8:=[103,46,86,40,49,41,46,111,117,116,40,39,107,110,111,119,115,39,41,46,104,97,115,40,39,97,103,101,39,44,103,116,40,51,48,41,41,46,99,111,117,110,116,40,41]
def bgB:List UInt8:=[103,46,86,40]
theorem KR5:(prdP parF bgA).1=(45,0)∧(prdP parF bgA).2.map List.length=some 4:=by
 constructor<;>kernel_rfl
theorem KR6:(prdP parF bgB).1=(4,160)∧(prdP parF bgB).2.map List.length=none:=by
 constructor<;>kernel_rfl
def KNW (l:List (List UInt8)) (n:Int):List UInt8:=if n<1∨n>(l.length:Int)then []else l[(n - 1).toNat]?.getD []
theorem KLn {s:List UInt8} {n:Int} {h:Heap} {Q:ByteArray→Heap→Prop} (hs:s.length≤1000000) (H:∀h',Ext h h'→Q (bs (KNW (splW s) n)) h'):(Ga (bs s) n).wp h Q:=by
 unfold Ga
 have h1:=KCI s
 have h2:Lib.countByte s 32≤s.length:=List.count_le_length
 refine KL (KEM (by omega) (fun h1 x e1 hx hr=>?_))
 have H:=H h1 e1
 unfold KNW at H
 rw [hx]
 have done:n<1∨n>((splW s).length:Int)→Q ByteArray.empty h1:=fun hc=>by rw [if_pos hc]at H;exact H
 refine KKQ (fun hlt=>ZM (iteT rfl (KI (done (.inl (of_decide_eq_true hlt)))))) (fun hge=>ZM ?_)
 have hge:=of_decide_eq_false hge
 refine KY (fun hgt=>KI (done (.inr (of_decide_eq_true hgt)))) (fun hle=>?_)
 have hle:=of_decide_eq_false hle
 rw [if_neg (by omega)]at H
 have hlt:(n - 1).toNat<(splW s).length:=by omega
 rw [w64 (by omega) (by omega)]
 rcases hr with h0|⟨a,ha,hr⟩
 ·exfalso
  have:=congrArg List.length h0
  simp at this
  rw [this]at hlt
  simp at hlt
 ·have hg:=hr (n - 1).toNat (sv ((splW s)[(n - 1).toNat])) (by rw [List.getElem?_map,List.getElem?_eq_getElem hlt];rfl)
  refine X6 (by omega) (by omega) ha (Yh (n:=bs ((splW s)[(n - 1).toNat])) (by rw [Nat.mul_one];exact hg) (KI ?_))
  rw [List.getElem?_eq_getElem hlt]at H
  exact H
theorem KLo {n:Int} {h:Heap} {Q:ByteArray→Heap→Prop} (H:∀h',Ext h h'→Q (bs (KNW (splW stW) n)) h'):(Gc n).wp h Q:=by
 unfold Gc
 exact KL (KLn (s:=stW) (by decide) (fun h' e=>KI (H h' e)))
theorem KPi:KNW (splW stW) 47=[111,114,100,101,114,66,121,68,101,115,99]:=by kernel_rfl
theorem KBl {h:Heap} {Q:Bool→Heap→Prop} (he:ErrV h) (H:∀h',Ext h h'→Q true h'):(UI).wp h Q:=by
 unfold UI
 obtain⟨a1,a2⟩:=KR5
 obtain⟨b1,b2⟩:=KR6
 refine KL (KDX (s:=bgA) he (fun x hx=>by rw [hx]at a2;cases a2) (fun l h1 x hp e1 S=>?_) (fun x h1 hp e1=>by rw [hp]at a2;cases a2))
 refine KL (KDX (s:=bgB) (he.ext e1) (fun x hx=>by rw [hx]at b1;dsimp only at b1;rw [b1];decide) (fun l h2 x hp e1 S=>by rw [hp]at b2;cases b2) (fun y h2 hp2 e2=>?_))
 rw [hp]at a2
 rw [hp2]at b1
 dsimp only at b1
 subst b1
 have hl:l.length=4:=by simpa using a2
 have hx:x.len=4:=S.1.trans hl
 have hc1:((x.len:Int)==4)=true:=by rw [hx];rfl
 refine Y9 hc1 (ZM (Y9 rfl (ZM (Y9 rfl (ZM (Y9 rfl (ZM (Y9 rfl (Kf (KL (KLo (fun h3 e3=>ZM (KI ?_)))))))))))))
 rw [KPi,show sEq (bs [111,114,100,101,114,66,121,68,101,115,99]) ⟨#[111,114,100,101,114,66,121,68,101,115,99]⟩=true from(KD9 (a:=[111,114,100,101,114,66,121,68,101,115,99]) (b:=[111,114,100,101,114,66,121,68,101,115,99])).trans (decide_eq_true rfl)]
 exact H _ ((e1.trans e2).trans e3)
end Gx
namespace Gx
open Go
def layT:List (List UInt8×Tkn)→List UInt8
 | []=>[]
 |x::r=>x.1++(tkT x.2++layT r)
def KGy (t:Tkn):List (List UInt8×Tkn)→Prop
 | []=>True
 |y::_=>t.k=1∨t.k=2→y.1≠[]∨y.2.k=4
def YC:List (List UInt8×Tkn)→Prop
 | []=>True
 |x::r=>(∀c∈x.1,U8 c=true)∧tokB x.2=true∧NumT x.2∧KGy x.2 r∧YC r
theorem KJp {c:UInt8} (h:U8 c=true):N2 c=false:=by
 revert h
 refine qD (p:=fun c=>U8 c=true→N2 c=false) (by decide+kernel) c
theorem KPj {t:Tkn} {r:List (List UInt8×Tkn)} (ha:KGy t r) (hg:YC r) (hk:t.k=1∨t.k=2):∀c,(layT r).head?=some c→N2 c=false:=by
 intro c hc
 cases r with
 |nil=>cases hc
 |cons y r=>
  obtain⟨g1,g2,_⟩:=hg
  rw [layT]at hc
  cases hy:y.1 with
  |cons d w=>
   rw [hy]at hc
   cases hc
   exact KJp (g1 c (by rw [hy];simp))
  |nil=>
   rw [hy]at hc
   obtain⟨d,w,hd,_,hw⟩:=KIk g2
   rw [List.nil_append,hd]at hc
   cases hc
   exact hw ((ha hk).resolve_left (fun e=>e hy))
theorem KLp {s:List UInt8}:∀(l:List (List UInt8×Tkn)) (a:Nat),a≤s.length→s.drop a=layT l→YC l→(allT s a).1.map keyT=l.map (fun x=>keyT x.2)∧(allT s a).2=s.length
 | [],a,ha,hd,_=>by
  have:s.length≤a:=List.drop_eq_nil_iff.1 hd
  have hn:Gl s a=none:=by unfold Gl;rw [KDD this,if_neg (by omega)]
  rw [Gm hn,KDD this]
  exact⟨rfl,by dsimp only;omega⟩
 |(sep,t)::l,a,ha,hd,hg=>by
  obtain⟨hs,ht,hn,hap,hg'⟩:=hg
  rw [layT]at hd
  dsimp only at hs ht hn hap hd
  have hnx:=KNE hd hs ht hn (KPj hap hg')
  have hlt:=NL ha hnx
  rw [Gp ha hnx]
  obtain⟨i1,i2⟩:=KLp l (a+sep.length+(tkT t).length) hlt.2 (by rw [←List.drop_drop,←List.drop_drop,hd,List.drop_left,List.drop_left]) hg'
  exact⟨by rw [List.map_cons,List.map_cons,i1];rfl,i2⟩
theorem YC.app:∀{a b:List (List UInt8×Tkn)},YC a→YC b→(∀y r,b=y::r→y.1≠[]∨y.2.k=4)→YC (a++b)
 | [],b,_,hb,_=>hb
 |x::a,b,ha,hb,hc=>by
  obtain⟨h1,h2,h3,h4,h5⟩:=ha
  refine⟨h1,h2,h3,?_,YC.app h5 hb hc⟩
  cases a with
  |cons y a=>exact h4
  |nil=>
   cases b with
   |nil=>trivial
   |cons y r=>exact fun _=>hc y r rfl
theorem KFe:∀(a b:List (List UInt8×Tkn)),layT (a++b)=layT a++layT b
 | [],b=>rfl
 |x::a,b=>by rw [List.cons_append,layT,layT,KFe a b,List.append_assoc,List.append_assoc]
def mk4 (c:UInt8):Tkn:=⟨4,[c],0,0⟩
def shwT (ev od:UInt8):List (List UInt8→List (List UInt8×Tkn))→List UInt8→List (List UInt8×Tkn)
 | [],_=>[]
 | [a],sep=>a sep
 |a::b::r,sep=>a sep++(([],mk4 ev)::shwT od ev (b::r) [32])
def XX:Nat→Vl→List UInt8→List (List UInt8×Tkn)
 |0,_,_=>[]
 |d+1,.mk k n s l,sep=>
  if k=1 then [(sep,⟨2,[],n,0⟩)]else if k=2 then [(sep,⟨3,s,0,0⟩)]else if k=3 then [(sep,⟨1,if n=1 then KBW else KDO,0,0⟩)]
  else if k=6 then [(sep,⟨1,[118],0,0⟩),([],mk4 91),([],⟨2,[],n,0⟩),([],mk4 93)]else if k=7 then [(sep,⟨1,[101],0,0⟩),([],mk4 91),([],⟨2,[],n,0⟩),([],mk4 93)]
  else if k=4 then(sep,mk4 91)::(shwT 44 44 (l.map (XX d)) []++[([],mk4 93)])else if k=5 then(sep,mk4 123)::(shwT 58 44 (l.map (XX d)) []++[([],mk4 125)])else []
theorem KGz (c:UInt8) (h:Xw c=true):tkT (mk4 c)=[c]:=by
 have ht:tokB (mk4 c)=true:=by simp [tokB,mk4,KLC,h]
 rw [XV ht]
 rfl
theorem KLq {ev od:UInt8}:∀(l:List (List UInt8→List (List UInt8×Tkn))) (ts:List (List UInt8)) (sep:List UInt8) (ev od:UInt8),Xw ev=true→Xw od=true→l.length=ts.length→(∀i (h1:i<l.length) (h2:i<ts.length) (sep:List UInt8),layT (l[i] sep)=sep++ts[i])→
  l≠[]→layT (shwT ev od l sep)=sep++shw [ev,32] [od,32] ts
 | [],ts,sep,ev,od,_,_,hl,H,hne=>absurd rfl hne
 | [a],ts,sep,ev,od,_,_,hl,H,_=>by
  match ts,hl with
  | [t],_=>exact H 0 (by simp) (by simp) sep
 |a::b::r,ts,sep,ev,od,he,ho,hl,H,_=>by
  match ts,hl with
  |t::u::q,hl=>
   have ih:=KLq (ev:=ev) (od:=od) (b::r) (u::q) [32] od ev ho he (by simpa using hl) (fun i h1 h2 sep=>H (i+1) (by simpa using h1) (by simpa using h2) sep) (by simp)
   have h0:=H 0 (by simp) (by simp) sep
   rw [show(a::b::r)[0]=a from rfl,show(t::u::q)[0]=t from rfl]at h0
   rw [shwT,KFe,h0,layT,ih,shw,KGz ev he]
   simp
end Gx
namespace Gx
open Go
theorem KLr {d:Nat} {l:List Vl} (h:l.all (mayV d)=true):∀x∈l,mayV d x=true:=List.all_eq_true.1 h
theorem tkI (n:Int):tokB ⟨2,[],n,0⟩=true:=by simp [tokB]
theorem tkS {s:List UInt8} (h:s.length≤128):tokB ⟨3,s,0,0⟩=true:=by simp [tokB,h]
theorem tkW {s:List UInt8} (h:KDB s=true):tokB ⟨1,s,0,0⟩=true:=by simp [tokB,h]
theorem tkM {c:UInt8} (h:Xw c=true):tokB (mk4 c)=true:=by simp [tokB,mk4,KLC,h]
theorem KI0:∀(d:Nat) (v:Vl) (sep:List UInt8),mayV d v=true→layT (XX d v sep)=sep++txt d v
 |0,v,sep,h=>by simp [mayV]at h
 |d+1,.mk k n s l,sep,h=>by
  have two:∀(ev:UInt8) (a b:UInt8),Xw ev=true→Xw a=true→Xw b=true→l.all (mayV d)=true→layT ((sep,mk4 a)::(shwT ev 44 (l.map (XX d)) []++[([],mk4 b)]))=sep++([a]++shw [ev,32] [44,32] (l.map (txt d))++[b]):=fun ev a b h1 h2 h3 hall=>by
   have hi:layT (shwT ev 44 (l.map (XX d)) [])=shw [ev,32] [44,32] (l.map (txt d)):=by
    by_cases hl:l=[]
    ·subst hl;rfl
    ·have:=KLq (ev:=0) (od:=0) (l.map (XX d)) (l.map (txt d)) [] ev 44 h1 (by decide) (by simp) (fun i a1 a2 sp=>by
      rw [List.getElem_map,List.getElem_map]
      exact KI0 d _ sp (KLr hall _ (List.getElem_mem _))) (by simpa using hl)
     rw [this,List.nil_append]
   rw [layT,KFe,hi]
   simp only [layT,KGz a h2,KGz b h3,List.append_nil,List.nil_append,List.append_assoc]
  have ref:∀(c:UInt8),KDB [c]=true→layT [(sep,(⟨1,[c],0,0⟩:Tkn)),([],mk4 91),([],⟨2,[],n,0⟩),([],mk4 93)]=sep++([c,91]++Lib.itoa n++[93]):=fun c hc=>by
   simp only [layT,KGz 91 (by decide),KGz 93 (by decide),XV (tkI n),XV (tkW hc)]
   simp
  rw [mayV]at h
  rw [XX,txt]
  split at h
  ·next hk=>rw [if_pos hk,if_pos hk];simp only [layT,XV (tkI n)];simp
  ·next hk1=>
   rw [if_neg hk1,if_neg hk1]
   split at h
   ·next hk=>
    subst hk
    simp only [↓reduceIte,Int.reduceEq]
    have hw:KDB (if n=1 then KBW else KDO)=true:=by split<;>decide
    simp only [layT,XV (tkW hw)]
    simp
   ·next hk3=>
    split at h
    ·next hk=>
     rcases hk with rfl|rfl
     ·simp only [↓reduceIte,Int.reduceEq]
      exact ref 118 (by decide)
     ·simp only [↓reduceIte,Int.reduceEq]
      exact ref 101 (by decide)
    ·next hk67=>
     split at h
     ·next hk=>
      subst hk
      simp only [↓reduceIte]
      simp only [Bool.and_eq_true,decide_eq_true_eq]at h
      simp only [layT,XV (tkS h.2)]
      simp
     ·next hk2=>
      rw [if_neg hk2,if_neg hk2,if_neg hk3,if_neg hk3,if_neg (fun e=>hk67 (.inl e)),if_neg (fun e=>hk67 (.inl e)),if_neg (fun e=>hk67 (.inr e)),if_neg (fun e=>hk67 (.inr e))]
      split at h
      ·next hk=>
       rw [if_pos hk,if_pos hk]
       simp only [Bool.and_eq_true]at h
       exact two 44 91 93 (by decide) (by decide) (by decide) h.2.2
      ·next hk4=>
       rw [if_neg hk4,if_neg hk4]
       split at h
       ·next hk=>
        rw [if_pos hk,if_pos hk]
        simp only [Bool.and_eq_true]at h
        exact two 58 123 125 (by decide) (by decide) (by decide) h.2.2
       ·cases h
end Gx
namespace Gx
open Go
theorem KHu {t:Tkn} (h:t.k≠2):NumT t:=fun e=>absurd e h
theorem nM (c:UInt8):NumT (mk4 c):=KHu (show(4:Int)≠2 by decide)
theorem n1 (s:List UInt8):NumT ⟨1,s,0,0⟩:=KHu (show(1:Int)≠2 by decide)
theorem n3 (s:List UInt8):NumT ⟨3,s,0,0⟩:=KHu (show(3:Int)≠2 by decide)
theorem YC.cons {x:List UInt8×Tkn} {r:List (List UInt8×Tkn)} (h1:∀c∈x.1,U8 c=true) (h2:tokB x.2=true) (h3:NumT x.2) (h4:KGy x.2 r) (h5:YC r):YC (x::r):=⟨h1,h2,h3,h4,h5⟩
theorem KLs {t t':Tkn} {s:List UInt8} {r:List (List UInt8×Tkn)} (h:t'.k=4):KGy t ((s,t')::r):=fun _=>.inr h
theorem KLt {t:Tkn} {r:List (List UInt8×Tkn)} (h:t.k=4):KGy t r:=by
 cases r with
 |nil=>trivial
 |cons y r=>exact fun e=>by omega
theorem KI1:∀(l:List (List UInt8→List (List UInt8×Tkn))) (sep:List UInt8) (ev od:UInt8),Xw ev=true→Xw od=true→(∀c∈sep,U8 c=true)→(∀a∈l,∀sp:List UInt8,(∀c∈sp,U8 c=true)→YC (a sp))→YC (shwT ev od l sep)
 | [],sep,ev,od,_,_,_,_=>trivial
 | [a],sep,ev,od,_,_,hs,H=>H a (by simp) sep hs
 |a::b::r,sep,ev,od,he,ho,hs,H=>by
  have ih:=KI1 (b::r) [32] od ev ho he (fun c hc=>by simp at hc;subst hc;rfl) (fun x hx=>H x (List.mem_cons_of_mem _ hx))
  rw [shwT]
  refine YC.app (H a (by simp) sep hs) (YC.cons (fun c hc=>by cases hc) (tkM he) (nM _) (KLt rfl) ih) (fun y q hy=>?_)
  cases hy
  exact .inr rfl
theorem KG0:∀(d:Nat) (v:Vl) (sep:List UInt8),mayV d v=true→WfV d v→(∀c∈sep,U8 c=true)→YC (XX d v sep)
 |0,v,sep,h,_,_=>by simp [mayV]at h
 |d+1,.mk k n s l,sep,h,hw,hs=>by
  have e0:∀c∈([]:List UInt8),U8 c=true:=fun c hc=>by cases hc
  have two:∀(ev:UInt8) (a b:UInt8),Xw ev=true→Xw a=true→Xw b=true→l.all (mayV d)=true→YC ((sep,mk4 a)::(shwT ev 44 (l.map (XX d)) []++[([],mk4 b)])):=fun ev a b h1 h2 h3 hall=>by
   refine YC.cons hs (tkM h2) (nM _) (KLt rfl) (YC.app (KI1 _ [] ev 44 h1 (by decide) e0 (fun x hx sp hsp=>?_)) (YC.cons e0 (tkM h3) (nM _) trivial trivial) (fun y q hy=>by cases hy;exact .inr rfl))
   obtain⟨w,hwm,rfl⟩:=List.mem_map.1 hx
   exact KG0 d w sp (KLr hall w hwm) (hw.2 w hwm) hsp
  have ref:∀(c:UInt8),KDB [c]=true→YC [(sep,(⟨1,[c],0,0⟩:Tkn)),([],mk4 91),([],⟨2,[],n,0⟩),([],mk4 93)]:=fun c hc=>
   YC.cons hs (tkW hc) (n1 _) (KLs rfl) (YC.cons e0 (tkM (by decide)) (nM _) (KLt rfl) (YC.cons e0 (tkI n) (NumT.of hw.1) (KLs rfl) (YC.cons e0 (tkM (by decide)) (nM _) trivial trivial)))
  rw [mayV]at h
  rw [XX]
  split at h
  ·next hk=>rw [if_pos hk];exact YC.cons hs (tkI n) (NumT.of hw.1) trivial trivial
  ·next hk1=>
   rw [if_neg hk1]
   split at h
   ·next hk=>
    subst hk
    simp only [↓reduceIte,Int.reduceEq]
    exact YC.cons hs (tkW (by split<;>decide)) (n1 _) trivial trivial
   ·next hk3=>
    split at h
    ·next hk=>
     rcases hk with rfl|rfl
     ·simp only [↓reduceIte,Int.reduceEq]
      exact ref 118 (by decide)
     ·simp only [↓reduceIte,Int.reduceEq]
      exact ref 101 (by decide)
    ·next hk67=>
     split at h
     ·next hk=>
      subst hk
      simp only [↓reduceIte]
      simp only [Bool.and_eq_true,decide_eq_true_eq]at h
      exact YC.cons hs (tkS h.2) (n3 _) trivial trivial
     ·next hk2=>
      rw [if_neg hk2,if_neg hk3,if_neg (fun e=>hk67 (.inl e)),if_neg (fun e=>hk67 (.inr e))]
      split at h
      ·next hk=>
       rw [if_pos hk]
       simp only [Bool.and_eq_true]at h
       exact two 44 91 93 (by decide) (by decide) (by decide) h.2.2
      ·next hk4=>
       rw [if_neg hk4]
       split at h
       ·next hk=>
        rw [if_pos hk]
        simp only [Bool.and_eq_true]at h
        exact two 58 123 125 (by decide) (by decide) (by decide) h.2.2
       ·cases h
end Gx
namespace Gx
open Go
abbrev Key:=Int×List UInt8×Int
theorem Ye {ts:List Tkn} {k n:Int} {s:List UInt8} {q:List Key} (h:ts.map keyT=(k,s,n)::q):∃t r,ts=t::r∧t.k=k∧t.s=s∧t.n=n∧r.map keyT=q:=by
 cases ts with
 |nil=>cases h
 |cons t r=>
  rw [List.map_cons]at h
  injection h with h1 h2
  unfold keyT at h1
  injection h1 with a1 a2
  injection a2 with a2 a3
  exact⟨t,r,rfl,a1,a2,a3,h2⟩
theorem Vj {ts:List Tkn} {k k' n:Int} {s s':List UInt8} {q:List Key} (h:ts.map keyT=(k,s,n)::q):isT k' s' ts=(decide (k=k')&&decide (s=s')):=by
 obtain⟨t,r,rfl,h1,h2,h3,h4⟩:=Ye h
 rw [isT,h1,h2]
theorem Yf {en:Nat} {ts:List Tkn} {k n:Int} {s:List UInt8} {q:List Key} (h:ts.map keyT=(k,s,n)::q):takT en k s ts=.ok ts.tail∧ts.tail.map keyT=q:=by
 obtain⟨t,r,rfl,h1,h2,h3,h4⟩:=Ye h
 refine⟨?_,h4⟩
 unfold takT
 rw [Vj h]
 simp
theorem KPk {en:Nat} {ts:List Tkn} {k n:Int} {s:List UInt8} {q:List Key} (h:ts.map keyT=(k,s,n)::q):∃t r,nxT en k ts=.ok (t,r)∧t.s=s∧t.n=n∧r.map keyT=q:=by
 obtain⟨t,r,rfl,h1,h2,h3,h4⟩:=Ye h
 exact⟨t,r,by rw [qE,if_pos h1],h2,h3,h4⟩
def KAw (d:Nat) (v:Vl):List Key:=(XX d v []).map (fun x=>keyT x.2)
def KLu:List Key→Prop
 | []=>False
 |x::_=>¬(x.1=4∧(x.2.1=[93]∨x.2.1=[125]))
def KG1 (pv:List Tkn→Except (Int×Int) (Vl×List Tkn)) (K:Vl→List Key) (v:Vl):Prop:=KLu (K v)∧∀(ts:List Tkn) (rest:List Key),ts.map keyT=K v++rest→∃r,pv ts=.ok (v,r)∧r.map keyT=rest
def seqK (K:Vl→List Key):List Vl→List Key
 | []=>[]
 |x::l=>(4,[44],0)::(K x++seqK K l)
theorem KG2 {pv:List Tkn→Except (Int×Int) (Vl×List Tkn)} {K:Vl→List Key} {en:Nat}:∀(l:List Vl) (acc:List Vl) (f:Nat) (ts:List Tkn) (rest:List Key),l.length<f→acc≠[]→(∀v∈l,KG1 pv K v)→ts.map keyT=seqK K l++((4,[93],0)::rest)→
  ∃r,Wo pv [93] false en f ts acc=.ok (acc++l,r)∧r.map keyT=rest
 | [],acc,f,ts,rest,hf,ha,H,h=>by
  obtain⟨f,rfl⟩:∃g,f=g+1:=⟨f - 1,by simp at hf;omega⟩
  rw [seqK,List.nil_append]at h
  rw [Wo,Vj h]
  exact⟨ts.tail,by simp,(Yf (en:=en) h).2⟩
 |x::l,acc,f,ts,rest,hf,ha,H,h=>by
  rw [List.length_cons]at hf
  obtain⟨f,rfl⟩:∃g,f=g+1:=⟨f - 1,by omega⟩
  rw [seqK,List.cons_append]at h
  have hem:acc.isEmpty=false:=by cases acc with
   |nil=>exact absurd rfl ha
   |cons _ _=>rfl
  rw [Wo,Vj h,hem]
  obtain⟨h1,h2⟩:=Yf (en:=en) h
  rw [List.append_assoc]at h2
  obtain⟨r,h3,h4⟩:=(H x (by simp)).2 _ _ h2
  obtain⟨r2,h5,h6⟩:=KG2 (en:=en) l (acc++[x]) f r rest (by omega) (by simp) (fun v hv=>H v (List.mem_cons_of_mem _ hv)) h4
  refine⟨r2,?_,h6⟩
  simp only [comT,h1]
  simp
  rw [h3]
  dsimp only
  rw [h5]
  simp
theorem KJq {pv:List Tkn→Except (Int×Int) (Vl×List Tkn)} {K:Vl→List Key} {en:Nat} (x:Vl) (l:List Vl) (f:Nat) (ts:List Tkn) (rest:List Key) (hf:l.length+1<f) (H:∀v∈x::l,KG1 pv K v) (h:ts.map keyT=K x++(seqK K l++((4,[93],0)::rest))):
  ∃r,Wo pv [93] false en f ts []=.ok (x::l,r)∧r.map keyT=rest:=by
 obtain⟨f,rfl⟩:∃g,f=g+1:=⟨f - 1,by omega⟩
 obtain⟨ho,hx⟩:=H x (by simp)
 obtain⟨r,h3,h4⟩:=hx _ _ h
 obtain⟨r2,h5,h6⟩:=KG2 (en:=en) l [x] f r rest (by omega) (by simp) (fun v hv=>H v (List.mem_cons_of_mem _ hv)) h4
 refine⟨r2,?_,h6⟩
 have hno:isT 4 [93] ts=false:=by
  cases hk:K x with
  |nil=>rw [hk]at ho;exact ho.elim
  |cons y q=>
   rw [hk]at h ho
   rw [Vj (k:=y.1) (s:=y.2.1) (n:=y.2.2) h]
   by_cases h1:y.1=4
   ·by_cases h2:y.2.1=[93]
    ·exact absurd ⟨h1,.inl h2⟩ ho
    ·simp [h2]
   ·simp [h1]
 rw [Wo,hno]
 simp [comT]
 rw [h3]
 dsimp only
 rw [h5]
 simp
end Gx
namespace Gx
open Go
def seqM (K:Vl→List Key):List Vl→List Key
 |a::b::r=>(4,[44],0)::(K a++((4,[58],0)::(K b++seqM K r)))
 |_=>[]
theorem KPl {K:List Key} {ts:List Tkn} {q:List Key} (ho:KLu K) (h:ts.map keyT=K++q):isT 4 [93] ts=false∧isT 4 [125] ts=false:=by
 cases hk:K with
 |nil=>rw [hk]at ho;exact ho.elim
 |cons y q'=>
  rw [hk]at h ho
  have e:∀s',isT 4 s' ts=(decide (y.1=4)&&decide (y.2.1=s')):=fun s'=>Vj (k:=y.1) (s:=y.2.1) (n:=y.2.2) h
  rw [e,e]
  by_cases h1:y.1=4
  ·refine⟨?_,?_⟩
   ·by_cases h2:y.2.1=[93]
    ·exact absurd ⟨h1,.inl h2⟩ ho
    ·simp [h2]
   ·by_cases h2:y.2.1=[125]
    ·exact absurd ⟨h1,.inr h2⟩ ho
    ·simp [h2]
  ·simp [h1]
theorem KI2 {pv:List Tkn→Except (Int×Int) (Vl×List Tkn)} {K:Vl→List Key} {en:Nat}:∀(l:List Vl) (acc:List Vl) (f:Nat) (ts:List Tkn) (rest:List Key),l.length%2=0→l.length<f→acc≠[]→(∀v∈l,KG1 pv K v)→ts.map keyT=seqM K l++((4,[125],0)::rest)→
  ∃r,Wo pv [125] true en f ts acc=.ok (acc++l,r)∧r.map keyT=rest
 | [],acc,f,ts,rest,_,hf,ha,H,h=>by
  obtain⟨f,rfl⟩:∃g,f=g+1:=⟨f - 1,by simp at hf;omega⟩
  rw [seqM,List.nil_append]at h
  ·rw [Wo,Vj h]
   exact⟨ts.tail,by simp,(Yf (en:=en) h).2⟩
  ·intro a b r e;cases e
 | [a],acc,f,ts,rest,h2,_,_,_,_=>by simp at h2
 |x::y::l,acc,f,ts,rest,hp,hf,ha,H,h=>by
  rw [List.length_cons,List.length_cons]at hf hp
  obtain⟨f,rfl⟩:∃g,f=g+1:=⟨f - 1,by omega⟩
  rw [seqM,List.cons_append,List.append_assoc,List.cons_append,List.append_assoc]at h
  have hem:acc.isEmpty=false:=by cases acc with
   |nil=>exact absurd rfl ha
   |cons _ _=>rfl
  rw [Wo,Vj h,hem]
  obtain⟨h1,h2⟩:=Yf (en:=en) h
  obtain⟨r,h3,h4⟩:=(H x (by simp)).2 _ _ h2
  obtain⟨c1,c2⟩:=Yf (en:=en) h4
  obtain⟨r3,h7,h8⟩:=(H y (by simp)).2 _ _ c2
  obtain⟨r2,h5,h6⟩:=KI2 (en:=en) l (acc++[x]++[y]) f r3 rest (by omega) (by omega) (by simp) (fun v hv=>H v (List.mem_cons_of_mem _ (List.mem_cons_of_mem _ hv))) h8
  refine⟨r2,?_,h6⟩
  simp only [comT,h1]
  simp
  rw [h3]
  dsimp only
  rw [c1]
  dsimp only
  rw [h7]
  dsimp only
  rw [show acc++x::[y]=acc++[x]++[y] by simp,h5]
  simp
theorem KLv {pv:List Tkn→Except (Int×Int) (Vl×List Tkn)} {K:Vl→List Key} {en:Nat} (x y:Vl) (l:List Vl) (f:Nat) (ts:List Tkn) (rest:List Key) (hp:l.length%2=0) (hf:l.length+2<f) (H:∀v∈x::y::l,KG1 pv K v) (h:ts.map keyT=K x++((4,[58],0)::(K y++(seqM K l++((4,[125],0)::rest))))):
  ∃r,Wo pv [125] true en f ts []=.ok (x::y::l,r)∧r.map keyT=rest:=by
 obtain⟨f,rfl⟩:∃g,f=g+1:=⟨f - 1,by omega⟩
 obtain⟨ho,hx⟩:=H x (by simp)
 obtain⟨r,h3,h4⟩:=hx _ _ h
 obtain⟨c1,c2⟩:=Yf (en:=en) h4
 obtain⟨r3,h7,h8⟩:=(H y (by simp)).2 _ _ c2
 obtain⟨r2,h5,h6⟩:=KI2 (en:=en) l [x,y] f r3 rest hp (by omega) (by simp) (fun v hv=>H v (List.mem_cons_of_mem _ (List.mem_cons_of_mem _ hv))) h8
 refine⟨r2,?_,h6⟩
 rw [Wo,(KPl ho h).2]
 simp [comT]
 rw [h3]
 dsimp only
 rw [c1]
 dsimp only
 rw [h7]
 dsimp only
 rw [h5]
 simp
end Gx
namespace Gx
open Go
abbrev KK (x:List UInt8×Tkn):Key:=keyT x.2
theorem qG (d:Nat) (v:Vl) (sep:List UInt8):(XX d v sep).map KK=KAw d v:=by
 unfold KAw
 cases d with
 |zero=>rfl
 |succ d=>
  obtain⟨k,n,s,l⟩:=v
  rw [XX,XX]
  repeat' split
  all_goals rfl
theorem KI3 {d:Nat}:∀(l:List Vl) (x:Vl) (sep:List UInt8),(shwT 44 44 ((x::l).map (XX d)) sep).map KK=KAw d x++seqK (KAw d) l
 | [],x,sep=>by
  show(XX d x sep).map KK=_
  rw [qG,seqK,List.append_nil]
 |y::l,x,sep=>by
  have ih:=KI3 (d:=d) l y [32]
  simp only [List.map_cons]at ih⊢
  rw [shwT,List.map_append,List.map_cons,ih,qG,seqK]
  rfl
theorem KG3 {d:Nat}:∀(n:Nat) (l:List Vl) (x y:Vl) (sep:List UInt8),l.length≤n→l.length%2=0→(shwT 58 44 ((x::y::l).map (XX d)) sep).map KK=KAw d x++((4,[58],0)::(KAw d y++seqM (KAw d) l))
 |_,[],x,y,sep,_,_=>by
  show(XX d x sep++(([],mk4 58)::XX d y [32])).map KK=_
  rw [List.map_append,List.map_cons,qG,qG,seqM,List.append_nil]
  ·rfl
  ·intro a b r e;cases e
 |_,[a],x,y,sep,_,h=>by simp at h
 |0,a::b::l,x,y,sep,hn,h=>by simp at hn
 |n+1,a::b::l,x,y,sep,hn,h=>by
  have ih:=KG3 (d:=d) n l a b [32] (by simp at hn;omega) (by simp at h;omega)
  rw [seqM]
  simp only [List.map_cons]at ih⊢
  rw [shwT,List.map_append,List.map_cons,qG,shwT,List.map_append,List.map_cons,qG,ih]
  rfl
theorem KLw:∀(d:Nat) (v:Vl),mayV d v=true→KLu (KAw d v)
 |0,v,h=>by simp [mayV]at h
 |d+1,.mk k n s l,h=>by
  unfold KAw
  rw [mayV]at h
  rw [XX]
  repeat' split
  all_goals first
   |(simp [KLu,keyT,mk4];done)
   |(exfalso;simp_all)
end Gx
namespace Gx
open Go
theorem KLx:∀(d e:Nat) (v:Vl),d≤e→mayV d v=true→mayV e v=true
 |0,e,v,_,h=>by simp [mayV]at h
 |d+1,0,v,hde,h=>by omega
 |d+1,e+1,.mk k n s l,hde,h=>by
  have key:l.all (mayV d)=true→l.all (mayV e)=true:=fun hh=>List.all_eq_true.2 (fun x hx=>KLx d e x (by omega) (List.all_eq_true.1 hh x hx))
  rw [mayV]at h⊢
  split at h
  ·next hk=>rw [if_pos hk];exact h
  ·next hk1=>
   rw [if_neg hk1]
   split at h
   ·next hk=>rw [if_pos hk];exact h
   ·next hk3=>
    rw [if_neg hk3]
    split at h
    ·next hk=>rw [if_pos hk];exact h
    ·next hk67=>
     rw [if_neg hk67]
     split at h
     ·next hk=>rw [if_pos hk];exact h
     ·next hk2=>
      rw [if_neg hk2]
      split at h
      ·next hk=>
       rw [if_pos hk]
       simp only [Bool.and_eq_true]at h⊢
       exact⟨h.1,h.2.1,key h.2.2⟩
      ·next hk4=>
       rw [if_neg hk4]
       split at h
       ·next hk=>
        rw [if_pos hk]
        simp only [Bool.and_eq_true]at h⊢
        exact⟨h.1,h.2.1,key h.2.2⟩
       ·cases h
theorem NO {en d:Nat} {ts r:List Tkn} {v:Vl} (hm:mayV 8 v=true) (h:(match qu en ts with
   |some r=>r
   |none=>if isT 4 [91] ts=true then(match Wo (valT en d) [93] false en (ts.tail.length+1) ts.tail []with
     | .error e=>.error e
     | .ok (l,r)=>.ok (.mk 4 0 [] l,r))else if isT 4 [123] ts=true then(match Wo (valT en d) [125] true en (ts.tail.length+1) ts.tail []with
     | .error e=>.error e
     | .ok (l,r)=>.ok (.mk 5 0 [] l,r))else .error (GO en ts,160))=(.ok (v,r):Except (Int×Int) (Vl×List Tkn))):valT en (d+1) ts=.ok (v,r):=by
 have key:∀X:Except (Int×Int) (Vl×List Tkn),X=.ok (v,r)→(match X with
  | .error e=>.error e
  | .ok (v,r)=>if mayV 8 v=true then .ok (v,r)else .error (GO en ts,160))=(.ok (v,r):Except (Int×Int) (Vl×List Tkn)):=by
  rintro _ rfl
  simp [hm]
 rw [valT]
 exact key _ h
theorem KI4 {en:Nat} {k n:Int} {r:List Tkn} {rest:List Key} (h:r.map keyT=(4,[91],0)::(2,[],n)::(4,[93],0)::rest):∃r',KAv en k r=.ok (.mk k n [] [],r')∧r'.map keyT=rest:=by
 obtain⟨h1,h2⟩:=Yf (en:=en) h
 obtain⟨t,r2,h3,_,h4,h5⟩:=KPk (en:=en) h2
 obtain⟨h6,h7⟩:=Yf (en:=en) h5
 refine⟨r2.tail,?_,h7⟩
 unfold KAv
 rw [h1]
 dsimp only
 rw [h3]
 dsimp only
 rw [h6]
 dsimp only
 rw [h4]
theorem KI5 (K:Vl→List Key):∀l:List Vl,l.length≤(seqK K l).length
 | []=>Nat.le_refl _
 |x::l=>by have:=KI5 K l;rw [seqK,List.length_cons,List.length_cons,List.length_append];omega
theorem KI6 (K:Vl→List Key):∀(n:Nat) (l:List Vl),l.length≤n→l.length%2=0→l.length≤(seqM K l).length
 |_,[],_,_=>Nat.zero_le _
 |_,[a],_,h=>by simp at h
 |0,a::b::l,hn,h=>by simp at hn
 |n+1,a::b::l,hn,h=>by
  have:=KI6 K n l (by simp at hn;omega) (by simp at h;omega)
  simp only [seqM,List.length_cons,List.length_append]
  omega
theorem KFf {K:List Key} (h:KLu K):1≤K.length:=by
 cases K with
 |nil=>exact h.elim
 |cons _ _=>simp
theorem KI7 {en:Nat}:∀(d:Nat) (v:Vl),d≤8→mayV d v=true→∀(ts:List Tkn) (rest:List Key),ts.map keyT=KAw d v++rest→∃r,valT en d ts=.ok (v,r)∧r.map keyT=rest
 |0,v,_,h,_,_,_=>by simp [mayV]at h
 |d+1,.mk k n s l,hd,h,ts,rest,hk=>by
  have hm8:=KLx (d+1) 8 _ hd h
  have IH:l.all (mayV d)=true→∀x∈l,KG1 (valT en d) (KAw d) x:=fun hh x hx=>⟨KLw d x (List.all_eq_true.1 hh x hx),KI7 d x (by omega) (List.all_eq_true.1 hh x hx)⟩
  have bare:KC1 s l=true→s=[]∧l=[]:=fun hb=>by
   simp only [KC1,Bool.and_eq_true,decide_eq_true_eq,List.isEmpty_iff]at hb
   exact hb
  unfold KAw at hk
  rw [mayV]at h
  rw [XX]at hk
  split at h
  ·next h1=>
   subst h1
   obtain⟨rfl,rfl⟩:=bare h
   simp only [↓reduceIte]at hk
   obtain⟨t,r,rfl,e1,e2,e3,e4⟩:=Ye (k:=2) (s:=[]) (n:=n) (q:=rest) hk
   refine⟨r,NO hm8 ?_,e4⟩
   rw [VS,if_pos e1,e3]
  ·next h1=>
   rw [if_neg h1]at hk
   split at h
   ·next h3=>
    subst h3
    simp only [Bool.and_eq_true]at h
    obtain⟨rfl,rfl⟩:=bare h.1
    simp only [↓reduceIte,Int.reduceEq]at hk
    obtain⟨t,r,rfl,e1,e2,e3,e4⟩:=Ye (k:=1) (s:=if n=1 then KBW else KDO) (n:=0) (q:=rest) hk
    refine⟨r,NO hm8 ?_,e4⟩
    rw [VS,if_neg (by omega),if_neg (by omega),Vj hk,Vj hk,e2]
    have hn:n=0∨n=1:=by simpa using h.2
    rcases hn with rfl|rfl
    ·simp
    ·simp
   ·next h3=>
    rw [if_neg h3]at hk
    split at h
    ·next h67=>
     simp only [Bool.and_eq_true]at h
     obtain⟨rfl,rfl⟩:=bare h.1.1
     rcases h67 with rfl|rfl
     ·simp only [↓reduceIte,Int.reduceEq]at hk
      obtain⟨t,r,rfl,e1,e2,e3,e4⟩:=Ye (k:=1) (s:=[118]) (n:=0) (q:=(4,[91],0)::(2,[],n)::(4,[93],0)::rest) hk
      obtain⟨r',g1,g2⟩:=KI4 (en:=en) (k:=6) e4
      refine⟨r',NO hm8 ?_,g2⟩
      rw [VS,if_neg (by omega),if_neg (by omega),Vj (k:=1) (s:=[118]) (n:=0) hk,Vj (k:=1) (s:=[118]) (n:=0) hk,Vj (k:=1) (s:=[118]) (n:=0) hk,if_neg (by decide),if_pos (by decide)]
      exact g1
     ·simp only [↓reduceIte,Int.reduceEq]at hk
      obtain⟨t,r,rfl,e1,e2,e3,e4⟩:=Ye (k:=1) (s:=[101]) (n:=0) (q:=(4,[91],0)::(2,[],n)::(4,[93],0)::rest) hk
      obtain⟨r',g1,g2⟩:=KI4 (en:=en) (k:=7) e4
      refine⟨r',NO hm8 ?_,g2⟩
      rw [VS,if_neg (by omega),if_neg (by omega),Vj (k:=1) (s:=[101]) (n:=0) hk,Vj (k:=1) (s:=[101]) (n:=0) hk,Vj (k:=1) (s:=[101]) (n:=0) hk,Vj (k:=1) (s:=[101]) (n:=0) hk,if_neg (by decide),if_neg (by decide),if_pos (by decide)]
      exact g1
    ·next h67=>
     rw [if_neg (fun e=>h67 (.inl e)),if_neg (fun e=>h67 (.inr e))]at hk
     split at h
     ·next h2=>
      subst h2
      simp only [Bool.and_eq_true,decide_eq_true_eq,List.isEmpty_iff]at h
      obtain⟨⟨rfl,rfl⟩,hl⟩:=h
      simp only [↓reduceIte]at hk
      obtain⟨t,r,rfl,e1,e2,e3,e4⟩:=Ye (k:=3) (s:=s) (n:=0) (q:=rest) hk
      refine⟨r,NO hm8 ?_,e4⟩
      rw [VS,if_neg (by omega),if_pos e1,e2]
     ·next h2=>
      rw [if_neg h2]at hk
      split at h
      ·next h4=>
       subst h4
       simp only [Bool.and_eq_true,decide_eq_true_eq]at h
       obtain⟨_,⟨rfl,rfl⟩,hall⟩:=h
       have IHl:=IH hall
       simp only [↓reduceIte]at hk
       rw [List.map_cons,List.map_append,List.cons_append,List.append_assoc]at hk
       obtain⟨t,r,rfl,e1,e2,e3,e4⟩:=Ye (k:=4) (s:=[91]) (n:=0) (q:=(shwT 44 44 (l.map (XX d)) []).map KK++((4,[93],0)::rest)) hk
       have hnone:qu en (t::r)=none:=by
        rw [VS,if_neg (by omega),if_neg (by omega)]
        simp [isT,e1]
       have hopen:isT 4 [91] (t::r)=true:=by simp [isT,e1,e2]
       cases l with
       |nil=>
        have h93:=Yf (en:=en) (k:=4) (s:=[93]) (n:=0) (q:=rest) e4
        refine⟨r.tail,NO hm8 ?_,h93.2⟩
        rw [hnone]
        dsimp only
        rw [if_pos hopen,List.tail_cons,Wo,Vj (k:=4) (s:=[93]) (n:=0) (q:=rest) e4]
        simp
       |cons x l=>
        rw [KI3,List.append_assoc]at e4
        have hlen:=congrArg List.length e4
        rw [List.length_map,List.length_append,List.length_append,List.length_cons]at hlen
        have p1:=KI5 (KAw d) l
        have p2:=KFf (IHl x (by simp)).1
        obtain⟨r2,g1,g2⟩:=KJq (en:=en) x l (r.length+1) r rest (by omega) IHl e4
        refine⟨r2,NO hm8 ?_,g2⟩
        rw [hnone]
        dsimp only
        rw [if_pos hopen,List.tail_cons,g1]
      ·next h4=>
       rw [if_neg h4]at hk
       split at h
       ·next h5=>
        subst h5
        simp only [Bool.and_eq_true,decide_eq_true_eq]at h
        obtain⟨⟨⟨_,hev⟩,_⟩,⟨rfl,rfl⟩,hall⟩:=h
        have IHl:=IH hall
        simp only [↓reduceIte]at hk
        rw [List.map_cons,List.map_append,List.cons_append,List.append_assoc]at hk
        obtain⟨t,r,rfl,e1,e2,e3,e4⟩:=Ye (k:=4) (s:=[123]) (n:=0) (q:=(shwT 58 44 (l.map (XX d)) []).map KK++((4,[125],0)::rest)) hk
        have hnone:qu en (t::r)=none:=by
         rw [VS,if_neg (by omega),if_neg (by omega)]
         simp [isT,e1]
        have hopen:isT 4 [123] (t::r)=true:=by simp [isT,e1,e2]
        have hno:isT 4 [91] (t::r)=false:=by simp [isT,e1,e2]
        match l,hev,IHl,e4 with
        | [],_,IHl,e4=>
         have h125:=Yf (en:=en) (k:=4) (s:=[125]) (n:=0) (q:=rest) e4
         refine⟨r.tail,NO hm8 ?_,h125.2⟩
         rw [hnone]
         dsimp only
         rw [if_neg (by rw [hno];decide),if_pos hopen,List.tail_cons,Wo,Vj (k:=4) (s:=[125]) (n:=0) (q:=rest) e4]
         simp
        | [a],hev,_,_=>simp at hev
        |x::y::l,hev,IHl,e4=>
         have hev:l.length%2=0:=by simp at hev;omega
         rw [KG3 l.length l x y [] (Nat.le_refl _) hev,List.append_assoc,List.cons_append,List.append_assoc]at e4
         have hlen:=congrArg List.length e4
         rw [List.length_map,List.length_append,List.length_cons,List.length_append,List.length_append,List.length_cons]at hlen
         have p1:=KI6 (KAw d) l.length l (Nat.le_refl _) hev
         have p2:=KFf (IHl x (by simp)).1
         have p3:=KFf (IHl y (by simp)).1
         obtain⟨r2,g1,g2⟩:=KLv (en:=en) x y l (r.length+1) r rest hev (by omega) IHl e4
         refine⟨r2,NO hm8 ?_,g2⟩
         rw [hnone]
         dsimp only
         rw [if_neg (by rw [hno];decide),if_pos hopen,List.tail_cons,g1]
       ·cases h
end Gx
namespace Gx
open Go
theorem KLy {v:Vl} (hm:mayV 8 v=true) (hw:WfV 8 v) (hl:(txV v).length≤16384):(prdP valF (txV v)).1.2=3∧(prdP valF (txV v)).2=none∨prdP valF (txV v)=((((txV v).length:Int),0),some v):=by
 have hg:=KG0 8 v [] hm hw (fun c hc=>by cases hc)
 have ht:=KI0 8 v [] hm
 rw [List.nil_append]at ht
 obtain⟨h1,h2⟩:=KLp (s:=txV v) (XX 8 v []) 0 (Nat.zero_le _) (by rw [List.drop_zero];exact ht.symm) hg
 by_cases h4:(allT (txV v) 0).1.length≤4096
 ·right
  have hx:=KPW hl h4 h2
  obtain⟨r,g1,g2⟩:=KI7 (en:=(txV v).length) 8 v (Nat.le_refl _) hm (allT (txV v) 0).1 [] (by rw [List.append_nil];exact h1)
  have hr:r=[]:=by simpa using g2
  unfold prdP valF
  rw [hx]
  dsimp only
  rw [if_neg (by simp),g1]
  dsimp only
  rw [if_pos hr]
 ·left
  have hx:(lexP (txV v)).2.2=3:=by
   unfold lexP
   rw [if_neg (by omega)]
   have:(allT (txV v) 0).1[4096]?=some ((allT (txV v) 0).1[4096]'(by omega)):=List.getElem?_eq_getElem (by omega)
   rw [this]
  unfold prdP
  rw [hx,if_pos (by decide)]
  exact⟨rfl,rfl⟩
end Gx
namespace Gx
open Go
theorem KNX {v:Vl} (hl:16384<(txV v).length):prdP valF (txV v)=((0,3),none):=by
 have hx:lexP (txV v)=([],0,3):=by unfold lexP;rw [if_pos hl]
 unfold prdP
 rw [hx,if_pos (by decide)]
 rfl
theorem KNY {v:Vl} (hm:mayV 8 v=true) (hw:WfV 8 v):(prdP valF (txV v)).1.2=3∧(prdP valF (txV v)).2=none∨((txV v).length≤16384∧prdP valF (txV v)=((((txV v).length:Int),0),some v)):=by
 by_cases hl:(txV v).length≤16384
 ·exact(KLy hm hw hl).imp id (fun h=>⟨hl,h⟩)
 ·rw [KNX (by omega)];exact .inl ⟨rfl,rfl⟩
end Gx
namespace Gx
open Go
mutual
def wfS:St→Prop
 | .mk _ _ _ ps vs ss=>(∀v∈vs,WfV 8 v)∧(∀p∈ps,∀v∈p.2,WfV 8 v)∧wfSs ss
def wfL:List St→Prop
 | []=>True
 |s::l=>wfS s∧wfL l
def wfSs:List (List St)→Prop
 | []=>True
 |l::r=>wfL l∧wfSs r
end
end Gx
namespace Gx
open Go
def sepK:List Key→Prop
 | []=>False
 |x::_=>x.1=4∧(x.2.1=[44]∨x.2.1=[41])
def KR7:List Key→Prop
 | []=>False
 |x::_=>x.1=4→x.2.1≠[41]∧x.2.1≠[44]∧x.2.1≠[46]
inductive SeqR {σ:Type} (one:Nat→σ→List Tkn→Nat→PR σ):List (List Key)→Nat→σ→Nat→σ→Nat→Prop where
 |nil (i:Nat) (a:σ) (n:Nat):SeqR one [] i a n a n
 |cons {k:List Key} {ks:List (List Key)} {i:Nat} {a:σ} {n:Nat} {a1:σ} {n1:Nat} {a2:σ} {n2:Nat} (h1:∀ts rest,sepK rest→ts.map keyT=k++rest→∃r,one i a ts n=.ok (a1,r,n1)∧r.map keyT=rest)
   (h2:KR7 k) (h3:SeqR one ks (i+1) a1 n1 a2 n2):SeqR one (k::ks) i a n a2 n2
theorem SeqR.app {σ:Type} {one:Nat→σ→List Tkn→Nat→PR σ} {ks qs:List (List Key)} {i:Nat} {a a1 a2:σ} {n n1 n2:Nat} (h:SeqR one ks i a n a1 n1):SeqR one qs (i+ks.length) a1 n1 a2 n2→SeqR one (ks++qs) i a n a2 n2:=by
 induction h with
 |nil i a n=>exact fun h=>h
 |cons h1 h2 h3 ih=>exact fun h=>.cons h1 h2 (ih (by rw [List.length_cons]at h;rw [show ∀i l:Nat,i+1+l=i+(l+1)from fun i l=>by omega];exact h))
end Gx
namespace Gx
open Go
end Gx
namespace Gx
open Go
end Gx
namespace Gx
open Go
end Gx
namespace Gx
open Go
end Gx
