/- Proved: Rows.LexTellsCard: for every input that the statement speaks of the law returns true and the arguments read as before. No condition. -/
import Derived.Test.YtpibdohdkfkcnaaGreatDoorP0
import Derived.Test.YtpibdohdkfkcnaaGreatDoorP1
import Derived.Test.YtpibdohdkfkcnaaGreatDoorP2
import Derived.Test.YtpibdohdkfkcnaaGreatDoorP3
import Derived.Test.YtpibdohdkfkcnaaGreatDoorP4
import Derived.Test.YtpibdohdkfkcnaaGreatDoorP5
import Derived.Test.YtpibdohdkfkcnaaGreatDoorP6
import Derived.Test.YtpibdohdkfkcnaaGreatDoorP7
import Derived.Test.YtpibdohdkfkcnaaGreatDoorP8
import Derived.Test.YtpibdohdkfkcnaaGreatDoorCards
set_option linter.unusedVariables false
set_option linter.unusedSimpArgs false
namespace Go.Proofs.YtpibdohdkfkcnaaGreatDoor
open Go Go.RowKit Go.ChangeShapes Go.WideShapes Go.ChangeAt Go.Joins Gx
set_option linter.unusedVariables false
set_option maxRecDepth 100000
def KEt:Array Value:=#[.string ⟨#[]⟩,.int .u8 0]
theorem KI3 (os:Os):laidMet Tryz.prog Rows.lexTellsRow.laid ((KBC os KEt).forCall (fun _ _=>0) ⟨#[],KEt,[]⟩).memory :=
 laidMet_of_run' 8 (by kernel_rfl) (by kernel_rfl)
theorem reads (os:Os) {H:Type} (enc:TypeId × Value→H):∃ places,DataW.whole enc Tryz.prog ((KBC os KEt).forCall (fun _ _=>0) ⟨#[],KEt,[]⟩).memory Tryz.f4.params.toList Rows.lexTellsSpec.vars false KEt.toList 8=some ([.lit (.string []),.lit (.int .u8 0)],[],places) :=
 ⟨[],by kernel_rfl⟩
theorem KKb (os:Os) (started:os.Started) (H:Type) (enc:TypeId × Value→H) (F:Stop.Interp) :
  ReturnsInHanded {} Tryz.checked os 4 .any ((OpenSpec.ofChange Rows.lexTellsSpec).preRow enc Tryz.prog Tryz.f4 Rows.lexTellsRow.domain false Rows.lexTellsRow.laid) (((OpenSpec.ofChange Rows.lexTellsSpec).at F).post enc Tryz.prog Tryz.f4 false true false false):=by
 obtain ⟨places,hx⟩:=reads os enc
 refine returnsInHanded_of_row (C:=Tryz.checked) (s:=OpenSpec.ofChange Rows.lexTellsSpec) Own started (by kernel_rfl) Tryz.func4
  (witness_row_at (enc:=enc) (C:=Tryz.checked) false (KBC os KEt) KEt rfl (by kernel_rfl) (by kernel_rfl) (by kernel_rfl)
   (OpenSpec.preRow_of_cond 8 hx (by kernel_rfl) (fun k hk=>by cases hk) (by kernel_rfl) (KI3 os))) ?_
 intro W base args ds gs before hval0 hW _ hcond _ hL _ _
 have hval:∀ (j:Nat) t v,Tryz.f4.params[j]?=some t→args[j]?=some v→Value.okWide Tryz.prog W .any base t v:=hval0
 have hW':=hW
 obtain ⟨p,q,hA0,hV,rfl,hfz,hnd⟩:=hW
 have hA:DataW.TrodAll enc Tryz.prog W 0 (fun _=>true) true Tryz.f4.params.toList args.toList ds p:=hA0
 rw [Tryz.params4] at hA hval
 obtain ⟨v0,vs0,d0,ds0,p0,q0,hargs0,rfl,rfl,h0,r0⟩:=trodAll_cons hA
 obtain ⟨v1,vs1,d1,ds1,p1,q1,hargs1,rfl,rfl,h1,r1⟩:=trodAll_cons r0
 obtain ⟨rfl,rfl,rfl⟩:=trodAll_nil r1
 obtain rfl:args=#[v0,v1]:=by cases args; simp_all
 obtain ⟨rfl,rfl⟩:=trodVars_none hV
 obtain ⟨s0,rfl⟩:=okWide_string Tryz.underlying9 (hval 0 9 v0 rfl rfl)
 obtain ⟨n0,f0⟩:=h0
 obtain ⟨s0',hs0,z0,b0⟩:=KI0 Tryz.underlying9 f0
 cases hs0
 have h0:DataW.Trod enc Tryz.prog W 0 (fun _=>true) true 9 (.string s0) d0 p0:=⟨n0,f0⟩
 have b0:Rows.uptoBulk d0=s0.data.toList.length+1:=b0
 have e0:bs s0.data.toList=s0:=by simp [bs]
 obtain ⟨z1,rfl⟩:=okWide_int Tryz.underlying5 (hval 1 5 v1 rfl rfl)
 obtain ⟨n1,f1⟩:=h1
 obtain ⟨y1,hy1,b1⟩:=KKY Tryz.underlying5 f1
 cases hy1
 have h1:DataW.Trod enc Tryz.prog W 0 (fun _=>true) true 5 (.int .u8 (y1:Int)) d1 p1:=⟨n1,f1⟩
 clear hA0 hval0
 refine (Xg s0 (y1:Int) W (fun r h'=>r=true∧Ext W.heap h') (by rw [← e0]; exact KEs b1 (KKZ hL) (KL3 hL) (KMl hL) (fun h' e=>⟨rfl,e⟩))).mono fun e W' ⟨r,he,⟨hr,hext⟩,hrest⟩=>?_
 subst hr
 subst he
 exact ⟨_,rfl,_,_,_,[],_,[],hW',trodAll_mk1 (shut_bool Tryz.underlying4 _),(trodAll_cons_mk (KFe Laid (by kernel_rfl) (of_decide_eq_true (by kernel_rfl)) h0 hext) (trodAll_cons_mk (KFe Laid (by kernel_rfl) (of_decide_eq_true (by kernel_rfl)) h1 hext) trodAll_mk0)),rfl,KHr hext hrest _,fun h=>by cases h⟩
theorem KMm:Rows.LexTellsSaid :=
 OpenClaim.holds_of_cond 4 Tryz.f4 rfl rfl rfl rfl rfl rfl rfl ⟨rfl,rfl,rfl,rfl,rfl⟩ rfl rfl rfl rfl rfl (by kernel_rfl) Tryz.func4 (by kernel_rfl)
  (of_decide_eq_true (by kernel_rfl)) (by unfold Func.isWrapper; first | (rw [if_pos (by decide +kernel)]; kernel_rfl) | (rw [if_neg (by decide +kernel)]; exact ⟨rfl,rfl⟩))
  (fun os started H enc _ F=>by rw [OpenClaim.pre_eq_preRow]; exact KKb os started H enc F)
theorem KL5 (f:FuncId) (fn:Func) (hf:Tryz.pinned.checked.prog.funcNamed "ramble/ramblelaw15.LexTells"=some f) (hfn:Tryz.pinned.checked.prog.funcs[f]?=some fn) :
  true=Tryz.pinned.checked.prog.looks []∧∀ (j:Nat) t,fn.params[j]?=some t→Tryz.pinned.checked.prog.wantsStandIn t=false:=by
 obtain rfl:f=4:=Option.some.inj ((show Tryz.prog.funcNamed "ramble/ramblelaw15.LexTells"=some 4 by kernel_rfl).symm.trans hf) |>.symm
 obtain rfl:fn=Tryz.f4:=(Option.some.inj (Tryz.func4.symm.trans hfn)).symm
 refine ⟨by kernel_rfl,fun j t ht=>?_⟩
 rw [Tryz.params4] at ht
 have ht:t=9∨t=5:=by simpa using Array.mem_of_getElem? ht
 rcases ht with rfl | rfl
 ·exact (show Tryz.prog.wantsStandIn 9=false by kernel_rfl)
 ·exact (show Tryz.prog.wantsStandIn 5=false by kernel_rfl)
theorem tells_card:Rows.LexTellsCardSaid :=
 Claim7.holds_tied_plain_at .later [] _ _ _ _ KMm (fun _ h=>by cases h) (by kernel_rfl) (fun _ h=>by cases h) lexTells_row_tie rfl ⟨rfl,rfl⟩ (by kernel_rfl) rfl KL5 (by kernel_rfl)
#print axioms tells_card
end Go.Proofs.YtpibdohdkfkcnaaGreatDoor
