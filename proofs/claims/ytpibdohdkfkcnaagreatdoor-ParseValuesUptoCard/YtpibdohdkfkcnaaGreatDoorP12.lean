/- Proved: Rows.ParseValuesUptoCard: for every input that the statement speaks of the law returns true and the arguments read as before. No condition. -/
import Derived.Test.YtpibdohdkfkcnaaGreatDoorP0
import Derived.Test.YtpibdohdkfkcnaaGreatDoorP1
import Derived.Test.YtpibdohdkfkcnaaGreatDoorP2
import Derived.Test.YtpibdohdkfkcnaaGreatDoorP3
import Derived.Test.YtpibdohdkfkcnaaGreatDoorP4
import Derived.Test.YtpibdohdkfkcnaaGreatDoorP5
import Derived.Test.YtpibdohdkfkcnaaGreatDoorP6
import Derived.Test.YtpibdohdkfkcnaaGreatDoorP7
import Derived.Test.YtpibdohdkfkcnaaGreatDoorP8
import Derived.Test.YtpibdohdkfkcnaaGreatDoorP9
import Derived.Test.YtpibdohdkfkcnaaGreatDoorP10
import Derived.Test.YtpibdohdkfkcnaaGreatDoorP11
import Derived.Test.YtpibdohdkfkcnaaGreatDoorCards
set_option linter.unusedVariables false
set_option linter.unusedSimpArgs false
set_option maxRecDepth 100000
namespace Go.Proofs.YtpibdohdkfkcnaaGreatDoor
open Go Go.RowKit Go.ChangeShapes Go.WideShapes Go.ChangeAt Go.Joins Gx
def KHw:Array Value:=#[.agg #[.int .i64 0,.int .i64 0,.string ⟨#[]⟩,.slice none 0 0]]
theorem KNg (os:Os):laidMet Tryz.prog Rows.parseValuesUptoRow.laid ((KDY os KHw).forCall (fun _ _=>0) ⟨#[],KHw,[]⟩).memory:=
 laidMet_of_run' 8 (by kernel_rfl) (by kernel_rfl)
theorem reads (os:Os) {H:Type} (enc:TypeId×Value→H):∃places,DataW.whole enc Tryz.prog ((KDY os KHw).forCall (fun _ _=>0) ⟨#[],KHw,[]⟩).memory Tryz.f9.params.toList Rows.parseValuesSpec.vars false KHw.toList 8=some ([.agg [.lit (.int .i64 0),.lit (.int .i64 0),.lit (.string []),.nil]],[],places):=
 ⟨[],by kernel_rfl⟩
theorem KJs {H:Type} {l:List (DataW H)} (hk:Rows.uptoSmall H l=true):Rows.uptoBulkAll l≤1048576:=of_decide_eq_true hk
theorem KPs (os:Os) (started:os.Started) (H:Type) (enc:TypeId×Value→H) (F:Stop.Interp):
  ReturnsInHanded {} Tryz.checked os 9 .any ((Rows.OpenSpec.upto Rows.parseValuesSpec).preRow enc Tryz.prog Tryz.f9 Rows.parseValuesUptoRow.domain false Rows.parseValuesUptoRow.laid) (((Rows.OpenSpec.upto Rows.parseValuesSpec).at F).post enc Tryz.prog Tryz.f9 false true false false):=by
 obtain⟨places,hx⟩:=reads os enc
 refine returnsInHanded_of_row (C:=Tryz.checked) (s:=Rows.OpenSpec.upto Rows.parseValuesSpec) Own started (by kernel_rfl) Tryz.func9
  (witness_row_at (enc:=enc) (C:=Tryz.checked) false (KDY os KHw) KHw rfl (by kernel_rfl) (by kernel_rfl) (by kernel_rfl)
   (OpenSpec.preRow_of_cond 8 hx (by kernel_rfl) (fun k hk=>by cases hk;kernel_rfl) (by kernel_rfl) (KNg os))) ?_
 intro W base args ds gs before hval0 hW _ hcond _ hL _ _
 have hval:∀(j:Nat) t v,Tryz.f9.params[j]?=some t→args[j]?=some v→Value.okWide Tryz.prog W .any base t v:=hval0
 have hW':=hW
 obtain⟨p,q,hA0,hV,rfl,hfz,hnd⟩:=hW
 have hA:DataW.TrodAll enc Tryz.prog W 0 (fun _=>true) true Tryz.f9.params.toList args.toList ds p:=hA0
 rw [Tryz.params9]at hA hval
 obtain⟨v0,vs0,d0,ds0,p0,q0,hargs0,rfl,rfl,h0,r0⟩:=trodAll_cons hA
 obtain⟨rfl,rfl,rfl⟩:=trodAll_nil r0
 obtain rfl:args=#[v0]:=by cases args;simp_all
 obtain⟨rfl,rfl⟩:=trodVars_none hV
 have hk':=KJs (hcond _ rfl)
 simp only [List.cons_append,List.nil_append,Rows.uptoBulkAll]at hk'
 obtain⟨c0,rfl,z0⟩:=okWide_struct Tryz.underlying54 (hval 0 54 v0 rfl rfl)
 obtain⟨n0,f0⟩:=h0
 obtain⟨w0,V0,b0⟩:=KNf _ _ _ f0
 have h0:DataW.Trod enc Tryz.prog W 0 (fun _=>true) true 54 (.agg c0) d0 p0:=⟨n0,f0⟩
 have b0:wt w0≤Rows.uptoBulk d0:=b0
 have V0:VRep W.heap w0 c0:=by have:=JE.to V0;simpa [Value.cells] using this
 clear hA0 hval0
 refine(GL c0 W (fun r h'=>r=true∧Ext W.heap h') (by exact KJr V0 (by omega) (KPq hL) (KRL hL) (KSA hL) (fun h' e=>⟨rfl,e⟩))).mono fun e W' ⟨r,he,⟨hr,hext⟩,hrest⟩=>?_
 subst hr
 subst he
 exact⟨_,rfl,_,_,_,[],_,[],hW',trodAll_mk1 (shut_bool Tryz.underlying4 _),(trodAll_cons_mk (KNc Laid (by kernel_rfl) (of_decide_eq_true (by kernel_rfl)) h0 hext) trodAll_mk0),rfl,KL4 hext hrest _,fun h=>by cases h⟩
theorem KSB:Rows.ParseValuesUptoSaid:=
 OpenClaim.holds_of_cond 9 Tryz.f9 rfl rfl rfl rfl rfl rfl rfl ⟨rfl,rfl,rfl,rfl,rfl⟩ rfl rfl rfl rfl rfl (by kernel_rfl) Tryz.func9 (by kernel_rfl)
  (of_decide_eq_true (by kernel_rfl)) (by unfold Func.isWrapper;first|(rw [if_pos (by decide+kernel)];kernel_rfl)|(rw [if_neg (by decide+kernel)];exact⟨rfl,rfl⟩))
  (fun os started H enc _ F=>by rw [OpenClaim.pre_eq_preRow];exact KPs os started H enc F)
theorem KRO (f:FuncId) (fn:Func) (hf:Tryz.pinned.checked.prog.funcNamed "ramble/ramblelaw16.ParseValues"=some f) (hfn:Tryz.pinned.checked.prog.funcs[f]?=some fn):
  true=Tryz.pinned.checked.prog.looks []∧∀(j:Nat) t,fn.params[j]?=some t→Tryz.pinned.checked.prog.wantsStandIn t=false:=by
 obtain rfl:f=9:=Option.some.inj ((show Tryz.prog.funcNamed "ramble/ramblelaw16.ParseValues"=some 9 by kernel_rfl).symm.trans hf)|>.symm
 obtain rfl:fn=Tryz.f9:=(Option.some.inj (Tryz.func9.symm.trans hfn)).symm
 refine⟨by kernel_rfl,fun j t ht=>?_⟩
 rw [Tryz.params9]at ht
 have ht:t=54:=by simpa using Array.mem_of_getElem? ht
 rcases ht with rfl
 ·exact(show Tryz.prog.wantsStandIn 54=false by kernel_rfl)
theorem pvalues_card:Rows.ParseValuesUptoCardSaid:=
 Claim7.holds_tied_plain_at .later [] _ _ _ _ KSB (fun _ h=>by cases h) (by kernel_rfl) (fun _ h=>by cases h) parseValuesUpto_row_tie rfl ⟨rfl,rfl⟩ (by kernel_rfl) rfl KRO (by kernel_rfl)
#print axioms pvalues_card
end Go.Proofs.YtpibdohdkfkcnaaGreatDoor
