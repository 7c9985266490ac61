/- Proved: Rows.LexPlacesCard: for every input that the statement speaks of the law returns true and the arguments read as before. No condition. -/
import Derived.Test.YtpibdohdkfkcnaaGreatDoorP0
import Derived.Test.YtpibdohdkfkcnaaGreatDoorP1
import Derived.Test.YtpibdohdkfkcnaaGreatDoorP2
import Derived.Test.YtpibdohdkfkcnaaGreatDoorP3
import Derived.Test.YtpibdohdkfkcnaaGreatDoorP4
import Derived.Test.YtpibdohdkfkcnaaGreatDoorP5
import Derived.Test.YtpibdohdkfkcnaaGreatDoorP6
import Derived.Test.YtpibdohdkfkcnaaGreatDoorP7
import Derived.Test.YtpibdohdkfkcnaaGreatDoorP8
import Derived.Test.YtpibdohdkfkcnaaGreatDoorCards
set_option linter.unusedVariables false
set_option linter.unusedSimpArgs false
namespace Go.Proofs.YtpibdohdkfkcnaaGreatDoor
open Go Go.RowKit Go.ChangeShapes Go.WideShapes Go.ChangeAt Go.Joins Gx
set_option linter.unusedVariables false
set_option maxRecDepth 100000
def KDK:Array Value:=#[.string ⟨#[]⟩]
theorem KHe (os:Os):laidMet Tryz.prog Rows.lexPlacesRow.laid ((zb os KDK).forCall (fun _ _=>0) ⟨#[],KDK,[]⟩).memory :=
 laidMet_of_run' 8 (by kernel_rfl) (by kernel_rfl)
theorem reads (os:Os) {H:Type} (enc:TypeId × Value→H):∃ places,DataW.whole enc Tryz.prog ((zb os KDK).forCall (fun _ _=>0) ⟨#[],KDK,[]⟩).memory Tryz.f5.params.toList Rows.lexPlacesSpec.vars false KDK.toList 8=some ([.lit (.string [])],[],places) :=
 ⟨[],by kernel_rfl⟩
theorem KJJ (os:Os) (started:os.Started) (H:Type) (enc:TypeId × Value→H) (F:Stop.Interp) :
  ReturnsInHanded {} Tryz.checked os 5 .any ((OpenSpec.ofChange Rows.lexPlacesSpec).preRow enc Tryz.prog Tryz.f5 Rows.lexPlacesRow.domain false Rows.lexPlacesRow.laid) (((OpenSpec.ofChange Rows.lexPlacesSpec).at F).post enc Tryz.prog Tryz.f5 false true false false):=by
 obtain ⟨places,hx⟩:=reads os enc
 refine returnsInHanded_of_row (C:=Tryz.checked) (s:=OpenSpec.ofChange Rows.lexPlacesSpec) Own started (by kernel_rfl) Tryz.func5
  (witness_row_at (enc:=enc) (C:=Tryz.checked) false (zb os KDK) KDK rfl (by kernel_rfl) (by kernel_rfl) (by kernel_rfl)
   (OpenSpec.preRow_of_cond 8 hx (by kernel_rfl) (fun k hk=>by cases hk) (by kernel_rfl) (KHe os))) ?_
 intro W base args ds gs before hval0 hW _ hcond _ hL _ _
 have hval:∀ (j:Nat) t v,Tryz.f5.params[j]?=some t→args[j]?=some v→Value.okWide Tryz.prog W .any base t v:=hval0
 have hW':=hW
 obtain ⟨p,q,hA0,hV,rfl,hfz,hnd⟩:=hW
 have hA:DataW.TrodAll enc Tryz.prog W 0 (fun _=>true) true Tryz.f5.params.toList args.toList ds p:=hA0
 rw [Tryz.params5] at hA hval
 obtain ⟨v0,vs0,d0,ds0,p0,q0,hargs0,rfl,rfl,h0,r0⟩:=trodAll_cons hA
 obtain ⟨rfl,rfl,rfl⟩:=trodAll_nil r0
 obtain rfl:args=#[v0]:=by cases args; simp_all
 obtain ⟨rfl,rfl⟩:=trodVars_none hV
 obtain ⟨s0,rfl⟩:=okWide_string Tryz.underlying9 (hval 0 9 v0 rfl rfl)
 obtain ⟨n0,f0⟩:=h0
 obtain ⟨s0',hs0,z0,b0⟩:=KHa Tryz.underlying9 f0
 cases hs0
 have h0:DataW.Trod enc Tryz.prog W 0 (fun _=>true) true 9 (.string s0) d0 p0:=⟨n0,f0⟩
 have b0:Rows.uptoBulk d0=s0.data.toList.length+1:=b0
 have e0:bs s0.data.toList=s0:=by simp [bs]
 clear hA0 hval0
 refine (Y6 s0 W (fun r h'=>r=true∧Ext W.heap h') (by rw [← e0]; exact KEo  (KJH hL) (KKg hL) (KLS hL) (fun h' e=>⟨rfl,e⟩))).mono fun e W' ⟨r,he,⟨hr,hext⟩,hrest⟩=>?_
 subst hr
 subst he
 exact ⟨_,rfl,_,_,_,[],_,[],hW',trodAll_mk1 (shut_bool Tryz.underlying4 _),(trodAll_cons_mk (KHc Laid (by kernel_rfl) (of_decide_eq_true (by kernel_rfl)) h0 hext) trodAll_mk0),rfl,KGM hext hrest _,fun h=>by cases h⟩
theorem KLT:Rows.LexPlacesSaid :=
 OpenClaim.holds_of_cond 5 Tryz.f5 rfl rfl rfl rfl rfl rfl rfl ⟨rfl,rfl,rfl,rfl,rfl⟩ rfl rfl rfl rfl rfl (by kernel_rfl) Tryz.func5 (by kernel_rfl)
  (of_decide_eq_true (by kernel_rfl)) (by unfold Func.isWrapper; first | (rw [if_pos (by decide +kernel)]; kernel_rfl) | (rw [if_neg (by decide +kernel)]; exact ⟨rfl,rfl⟩))
  (fun os started H enc _ F=>by rw [OpenClaim.pre_eq_preRow]; exact KJJ os started H enc F)
theorem KKi (f:FuncId) (fn:Func) (hf:Tryz.pinned.checked.prog.funcNamed "ramble/ramblelaw15.LexPlaces"=some f) (hfn:Tryz.pinned.checked.prog.funcs[f]?=some fn) :
  true=Tryz.pinned.checked.prog.looks []∧∀ (j:Nat) t,fn.params[j]?=some t→Tryz.pinned.checked.prog.wantsStandIn t=false:=by
 obtain rfl:f=5:=Option.some.inj ((show Tryz.prog.funcNamed "ramble/ramblelaw15.LexPlaces"=some 5 by kernel_rfl).symm.trans hf) |>.symm
 obtain rfl:fn=Tryz.f5:=(Option.some.inj (Tryz.func5.symm.trans hfn)).symm
 refine ⟨by kernel_rfl,fun j t ht=>?_⟩
 rw [Tryz.params5] at ht
 have ht:t=9:=by simpa using Array.mem_of_getElem? ht
 rcases ht with rfl
 ·exact (show Tryz.prog.wantsStandIn 9=false by kernel_rfl)
theorem places_card:Rows.LexPlacesCardSaid :=
 Claim7.holds_tied_plain_at .later [] _ _ _ _ KLT (fun _ h=>by cases h) (by kernel_rfl) (fun _ h=>by cases h) lexPlaces_row_tie rfl ⟨rfl,rfl⟩ (by kernel_rfl) rfl KKi (by kernel_rfl)
#print axioms places_card
end Go.Proofs.YtpibdohdkfkcnaaGreatDoor
