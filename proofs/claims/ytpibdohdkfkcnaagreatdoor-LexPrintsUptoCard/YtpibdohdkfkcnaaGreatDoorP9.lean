/- Proved: Rows.LexPrintsUptoCard: for every input that the statement speaks of the law returns true and the arguments read as before. No condition. -/
import Derived.Test.YtpibdohdkfkcnaaGreatDoorP0
import Derived.Test.YtpibdohdkfkcnaaGreatDoorP1
import Derived.Test.YtpibdohdkfkcnaaGreatDoorP2
import Derived.Test.YtpibdohdkfkcnaaGreatDoorP3
import Derived.Test.YtpibdohdkfkcnaaGreatDoorP4
import Derived.Test.YtpibdohdkfkcnaaGreatDoorP5
import Derived.Test.YtpibdohdkfkcnaaGreatDoorP6
import Derived.Test.YtpibdohdkfkcnaaGreatDoorP7
import Derived.Test.YtpibdohdkfkcnaaGreatDoorP8
import Derived.Test.YtpibdohdkfkcnaaGreatDoorCards
set_option linter.unusedVariables false
set_option linter.unusedSimpArgs false
namespace Go.Proofs.YtpibdohdkfkcnaaGreatDoor
open Go Go.RowKit Go.ChangeShapes Go.WideShapes Go.ChangeAt Go.Joins Gx
set_option linter.unusedVariables false
set_option maxRecDepth 100000
def KFE:Array Value:=#[.slice none 0 0]
theorem KJc (os:Os):laidMet Tryz.prog Rows.lexPrintsUptoRow.laid ((KBS os KFE).forCall (fun _ _=>0) ⟨#[],KFE,[]⟩).memory :=
 laidMet_of_run' 8 (by kernel_rfl) (by kernel_rfl)
theorem reads (os:Os) {H:Type} (enc:TypeId × Value→H):∃ places,DataW.whole enc Tryz.prog ((KBS os KFE).forCall (fun _ _=>0) ⟨#[],KFE,[]⟩).memory Tryz.f6.params.toList Rows.lexPrintsSpec.vars false KFE.toList 8=some ([.nil],[],places) :=
 ⟨[],by kernel_rfl⟩
theorem KGj {H:Type} {l:List (DataW H)} (hk:Rows.uptoSmall H l=true):Rows.uptoBulkAll l≤1048576:=of_decide_eq_true hk
theorem KLG (os:Os) (started:os.Started) (H:Type) (enc:TypeId × Value→H) (F:Stop.Interp) :
  ReturnsInHanded {} Tryz.checked os 6 .any ((Rows.OpenSpec.upto Rows.lexPrintsSpec).preRow enc Tryz.prog Tryz.f6 Rows.lexPrintsUptoRow.domain false Rows.lexPrintsUptoRow.laid) (((Rows.OpenSpec.upto Rows.lexPrintsSpec).at F).post enc Tryz.prog Tryz.f6 false true false false):=by
 obtain ⟨places,hx⟩:=reads os enc
 refine returnsInHanded_of_row (C:=Tryz.checked) (s:=Rows.OpenSpec.upto Rows.lexPrintsSpec) Own started (by kernel_rfl) Tryz.func6
  (witness_row_at (enc:=enc) (C:=Tryz.checked) false (KBS os KFE) KFE rfl (by kernel_rfl) (by kernel_rfl) (by kernel_rfl)
   (OpenSpec.preRow_of_cond 8 hx (by kernel_rfl) (fun k hk=>by cases hk; kernel_rfl) (by kernel_rfl) (KJc os))) ?_
 intro W base args ds gs before hval0 hW _ hcond _ hL _ _
 have hval:∀ (j:Nat) t v,Tryz.f6.params[j]?=some t→args[j]?=some v→Value.okWide Tryz.prog W .any base t v:=hval0
 have hW':=hW
 obtain ⟨p,q,hA0,hV,rfl,hfz,hnd⟩:=hW
 have hA:DataW.TrodAll enc Tryz.prog W 0 (fun _=>true) true Tryz.f6.params.toList args.toList ds p:=hA0
 rw [Tryz.params6] at hA hval
 obtain ⟨v0,vs0,d0,ds0,p0,q0,hargs0,rfl,rfl,h0,r0⟩:=trodAll_cons hA
 obtain ⟨rfl,rfl,rfl⟩:=trodAll_nil r0
 obtain rfl:args=#[v0]:=by cases args; simp_all
 obtain ⟨rfl,rfl⟩:=trodVars_none hV
 have hk':=KGj (hcond _ rfl)
 simp only [List.cons_append,List.nil_append,Rows.uptoBulkAll] at hk'
 obtain ⟨a0,l0,k0,rfl⟩:=okWide_slice Tryz.underlying22 (hval 0 22 v0 rfl rfl)
 obtain ⟨n0,f0⟩:=h0
 obtain ⟨s0,L0,hs0,V0,b0⟩:=KIL f0
 have h0:DataW.Trod enc Tryz.prog W 0 (fun _=>true) true 22 (.slice a0 l0 k0) d0 p0:=⟨n0,f0⟩
 rw [hs0] at h0 hW' ⊢
 have b0:tksW L0+1≤Rows.uptoBulk d0:=b0
 clear hA0 hval0
 refine (Xk s0 W (fun r h'=>r=true∧Ext W.heap h') (by exact KGi V0 (by omega) (KLE hL) (KMe hL) (KNQ hL) (fun h' e=>⟨rfl,e⟩))).mono fun e W' ⟨r,he,⟨hr,hext⟩,hrest⟩=>?_
 subst hr
 subst he
 exact ⟨_,rfl,_,_,_,[],_,[],hW',trodAll_mk1 (shut_bool Tryz.underlying4 _),(trodAll_cons_mk (KJa Laid (by kernel_rfl) (of_decide_eq_true (by kernel_rfl)) h0 hext) trodAll_mk0),rfl,KIM hext hrest _,fun h=>by cases h⟩
theorem KNR:Rows.LexPrintsUptoSaid :=
 OpenClaim.holds_of_cond 6 Tryz.f6 rfl rfl rfl rfl rfl rfl rfl ⟨rfl,rfl,rfl,rfl,rfl⟩ rfl rfl rfl rfl rfl (by kernel_rfl) Tryz.func6 (by kernel_rfl)
  (of_decide_eq_true (by kernel_rfl)) (by unfold Func.isWrapper; first | (rw [if_pos (by decide +kernel)]; kernel_rfl) | (rw [if_neg (by decide +kernel)]; exact ⟨rfl,rfl⟩))
  (fun os started H enc _ F=>by rw [OpenClaim.pre_eq_preRow]; exact KLG os started H enc F)
theorem KMg (f:FuncId) (fn:Func) (hf:Tryz.pinned.checked.prog.funcNamed "ramble/ramblelaw15.LexPrints"=some f) (hfn:Tryz.pinned.checked.prog.funcs[f]?=some fn) :
  true=Tryz.pinned.checked.prog.looks []∧∀ (j:Nat) t,fn.params[j]?=some t→Tryz.pinned.checked.prog.wantsStandIn t=false:=by
 obtain rfl:f=6:=Option.some.inj ((show Tryz.prog.funcNamed "ramble/ramblelaw15.LexPrints"=some 6 by kernel_rfl).symm.trans hf) |>.symm
 obtain rfl:fn=Tryz.f6:=(Option.some.inj (Tryz.func6.symm.trans hfn)).symm
 refine ⟨by kernel_rfl,fun j t ht=>?_⟩
 rw [Tryz.params6] at ht
 have ht:t=22:=by simpa using Array.mem_of_getElem? ht
 rcases ht with rfl
 ·exact (show Tryz.prog.wantsStandIn 22=false by kernel_rfl)
theorem prints_card:Rows.LexPrintsUptoCardSaid :=
 Claim7.holds_tied_plain_at .later [] _ _ _ _ KNR (fun _ h=>by cases h) (by kernel_rfl) (fun _ h=>by cases h) lexPrintsUpto_row_tie rfl ⟨rfl,rfl⟩ (by kernel_rfl) rfl KMg (by kernel_rfl)
#print axioms prints_card
end Go.Proofs.YtpibdohdkfkcnaaGreatDoor
