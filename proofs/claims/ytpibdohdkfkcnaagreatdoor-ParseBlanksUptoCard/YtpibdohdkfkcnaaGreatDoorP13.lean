/- Proved: Rows.ParseBlanksUptoCard: for every input that the statement speaks of the law returns true and the arguments read as before. No condition. -/
import Derived.Test.YtpibdohdkfkcnaaGreatDoorP0
import Derived.Test.YtpibdohdkfkcnaaGreatDoorP1
import Derived.Test.YtpibdohdkfkcnaaGreatDoorP2
import Derived.Test.YtpibdohdkfkcnaaGreatDoorP3
import Derived.Test.YtpibdohdkfkcnaaGreatDoorP4
import Derived.Test.YtpibdohdkfkcnaaGreatDoorP5
import Derived.Test.YtpibdohdkfkcnaaGreatDoorP6
import Derived.Test.YtpibdohdkfkcnaaGreatDoorP7
import Derived.Test.YtpibdohdkfkcnaaGreatDoorP8
import Derived.Test.YtpibdohdkfkcnaaGreatDoorP9
import Derived.Test.YtpibdohdkfkcnaaGreatDoorP10
import Derived.Test.YtpibdohdkfkcnaaGreatDoorP11
import Derived.Test.YtpibdohdkfkcnaaGreatDoorP12
set_option linter.unusedVariables false
set_option linter.unusedSimpArgs false
set_option maxRecDepth 100000
open Go.Proofs
namespace Go.Proofs.YtpibdohdkfkcnaaGreatDoor
open Go Go.RowKit Go.ChangeShapes Go.WideShapes Go.ChangeAt Go.Joins Gx
set_option maxHeartbeats 8000000 in
theorem KaU:Rows.ParseBlanksUptoSaid:=
 OpenClaim.holds_of_cond 8 Tryz.f8 rfl rfl rfl rfl rfl rfl rfl ⟨rfl,rfl,rfl,rfl,rfl⟩ rfl rfl rfl rfl rfl (by kernel_rfl) Tryz.func8 (by unfold joinedFacts;simp only [Eg];and_intros<;>decide+kernel)
  (Ec (by kernel_rfl)) (by unfold Func.isWrapper;first|(rw [if_pos (by decide+kernel)];kernel_rfl)|(rw [if_neg (by decide+kernel)];exact⟨rfl,rfl⟩))
  (λos started H enc _ F=>by rw [OpenClaim.pre_eq_preRow];exact KXp os started H enc F)
theorem KZb (f:FuncId) (fn:Func) (hf:Tryz.pinned.checked.prog.funcNamed "ramble/ramblelaw16.ParseBlanks"=some f) (hfn:Tryz.pinned.checked.prog.funcs[f]?=some fn):
  true=Tryz.pinned.checked.prog.looks []/\∀(j:Nat) t,fn.params[j]?=some t->Tryz.pinned.checked.prog.wantsStandIn t=false:=by
 obtain rfl:f=8:=Option.some.inj ((show Tryz.prog.funcNamed "ramble/ramblelaw16.ParseBlanks"=some 8 by kernel_rfl).symm.trans hf)|>.symm
 obtain rfl:fn=Tryz.f8:=(Option.some.inj (Tryz.func8.symm.trans hfn)).symm
 refine⟨by kernel_rfl,λj t ht=>?_⟩
 rw [Tryz.params8]at ht
 have ht:t=43\/t=44:=by simpa using IW ht
 rcases ht with rfl|rfl
 ·exact(show Tryz.prog.wantsStandIn 43=false by kernel_rfl)
 ·exact(show Tryz.prog.wantsStandIn 44=false by kernel_rfl)
theorem pblanks_card:Rows.ParseBlanksUptoCardSaid:=
 Claim7.holds_tied_plain_at .later [] _ _ _ _ KaU (λ_ h=>by cases h) (by kernel_rfl) (λ_ h=>by cases h) parseBlanksUpto_row_tie rfl ⟨rfl,rfl⟩ (by kernel_rfl) rfl KZb (by kernel_rfl)
#print axioms pblanks_card
end Go.Proofs.YtpibdohdkfkcnaaGreatDoor
