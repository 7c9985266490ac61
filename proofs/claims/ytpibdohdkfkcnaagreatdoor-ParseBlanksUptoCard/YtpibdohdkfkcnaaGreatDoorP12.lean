/- Own proof: the statement's row, laid out. No condition. -/
import Derived.Test.YtpibdohdkfkcnaaGreatDoorP0
import Derived.Test.YtpibdohdkfkcnaaGreatDoorP1
import Derived.Test.YtpibdohdkfkcnaaGreatDoorP2
import Derived.Test.YtpibdohdkfkcnaaGreatDoorP3
import Derived.Test.YtpibdohdkfkcnaaGreatDoorP4
import Derived.Test.YtpibdohdkfkcnaaGreatDoorP5
import Derived.Test.YtpibdohdkfkcnaaGreatDoorP6
import Derived.Test.YtpibdohdkfkcnaaGreatDoorP7
import Derived.Test.YtpibdohdkfkcnaaGreatDoorP8
import Derived.Test.YtpibdohdkfkcnaaGreatDoorP9
import Derived.Test.YtpibdohdkfkcnaaGreatDoorP10
import Derived.Test.YtpibdohdkfkcnaaGreatDoorP11
import Derived.Test.YtpibdohdkfkcnaaGreatDoorCards
set_option linter.unusedVariables false
set_option linter.unusedSimpArgs false
set_option maxRecDepth 100000
open Go.Proofs
namespace Go.Proofs.YtpibdohdkfkcnaaGreatDoor
open Go Go.RowKit Go.ChangeShapes Go.WideShapes Go.ChangeAt Go.Joins Gx
def KOq:Ea:=#[.slice none 0 0,.slice none 0 0]
theorem KVI (os:Os):laidMet Tryz.prog Rows.parseBlanksUptoRow.laid ((KJA os KOq).forCall (λ_ _=>0) ⟨#[],KOq,[]⟩).memory:=
 laidMet_of_run' 8 (by kernel_rfl) (by kernel_rfl)
theorem reads (os:Os) {H:Type} (enc:TypeId×Value->H):∃places,DataW.whole enc Tryz.prog ((KJA os KOq).forCall (λ_ _=>0) ⟨#[],KOq,[]⟩).memory Tryz.f8.params.toList Rows.parseBlanksSpec.vars false KOq.toList 8=some ([.nil,.nil],[],places):=
 ⟨[],by kernel_rfl⟩
theorem KQ5 {H:Type} {l:List (DataW H)} (hk:Rows.uptoSmall H l=true):Rows.uptoBulkAll l<=1048576:=Ec hk
theorem KXp (os:Os) (started:os.Started) (H:Type) (enc:TypeId×Value->H) (F:Stop.Interp):
  ReturnsInHanded {} Tryz.checked os 8 .any ((Rows.OpenSpec.upto Rows.parseBlanksSpec).preRow enc Tryz.prog Tryz.f8 Rows.parseBlanksUptoRow.domain false Rows.parseBlanksUptoRow.laid) (((Rows.OpenSpec.upto Rows.parseBlanksSpec).at F).post enc Tryz.prog Tryz.f8 false true false false):=by
 obtain⟨places,hx⟩:=reads os enc
 refine returnsInHanded_of_row (C:=Tryz.checked) (s:=Rows.OpenSpec.upto Rows.parseBlanksSpec) Own started (by kernel_rfl) Tryz.func8
  (witness_row_at (enc:=enc) (C:=Tryz.checked) false (KJA os KOq) KOq rfl (by kernel_rfl) (by kernel_rfl) (by kernel_rfl)
   (OpenSpec.preRow_of_cond 8 hx (by kernel_rfl) (λk hk=>by cases hk;kernel_rfl) (by kernel_rfl) (KVI os))) ?_
 intro W base args ds gs before hval0 hW _ hcond _ hL _ _
 have hval:∀(j:Nat) t v,Tryz.f8.params[j]?=some t->args[j]?=some v->Value.okWide Tryz.prog W .any base t v:=hval0
 have hW':=hW
 obtain⟨p,q,hA0,hV,rfl,hfz,hnd⟩:=hW
 have hA:DataW.TrodAll enc Tryz.prog W 0 (λ_=>true) true Tryz.f8.params.toList args.toList ds p:=hA0
 rw [Tryz.params8]at hA hval
 obtain⟨v0,vs0,d0,ds0,p0,q0,hargs0,rfl,rfl,h0,r0⟩:=trodAll_cons hA
 obtain⟨v1,vs1,d1,ds1,p1,q1,hargs1,rfl,rfl,h1,r1⟩:=trodAll_cons r0
 obtain⟨rfl,rfl,rfl⟩:=trodAll_nil r1
 obtain rfl:args=#[v0,v1]:=by cases args;simp_all
 obtain⟨rfl,rfl⟩:=trodVars_none hV
 have hk':=KQ5 (hcond _ rfl)
 simp only [Ey,EW,Rows.uptoBulkAll]at hk'
 obtain⟨a0,l0,k0,rfl⟩:=okWide_slice Tryz.underlying43 (hval 0 43 v0 rfl rfl)
 obtain⟨n0,f0⟩:=h0
 obtain⟨s0,L0,hs0,V0,b0⟩:=KQ4 f0
 have h0:DataW.Trod enc Tryz.prog W 0 (λ_=>true) true 43 (.slice a0 l0 k0) d0 p0:=⟨n0,f0⟩
 rw [hs0]at h0 hW'⊢
 have b0:swL L0+1<=Rows.uptoBulk d0:=b0
 obtain⟨a1,l1,k1,rfl⟩:=okWide_slice Tryz.underlying44 (hval 1 44 v1 rfl rfl)
 obtain⟨n1,f1⟩:=h1
 obtain⟨s1,L1,hs1,V1,b1⟩:=KVH f1
 have h1:DataW.Trod enc Tryz.prog W 0 (λ_=>true) true 44 (.slice a1 l1 k1) d1 p1:=⟨n1,f1⟩
 rw [hs1]at h1 hW'⊢
 clear hA0 hval0
 refine(zX s0 s1 W (λr h'=>r=true/\Ext W.heap h') (by exact KQ3 (λ_ hk=>hk) V0 (λ_ hk=>hk) V1 (by omega) (KXn hL) (KZZ hL) (KaT hL) (λh' e=>⟨rfl,e⟩))).mono λe W' ⟨r,he,⟨hr,hext⟩,hrest⟩=>?_
 subst hr
 subst he
 exact⟨_,rfl,_,_,_,[],_,[],hW',trodAll_mk1 (shut_bool Tryz.underlying4 _),(trodAll_cons_mk (KQF Laid (by kernel_rfl) (Ec (by kernel_rfl)) h0 hext) (trodAll_cons_mk (KQF Laid (by kernel_rfl) (Ec (by kernel_rfl)) h1 hext) trodAll_mk0)),rfl,KTJ hext hrest _,λh=>by cases h⟩
end Go.Proofs.YtpibdohdkfkcnaaGreatDoor
