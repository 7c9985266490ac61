/- Proved: Rows.ResultBackUptoCard: for every input that the statement speaks of the law returns true and the arguments read as before. No condition. -/
import Derived.Test.YthelieedlghccaaGreatDoorP0
import Derived.Test.YthelieedlghccaaGreatDoorP1
import Derived.Test.YthelieedlghccaaGreatDoorP2
import Derived.Test.YthelieedlghccaaGreatDoorP3
import Derived.Test.YthelieedlghccaaGreatDoorP4
import Derived.Test.YthelieedlghccaaGreatDoorP5
import Derived.Test.YthelieedlghccaaGreatDoorP6
import Derived.Test.YthelieedlghccaaGreatDoorP7
import Derived.Test.YthelieedlghccaaGreatDoorP8
import Derived.Test.YthelieedlghccaaGreatDoorP9
import Derived.Test.YthelieedlghccaaGreatDoorCards
import Derived.Deep.DeepHandedRow
import Derived.Lib.LaidTab
import Derived.JoinedCond
import Derived.SevenTiedAt
set_option linter.unusedVariables false
set_option linter.unusedSimpArgs false
namespace Go.Proofs.YthelieedlghccaaGreatDoor
open Go Go.RowKit Go.ChangeShapes Go.WideShapes Go.ChangeAt Go.Joins Gx
set_option linter.unusedVariables false
set_option maxRecDepth 100000
theorem Own:ownKnob Tryz.prog.godebug=none:=by kernel_rfl
theorem Laid:laidOutB Tryz.prog=true:=by kernel_rfl
theorem gPow:Tryz.prog.globalNamed "internal/strconv.uint64pow10"=some 3:=by kernel_rfl
theorem gDb:Tryz.prog.globalNamed "math/bits.deBruijn64tab"=some 7:=by kernel_rfl
theorem Gb {P:Program} {x:String × DataW Unit} {r:List (String × DataW Unit)} {W:World} (h:laidMet P (x::r) W):laidMet P r W:=by
 obtain ⟨ps,h1,h2,h3⟩:=h
 obtain ⟨n,d⟩:=x
 obtain ⟨g,t,cs,fuel,p,q,a1,a2,a3,a4,a5,rfl⟩:=h1
 exact ⟨q,a5,(List.nodup_append.1 h2).2.1,fun b off hb=>h3 b off (List.mem_append.2 (.inr hb))⟩
theorem KNW {W:World} (h:laidMet Tryz.prog Rows.resultBackUptoRow.laid W):Vt W.heap:=by
 have h1:Lib.TabIs Tryz.prog W "internal/strconv.uint64pow10" .u64 [1,10,100,1000,10000,100000,1000000,10000000,100000000,1000000000,10000000000,100000000000,1000000000000,10000000000000,100000000000000,1000000000000000,10000000000000000,100000000000000000,1000000000000000000,10000000000000000000] :=
  Lib.tabIs_of_head (rest:=[("strconv.ErrRange",Rows.laid_strconv_ErrRange),("strconv.ErrSyntax",Rows.laid_strconv_ErrSyntax)]) gPow (by kernel_rfl:(Tryz.prog.globals[3]?).map (·.type)=some 245) Tryz.underlying245 Tryz.underlying154 (by kernel_rfl) (by kernel_rfl) (Gb (Gb h))
 unfold Lib.TabIs at h1
 simp only [World.var?,gPow,Option.bind_some] at h1
 split at h1
 ·rename_i cs t fz hh
  cases h1
  exact ⟨fz,t,hh⟩
 ·cases h1
theorem KOs {W:World} (h:laidMet Tryz.prog Rows.resultBackUptoRow.laid W):X9 W.heap:=by
 have h1:Lib.TabIs Tryz.prog W "math/bits.deBruijn64tab" .u8 [0,1,56,2,57,49,28,3,61,58,42,50,38,29,17,4,62,47,59,36,45,43,51,22,53,39,33,30,24,18,12,5,63,55,48,27,60,41,37,16,46,35,44,21,52,32,23,11,54,26,40,15,34,20,31,10,25,14,19,9,13,8,7,6] :=
  Lib.tabIs_of_head (rest:=[("internal/strconv.uint64pow10",Rows.laid_internal_strconv_uint64pow10),("strconv.ErrRange",Rows.laid_strconv_ErrRange),("strconv.ErrSyntax",Rows.laid_strconv_ErrSyntax)]) gDb (by kernel_rfl:(Tryz.prog.globals[7]?).map (·.type)=some 259) Tryz.underlying259 Tryz.underlying5 (by kernel_rfl) (by kernel_rfl) (Gb h)
 unfold Lib.TabIs at h1
 simp only [World.var?,gDb,Option.bind_some] at h1
 split at h1
 ·rename_i cs t fz hh
  cases h1
  exact ⟨_,t,fz,hh,rfl⟩
 ·cases h1
def KE1 (cs:Array Value):Obj→Obj
 | .cells _ t frozen=>.cells cs t frozen
 | o=>o
def KNX (h:Array Obj):Array Obj:=(((h.modify 5 (KE1 #[.iface 255 (.pointer (some ⟨h.size,0,none⟩))])).modify 4 (KE1 #[.iface 255 (.pointer (some ⟨h.size+1,0,none⟩))])).push (.cells #[.string ⟨#[118,97,108,117,101,32,111,117,116,32,111,102,32,114,97,110,103,101]⟩] 257)).push (.cells #[.string ⟨#[105,110,118,97,108,105,100,32,115,121,110,116,97,120]⟩] 257)
def KGr:Array Value:=#[.slice none 0 0,.slice none 0 0,.string ⟨#[]⟩]
noncomputable def litV:Lit→Value
 | .int k n=>.int k n
 | .bool b=>.bool b
 | _=>undef
noncomputable def KPg (ps:List (DataW Unit)):List Value:=ps.flatMap fun p=>match p with
 | .lit l=>[litV l]
 | .agg qs=>qs.map fun q=>match q with
  | .lit l=>litV l
  | _=>undef
 | _=>[]
noncomputable def KOt (l:List (String × DataW Unit)) (h:Array Obj):Array Obj:=l.foldl (fun h x=>match Tryz.prog.globalNamed x.1,x.2 with
 | some g,.agg ps=>h.modify g (KE1 (KPg ps).toArray)
 | _,_=>h) h
noncomputable def KCu (os:Os) (args:Array Value):World :=
 { World.holding Tryz.prog os ⟨#[],args,[]⟩ with heap:=KNX (KOt Rows.resultBackUptoRow.laid (World.holding Tryz.prog os ⟨#[],args,[]⟩).heap) }
theorem KLq (os:Os):laidMet Tryz.prog Rows.resultBackUptoRow.laid ((KCu os KGr).forCall (fun _ _=>0) ⟨#[],KGr,[]⟩).memory :=
 laidMet_of_run' 8 (by kernel_rfl) (by kernel_rfl)
theorem reads (os:Os) {H:Type} (enc:TypeId × Value→H):∃ places,DataW.whole enc Tryz.prog ((KCu os KGr).forCall (fun _ _=>0) ⟨#[],KGr,[]⟩).memory Tryz.f11.params.toList Rows.resultBackSpec.vars false KGr.toList 8=some ([.nil,.nil,.lit (.string [])],[],places) :=
 ⟨[],by kernel_rfl⟩
theorem gErr:Tryz.prog.globalNamed "strconv.ErrRange"=some 5:=by kernel_rfl
theorem KPh {W:World} (h:laidMet Tryz.prog Rows.resultBackUptoRow.laid W):ErrV W.heap:=by
 obtain ⟨ps,h1,h2,h3⟩:=Gb (Gb (Gb h))
 obtain ⟨g,t,cs,fuel,p,q,a1,a2,a3,a4,a5,rfl⟩:=h1
 rw [gErr] at a1
 cases a1
 have ht:t=111:=Option.some.inj (a2.symm.trans (by kernel_rfl))
 subst ht
 have hcs:∃ u v,cs.toList=[.iface u v]:=by
  cases fuel with
  | zero=>simp [DataW.trod] at a4
  | succ fuel =>
   unfold DataW.trod at a4
   rw [Tryz.underlying111] at a4
   cases hc:cs.toList with
   | nil=>rw [hc] at a4; simp at a4
   | cons c r =>
    rw [hc] at a4
    cases r with
    | cons c2 r2=>exfalso; cases c <;> simp at a4
    | nil=>cases c <;> first | exact ⟨_,_,rfl⟩ | (exfalso; simp [Rows.laid_strconv_ErrRange] at a4)
 obtain ⟨u,v,hcs⟩:=hcs
 have hcs':cs=#[.iface u v]:=by
  apply Array.ext'
  exact hcs
 subst hcs'
 simp only [World.var?,gErr,Option.bind_some] at a3
 split at a3
 ·rename_i cs' t' fz hh
  cases a3
  exact ⟨u,v,by rw [KS hh]; rfl⟩
 ·cases a3
theorem KIX {H:Type} {l:List (DataW H)} (hk:Rows.uptoSmall H l=true):Rows.uptoBulkAll l≤1048576:=of_decide_eq_true hk
theorem KNY (os:Os) (started:os.Started) (H:Type) (enc:TypeId × Value→H) (F:Stop.Interp) :
  ReturnsInHanded {} Tryz.checked os 11 .any ((Rows.OpenSpec.upto Rows.resultBackSpec).preRow enc Tryz.prog Tryz.f11 Rows.resultBackUptoRow.domain false Rows.resultBackUptoRow.laid) (((Rows.OpenSpec.upto Rows.resultBackSpec).at F).post enc Tryz.prog Tryz.f11 false true false false):=by
 obtain ⟨places,hx⟩:=reads os enc
 refine returnsInHanded_of_row (C:=Tryz.checked) (s:=Rows.OpenSpec.upto Rows.resultBackSpec) Own started (by kernel_rfl) Tryz.func11
  (witness_row_at (enc:=enc) (C:=Tryz.checked) false (KCu os KGr) KGr rfl (by kernel_rfl) (by kernel_rfl) (by kernel_rfl)
   (OpenSpec.preRow_of_cond 8 hx (by kernel_rfl) (fun k hk=>by cases hk; kernel_rfl) (by kernel_rfl) (KLq os))) ?_
 intro W base args ds gs before hval0 hW _ hcond _ hL _ _
 have hval:∀ (j:Nat) t v,Tryz.f11.params[j]?=some t→args[j]?=some v→Value.okWide Tryz.prog W .any base t v:=hval0
 have hW':=hW
 obtain ⟨p,q,hA0,hV,rfl,hfz,hnd⟩:=hW
 have hA:DataW.TrodAll enc Tryz.prog W 0 (fun _=>true) true Tryz.f11.params.toList args.toList ds p:=hA0
 rw [Tryz.params11] at hA hval
 obtain ⟨v0,vs0,d0,ds0,p0,q0,hargs0,rfl,rfl,h0,r0⟩:=trodAll_cons hA
 obtain ⟨v1,vs1,d1,ds1,p1,q1,hargs1,rfl,rfl,h1,r1⟩:=trodAll_cons r0
 obtain ⟨v2,vs2,d2,ds2,p2,q2,hargs2,rfl,rfl,h2,r2⟩:=trodAll_cons r1
 obtain ⟨rfl,rfl,rfl⟩:=trodAll_nil r2
 obtain rfl:args=#[v0,v1,v2]:=by cases args; simp_all
 obtain ⟨rfl,rfl⟩:=trodVars_none hV
 have hk':=KIX (hcond _ rfl)
 simp only [List.cons_append,List.nil_append,Rows.uptoBulkAll] at hk'
 obtain ⟨a0,l0,k0,rfl⟩:=okWide_slice Tryz.underlying22 (hval 0 22 v0 rfl rfl)
 obtain ⟨n0,f0⟩:=h0
 obtain ⟨s0,L0,hs0,V0,b0⟩:=(KFX n0).2 _ _ f0
 have h0:DataW.Trod enc Tryz.prog W 0 (fun _=>true) true 22 (.slice a0 l0 k0) d0 p0:=⟨n0,f0⟩
 rw [hs0] at h0 hW' ⊢
 have b0:wt.wts L0+1≤Rows.uptoBulk d0:=b0
 obtain ⟨a1,l1,k1,rfl⟩:=okWide_slice Tryz.underlying57 (hval 1 57 v1 rfl rfl)
 obtain ⟨n1,f1⟩:=h1
 obtain ⟨s1,L1,hs1,V1,b1⟩:=KKS n1 _ _ f1
 have h1:DataW.Trod enc Tryz.prog W 0 (fun _=>true) true 57 (.slice a1 l1 k1) d1 p1:=⟨n1,f1⟩
 rw [hs1] at h1 hW' ⊢
 have b1:bagW L1+1≤4 * Rows.uptoBulk d1:=b1
 obtain ⟨s2,rfl⟩:=okWide_string Tryz.underlying9 (hval 2 9 v2 rfl rfl)
 obtain ⟨n2,f2⟩:=h2
 obtain ⟨s2',hs2,z2,b2⟩:=KHJ Tryz.underlying9 f2
 cases hs2
 have h2:DataW.Trod enc Tryz.prog W 0 (fun _=>true) true 9 (.string s2) d2 p2:=⟨n2,f2⟩
 have b2:Rows.uptoBulk d2=s2.data.toList.length+1:=b2
 have e2:bs s2.data.toList=s2:=by simp [bs]
 clear hA0 hval0
 refine (GR s0 s1 s2 W (fun r h'=>r=true∧Ext W.heap h') (by rw [← e2]; exact KKR V0 V1 (by omega) (by omega) (by omega) (KNW hL) (KOs hL) (KPh hL) (fun h' e=>⟨rfl,e⟩))).mono fun e W' ⟨r,he,⟨hr,hext⟩,hrest⟩=>?_
 subst hr
 subst he
 exact ⟨_,rfl,_,_,_,[],_,[],hW',trodAll_mk1 (shut_bool Tryz.underlying4 _),(trodAll_cons_mk (KE0 Laid (by kernel_rfl) (of_decide_eq_true (by kernel_rfl)) h0 hext) (trodAll_cons_mk (KE0 Laid (by kernel_rfl) (of_decide_eq_true (by kernel_rfl)) h1 hext) (trodAll_cons_mk (KE0 Laid (by kernel_rfl) (of_decide_eq_true (by kernel_rfl)) h2 hext) trodAll_mk0))),rfl,KKT hext hrest _,fun h=>by cases h⟩
theorem KPi:Rows.ResultBackUptoSaid :=
 OpenClaim.holds_of_cond 11 Tryz.f11 rfl rfl rfl rfl rfl rfl rfl ⟨rfl,rfl,rfl,rfl,rfl⟩ rfl rfl rfl rfl rfl (by kernel_rfl) Tryz.func11 (by kernel_rfl)
  (of_decide_eq_true (by kernel_rfl)) (by unfold Func.isWrapper; first | (rw [if_pos (by decide +kernel)]; kernel_rfl) | (rw [if_neg (by decide +kernel)]; exact ⟨rfl,rfl⟩))
  (fun os started H enc _ F=>by rw [OpenClaim.pre_eq_preRow]; exact KNY os started H enc F)
theorem KOu (f:FuncId) (fn:Func) (hf:Tryz.pinned.checked.prog.funcNamed "ramble/ramblelaw23.ResultBack"=some f) (hfn:Tryz.pinned.checked.prog.funcs[f]?=some fn) :
  true=Tryz.pinned.checked.prog.looks []∧∀ (j:Nat) t,fn.params[j]?=some t→Tryz.pinned.checked.prog.wantsStandIn t=false:=by
 obtain rfl:f=11:=Option.some.inj ((show Tryz.prog.funcNamed "ramble/ramblelaw23.ResultBack"=some 11 by kernel_rfl).symm.trans hf) |>.symm
 obtain rfl:fn=Tryz.f11:=(Option.some.inj (Tryz.func11.symm.trans hfn)).symm
 refine ⟨by kernel_rfl,fun j t ht=>?_⟩
 rw [Tryz.params11] at ht
 have ht:t=22∨t=57∨t=9:=by simpa using Array.mem_of_getElem? ht
 rcases ht with rfl | rfl | rfl
 ·exact (show Tryz.prog.wantsStandIn 22=false by kernel_rfl)
 ·exact (show Tryz.prog.wantsStandIn 57=false by kernel_rfl)
 ·exact (show Tryz.prog.wantsStandIn 9=false by kernel_rfl)
theorem rback_card:Rows.ResultBackUptoCardSaid :=
 Claim7.holds_tied_plain_at .later [] _ _ _ _ KPi (fun _ h=>by cases h) (by kernel_rfl) (fun _ h=>by cases h) resultBackUpto_row_tie rfl ⟨rfl,rfl⟩ (by kernel_rfl) rfl KOu (by kernel_rfl)
#print axioms rback_card
end Go.Proofs.YthelieedlghccaaGreatDoor
