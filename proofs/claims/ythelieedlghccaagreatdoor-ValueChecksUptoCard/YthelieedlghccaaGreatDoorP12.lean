/- Proved: Rows.ValueChecksUptoCard: for every input that the statement speaks of the law returns true and the arguments read as before. No condition. -/
import Derived.Test.YthelieedlghccaaGreatDoorP0
import Derived.Test.YthelieedlghccaaGreatDoorP1
import Derived.Test.YthelieedlghccaaGreatDoorP2
import Derived.Test.YthelieedlghccaaGreatDoorP3
import Derived.Test.YthelieedlghccaaGreatDoorP4
import Derived.Test.YthelieedlghccaaGreatDoorP5
import Derived.Test.YthelieedlghccaaGreatDoorP6
import Derived.Test.YthelieedlghccaaGreatDoorP7
import Derived.Test.YthelieedlghccaaGreatDoorP8
import Derived.Test.YthelieedlghccaaGreatDoorP9
import Derived.Test.YthelieedlghccaaGreatDoorP10
import Derived.Test.YthelieedlghccaaGreatDoorP11
import Derived.Test.YthelieedlghccaaGreatDoorCards
import Derived.Deep.DeepHandedRow
import Derived.Lib.LaidTab
import Derived.JoinedCond
import Derived.SevenTiedAt
set_option linter.unusedVariables false
set_option linter.unusedSimpArgs false
namespace Go.Proofs.YthelieedlghccaaGreatDoor
open Go Go.RowKit Go.ChangeShapes Go.WideShapes Go.ChangeAt Go.Joins Gx
set_option linter.unusedVariables false
set_option maxRecDepth 100000
theorem Own:ownKnob Tryz.prog.godebug=none:=by kernel_rfl
theorem Laid:laidOutB Tryz.prog=true:=by kernel_rfl
theorem gPow:Tryz.prog.globalNamed "internal/strconv.uint64pow10"=some 3:=by kernel_rfl
theorem gDb:Tryz.prog.globalNamed "math/bits.deBruijn64tab"=some 7:=by kernel_rfl
theorem X9 {P:Program} {x:String × DataW Unit} {r:List (String × DataW Unit)} {W:World} (h:laidMet P (x::r) W):laidMet P r W:=by
 obtain ⟨ps,h1,h2,h3⟩:=h
 obtain ⟨n,d⟩:=x
 obtain ⟨g,t,cs,fuel,p,q,a1,a2,a3,a4,a5,rfl⟩:=h1
 exact ⟨q,a5,(List.nodup_append.1 h2).2.1,fun b off hb=>h3 b off (List.mem_append.2 (.inr hb))⟩
theorem KIJ {W:World} (h:laidMet Tryz.prog Rows.valueChecksUptoRow.laid W):NV W.heap:=by
 have h1:Lib.TabIs Tryz.prog W "internal/strconv.uint64pow10" .u64 [1,10,100,1000,10000,100000,1000000,10000000,100000000,1000000000,10000000000,100000000000,1000000000000,10000000000000,100000000000000,1000000000000000,10000000000000000,100000000000000000,1000000000000000000,10000000000000000000] :=
  Lib.tabIs_of_head (rest:=[("strconv.ErrRange",Rows.laid_strconv_ErrRange),("strconv.ErrSyntax",Rows.laid_strconv_ErrSyntax)]) gPow (by kernel_rfl:(Tryz.prog.globals[3]?).map (·.type)=some 245) Tryz.underlying245 Tryz.underlying154 (by kernel_rfl) (by kernel_rfl) (X9 (X9 h))
 unfold Lib.TabIs at h1
 simp only [World.var?,gPow,Option.bind_some] at h1
 split at h1
 ·rename_i cs t fz hh
  cases h1
  exact ⟨fz,t,hh⟩
 ·cases h1
theorem KJC {W:World} (h:laidMet Tryz.prog Rows.valueChecksUptoRow.laid W):zl W.heap:=by
 have h1:Lib.TabIs Tryz.prog W "math/bits.deBruijn64tab" .u8 [0,1,56,2,57,49,28,3,61,58,42,50,38,29,17,4,62,47,59,36,45,43,51,22,53,39,33,30,24,18,12,5,63,55,48,27,60,41,37,16,46,35,44,21,52,32,23,11,54,26,40,15,34,20,31,10,25,14,19,9,13,8,7,6] :=
  Lib.tabIs_of_head (rest:=[("internal/strconv.uint64pow10",Rows.laid_internal_strconv_uint64pow10),("strconv.ErrRange",Rows.laid_strconv_ErrRange),("strconv.ErrSyntax",Rows.laid_strconv_ErrSyntax)]) gDb (by kernel_rfl:(Tryz.prog.globals[7]?).map (·.type)=some 259) Tryz.underlying259 Tryz.underlying5 (by kernel_rfl) (by kernel_rfl) (X9 h)
 unfold Lib.TabIs at h1
 simp only [World.var?,gDb,Option.bind_some] at h1
 split at h1
 ·rename_i cs t fz hh
  cases h1
  exact ⟨_,t,fz,hh,rfl⟩
 ·cases h1
def qa (cs:Array Value):Obj→Obj
 | .cells _ t frozen=>.cells cs t frozen
 | o=>o
def KIK (h:Array Obj):Array Obj:=(((h.modify 5 (qa #[.iface 255 (.pointer (some ⟨h.size,0,none⟩))])).modify 4 (qa #[.iface 255 (.pointer (some ⟨h.size+1,0,none⟩))])).push (.cells #[.string ⟨#[118,97,108,117,101,32,111,117,116,32,111,102,32,114,97,110,103,101]⟩] 257)).push (.cells #[.string ⟨#[105,110,118,97,108,105,100,32,115,121,110,116,97,120]⟩] 257)
def KCk:Array Value:=#[.agg #[.int .i64 0,.int .i64 0,.string ⟨#[]⟩,.slice none 0 0],.slice none 0 0,.int .i64 0,.string ⟨#[]⟩]
noncomputable def KAA (os:Os) (args:Array Value):World :=
 { World.holding Tryz.prog os ⟨#[],args,[]⟩ with heap:=KIK ((((World.holding Tryz.prog os ⟨#[],args,[]⟩).heap.modify 3 (qa #[.int .u64 1,.int .u64 10,.int .u64 100,.int .u64 1000,.int .u64 10000,.int .u64 100000,.int .u64 1000000,.int .u64 10000000,.int .u64 100000000,.int .u64 1000000000,.int .u64 10000000000,.int .u64 100000000000,.int .u64 1000000000000,.int .u64 10000000000000,.int .u64 100000000000000,.int .u64 1000000000000000,.int .u64 10000000000000000,.int .u64 100000000000000000,.int .u64 1000000000000000000,.int .u64 10000000000000000000])).modify 6 (qa #[.int .u8 0,.int .u8 1,.int .u8 28,.int .u8 2,.int .u8 29,.int .u8 14,.int .u8 24,.int .u8 3,.int .u8 30,.int .u8 22,.int .u8 20,.int .u8 15,.int .u8 25,.int .u8 17,.int .u8 4,.int .u8 8,.int .u8 31,.int .u8 27,.int .u8 13,.int .u8 23,.int .u8 21,.int .u8 19,.int .u8 16,.int .u8 7,.int .u8 26,.int .u8 12,.int .u8 18,.int .u8 6,.int .u8 11,.int .u8 5,.int .u8 10,.int .u8 9])).modify 7 (qa #[.int .u8 0,.int .u8 1,.int .u8 56,.int .u8 2,.int .u8 57,.int .u8 49,.int .u8 28,.int .u8 3,.int .u8 61,.int .u8 58,.int .u8 42,.int .u8 50,.int .u8 38,.int .u8 29,.int .u8 17,.int .u8 4,.int .u8 62,.int .u8 47,.int .u8 59,.int .u8 36,.int .u8 45,.int .u8 43,.int .u8 51,.int .u8 22,.int .u8 53,.int .u8 39,.int .u8 33,.int .u8 30,.int .u8 24,.int .u8 18,.int .u8 12,.int .u8 5,.int .u8 63,.int .u8 55,.int .u8 48,.int .u8 27,.int .u8 60,.int .u8 41,.int .u8 37,.int .u8 16,.int .u8 46,.int .u8 35,.int .u8 44,.int .u8 21,.int .u8 52,.int .u8 32,.int .u8 23,.int .u8 11,.int .u8 54,.int .u8 26,.int .u8 40,.int .u8 15,.int .u8 34,.int .u8 20,.int .u8 31,.int .u8 10,.int .u8 25,.int .u8 14,.int .u8 19,.int .u8 9,.int .u8 13,.int .u8 8,.int .u8 7,.int .u8 6])) }
theorem KGo (os:Os):laidMet Tryz.prog Rows.valueChecksUptoRow.laid ((KAA os KCk).forCall (fun _ _=>0) ⟨#[],KCk,[]⟩).memory :=
 laidMet_of_run' 8 (by kernel_rfl) (by kernel_rfl)
theorem reads (os:Os) {H:Type} (enc:TypeId × Value→H):∃ places,DataW.whole enc Tryz.prog ((KAA os KCk).forCall (fun _ _=>0) ⟨#[],KCk,[]⟩).memory Tryz.f6.params.toList Rows.valueChecksSpec.vars false KCk.toList 8=some ([.agg [.lit (.int .i64 0),.lit (.int .i64 0),.lit (.string []),.nil],.nil,.lit (.int .i64 0),.lit (.string [])],[],places) :=
 ⟨[],by kernel_rfl⟩
theorem gErr:Tryz.prog.globalNamed "strconv.ErrRange"=some 5:=by kernel_rfl
theorem KJn {W:World} (h:laidMet Tryz.prog Rows.valueChecksUptoRow.laid W):ErrV W.heap:=by
 obtain ⟨ps,h1,h2,h3⟩:=X9 (X9 (X9 h))
 obtain ⟨g,t,cs,fuel,p,q,a1,a2,a3,a4,a5,rfl⟩:=h1
 rw [gErr] at a1
 cases a1
 have ht:t=111:=Option.some.inj (a2.symm.trans (by kernel_rfl))
 subst ht
 have hcs:∃ u v,cs.toList=[.iface u v]:=by
  cases fuel with
  | zero=>simp [DataW.trod] at a4
  | succ fuel =>
   unfold DataW.trod at a4
   rw [Tryz.underlying111] at a4
   cases hc:cs.toList with
   | nil=>rw [hc] at a4; simp at a4
   | cons c r =>
    rw [hc] at a4
    cases r with
    | cons c2 r2=>exfalso; cases c <;> simp at a4
    | nil=>cases c <;> first | exact ⟨_,_,rfl⟩ | (exfalso; simp [Rows.laid_strconv_ErrRange] at a4)
 obtain ⟨u,v,hcs⟩:=hcs
 have hcs':cs=#[.iface u v]:=by
  apply Array.ext'
  exact hcs
 subst hcs'
 simp only [World.var?,gErr,Option.bind_some] at a3
 split at a3
 ·rename_i cs' t' fz hh
  cases a3
  exact ⟨u,v,by rw [Ks hh]; rfl⟩
 ·cases a3
theorem KGp {H:Type} {enc:TypeId × Value→H} {W:World} {n:Nat} {cs:Array Value} {x:DataW H × List MemPlace} (h:DataW.trod enc Tryz.prog W 0 (fun _=>true) true n 24 cs.toList=some x):∃ v,VRep W.heap v cs∧wt v≤Rows.uptoBulk x.1:=by
 have:=(KBy (enc:=enc) (W:=W) (sp:=fun _=>true) (held:=true) (base:=0) n).1 _ _ h
 simpa using this
theorem KD0 {H:Type} {l:List (DataW H)} (hk:Rows.uptoSmall H l=true):Rows.uptoBulkAll l≤1048576:=of_decide_eq_true hk
theorem KIL (os:Os) (started:os.Started) (H:Type) (enc:TypeId × Value→H) (F:Stop.Interp) :
  ReturnsInHanded {} Tryz.checked os 6 .any ((Rows.OpenSpec.upto Rows.valueChecksSpec).preRow enc Tryz.prog Tryz.f6 Rows.valueChecksUptoRow.domain false Rows.valueChecksUptoRow.laid) (((Rows.OpenSpec.upto Rows.valueChecksSpec).at F).post enc Tryz.prog Tryz.f6 false true false false):=by
 obtain ⟨places,hx⟩:=reads os enc
 refine returnsInHanded_of_row (C:=Tryz.checked) (s:=Rows.OpenSpec.upto Rows.valueChecksSpec) Own started (by kernel_rfl) Tryz.func6
  (witness_row_at (enc:=enc) (C:=Tryz.checked) false (KAA os KCk) KCk rfl (by kernel_rfl) (by kernel_rfl) (by kernel_rfl)
   (OpenSpec.preRow_of_cond 8 hx (by kernel_rfl) (fun k hk=>by cases hk; kernel_rfl) (by kernel_rfl) (KGo os))) ?_
 intro W base args ds gs before hval0 hW _ hcond _ hL _ _
 have hval:∀ (j:Nat) t v,Tryz.f6.params[j]?=some t→args[j]?=some v→Value.okWide Tryz.prog W .any base t v:=hval0
 have hW':=hW
 obtain ⟨p,q,hA0,hV,rfl,hfz,hnd⟩:=hW
 have hA:DataW.TrodAll enc Tryz.prog W 0 (fun _=>true) true Tryz.f6.params.toList args.toList ds p:=hA0
 rw [Tryz.params6] at hA hval
 obtain ⟨v0,vs0,d0,ds0,p0,q0,hargs0,rfl,rfl,h0,r0⟩:=trodAll_cons hA
 obtain ⟨v1,vs1,d1,ds1,p1,q1,hargs1,rfl,rfl,h1,r1⟩:=trodAll_cons r0
 obtain ⟨v2,vs2,d2,ds2,p2,q2,hargs2,rfl,rfl,h2,r2⟩:=trodAll_cons r1
 obtain ⟨v3,vs3,d3,ds3,p3,q3,hargs3,rfl,rfl,h3,r3⟩:=trodAll_cons r2
 obtain ⟨rfl,rfl,rfl⟩:=trodAll_nil r3
 obtain rfl:args=#[v0,v1,v2,v3]:=by cases args; simp_all
 obtain ⟨rfl,rfl⟩:=trodVars_none hV
 have hk':=KD0 (hcond _ rfl)
 simp only [List.cons_append,List.nil_append,Rows.uptoBulkAll] at hk'
 obtain ⟨c0,rfl,z0⟩:=okWide_struct Tryz.underlying24 (hval 0 24 v0 rfl rfl)
 obtain ⟨n0,f0⟩:=h0
 obtain ⟨w0,V0,b0⟩:=KGp f0
 have h0:DataW.Trod enc Tryz.prog W 0 (fun _=>true) true 24 (.agg c0) d0 p0:=⟨n0,f0⟩
 have b0:wt w0≤Rows.uptoBulk d0:=b0
 obtain ⟨a1,l1,k1,rfl⟩:=okWide_slice Tryz.underlying22 (hval 1 22 v1 rfl rfl)
 obtain ⟨n1,f1⟩:=h1
 obtain ⟨s1,L1,hs1,V1,b1⟩:=(KBy n1).2 _ _ f1
 have h1:DataW.Trod enc Tryz.prog W 0 (fun _=>true) true 22 (.slice a1 l1 k1) d1 p1:=⟨n1,f1⟩
 rw [hs1] at h1 hW' ⊢
 have b1:wt.wts L1+1≤Rows.uptoBulk d1:=b1
 obtain ⟨z2,rfl⟩:=okWide_int Tryz.underlying2 (hval 2 2 v2 rfl rfl)
 obtain ⟨n2,f2⟩:=h2
 obtain ⟨y2,hy2,b2,_⟩:=KBU Tryz.underlying2 f2
 cases hy2
 have h2:DataW.Trod enc Tryz.prog W 0 (fun _=>true) true 2 (.int .i64 z2) d2 p2:=⟨n2,f2⟩
 obtain ⟨s3,rfl⟩:=okWide_string Tryz.underlying9 (hval 3 9 v3 rfl rfl)
 obtain ⟨n3,f3⟩:=h3
 obtain ⟨s3',hs3,z3,b3⟩:=KDB Tryz.underlying9 f3
 cases hs3
 have h3:DataW.Trod enc Tryz.prog W 0 (fun _=>true) true 9 (.string s3) d3 p3:=⟨n3,f3⟩
 have b3:Rows.uptoBulk d3=s3.data.toList.length+1:=b3
 have e3:bs s3.data.toList=s3:=by simp [bs]
 clear hA0 hval0
 refine (Xi c0 s1 z2 s3 W (fun r h'=>r=true∧Ext W.heap h') (by rw [← e3]; exact KDz V0 V1 b2 (by omega) (by omega) (KIJ hL) (KJC hL) (KJn hL) (fun h' e=>⟨rfl,e⟩))).mono fun e W' ⟨r,he,⟨hr,hext⟩,hrest⟩=>?_
 subst hr
 subst he
 exact ⟨_,rfl,_,_,_,[],_,[],hW',trodAll_mk1 (shut_bool Tryz.underlying4 _),(trodAll_cons_mk (zS Laid (by kernel_rfl) (of_decide_eq_true (by kernel_rfl)) h0 hext) (trodAll_cons_mk (zS Laid (by kernel_rfl) (of_decide_eq_true (by kernel_rfl)) h1 hext) (trodAll_cons_mk (zS Laid (by kernel_rfl) (of_decide_eq_true (by kernel_rfl)) h2 hext) (trodAll_cons_mk (zS Laid (by kernel_rfl) (of_decide_eq_true (by kernel_rfl)) h3 hext) trodAll_mk0)))),rfl,KFl hext hrest _,fun h=>by cases h⟩
theorem KJo:Rows.ValueChecksUptoSaid :=
 OpenClaim.holds_of_cond 6 Tryz.f6 rfl rfl rfl rfl rfl rfl rfl ⟨rfl,rfl,rfl,rfl,rfl⟩ rfl rfl rfl rfl rfl (by kernel_rfl) Tryz.func6 (by kernel_rfl)
  (of_decide_eq_true (by kernel_rfl)) (by unfold Func.isWrapper; first | (rw [if_pos (by decide +kernel)]; kernel_rfl) | (rw [if_neg (by decide +kernel)]; exact ⟨rfl,rfl⟩))
  (fun os started H enc _ F=>by rw [OpenClaim.pre_eq_preRow]; exact KIL os started H enc F)
theorem KJD (f:FuncId) (fn:Func) (hf:Tryz.pinned.checked.prog.funcNamed "ramble/ramblelaw02.ValueChecks"=some f) (hfn:Tryz.pinned.checked.prog.funcs[f]?=some fn) :
  true=Tryz.pinned.checked.prog.looks []∧∀ (j:Nat) t,fn.params[j]?=some t→Tryz.pinned.checked.prog.wantsStandIn t=false:=by
 obtain rfl:f=6:=Option.some.inj ((show Tryz.prog.funcNamed "ramble/ramblelaw02.ValueChecks"=some 6 by kernel_rfl).symm.trans hf) |>.symm
 obtain rfl:fn=Tryz.f6:=(Option.some.inj (Tryz.func6.symm.trans hfn)).symm
 refine ⟨by kernel_rfl,fun j t ht=>?_⟩
 rw [Tryz.params6] at ht
 have ht:t=24∨t=22∨t=2∨t=9:=by simpa using Array.mem_of_getElem? ht
 rcases ht with rfl | rfl | rfl | rfl
 ·exact (show Tryz.prog.wantsStandIn 24=false by kernel_rfl)
 ·exact (show Tryz.prog.wantsStandIn 22=false by kernel_rfl)
 ·exact (show Tryz.prog.wantsStandIn 2=false by kernel_rfl)
 ·exact (show Tryz.prog.wantsStandIn 9=false by kernel_rfl)
theorem checks_card:Rows.ValueChecksUptoCardSaid :=
 Claim7.holds_tied_plain_at .later [] _ _ _ _ KJo (fun _ h=>by cases h) (by kernel_rfl) (fun _ h=>by cases h) valueChecksUpto_row_tie rfl ⟨rfl,rfl⟩ (by kernel_rfl) rfl KJD (by kernel_rfl)
#print axioms checks_card
end Go.Proofs.YthelieedlghccaaGreatDoor
