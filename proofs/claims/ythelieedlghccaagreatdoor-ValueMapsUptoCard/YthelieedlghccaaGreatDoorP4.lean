/- Printed by program: Go functions as Lean programs, each tied to its code. No condition. -/
import Derived.Test.YthelieedlghccaaGreatDoorP0
import Derived.Test.YthelieedlghccaaGreatDoorP1
import Derived.Test.YthelieedlghccaaGreatDoorP2
import Derived.Test.YthelieedlghccaaGreatDoorP3
set_option linter.unusedVariables false
set_option linter.unusedSimpArgs false
namespace Gx
open Go
set_option linter.unusedVariables false
set_option maxRecDepth 100000
noncomputable def ro178_6 : Array Oper:=opsOf Go.Proofs.Tryz.f178 6
def tE178_6 : List (List Nat):=[[],[],[],[],[3],[],[],[6],[5,7],[8],[],[],[10,11],[12],[0,1,0,1,5,6,7,8,9,13],[14,9,0,1,5,6,7,8,9,13],[2,4,0,1,2,3,4,5,6,7,8,9,10,11,12,13,14,15],[16,13,15,0,1,2,3,4,5,6,7,8,9,10,11,12,13,14,15]]
def tC178_6 : List (List Nat):=[[],[],[],[],[3],[],[],[6],[5,7],[8],[],[],[10,11],[12],[0,1],[9,14],[2,4],[13,16]]
def tW178_6 : List (List Nat):=[[],[],[],[],[3],[],[],[6],[5,6,7],[5,6,7,8],[],[],[10,11],[10,11,12],[0,1,5,6,7,8,9,10,11,12,13],[0,1,5,6,7,8,9,10,11,12,13,14],[0,1,2,3,4,5,6,7,8,9,10,11,12,13,14,15],[0,1,2,3,4,5,6,7,8,9,10,11,12,13,14,15,16]]
theorem tb178_6 : tabAt Go.Proofs.Tryz.f178 6 tE178_6 tC178_6 tW178_6 = true:=by kernel_rfl
theorem tb178_6m : tabMB 18 tE178_6 tC178_6 tW178_6 [0,0,0,0,8,0,0,64,160,256,0,0,3072,4096,9187,25571,65535,131071] [0,0,0,0,8,0,0,64,160,256,0,0,3072,4096,3,16896,20,73728] [0,0,0,0,8,0,0,64,224,480,0,0,3072,7168,16355,32739,65535,131071] = true:=by kernel_rfl
def slices_insertionSortCmpFunc_slapi_Value_j1 (self1 : (Int) → M (Unit)) (self2 : (Int) → M (Unit)) (c0_21 : Sl) (c8_25 : Int) (c9_26 : Int) (x34_20 : Bool) : M (Unit):=do
  M.ite x34_20 (do
    let x45_28 ← ixL c0_21 (IntKind.wrap .i64 (c9_26 - 1)) 1
    let x49_29 ← ixL c0_21 c9_26 1
    let x46_30 ← ldL x45_28
    let x50_31 ← ldL x49_29
    let x51_32 ← ixL c0_21 c9_26 1
    stV x51_32 ((x46_30 : Sl).v)
    let x52_34 ← ixL c0_21 (IntKind.wrap .i64 (c9_26 - 1)) 1
    stV x52_34 ((x50_31 : Sl).v)
    self2 (IntKind.wrap .i64 (c9_26 - 1))
    ) (do
    self1 (IntKind.wrap .i64 (c8_25 + 1))
    )
noncomputable def ro178_4 : Array Oper:=opsOf Go.Proofs.Tryz.f178 4
def tE178_4 : List (List Nat):=[[],[],[0,1],[2],[3],[3],[3],[5,6,3],[7,3],[3],[3],[10,3],[9,11,3],[12,3],[4,8,13,3,3],[14,3],[3,15]]
def tC178_4 : List (List Nat):=[[],[],[0,1],[2],[3],[3],[3],[3,5,6],[3,7],[3],[3],[3,10],[3,9,11],[3,12],[3,4,8,13],[3,14],[3,15]]
def tW178_4 : List (List Nat):=[[],[],[0,1],[0,1,2],[0,1,2,3],[0,1,2,3],[0,1,2,3],[0,1,2,3,5,6],[0,1,2,3,5,6,7],[0,1,2,3],[0,1,2,3],[0,1,2,3,10],[0,1,2,3,9,10,11],[0,1,2,3,9,10,11,12],[0,1,2,3,4,5,6,7,8,9,10,11,12,13],[0,1,2,3,4,5,6,7,8,9,10,11,12,13,14],[0,1,2,3,4,5,6,7,8,9,10,11,12,13,14,15]]
theorem tb178_4 : tabAt Go.Proofs.Tryz.f178 4 tE178_4 tC178_4 tW178_4 = true:=by kernel_rfl
theorem tb178_4m : tabMB 17 tE178_4 tC178_4 tW178_4 [0,0,3,4,8,8,8,104,136,8,8,1032,2568,4104,8472,16392,32776] [0,0,3,4,8,8,8,104,136,8,8,1032,2568,4104,8472,16392,32776] [0,0,3,7,15,15,15,111,239,15,15,1039,3599,7695,16383,32767,65535] = true:=by kernel_rfl
def slices_insertionSortCmpFunc_slapi_Value_l2 (self1 : (Int) → M (Unit)) (c0_13 : Sl) (c1_14 : Int) (c3_16 : Value) (c8_17 : Int) (self2 : (Int) → M (Unit)) : (Int) → M (Unit):=fun s=>match s with
  | x9_12=>do
    M.ite (decide (x9_12 > c1_14)) (do
      let x25_37 ← ixL c0_13 x9_12 1
      let x30_38 ← ixL c0_13 (IntKind.wrap .i64 (x9_12 - 1)) 1
      let x26_39 ← ldL x25_37
      let x31_40 ← ldL x30_38
      let x32_41 ← callW Go.Proofs.Tryz.prog (fun r : Int=>.int .i64 r) c3_16 [(x26_39 : Sl).v,(x31_40 : Sl).v]
      slices_insertionSortCmpFunc_slapi_Value_j1 self1 self2 c0_13 c8_17 x9_12 (decide (x32_41 < 0))
      ) (do
      slices_insertionSortCmpFunc_slapi_Value_j1 self1 self2 c0_13 c8_17 x9_12 false
      )
def slices_insertionSortCmpFunc_slapi_Value_l1 (c0_3 : Sl) (c1_4 : Int) (c2_5 : Int) (c3_6 : Value) (self1 : (Int) → M (Unit)) : (Int) → M (Unit):=fun s=>match s with
  | x8_2=>do
    M.ite (decide (x8_2 < c2_5)) (do
      M.loop (slices_insertionSortCmpFunc_slapi_Value_l2 self1 c0_3 c1_4 c3_6 x8_2) x8_2
      ) (do
      M.pure ()
      )
def slices_insertionSortCmpFunc_slapi_Value (x0 : Sl) (x1 : Int) (x2 : Int) (x3 : Value) : M (Unit):=do
  M.loop (slices_insertionSortCmpFunc_slapi_Value_l1 x0 x1 x2 x3) (IntKind.wrap .i64 (x1 + 1))
theorem S_slices_insertionSortCmpFunc_slapi_Value (x0 : Sl) (x1 : Int) (x2 : Int) (x3 : Value) : Sound Go.Proofs.Tryz.prog 178 #[(x0 : Sl).v,.int .i64 x1,.int .i64 x2,x3] (fun (r : Unit)=>.tuple #[]) (slices_insertionSortCmpFunc_slapi_Value x0 x1 x2 x3):=by
  refine sound_of [(0,(x0 : Sl).v),(1,.int .i64 x1),(2,.int .i64 x2),(3,x3)] Go.Proofs.Tryz.func178 rfl rfl (Nat.le_of_ble_eq_true rfl) (args_of ⟨rfl,rfl,rfl,rfl,trivial⟩) (fun w0 w Q R a hret hE hR H=>?_)
  unfold slices_insertionSortCmpFunc_slapi_Value at H
  refine w_seq (fun K hK_1=>?_)
  refine t_region ?_
  refine t_val (v:=.int .i64 x1) rfl rfl hE rfl (r_move hE rfl) (fun a hE=>?_)
  refine t_val (v:=.int .i64 (IntKind.wrap .i64 (x1 + 1))) rfl rfl hE rfl (r_bin hE rfl rfl g_int b_add) (fun a hE=>?_)
  refine t_val (v:=.int .i64 (IntKind.wrap .i64 (x1 + 1))) rfl rfl hE rfl (r_assign hE rfl) (fun a hE=>?_)
  refine t_nil ?_
  refine hK_1 _ _ ?_
  refine w_block ?_
  refine l_loop (fun (s : Int)=>(⟨53,[]⟩ : Frm)) (fun (s : Int)=>[(0,(x0 : Sl).v),(1,.int .i64 x1),(2,.int .i64 x2),(3,x3),(8,.int .i64 s)]) H (hE.cut (.cons rfl (.cons rfl (.cons rfl (.cons rfl (.cons rfl Subs.nil)))))) hR (fun Y self1 hY_7 x8_2 a w hE hR H=>?_)
  replace hE : Env (⟨53,[]⟩ : Frm) a [(0,(x0 : Sl).v),(1,.int .i64 x1),(2,.int .i64 x2),(3,x3),(8,.int .i64 x8_2)]:=hE
  replace H : (slices_insertionSortCmpFunc_slapi_Value_l1 x0 x1 x2 x3 self1 x8_2).wp w.heap Q:=H
  unfold slices_insertionSortCmpFunc_slapi_Value_l1 at H
  refine w_seq (fun K hK_8=>?_)
  refine w_seq (fun K hK_9=>?_)
  refine t_region ?_
  refine t_val (v:=.int .i64 x8_2) rfl rfl hE rfl (r_move hE rfl) (fun a hE=>?_)
  refine t_val (v:=.int .i64 x2) rfl rfl hE rfl (r_move hE rfl) (fun a hE=>?_)
  refine t_val (v:=.bool (decide (x8_2 < x2))) rfl rfl hE rfl (r_bin hE rfl rfl g_int b_lss) (fun a hE=>?_)
  refine t_nil ?_
  refine hK_9 _ _ ?_
  refine w_cond (decide (x8_2 < x2)) hE rfl (fun hb=>?_) (fun hb=>?_)
  · replace H:=M.ite_t hb H
    refine w_skip ?_
    refine hK_8 _ _ ?_
    refine w_seq (fun K hK_10=>?_)
    refine w_block ?_
    refine w_seq (fun K hK_11=>?_)
    refine t_region ?_
    refine t_val (v:=.int .i64 x8_2) rfl rfl hE rfl (r_move hE rfl) (fun a hE=>?_)
    refine t_val (v:=.int .i64 x8_2) rfl rfl hE rfl (r_assign hE rfl) (fun a hE=>?_)
    refine t_nil ?_
    refine hK_11 _ _ ?_
    refine w_block ?_
    refine l_loop (fun (s : Int)=>(⟨53,[]⟩ : Frm)) (fun (s : Int)=>[(0,(x0 : Sl).v),(1,.int .i64 x1),(2,.int .i64 x2),(3,x3),(8,.int .i64 x8_2),(9,.int .i64 s)]) H (hE.cut (.cons rfl (.cons rfl (.cons rfl (.cons rfl (.cons rfl (.cons rfl Subs.nil))))))) hR (fun Y self2 hY_18 x9_12 a w hE hR H=>?_)
    replace hE : Env (⟨53,[]⟩ : Frm) a [(0,(x0 : Sl).v),(1,.int .i64 x1),(2,.int .i64 x2),(3,x3),(8,.int .i64 x8_2),(9,.int .i64 x9_12)]:=hE
    replace H : (slices_insertionSortCmpFunc_slapi_Value_l2 self1 x0 x1 x3 x8_2 self2 x9_12).wp w.heap Q:=H
    unfold slices_insertionSortCmpFunc_slapi_Value_l2 at H
    refine w_seq (fun K hK_19=>?_)
    refine w_seq_join (fun a w=>∃ (x34_20 : Bool),Env (⟨53,[]⟩ : Frm) a [(0,(x0 : Sl).v),(1,.int .i64 x1),(2,.int .i64 x2),(3,x3),(8,.int .i64 x8_2),(9,.int .i64 x9_12),(34,.bool x34_20)] ∧ Rest w0 w ∧ (slices_insertionSortCmpFunc_slapi_Value_j1 self1 self2 x0 x8_2 x9_12 x34_20).wp w.heap Q) ?_ ?_
    · rintro a w ⟨x34_20,hE,hR,H⟩
      unfold slices_insertionSortCmpFunc_slapi_Value_j1 at H
      refine w_cond x34_20 hE rfl (fun hb=>?_) (fun hb=>?_)
      · replace H:=M.ite_t hb H
        refine w_skip ?_
        refine hK_19 _ _ ?_
        refine w_seq (fun K hK_27=>?_)
        refine w_block ?_
        obtain ⟨x45_28,qx45_28,H⟩:=H
        obtain ⟨x49_29,qx49_29,H⟩:=H
        obtain ⟨x46_30,qx46_30,H⟩:=H
        obtain ⟨x50_31,qx50_31,H⟩:=H
        obtain ⟨x51_32,qx51_32,H⟩:=H
        refine reg_eq (rops:=ro178_6) (by kernel_rfl) ?_
        have hT : Tab ro178_6 _ _ _:=tab_of tb178_6 rfl (by kernel_rfl)
        have hM:=TabM.of tb178_6m
        refine d_start (m:=18) (fun w : World=>(fun h : Heap=>(hcell h x45_28 = some ((x46_30 : Sl).v)) ∧ (hcell h x49_29 = some ((x50_31 : Sl).v))) w.heap) [14,15,16,17] (unb 18 0) mo hR (by kernel_rfl) (by kernel_rfl) (fun w' e=>by rw [e]; exact ⟨qx46_30,qx50_31⟩) (fun w hh hR hs=>?_)
        replace H:=M.at hh H; clear hh
        refine d_pureg (i:=0) (v:=(x0 : Sl).v) (unb 18 1) rfl rfl hT (anyM hM (by kernel_rfl)) hE rfl (wanted_none rfl) (fun w=>r_move hE rfl) (fun a hE=>?_)
        refine d_pureg (i:=1) (v:=.int .i64 x9_12) (unb 18 3) rfl rfl hT (anyM hM (by kernel_rfl)) hE rfl (wanted_none rfl) (fun w=>r_move hE rfl) (fun a hE=>?_)
        refine d_pureg (i:=2) (v:=(x0 : Sl).v) (unb 18 7) rfl rfl hT (anyM hM (by kernel_rfl)) hE rfl (wanted_none rfl) (fun w=>r_move hE rfl) (fun a hE=>?_)
        refine d_pureg (i:=3) (v:=.int .i64 x9_12) (unb 18 15) rfl rfl hT (anyM hM (by kernel_rfl)) hE rfl (wanted_none rfl) (fun w=>r_move hE rfl) (fun a hE=>?_)
        refine d_pureg (i:=4) (v:=.int .i64 (IntKind.wrap .i64 (x9_12 - 1))) (unb 18 31) rfl rfl hT (anyM hM (by kernel_rfl)) hE rfl (wanted_none rfl) (fun w=>r_bin hE rfl rfl g_int b_sub) (fun a hE=>?_)
        refine d_pureg (i:=5) (v:=(x0 : Sl).v) (unb 18 63) rfl rfl hT (anyM hM (by kernel_rfl)) hE rfl (wanted_none rfl) (fun w=>r_move hE rfl) (fun a hE=>?_)
        refine d_pureg (i:=6) (v:=.int .i64 x9_12) (unb 18 127) rfl rfl hT (anyM hM (by kernel_rfl)) hE rfl (wanted_none rfl) (fun w=>r_move hE rfl) (fun a hE=>?_)
        refine d_pureg (i:=7) (v:=.int .i64 (IntKind.wrap .i64 (x9_12 - 1))) (unb 18 255) rfl rfl hT (anyM hM (by kernel_rfl)) hE rfl (wanted_none rfl) (fun w=>r_bin hE rfl rfl g_int b_sub) (fun a hE=>?_)
        refine d_pureg (i:=8) (v:=.pointer (some x45_28)) (unb 18 511) rfl rfl hT (anyM hM (by kernel_rfl)) hE rfl (wanted_none rfl) (fun w=>r_indexAddrL hE rfl rfl un89 sz22 qx45_28) (fun a hE=>?_)
        refine d_pureg (i:=10) (v:=(x0 : Sl).v) (unb 18 1535) rfl rfl hT (anyM hM (by kernel_rfl)) hE rfl (wanted_none rfl) (fun w=>r_move hE rfl) (fun a hE=>?_)
        refine d_pureg (i:=11) (v:=.int .i64 x9_12) (unb 18 3583) rfl rfl hT (anyM hM (by kernel_rfl)) hE rfl (wanted_none rfl) (fun w=>r_move hE rfl) (fun a hE=>?_)
        refine d_pureg (i:=12) (v:=.pointer (some x49_29)) (unb 18 7679) rfl rfl hT (anyM hM (by kernel_rfl)) hE rfl (wanted_none rfl) (fun w=>r_indexAddrL hE rfl rfl un89 sz22 qx49_29) (fun a hE=>?_)
        refine d_read (i:=9) (v:=(x46_30 : Sl).v) (unb 18 8191) rfl rfl hT (takeM hM (by kernel_rfl)) hE rfl (wanted_none rfl) hs (fun w s=>r_load hE rfl sc22 s.1) (fun a hE=>?_)
        refine d_read (i:=13) (v:=(x50_31 : Sl).v) (unb 18 16383) rfl rfl hT (takeM hM (by kernel_rfl)) hE rfl (wanted_none rfl) hs (fun w s=>r_load hE rfl sc22 s.2) (fun a hE=>?_)
        refine d_pureg (i:=14) (v:=.pointer (some x51_32)) (unb 18 32767) rfl rfl hT (anyM hM (by kernel_rfl)) hE rfl (wanted_none rfl) (fun w=>r_indexAddrL hE rfl rfl un89 sz22 qx51_32) (fun a hE=>?_)
        obtain ⟨u_33,qu_33,H⟩:=H
        refine d_stlh (i:=15) (unb 18 65535) rfl rfl hT (oneM hM (by kernel_rfl)) rfl hE hR (wanted_none rfl) (r_store hE rfl rfl sz22 qu_33)  (fun a w hE hR hh=>?_)
        replace H:=M.at hh H; clear hh
        obtain ⟨x52_34,qx52_34,H⟩:=H
        refine d_pureg (i:=16) (v:=.pointer (some x52_34)) (unb 18 131071) rfl rfl hT (anyM hM (by kernel_rfl)) hE rfl (wanted_none rfl) (fun w=>r_indexAddrL hE rfl rfl un89 sz22 qx52_34) (fun a hE=>?_)
        obtain ⟨u_35,qu_35,H⟩:=H
        refine d_stlh (i:=17) (unb 18 262143) rfl rfl hT (oneM hM (by kernel_rfl)) rfl hE hR (wanted_none rfl) (r_store hE rfl rfl sz22 qu_35)  (fun a w hE hR hh=>?_)
        replace H:=M.at hh H; clear hh
        refine d_done hT (doneM hM (by kernel_rfl)) ?_
        refine hK_27 _ _ ?_
        refine t_region ?_
        refine t_val (v:=.int .i64 x9_12) rfl rfl hE rfl (r_move hE rfl) (fun a hE=>?_)
        refine t_val (v:=.int .i64 (IntKind.wrap .i64 (x9_12 - 1))) rfl rfl hE rfl (r_bin hE rfl rfl g_int b_sub) (fun a hE=>?_)
        refine t_val (v:=.int .i64 (IntKind.wrap .i64 (x9_12 - 1))) rfl rfl hE rfl (r_assign hE rfl) (fun a hE=>?_)
        refine t_nil ?_
        exact hY_18 (IntKind.wrap .i64 (x9_12 - 1)) _ _ (hE.cut (.cons rfl (.cons rfl (.cons rfl (.cons rfl (.cons rfl (.cons rfl Subs.nil))))))) hR H
      · replace H:=M.ite_f hb H
        refine w_exit ?_
        refine Xu.same ?_
        refine hK_10 _ _ ?_
        refine t_region ?_
        refine t_val (v:=.int .i64 x8_2) rfl rfl hE rfl (r_move hE rfl) (fun a hE=>?_)
        refine t_val (v:=.int .i64 (IntKind.wrap .i64 (x8_2 + 1))) rfl rfl hE rfl (r_bin hE rfl rfl g_int b_add) (fun a hE=>?_)
        refine t_val (v:=.int .i64 (IntKind.wrap .i64 (x8_2 + 1))) rfl rfl hE rfl (r_assign hE rfl) (fun a hE=>?_)
        refine t_nil ?_
        exact hY_7 (IntKind.wrap .i64 (x8_2 + 1)) _ _ (hE.cut (.cons rfl (.cons rfl (.cons rfl (.cons rfl (.cons rfl Subs.nil)))))) hR H
    · skip
      rcases bool_em (decide (x9_12 > x1)) with hb_36 | hb_36
      · replace H:=M.ite_t hb_36 H
        obtain ⟨x25_37,qx25_37,H⟩:=H
        obtain ⟨x30_38,qx30_38,H⟩:=H
        obtain ⟨x26_39,qx26_39,H⟩:=H
        obtain ⟨x31_40,qx31_40,H⟩:=H
        refine reg_eq (rops:=ro178_4) (by kernel_rfl) ?_
        have hT : Tab ro178_4 _ _ _:=tab_of tb178_4 rfl (by kernel_rfl)
        have hM:=TabM.of tb178_4m
        refine d_start (m:=17) (fun w : World=>(fun h : Heap=>(hcell h x25_37 = some ((x26_39 : Sl).v)) ∧ (hcell h x30_38 = some ((x31_40 : Sl).v))) w.heap) [14,15,16] (unb 17 0) mo hR (by kernel_rfl) (by kernel_rfl) (fun w' e=>by rw [e]; exact ⟨qx26_39,qx31_40⟩) (fun w hh hR hs=>?_)
        replace H:=M.at hh H; clear hh
        refine d_pureg (i:=0) (v:=.int .i64 x9_12) (unb 17 1) rfl rfl hT (anyM hM (by kernel_rfl)) hE rfl (wanted_none rfl) (fun w=>r_move hE rfl) (fun a hE=>?_)
        refine d_pureg (i:=1) (v:=.int .i64 x1) (unb 17 3) rfl rfl hT (anyM hM (by kernel_rfl)) hE rfl (wanted_none rfl) (fun w=>r_move hE rfl) (fun a hE=>?_)
        refine d_pureg (i:=2) (v:=.bool (decide (x9_12 > x1))) (unb 17 7) rfl rfl hT (anyM hM (by kernel_rfl)) hE rfl (wanted_none rfl) (fun w=>r_bin hE rfl rfl g_int b_gtr) (fun a hE=>?_)
        refine d_pureg (i:=3) (v:=.bool (decide (x9_12 > x1))) (unb 17 15) rfl rfl hT (anyM hM (by kernel_rfl)) hE rfl (wanted_none rfl) (fun w=>r_move hE rfl) (fun a hE=>?_)
        have hE:=hE.reb 21 (decide (x9_12 > x1)) true hb_36 rfl
        replace hE:=hE.cut (l':=[(0,(x0 : Sl).v),(1,.int .i64 x1),(2,.int .i64 x2),(3,x3),(8,.int .i64 x8_2),(9,.int .i64 x9_12),(21,.bool true)]) (.cons rfl (.cons rfl (.cons rfl (.cons rfl (.cons rfl (.cons rfl (.cons rfl Subs.nil)))))))
        refine d_pureg (i:=4) (v:=x3) (unb 17 31) rfl rfl hT (anyM hM (by kernel_rfl)) hE rfl (wanted_of rfl hE rfl rfl rfl) (fun w=>r_move hE rfl) (fun a hE=>?_)
        refine d_pureg (i:=5) (v:=(x0 : Sl).v) (unb 17 63) rfl rfl hT (anyM hM (by kernel_rfl)) hE rfl (wanted_of rfl hE rfl rfl rfl) (fun w=>r_move hE rfl) (fun a hE=>?_)
        refine d_pureg (i:=6) (v:=.int .i64 x9_12) (unb 17 127) rfl rfl hT (anyM hM (by kernel_rfl)) hE rfl (wanted_of rfl hE rfl rfl rfl) (fun w=>r_move hE rfl) (fun a hE=>?_)
        refine d_pureg (i:=7) (v:=.pointer (some x25_37)) (unb 17 255) rfl rfl hT (anyM hM (by kernel_rfl)) hE rfl (wanted_of rfl hE rfl rfl rfl) (fun w=>r_indexAddrL hE rfl rfl un89 sz22 qx25_37) (fun a hE=>?_)
        refine d_pureg (i:=9) (v:=(x0 : Sl).v) (unb 17 767) rfl rfl hT (anyM hM (by kernel_rfl)) hE rfl (wanted_of rfl hE rfl rfl rfl) (fun w=>r_move hE rfl) (fun a hE=>?_)
        refine d_pureg (i:=10) (v:=.int .i64 x9_12) (unb 17 1791) rfl rfl hT (anyM hM (by kernel_rfl)) hE rfl (wanted_of rfl hE rfl rfl rfl) (fun w=>r_move hE rfl) (fun a hE=>?_)
        refine d_pureg (i:=11) (v:=.int .i64 (IntKind.wrap .i64 (x9_12 - 1))) (unb 17 3839) rfl rfl hT (anyM hM (by kernel_rfl)) hE rfl (wanted_of rfl hE rfl rfl rfl) (fun w=>r_bin hE rfl rfl g_int b_sub) (fun a hE=>?_)
        refine d_pureg (i:=12) (v:=.pointer (some x30_38)) (unb 17 7935) rfl rfl hT (anyM hM (by kernel_rfl)) hE rfl (wanted_of rfl hE rfl rfl rfl) (fun w=>r_indexAddrL hE rfl rfl un89 sz22 qx30_38) (fun a hE=>?_)
        refine d_read (i:=8) (v:=(x26_39 : Sl).v) (unb 17 8191) rfl rfl hT (takeM hM (by kernel_rfl)) hE rfl (wanted_of rfl hE rfl rfl rfl) hs (fun w s=>r_load hE rfl sc22 s.1) (fun a hE=>?_)
        refine d_read (i:=13) (v:=(x31_40 : Sl).v) (unb 17 16383) rfl rfl hT (takeM hM (by kernel_rfl)) hE rfl (wanted_of rfl hE rfl rfl rfl) hs (fun w s=>r_load hE rfl sc22 s.2) (fun a hE=>?_)
        refine d_calllW (i:=14) (unb 17 32767) rfl rfl rfl hT (oneM hM (by kernel_rfl)) rfl hE hR (wanted_of rfl hE rfl rfl rfl) rfl rfl (M.unbind H) (fun x32_41 a w ea hR H=>?_)
        have hE:=Env.put_some hE rfl ea; clear ea
        refine d_pureg (i:=15) (v:=.bool (decide (x32_41 < 0))) (unb 17 65535) rfl rfl hT (anyM hM (by kernel_rfl)) hE rfl (wanted_of rfl hE rfl rfl rfl) (fun w=>r_bin hE rfl rfl g_int b_lss) (fun a hE=>?_)
        refine d_pureg (i:=16) (v:=.bool (decide (x32_41 < 0))) (unb 17 131071) rfl rfl hT (anyM hM (by kernel_rfl)) hE rfl (wanted_none rfl) (fun w=>r_pick_t hE rfl rfl) (fun a hE=>?_)
        refine d_done hT (doneM hM (by kernel_rfl)) ?_
        exact ⟨decide (x32_41 < 0),hE.cut (.cons rfl (.cons rfl (.cons rfl (.cons rfl (.cons rfl (.cons rfl (.cons rfl Subs.nil))))))),hR,H⟩
      · replace H:=M.ite_f hb_36 H
        refine reg_eq (rops:=ro178_4) (by kernel_rfl) ?_
        have hT : Tab ro178_4 _ _ _:=tab_of tb178_4 rfl (by kernel_rfl)
        have hM:=TabM.of tb178_4m
        refine d_start (m:=17) (fun w : World=>(fun h : Heap=>True) w.heap) [0,1,2,3,4,5,6,7,8,9,10,11,12,13,14,15,16] (unb 17 0) mo hR (by kernel_rfl) (by kernel_rfl) (fun w' e=>by rw [e]; exact trivial) (fun w hh hR hs=>?_)
        replace H:=M.at hh H; clear hh
        refine d_pureg (i:=0) (v:=.int .i64 x9_12) (unb 17 1) rfl rfl hT (anyM hM (by kernel_rfl)) hE rfl (wanted_none rfl) (fun w=>r_move hE rfl) (fun a hE=>?_)
        refine d_pureg (i:=1) (v:=.int .i64 x1) (unb 17 3) rfl rfl hT (anyM hM (by kernel_rfl)) hE rfl (wanted_none rfl) (fun w=>r_move hE rfl) (fun a hE=>?_)
        refine d_pureg (i:=2) (v:=.bool (decide (x9_12 > x1))) (unb 17 7) rfl rfl hT (anyM hM (by kernel_rfl)) hE rfl (wanted_none rfl) (fun w=>r_bin hE rfl rfl g_int b_gtr) (fun a hE=>?_)
        refine d_pureg (i:=3) (v:=.bool (decide (x9_12 > x1))) (unb 17 15) rfl rfl hT (anyM hM (by kernel_rfl)) hE rfl (wanted_none rfl) (fun w=>r_move hE rfl) (fun a hE=>?_)
        have hE:=hE.reb 21 (decide (x9_12 > x1)) false hb_36 rfl
        replace hE:=hE.cut (l':=[(0,(x0 : Sl).v),(1,.int .i64 x1),(2,.int .i64 x2),(3,x3),(8,.int .i64 x8_2),(9,.int .i64 x9_12),(21,.bool false)]) (.cons rfl (.cons rfl (.cons rfl (.cons rfl (.cons rfl (.cons rfl (.cons rfl Subs.nil)))))))
        refine d_offsM' [(4,some 22),(5,some 23),(6,some 24),(7,some 25),(8,some 26),(9,some 27),(10,some 28),(11,some 29),(12,some 30),(13,some 31),(14,some 32),(15,some 33)] 1 hT hM hE (by kernel_rfl) (m':=65535) (by kernel_rfl) (fun a hE=>?_)
        refine d_pureg (i:=16) (v:=.bool false) (unb 17 131071) rfl rfl hT (anyM hM (by kernel_rfl)) hE rfl (wanted_none rfl) (fun w=>r_pick_f hE rfl rfl) (fun a hE=>?_)
        refine d_done hT (doneM hM (by kernel_rfl)) ?_
        exact ⟨false,hE.cut (.cons rfl (.cons rfl (.cons rfl (.cons rfl (.cons rfl (.cons rfl (.cons rfl Subs.nil))))))),hR,H⟩
  · replace H:=M.ite_f hb H
    refine w_exit ?_
    refine Xu.same ?_
    exact hret _ _ _ () _ hE hR (res_run hE rfl RV.nil) rfl H

noncomputable def ro244_3 : Array Oper:=opsOf Go.Proofs.Tryz.f244 3
def tE244_3 : List (List Nat):=[[],[],[],[1,2],[],[],[],[5,6],[],[],[],[9,10],[8,11],[12],[],[],[],[15,16],[14,17],[18],[0,3,0,1,2,3,8,9,10,11,12,13,19],[20,13,0,1,2,3,8,9,10,11,12,13,19],[4,7,0,1,2,3,4,5,6,7,8,9,10,11,12,13,14,15,16,17,18,19,20,21],[22,19,21,0,1,2,3,4,5,6,7,8,9,10,11,12,13,14,15,16,17,18,19,20,21]]
def tC244_3 : List (List Nat):=[[],[],[],[1,2],[],[],[],[5,6],[],[],[],[9,10],[8,11],[12],[],[],[],[15,16],[14,17],[18],[0,3],[13,20],[4,7],[19,22]]
def tW244_3 : List (List Nat):=[[],[],[],[1,2],[],[],[],[5,6],[],[],[],[9,10],[8,9,10,11],[8,9,10,11,12],[],[],[],[15,16],[14,15,16,17],[14,15,16,17,18],[0,1,2,3,8,9,10,11,12,13,14,15,16,17,18,19],[0,1,2,3,8,9,10,11,12,13,14,15,16,17,18,19,20],[0,1,2,3,4,5,6,7,8,9,10,11,12,13,14,15,16,17,18,19,20,21],[0,1,2,3,4,5,6,7,8,9,10,11,12,13,14,15,16,17,18,19,20,21,22]]
theorem tb244_3 : tabAt Go.Proofs.Tryz.f244 3 tE244_3 tC244_3 tW244_3 = true:=by kernel_rfl
theorem tb244_3m : tabMB 24 tE244_3 tC244_3 tW244_3 [0,0,0,6,0,0,0,96,0,0,0,1536,2304,4096,0,0,0,98304,147456,262144,540431,1589007,4194303,8388607] [0,0,0,6,0,0,0,96,0,0,0,1536,2304,4096,0,0,0,98304,147456,262144,9,1056768,144,4718592] [0,0,0,6,0,0,0,96,0,0,0,1536,3840,7936,0,0,0,98304,245760,507904,1048335,2096911,4194303,8388607] = true:=by kernel_rfl
def slices_swapRangeCmpFunc_slapi_Value_l1 (c0_3 : Sl) (c1_4 : Int) (c2_5 : Int) (c3_6 : Int) (self1 : (Int) → M (Unit)) : (Int) → M (Unit):=fun s=>match s with
  | x10_2=>do
    M.ite (decide (x10_2 < c3_6)) (do
      let x28_11 ← ixL c0_3 (IntKind.wrap .i64 (c2_5 + x10_2)) 1
      let x34_12 ← ixL c0_3 (IntKind.wrap .i64 (c1_4 + x10_2)) 1
      let x29_13 ← ldL x28_11
      let x35_14 ← ldL x34_12
      let x36_15 ← ixL c0_3 (IntKind.wrap .i64 (c1_4 + x10_2)) 1
      stV x36_15 ((x29_13 : Sl).v)
      let x37_17 ← ixL c0_3 (IntKind.wrap .i64 (c2_5 + x10_2)) 1
      stV x37_17 ((x35_14 : Sl).v)
      self1 (IntKind.wrap .i64 (x10_2 + 1))
      ) (do
      M.pure ()
      )
def slices_swapRangeCmpFunc_slapi_Value (x0 : Sl) (x1 : Int) (x2 : Int) (x3 : Int) (x4 : Value) : M (Unit):=do
  M.loop (slices_swapRangeCmpFunc_slapi_Value_l1 x0 x1 x2 x3) 0
theorem S_slices_swapRangeCmpFunc_slapi_Value (x0 : Sl) (x1 : Int) (x2 : Int) (x3 : Int) (x4 : Value) : Sound Go.Proofs.Tryz.prog 244 #[(x0 : Sl).v,.int .i64 x1,.int .i64 x2,.int .i64 x3,x4] (fun (r : Unit)=>.tuple #[]) (slices_swapRangeCmpFunc_slapi_Value x0 x1 x2 x3 x4):=by
  refine sound_of [(0,(x0 : Sl).v),(1,.int .i64 x1),(2,.int .i64 x2),(3,.int .i64 x3),(4,x4)] Go.Proofs.Tryz.func244 rfl rfl (Nat.le_of_ble_eq_true rfl) (args_of ⟨rfl,rfl,rfl,rfl,rfl,trivial⟩) (fun w0 w Q R a hret hE hR H=>?_)
  unfold slices_swapRangeCmpFunc_slapi_Value at H
  refine w_seq (fun K hK_1=>?_)
  refine t_region ?_
  refine t_val (v:=.int .i64 0) rfl rfl hE rfl (r_assign hE rfl) (fun a hE=>?_)
  refine t_nil ?_
  refine hK_1 _ _ ?_
  refine w_block ?_
  refine l_loop (fun (s : Int)=>(⟨38,[]⟩ : Frm)) (fun (s : Int)=>[(0,(x0 : Sl).v),(1,.int .i64 x1),(2,.int .i64 x2),(3,.int .i64 x3),(10,.int .i64 s)]) H (hE.cut (.cons rfl (.cons rfl (.cons rfl (.cons rfl (.cons rfl Subs.nil)))))) hR (fun Y self1 hY_7 x10_2 a w hE hR H=>?_)
  replace hE : Env (⟨38,[]⟩ : Frm) a [(0,(x0 : Sl).v),(1,.int .i64 x1),(2,.int .i64 x2),(3,.int .i64 x3),(10,.int .i64 x10_2)]:=hE
  replace H : (slices_swapRangeCmpFunc_slapi_Value_l1 x0 x1 x2 x3 self1 x10_2).wp w.heap Q:=H
  unfold slices_swapRangeCmpFunc_slapi_Value_l1 at H
  refine w_seq (fun K hK_8=>?_)
  refine w_seq (fun K hK_9=>?_)
  refine t_region ?_
  refine t_val (v:=.int .i64 x10_2) rfl rfl hE rfl (r_move hE rfl) (fun a hE=>?_)
  refine t_val (v:=.int .i64 x3) rfl rfl hE rfl (r_move hE rfl) (fun a hE=>?_)
  refine t_val (v:=.bool (decide (x10_2 < x3))) rfl rfl hE rfl (r_bin hE rfl rfl g_int b_lss) (fun a hE=>?_)
  refine t_nil ?_
  refine hK_9 _ _ ?_
  refine w_cond (decide (x10_2 < x3)) hE rfl (fun hb=>?_) (fun hb=>?_)
  · replace H:=M.ite_t hb H
    refine w_skip ?_
    refine hK_8 _ _ ?_
    refine w_seq (fun K hK_10=>?_)
    refine w_block ?_
    obtain ⟨x28_11,qx28_11,H⟩:=H
    obtain ⟨x34_12,qx34_12,H⟩:=H
    obtain ⟨x29_13,qx29_13,H⟩:=H
    obtain ⟨x35_14,qx35_14,H⟩:=H
    obtain ⟨x36_15,qx36_15,H⟩:=H
    refine reg_eq (rops:=ro244_3) (by kernel_rfl) ?_
    have hT : Tab ro244_3 _ _ _:=tab_of tb244_3 rfl (by kernel_rfl)
    have hM:=TabM.of tb244_3m
    refine d_start (m:=24) (fun w : World=>(fun h : Heap=>(hcell h x28_11 = some ((x29_13 : Sl).v)) ∧ (hcell h x34_12 = some ((x35_14 : Sl).v))) w.heap) [20,21,22,23] (unb 24 0) mo hR (by kernel_rfl) (by kernel_rfl) (fun w' e=>by rw [e]; exact ⟨qx29_13,qx35_14⟩) (fun w hh hR hs=>?_)
    replace H:=M.at hh H; clear hh
    refine d_pureg (i:=0) (v:=(x0 : Sl).v) (unb 24 1) rfl rfl hT (anyM hM (by kernel_rfl)) hE rfl (wanted_none rfl) (fun w=>r_move hE rfl) (fun a hE=>?_)
    refine d_pureg (i:=1) (v:=.int .i64 x1) (unb 24 3) rfl rfl hT (anyM hM (by kernel_rfl)) hE rfl (wanted_none rfl) (fun w=>r_move hE rfl) (fun a hE=>?_)
    refine d_pureg (i:=2) (v:=.int .i64 x10_2) (unb 24 7) rfl rfl hT (anyM hM (by kernel_rfl)) hE rfl (wanted_none rfl) (fun w=>r_move hE rfl) (fun a hE=>?_)
    refine d_pureg (i:=3) (v:=.int .i64 (IntKind.wrap .i64 (x1 + x10_2))) (unb 24 15) rfl rfl hT (anyM hM (by kernel_rfl)) hE rfl (wanted_none rfl) (fun w=>r_bin hE rfl rfl g_int b_add) (fun a hE=>?_)
    refine d_pureg (i:=4) (v:=(x0 : Sl).v) (unb 24 31) rfl rfl hT (anyM hM (by kernel_rfl)) hE rfl (wanted_none rfl) (fun w=>r_move hE rfl) (fun a hE=>?_)
    refine d_pureg (i:=5) (v:=.int .i64 x2) (unb 24 63) rfl rfl hT (anyM hM (by kernel_rfl)) hE rfl (wanted_none rfl) (fun w=>r_move hE rfl) (fun a hE=>?_)
    refine d_pureg (i:=6) (v:=.int .i64 x10_2) (unb 24 127) rfl rfl hT (anyM hM (by kernel_rfl)) hE rfl (wanted_none rfl) (fun w=>r_move hE rfl) (fun a hE=>?_)
    refine d_pureg (i:=7) (v:=.int .i64 (IntKind.wrap .i64 (x2 + x10_2))) (unb 24 255) rfl rfl hT (anyM hM (by kernel_rfl)) hE rfl (wanted_none rfl) (fun w=>r_bin hE rfl rfl g_int b_add) (fun a hE=>?_)
    refine d_pureg (i:=8) (v:=(x0 : Sl).v) (unb 24 511) rfl rfl hT (anyM hM (by kernel_rfl)) hE rfl (wanted_none rfl) (fun w=>r_move hE rfl) (fun a hE=>?_)
    refine d_pureg (i:=9) (v:=.int .i64 x2) (unb 24 1023) rfl rfl hT (anyM hM (by kernel_rfl)) hE rfl (wanted_none rfl) (fun w=>r_move hE rfl) (fun a hE=>?_)
    refine d_pureg (i:=10) (v:=.int .i64 x10_2) (unb 24 2047) rfl rfl hT (anyM hM (by kernel_rfl)) hE rfl (wanted_none rfl) (fun w=>r_move hE rfl) (fun a hE=>?_)
    refine d_pureg (i:=11) (v:=.int .i64 (IntKind.wrap .i64 (x2 + x10_2))) (unb 24 4095) rfl rfl hT (anyM hM (by kernel_rfl)) hE rfl (wanted_none rfl) (fun w=>r_bin hE rfl rfl g_int b_add) (fun a hE=>?_)
    refine d_pureg (i:=12) (v:=.pointer (some x28_11)) (unb 24 8191) rfl rfl hT (anyM hM (by kernel_rfl)) hE rfl (wanted_none rfl) (fun w=>r_indexAddrL hE rfl rfl un89 sz22 qx28_11) (fun a hE=>?_)
    refine d_pureg (i:=14) (v:=(x0 : Sl).v) (unb 24 24575) rfl rfl hT (anyM hM (by kernel_rfl)) hE rfl (wanted_none rfl) (fun w=>r_move hE rfl) (fun a hE=>?_)
    refine d_pureg (i:=15) (v:=.int .i64 x1) (unb 24 57343) rfl rfl hT (anyM hM (by kernel_rfl)) hE rfl (wanted_none rfl) (fun w=>r_move hE rfl) (fun a hE=>?_)
    refine d_pureg (i:=16) (v:=.int .i64 x10_2) (unb 24 122879) rfl rfl hT (anyM hM (by kernel_rfl)) hE rfl (wanted_none rfl) (fun w=>r_move hE rfl) (fun a hE=>?_)
    refine d_pureg (i:=17) (v:=.int .i64 (IntKind.wrap .i64 (x1 + x10_2))) (unb 24 253951) rfl rfl hT (anyM hM (by kernel_rfl)) hE rfl (wanted_none rfl) (fun w=>r_bin hE rfl rfl g_int b_add) (fun a hE=>?_)
    refine d_pureg (i:=18) (v:=.pointer (some x34_12)) (unb 24 516095) rfl rfl hT (anyM hM (by kernel_rfl)) hE rfl (wanted_none rfl) (fun w=>r_indexAddrL hE rfl rfl un89 sz22 qx34_12) (fun a hE=>?_)
    refine d_read (i:=13) (v:=(x29_13 : Sl).v) (unb 24 524287) rfl rfl hT (takeM hM (by kernel_rfl)) hE rfl (wanted_none rfl) hs (fun w s=>r_load hE rfl sc22 s.1) (fun a hE=>?_)
    refine d_read (i:=19) (v:=(x35_14 : Sl).v) (unb 24 1048575) rfl rfl hT (takeM hM (by kernel_rfl)) hE rfl (wanted_none rfl) hs (fun w s=>r_load hE rfl sc22 s.2) (fun a hE=>?_)
    refine d_pureg (i:=20) (v:=.pointer (some x36_15)) (unb 24 2097151) rfl rfl hT (anyM hM (by kernel_rfl)) hE rfl (wanted_none rfl) (fun w=>r_indexAddrL hE rfl rfl un89 sz22 qx36_15) (fun a hE=>?_)
    obtain ⟨u_16,qu_16,H⟩:=H
    refine d_stlh (i:=21) (unb 24 4194303) rfl rfl hT (oneM hM (by kernel_rfl)) rfl hE hR (wanted_none rfl) (r_store hE rfl rfl sz22 qu_16)  (fun a w hE hR hh=>?_)
    replace H:=M.at hh H; clear hh
    obtain ⟨x37_17,qx37_17,H⟩:=H
    refine d_pureg (i:=22) (v:=.pointer (some x37_17)) (unb 24 8388607) rfl rfl hT (anyM hM (by kernel_rfl)) hE rfl (wanted_none rfl) (fun w=>r_indexAddrL hE rfl rfl un89 sz22 qx37_17) (fun a hE=>?_)
    obtain ⟨u_18,qu_18,H⟩:=H
    refine d_stlh (i:=23) (unb 24 16777215) rfl rfl hT (oneM hM (by kernel_rfl)) rfl hE hR (wanted_none rfl) (r_store hE rfl rfl sz22 qu_18)  (fun a w hE hR hh=>?_)
    replace H:=M.at hh H; clear hh
    refine d_done hT (doneM hM (by kernel_rfl)) ?_
    refine hK_10 _ _ ?_
    refine t_region ?_
    refine t_val (v:=.int .i64 x10_2) rfl rfl hE rfl (r_move hE rfl) (fun a hE=>?_)
    refine t_val (v:=.int .i64 (IntKind.wrap .i64 (x10_2 + 1))) rfl rfl hE rfl (r_bin hE rfl rfl g_int b_add) (fun a hE=>?_)
    refine t_val (v:=.int .i64 (IntKind.wrap .i64 (x10_2 + 1))) rfl rfl hE rfl (r_assign hE rfl) (fun a hE=>?_)
    refine t_nil ?_
    exact hY_7 (IntKind.wrap .i64 (x10_2 + 1)) _ _ (hE.cut (.cons rfl (.cons rfl (.cons rfl (.cons rfl (.cons rfl Subs.nil)))))) hR H
  · replace H:=M.ite_f hb H
    refine w_exit ?_
    refine Xu.same ?_
    exact hret _ _ _ () _ hE hR (res_run hE rfl RV.nil) rfl H

def slices_rotateCmpFunc_slapi_Value_l1 (c0_6 : Sl) (c2_7 : Int) (c4_8 : Value) (self1 : (Int × Int) → M (Unit)) : (Int × Int) → M (Unit):=fun s=>match s with
  | (x10_4,x11_5)=>do
    M.ite (x10_4 != x11_5) (do
      M.ite (decide (x10_4 > x11_5)) (do
        let x31_14 ← slices_swapRangeCmpFunc_slapi_Value c0_6 (IntKind.wrap .i64 (c2_7 - x10_4)) c2_7 x11_5 c4_8
        self1 (IntKind.wrap .i64 (x10_4 - x11_5),x11_5)
        ) (do
        let x46_16 ← slices_swapRangeCmpFunc_slapi_Value c0_6 (IntKind.wrap .i64 (c2_7 - x10_4)) (IntKind.wrap .i64 ((IntKind.wrap .i64 (c2_7 + x11_5)) - x10_4)) x10_4 c4_8
        self1 (x10_4,IntKind.wrap .i64 (x11_5 - x10_4))
        )
      ) (do
      let x57_17 ← slices_swapRangeCmpFunc_slapi_Value c0_6 (IntKind.wrap .i64 (c2_7 - x10_4)) c2_7 x10_4 c4_8
      M.pure ()
      )
def slices_rotateCmpFunc_slapi_Value (x0 : Sl) (x1 : Int) (x2 : Int) (x3 : Int) (x4 : Value) : M (Unit):=do
  M.loop (slices_rotateCmpFunc_slapi_Value_l1 x0 x2 x4) (IntKind.wrap .i64 (x2 - x1),IntKind.wrap .i64 (x3 - x2))
theorem S_slices_rotateCmpFunc_slapi_Value (x0 : Sl) (x1 : Int) (x2 : Int) (x3 : Int) (x4 : Value) : Sound Go.Proofs.Tryz.prog 220 #[(x0 : Sl).v,.int .i64 x1,.int .i64 x2,.int .i64 x3,x4] (fun (r : Unit)=>.tuple #[]) (slices_rotateCmpFunc_slapi_Value x0 x1 x2 x3 x4):=by
  refine sound_of [(0,(x0 : Sl).v),(1,.int .i64 x1),(2,.int .i64 x2),(3,.int .i64 x3),(4,x4)] Go.Proofs.Tryz.func220 rfl rfl (Nat.le_of_ble_eq_true rfl) (args_of ⟨rfl,rfl,rfl,rfl,rfl,trivial⟩) (fun w0 w Q R a hret hE hR H=>?_)
  unfold slices_rotateCmpFunc_slapi_Value at H
  refine w_seq (fun K hK_1=>?_)
  refine t_region ?_
  refine t_val (v:=.int .i64 x2) rfl rfl hE rfl (r_move hE rfl) (fun a hE=>?_)
  refine t_val (v:=.int .i64 x1) rfl rfl hE rfl (r_move hE rfl) (fun a hE=>?_)
  refine t_val (v:=.int .i64 (IntKind.wrap .i64 (x2 - x1))) rfl rfl hE rfl (r_bin hE rfl rfl g_int b_sub) (fun a hE=>?_)
  refine t_val (v:=.int .i64 (IntKind.wrap .i64 (x2 - x1))) rfl rfl hE rfl (r_assign hE rfl) (fun a hE=>?_)
  refine t_nil ?_
  refine hK_1 _ _ ?_
  refine w_seq (fun K hK_2=>?_)
  refine t_region ?_
  refine t_val (v:=.int .i64 x3) rfl rfl hE rfl (r_move hE rfl) (fun a hE=>?_)
  refine t_val (v:=.int .i64 x2) rfl rfl hE rfl (r_move hE rfl) (fun a hE=>?_)
  refine t_val (v:=.int .i64 (IntKind.wrap .i64 (x3 - x2))) rfl rfl hE rfl (r_bin hE rfl rfl g_int b_sub) (fun a hE=>?_)
  refine t_val (v:=.int .i64 (IntKind.wrap .i64 (x3 - x2))) rfl rfl hE rfl (r_assign hE rfl) (fun a hE=>?_)
  refine t_nil ?_
  refine hK_2 _ _ ?_
  refine w_seq (fun K hK_3=>?_)
  refine w_block ?_
  refine l_loop (fun (s : Int × Int)=>(⟨58,[]⟩ : Frm)) (fun (s : Int × Int)=>[(0,(x0 : Sl).v),(2,.int .i64 x2),(4,x4),(10,.int .i64 s.1),(11,.int .i64 s.2)]) H (hE.cut (.cons rfl (.cons rfl (.cons rfl (.cons rfl (.cons rfl Subs.nil)))))) hR (fun Y self1 hY_9 s a w hE hR H=>?_)
  rcases s with ⟨x10_4,x11_5⟩
  replace hE : Env (⟨58,[]⟩ : Frm) a [(0,(x0 : Sl).v),(2,.int .i64 x2),(4,x4),(10,.int .i64 x10_4),(11,.int .i64 x11_5)]:=hE
  replace H : (slices_rotateCmpFunc_slapi_Value_l1 x0 x2 x4 self1 (x10_4,x11_5)).wp w.heap Q:=H
  unfold slices_rotateCmpFunc_slapi_Value_l1 at H
  refine w_seq (fun K hK_10=>?_)
  refine w_seq (fun K hK_11=>?_)
  refine t_region ?_
  refine t_val (v:=.int .i64 x10_4) rfl rfl hE rfl (r_move hE rfl) (fun a hE=>?_)
  refine t_val (v:=.int .i64 x11_5) rfl rfl hE rfl (r_move hE rfl) (fun a hE=>?_)
  refine t_val (v:=.bool (x10_4 != x11_5)) rfl rfl hE rfl (r_bin hE rfl rfl g_int b_neq) (fun a hE=>?_)
  refine t_nil ?_
  refine hK_11 _ _ ?_
  refine w_cond (x10_4 != x11_5) hE rfl (fun hb=>?_) (fun hb=>?_)
  · replace H:=M.ite_t hb H
    refine w_skip ?_
    refine hK_10 _ _ ?_
    refine w_block ?_
    refine w_seq (fun K hK_12=>?_)
    refine t_region ?_
    refine t_val (v:=.int .i64 x10_4) rfl rfl hE rfl (r_move hE rfl) (fun a hE=>?_)
    refine t_val (v:=.int .i64 x11_5) rfl rfl hE rfl (r_move hE rfl) (fun a hE=>?_)
    refine t_val (v:=.bool (decide (x10_4 > x11_5))) rfl rfl hE rfl (r_bin hE rfl rfl g_int b_gtr) (fun a hE=>?_)
    refine t_nil ?_
    refine hK_12 _ _ ?_
    refine w_cond (decide (x10_4 > x11_5)) hE rfl (fun hb=>?_) (fun hb=>?_)
    · replace H:=M.ite_t hb H
      refine w_seq (fun K hK_13=>?_)
      refine t_region ?_
      refine t_val (v:=(x0 : Sl).v) rfl rfl hE rfl (r_move hE rfl) (fun a hE=>?_)
      refine t_val (v:=.int .i64 x2) rfl rfl hE rfl (r_move hE rfl) (fun a hE=>?_)
      refine t_val (v:=.int .i64 x10_4) rfl rfl hE rfl (r_move hE rfl) (fun a hE=>?_)
      refine t_val (v:=.int .i64 (IntKind.wrap .i64 (x2 - x10_4))) rfl rfl hE rfl (r_bin hE rfl rfl g_int b_sub) (fun a hE=>?_)
      refine t_val (v:=.int .i64 x2) rfl rfl hE rfl (r_move hE rfl) (fun a hE=>?_)
      refine t_val (v:=.int .i64 x11_5) rfl rfl hE rfl (r_move hE rfl) (fun a hE=>?_)
      refine t_val (v:=x4) rfl rfl hE rfl (r_move hE rfl) (fun a hE=>?_)
      refine t_call hE hR cl_slices_swapRangeCmpFunc_slapi_Value rfl (S_slices_swapRangeCmpFunc_slapi_Value x0 (IntKind.wrap .i64 (x2 - x10_4)) x2 x11_5 x4) (M.unbind H) (fun x31_14 a w ea hR H=>?_)
      have hE:=Env.put_some hE rfl ea; clear ea
      refine t_nil ?_
      refine hK_13 _ _ ?_
      refine t_region ?_
      refine t_val (v:=.int .i64 x10_4) rfl rfl hE rfl (r_move hE rfl) (fun a hE=>?_)
      refine t_val (v:=.int .i64 x11_5) rfl rfl hE rfl (r_move hE rfl) (fun a hE=>?_)
      refine t_val (v:=.int .i64 (IntKind.wrap .i64 (x10_4 - x11_5))) rfl rfl hE rfl (r_bin hE rfl rfl g_int b_sub) (fun a hE=>?_)
      refine t_val (v:=.int .i64 (IntKind.wrap .i64 (x10_4 - x11_5))) rfl rfl hE rfl (r_assign hE rfl) (fun a hE=>?_)
      refine t_nil ?_
      exact hY_9 (IntKind.wrap .i64 (x10_4 - x11_5),x11_5) _ _ (hE.cut (.cons rfl (.cons rfl (.cons rfl (.cons rfl (.cons rfl Subs.nil)))))) hR H
    · replace H:=M.ite_f hb H
      refine w_seq (fun K hK_15=>?_)
      refine t_region ?_
      refine t_val (v:=(x0 : Sl).v) rfl rfl hE rfl (r_move hE rfl) (fun a hE=>?_)
      refine t_val (v:=.int .i64 x2) rfl rfl hE rfl (r_move hE rfl) (fun a hE=>?_)
      refine t_val (v:=.int .i64 x10_4) rfl rfl hE rfl (r_move hE rfl) (fun a hE=>?_)
      refine t_val (v:=.int .i64 (IntKind.wrap .i64 (x2 - x10_4))) rfl rfl hE rfl (r_bin hE rfl rfl g_int b_sub) (fun a hE=>?_)
      refine t_val (v:=.int .i64 x2) rfl rfl hE rfl (r_move hE rfl) (fun a hE=>?_)
      refine t_val (v:=.int .i64 x11_5) rfl rfl hE rfl (r_move hE rfl) (fun a hE=>?_)
      refine t_val (v:=.int .i64 (IntKind.wrap .i64 (x2 + x11_5))) rfl rfl hE rfl (r_bin hE rfl rfl g_int b_add) (fun a hE=>?_)
      refine t_val (v:=.int .i64 x10_4) rfl rfl hE rfl (r_move hE rfl) (fun a hE=>?_)
      refine t_val (v:=.int .i64 (IntKind.wrap .i64 ((IntKind.wrap .i64 (x2 + x11_5)) - x10_4))) rfl rfl hE rfl (r_bin hE rfl rfl g_int b_sub) (fun a hE=>?_)
      refine t_val (v:=.int .i64 x10_4) rfl rfl hE rfl (r_move hE rfl) (fun a hE=>?_)
      refine t_val (v:=x4) rfl rfl hE rfl (r_move hE rfl) (fun a hE=>?_)
      refine t_call hE hR cl_slices_swapRangeCmpFunc_slapi_Value rfl (S_slices_swapRangeCmpFunc_slapi_Value x0 (IntKind.wrap .i64 (x2 - x10_4)) (IntKind.wrap .i64 ((IntKind.wrap .i64 (x2 + x11_5)) - x10_4)) x10_4 x4) (M.unbind H) (fun x46_16 a w ea hR H=>?_)
      have hE:=Env.put_some hE rfl ea; clear ea
      refine t_nil ?_
      refine hK_15 _ _ ?_
      refine t_region ?_
      refine t_val (v:=.int .i64 x11_5) rfl rfl hE rfl (r_move hE rfl) (fun a hE=>?_)
      refine t_val (v:=.int .i64 x10_4) rfl rfl hE rfl (r_move hE rfl) (fun a hE=>?_)
      refine t_val (v:=.int .i64 (IntKind.wrap .i64 (x11_5 - x10_4))) rfl rfl hE rfl (r_bin hE rfl rfl g_int b_sub) (fun a hE=>?_)
      refine t_val (v:=.int .i64 (IntKind.wrap .i64 (x11_5 - x10_4))) rfl rfl hE rfl (r_assign hE rfl) (fun a hE=>?_)
      refine t_nil ?_
      exact hY_9 (x10_4,IntKind.wrap .i64 (x11_5 - x10_4)) _ _ (hE.cut (.cons rfl (.cons rfl (.cons rfl (.cons rfl (.cons rfl Subs.nil)))))) hR H
  · replace H:=M.ite_f hb H
    refine w_exit ?_
    refine Xu.same ?_
    refine hK_3 _ _ ?_
    refine t_region ?_
    refine t_val (v:=(x0 : Sl).v) rfl rfl hE rfl (r_move hE rfl) (fun a hE=>?_)
    refine t_val (v:=.int .i64 x2) rfl rfl hE rfl (r_move hE rfl) (fun a hE=>?_)
    refine t_val (v:=.int .i64 x10_4) rfl rfl hE rfl (r_move hE rfl) (fun a hE=>?_)
    refine t_val (v:=.int .i64 (IntKind.wrap .i64 (x2 - x10_4))) rfl rfl hE rfl (r_bin hE rfl rfl g_int b_sub) (fun a hE=>?_)
    refine t_val (v:=.int .i64 x2) rfl rfl hE rfl (r_move hE rfl) (fun a hE=>?_)
    refine t_val (v:=.int .i64 x10_4) rfl rfl hE rfl (r_move hE rfl) (fun a hE=>?_)
    refine t_val (v:=x4) rfl rfl hE rfl (r_move hE rfl) (fun a hE=>?_)
    refine t_call hE hR cl_slices_swapRangeCmpFunc_slapi_Value rfl (S_slices_swapRangeCmpFunc_slapi_Value x0 (IntKind.wrap .i64 (x2 - x10_4)) x2 x10_4 x4) (M.unbind H) (fun x57_17 a w ea hR H=>?_)
    have hE:=Env.put_some hE rfl ea; clear ea
    refine t_nil ?_
    exact hret _ _ _ () _ hE hR (res_run hE rfl RV.nil) rfl H

end Gx
namespace Gx
open Go
set_option linter.unusedVariables false
set_option maxRecDepth 100000
theorem tb179_5 : tabAt Go.Proofs.Tryz.f179 5 [[],[],[],[1,2],[3],[],[],[5,6],[7],[0,4,8],[9]] [[],[],[],[1,2],[3],[],[],[5,6],[7],[0,4,8],[9]] [[],[],[],[1,2],[1,2,3],[],[],[5,6],[5,6,7],[0,1,2,3,4,5,6,7,8],[0,1,2,3,4,5,6,7,8,9]] = true:=by kernel_rfl
noncomputable def ro179_11 : Array Oper:=opsOf Go.Proofs.Tryz.f179 11
def tE179_11 : List (List Nat):=[[],[],[],[],[3],[],[],[6],[5,7],[8],[],[],[10,11],[12],[0,1,0,1,5,6,7,8,9,13],[14,9,0,1,5,6,7,8,9,13],[2,4,0,1,2,3,4,5,6,7,8,9,10,11,12,13,14,15],[16,13,15,0,1,2,3,4,5,6,7,8,9,10,11,12,13,14,15]]
def tC179_11 : List (List Nat):=[[],[],[],[],[3],[],[],[6],[5,7],[8],[],[],[10,11],[12],[0,1],[9,14],[2,4],[13,16]]
def tW179_11 : List (List Nat):=[[],[],[],[],[3],[],[],[6],[5,6,7],[5,6,7,8],[],[],[10,11],[10,11,12],[0,1,5,6,7,8,9,10,11,12,13],[0,1,5,6,7,8,9,10,11,12,13,14],[0,1,2,3,4,5,6,7,8,9,10,11,12,13,14,15],[0,1,2,3,4,5,6,7,8,9,10,11,12,13,14,15,16]]
theorem tb179_11 : tabAt Go.Proofs.Tryz.f179 11 tE179_11 tC179_11 tW179_11 = true:=by kernel_rfl
theorem tb179_11m : tabMB 18 tE179_11 tC179_11 tW179_11 [0,0,0,0,8,0,0,64,160,256,0,0,3072,4096,9187,25571,65535,131071] [0,0,0,0,8,0,0,64,160,256,0,0,3072,4096,3,16896,20,73728] [0,0,0,0,8,0,0,64,224,480,0,0,3072,7168,16355,32739,65535,131071] = true:=by kernel_rfl
def slices_symMergeCmpFunc_slapi_Value_l2 (c0_24 : Sl) (c10_25 : Int) (self2 : (Int) → M (Unit)) : (Int) → M (Unit):=fun s=>match s with
  | x13_23=>do
    M.ite (decide (x13_23 < (IntKind.wrap .i64 (c10_25 - 1)))) (do
      let x69_30 ← ixL c0_24 (IntKind.wrap .i64 (x13_23 + 1)) 1
      let x73_31 ← ixL c0_24 x13_23 1
      let x70_32 ← ldL x69_30
      let x74_33 ← ldL x73_31
      let x75_34 ← ixL c0_24 x13_23 1
      stV x75_34 ((x70_32 : Sl).v)
      let x76_36 ← ixL c0_24 (IntKind.wrap .i64 (x13_23 + 1)) 1
      stV x76_36 ((x74_33 : Sl).v)
      self2 (IntKind.wrap .i64 (x13_23 + 1))
      ) (do
      M.pure ()
      )
def slices_symMergeCmpFunc_slapi_Value_l1 (c0_8 : Sl) (c1_9 : Int) (c4_10 : Value) (self1 : (Int × Int) → M (Unit)) : (Int × Int) → M (Unit):=fun s=>match s with
  | (x10_6,x11_7)=>do
    M.ite (decide (x10_6 < x11_7)) (do
      let x43_16 ← ixL c0_8 (IntKind.wrap .i64 (iShr .u64 (IntKind.wrap .u64 (IntKind.wrap .i64 (x10_6 + x11_7))) 1)) 1
      let x47_17 ← ixL c0_8 c1_9 1
      let x44_18 ← ldL x43_16
      let x48_19 ← ldL x47_17
      let x49_20 ← callW Go.Proofs.Tryz.prog (fun r : Int=>.int .i64 r) c4_10 [(x44_18 : Sl).v,(x48_19 : Sl).v]
      M.ite (decide (x49_20 < 0)) (do
        self1 (IntKind.wrap .i64 ((IntKind.wrap .i64 (iShr .u64 (IntKind.wrap .u64 (IntKind.wrap .i64 (x10_6 + x11_7))) 1)) + 1),x11_7)
        ) (do
        self1 (x10_6,IntKind.wrap .i64 (iShr .u64 (IntKind.wrap .u64 (IntKind.wrap .i64 (x10_6 + x11_7))) 1))
        )
      ) (do
      M.loop (slices_symMergeCmpFunc_slapi_Value_l2 c0_8 x10_6) c1_9
      )
theorem tb179_17 : tabAt Go.Proofs.Tryz.f179 17 [[],[],[],[1,2],[3],[],[],[5,6],[7],[0,4,8],[9],[10]] [[],[],[],[1,2],[3],[],[],[5,6],[7],[0,4,8],[9],[10]] [[],[],[],[1,2],[1,2,3],[],[],[5,6],[5,6,7],[0,1,2,3,4,5,6,7,8],[0,1,2,3,4,5,6,7,8,9],[0,1,2,3,4,5,6,7,8,9,10]] = true:=by kernel_rfl
noncomputable def ro179_23 : Array Oper:=opsOf Go.Proofs.Tryz.f179 23
def tE179_23 : List (List Nat):=[[],[],[],[],[3],[],[],[6],[5,7],[8],[],[],[10,11],[12],[0,1,0,1,5,6,7,8,9,13],[14,9,0,1,5,6,7,8,9,13],[2,4,0,1,2,3,4,5,6,7,8,9,10,11,12,13,14,15],[16,13,15,0,1,2,3,4,5,6,7,8,9,10,11,12,13,14,15]]
def tC179_23 : List (List Nat):=[[],[],[],[],[3],[],[],[6],[5,7],[8],[],[],[10,11],[12],[0,1],[9,14],[2,4],[13,16]]
def tW179_23 : List (List Nat):=[[],[],[],[],[3],[],[],[6],[5,6,7],[5,6,7,8],[],[],[10,11],[10,11,12],[0,1,5,6,7,8,9,10,11,12,13],[0,1,5,6,7,8,9,10,11,12,13,14],[0,1,2,3,4,5,6,7,8,9,10,11,12,13,14,15],[0,1,2,3,4,5,6,7,8,9,10,11,12,13,14,15,16]]
theorem tb179_23 : tabAt Go.Proofs.Tryz.f179 23 tE179_23 tC179_23 tW179_23 = true:=by kernel_rfl
theorem tb179_23m : tabMB 18 tE179_23 tC179_23 tW179_23 [0,0,0,0,8,0,0,64,160,256,0,0,3072,4096,9187,25571,65535,131071] [0,0,0,0,8,0,0,64,160,256,0,0,3072,4096,3,16896,20,73728] [0,0,0,0,8,0,0,64,224,480,0,0,3072,7168,16355,32739,65535,131071] = true:=by kernel_rfl
def slices_symMergeCmpFunc_slapi_Value_l4 (c0_61 : Sl) (c14_62 : Int) (self4 : (Int) → M (Unit)) : (Int) → M (Unit):=fun s=>match s with
  | x17_60=>do
    M.ite (decide (x17_60 > c14_62)) (do
      let x121_67 ← ixL c0_61 (IntKind.wrap .i64 (x17_60 - 1)) 1
      let x125_68 ← ixL c0_61 x17_60 1
      let x122_69 ← ldL x121_67
      let x126_70 ← ldL x125_68
      let x127_71 ← ixL c0_61 x17_60 1
      stV x127_71 ((x122_69 : Sl).v)
      let x128_73 ← ixL c0_61 (IntKind.wrap .i64 (x17_60 - 1)) 1
      stV x128_73 ((x126_70 : Sl).v)
      self4 (IntKind.wrap .i64 (x17_60 - 1))
      ) (do
      M.pure ()
      )
def slices_symMergeCmpFunc_slapi_Value_l3 (c0_45 : Sl) (c2_46 : Int) (c4_47 : Value) (self3 : (Int × Int) → M (Unit)) : (Int × Int) → M (Unit):=fun s=>match s with
  | (x14_43,x15_44)=>do
    M.ite (decide (x14_43 < x15_44)) (do
      let x95_53 ← ixL c0_45 c2_46 1
      let x99_54 ← ixL c0_45 (IntKind.wrap .i64 (iShr .u64 (IntKind.wrap .u64 (IntKind.wrap .i64 (x14_43 + x15_44))) 1)) 1
      let x96_55 ← ldL x95_53
      let x100_56 ← ldL x99_54
      let x101_57 ← callW Go.Proofs.Tryz.prog (fun r : Int=>.int .i64 r) c4_47 [(x96_55 : Sl).v,(x100_56 : Sl).v]
      M.ite (!(decide (x101_57 < 0))) (do
        self3 (IntKind.wrap .i64 ((IntKind.wrap .i64 (iShr .u64 (IntKind.wrap .u64 (IntKind.wrap .i64 (x14_43 + x15_44))) 1)) + 1),x15_44)
        ) (do
        self3 (x14_43,IntKind.wrap .i64 (iShr .u64 (IntKind.wrap .u64 (IntKind.wrap .i64 (x14_43 + x15_44))) 1))
        )
      ) (do
      M.loop (slices_symMergeCmpFunc_slapi_Value_l4 c0_45 x14_43) c2_46
      )
theorem tb179_35 : tabAt Go.Proofs.Tryz.f179 35 [[],[],[],[],[2,3],[1,4],[5],[],[],[7,8],[9],[0,6,10],[11],[12]] [[],[],[],[],[2,3],[1,4],[5],[],[],[7,8],[9],[0,6,10],[11],[12]] [[],[],[],[],[2,3],[1,2,3,4],[1,2,3,4,5],[],[],[7,8],[7,8,9],[0,1,2,3,4,5,6,7,8,9,10],[0,1,2,3,4,5,6,7,8,9,10,11],[0,1,2,3,4,5,6,7,8,9,10,11,12]] = true:=by kernel_rfl
def slices_symMergeCmpFunc_slapi_Value_j3 (c0_117 : Sl) (c3_118 : Int) (c4_119 : Value) (c18_120 : Int) (c24_121 : Int) : M (Unit):=do
  let x213_123 ← M.ite (decide (c18_120 < c24_121)) (do
    M.pure (decide (c24_121 < c3_118))
    ) (do
    M.pure false
    )
  M.ite x213_123 (do
    let x219_124 ← callF Go.Proofs.Tryz.prog fn_slices_symMergeCmpFunc_slapi_Value #[(c0_117 : Sl).v,.int .i64 c18_120,.int .i64 c24_121,.int .i64 c3_118,c4_119] (fun r : Unit=>.tuple #[])
    M.pure ()
    ) (do
    M.pure ()
    )
def slices_symMergeCmpFunc_slapi_Value_j2 (c0_110 : Sl) (c1_111 : Int) (c3_112 : Int) (c4_113 : Value) (c18_114 : Int) (c20_115 : Int) (c24_116 : Int) : M (Unit):=do
  let x199_126 ← M.ite (decide (c1_111 < c20_115)) (do
    M.pure (decide (c20_115 < c18_114))
    ) (do
    M.pure false
    )
  M.ite x199_126 (do
    let x205_127 ← callF Go.Proofs.Tryz.prog fn_slices_symMergeCmpFunc_slapi_Value #[(c0_110 : Sl).v,.int .i64 c1_111,.int .i64 c20_115,.int .i64 c18_114,c4_113] (fun r : Unit=>.tuple #[])
    slices_symMergeCmpFunc_slapi_Value_j3 c0_110 c3_112 c4_113 c18_114 c24_116
    ) (do
    slices_symMergeCmpFunc_slapi_Value_j3 c0_110 c3_112 c4_113 c18_114 c24_116
    )
def slices_symMergeCmpFunc_slapi_Value_l5 (c0_91 : Sl) (c1_92 : Int) (c2_93 : Int) (c3_94 : Int) (c4_95 : Value) (c18_96 : Int) (c19_97 : Int) (c22_98 : Int) (self5 : (Int × Int) → M (Unit)) : (Int × Int) → M (Unit):=fun s=>match s with
  | (x20_89,x21_90)=>do
    M.ite (decide (x20_89 < x21_90)) (do
      let x163_104 ← ixL c0_91 (IntKind.wrap .i64 (c22_98 - (IntKind.wrap .i64 (iShr .u64 (IntKind.wrap .u64 (IntKind.wrap .i64 (x20_89 + x21_90))) 1)))) 1
      let x167_105 ← ixL c0_91 (IntKind.wrap .i64 (iShr .u64 (IntKind.wrap .u64 (IntKind.wrap .i64 (x20_89 + x21_90))) 1)) 1
      let x164_106 ← ldL x163_104
      let x168_107 ← ldL x167_105
      let x169_108 ← callW Go.Proofs.Tryz.prog (fun r : Int=>.int .i64 r) c4_95 [(x164_106 : Sl).v,(x168_107 : Sl).v]
      M.ite (!(decide (x169_108 < 0))) (do
        self5 (IntKind.wrap .i64 ((IntKind.wrap .i64 (iShr .u64 (IntKind.wrap .u64 (IntKind.wrap .i64 (x20_89 + x21_90))) 1)) + 1),x21_90)
        ) (do
        self5 (x20_89,IntKind.wrap .i64 (iShr .u64 (IntKind.wrap .u64 (IntKind.wrap .i64 (x20_89 + x21_90))) 1))
        )
      ) (do
      let x185_129 ← M.ite (decide (x20_89 < c2_93)) (do
        M.pure (decide (c2_93 < (IntKind.wrap .i64 (c19_97 - x20_89))))
        ) (do
        M.pure false
        )
      M.ite x185_129 (do
        let x191_130 ← slices_rotateCmpFunc_slapi_Value c0_91 x20_89 c2_93 (IntKind.wrap .i64 (c19_97 - x20_89)) c4_95
        slices_symMergeCmpFunc_slapi_Value_j2 c0_91 c1_92 c3_94 c4_95 c18_96 x20_89 (IntKind.wrap .i64 (c19_97 - x20_89))
        ) (do
        slices_symMergeCmpFunc_slapi_Value_j2 c0_91 c1_92 c3_94 c4_95 c18_96 x20_89 (IntKind.wrap .i64 (c19_97 - x20_89))
        )
      )
def slices_symMergeCmpFunc_slapi_Value_j1 (c0_80 : Sl) (c1_81 : Int) (c2_82 : Int) (c3_83 : Int) (c4_84 : Value) (c18_85 : Int) (c19_86 : Int) (x20_78 : Int) (x21_79 : Int) : M (Unit):=do
  M.loop (slices_symMergeCmpFunc_slapi_Value_l5 c0_80 c1_81 c2_82 c3_83 c4_84 c18_85 c19_86 (IntKind.wrap .i64 (c19_86 - 1))) (x20_78,x21_79)
def slices_symMergeCmpFunc_slapi_Value (x0 : Sl) (x1 : Int) (x2 : Int) (x3 : Int) (x4 : Value) : M (Unit):=do
  M.ite ((IntKind.wrap .i64 (x2 - x1)) == 1) (do
    M.loop (slices_symMergeCmpFunc_slapi_Value_l1 x0 x1 x4) (x2,x3)
    ) (do
    M.ite ((IntKind.wrap .i64 (x3 - x2)) == 1) (do
      M.loop (slices_symMergeCmpFunc_slapi_Value_l3 x0 x2 x4) (x1,x2)
      ) (do
      M.ite (decide (x2 > (IntKind.wrap .i64 (iShr .u64 (IntKind.wrap .u64 (IntKind.wrap .i64 (x1 + x3))) 1)))) (do
        slices_symMergeCmpFunc_slapi_Value_j1 x0 x1 x2 x3 x4 (IntKind.wrap .i64 (iShr .u64 (IntKind.wrap .u64 (IntKind.wrap .i64 (x1 + x3))) 1)) (IntKind.wrap .i64 ((IntKind.wrap .i64 (iShr .u64 (IntKind.wrap .u64 (IntKind.wrap .i64 (x1 + x3))) 1)) + x2)) (IntKind.wrap .i64 ((IntKind.wrap .i64 ((IntKind.wrap .i64 (iShr .u64 (IntKind.wrap .u64 (IntKind.wrap .i64 (x1 + x3))) 1)) + x2)) - x3)) (IntKind.wrap .i64 (iShr .u64 (IntKind.wrap .u64 (IntKind.wrap .i64 (x1 + x3))) 1))
        ) (do
        slices_symMergeCmpFunc_slapi_Value_j1 x0 x1 x2 x3 x4 (IntKind.wrap .i64 (iShr .u64 (IntKind.wrap .u64 (IntKind.wrap .i64 (x1 + x3))) 1)) (IntKind.wrap .i64 ((IntKind.wrap .i64 (iShr .u64 (IntKind.wrap .u64 (IntKind.wrap .i64 (x1 + x3))) 1)) + x2)) x1 x2
        )
      )
    )
theorem S_slices_symMergeCmpFunc_slapi_Value (x0 : Sl) (x1 : Int) (x2 : Int) (x3 : Int) (x4 : Value) : Sound Go.Proofs.Tryz.prog 179 #[(x0 : Sl).v,.int .i64 x1,.int .i64 x2,.int .i64 x3,x4] (fun (r : Unit)=>.tuple #[]) (slices_symMergeCmpFunc_slapi_Value x0 x1 x2 x3 x4):=by
  refine sound_of [(0,(x0 : Sl).v),(1,.int .i64 x1),(2,.int .i64 x2),(3,.int .i64 x3),(4,x4)] Go.Proofs.Tryz.func179 rfl rfl (Nat.le_of_ble_eq_true rfl) (args_of ⟨rfl,rfl,rfl,rfl,rfl,trivial⟩) (fun w0 w Q R a hret hE hR H=>?_)
  unfold slices_symMergeCmpFunc_slapi_Value at H
  refine w_seq (fun K hK_1=>?_)
  refine w_seq (fun K hK_2=>?_)
  refine t_region ?_
  refine t_val (v:=.int .i64 x2) rfl rfl hE rfl (r_move hE rfl) (fun a hE=>?_)
  refine t_val (v:=.int .i64 x1) rfl rfl hE rfl (r_move hE rfl) (fun a hE=>?_)
  refine t_val (v:=.int .i64 (IntKind.wrap .i64 (x2 - x1))) rfl rfl hE rfl (r_bin hE rfl rfl g_int b_sub) (fun a hE=>?_)
  refine t_val (v:=.bool ((IntKind.wrap .i64 (x2 - x1)) == 1)) rfl rfl hE rfl (r_bin hE rfl rfl g_int b_eql) (fun a hE=>?_)
  refine t_nil ?_
  refine hK_2 _ _ ?_
  refine w_cond ((IntKind.wrap .i64 (x2 - x1)) == 1) hE rfl (fun hb=>?_) (fun hb=>?_)
  · replace H:=M.ite_t hb H
    refine w_seq (fun K hK_3=>?_)
    refine t_region ?_
    refine t_val (v:=.int .i64 x2) rfl rfl hE rfl (r_move hE rfl) (fun a hE=>?_)
    refine t_val (v:=.int .i64 x2) rfl rfl hE rfl (r_assign hE rfl) (fun a hE=>?_)
    refine t_nil ?_
    refine hK_3 _ _ ?_
    refine w_seq (fun K hK_4=>?_)
    refine t_region ?_
    refine t_val (v:=.int .i64 x3) rfl rfl hE rfl (r_move hE rfl) (fun a hE=>?_)
    refine t_val (v:=.int .i64 x3) rfl rfl hE rfl (r_assign hE rfl) (fun a hE=>?_)
    refine t_nil ?_
    refine hK_4 _ _ ?_
    refine w_seq (fun K hK_5=>?_)
    refine w_block ?_
    refine l_loop (fun (s : Int × Int)=>(⟨220,[]⟩ : Frm)) (fun (s : Int × Int)=>[(0,(x0 : Sl).v),(1,.int .i64 x1),(4,x4),(10,.int .i64 s.1),(11,.int .i64 s.2)]) H (hE.cut (.cons rfl (.cons rfl (.cons rfl (.cons rfl (.cons rfl Subs.nil)))))) hR (fun Y self1 hY_11 s a w hE hR H=>?_)
    rcases s with ⟨x10_6,x11_7⟩
    replace hE : Env (⟨220,[]⟩ : Frm) a [(0,(x0 : Sl).v),(1,.int .i64 x1),(4,x4),(10,.int .i64 x10_6),(11,.int .i64 x11_7)]:=hE
    replace H : (slices_symMergeCmpFunc_slapi_Value_l1 x0 x1 x4 self1 (x10_6,x11_7)).wp w.heap Q:=H
    unfold slices_symMergeCmpFunc_slapi_Value_l1 at H
    refine w_seq (fun K hK_12=>?_)
    refine w_seq (fun K hK_13=>?_)
    refine t_region ?_
    refine t_val (v:=.int .i64 x10_6) rfl rfl hE rfl (r_move hE rfl) (fun a hE=>?_)
    refine t_val (v:=.int .i64 x11_7) rfl rfl hE rfl (r_move hE rfl) (fun a hE=>?_)
    refine t_val (v:=.bool (decide (x10_6 < x11_7))) rfl rfl hE rfl (r_bin hE rfl rfl g_int b_lss) (fun a hE=>?_)
    refine t_nil ?_
    refine hK_13 _ _ ?_
    refine w_cond (decide (x10_6 < x11_7)) hE rfl (fun hb=>?_) (fun hb=>?_)
    · replace H:=M.ite_t hb H
      refine w_skip ?_
      refine hK_12 _ _ ?_
      refine w_block ?_
      refine w_seq (fun K hK_14=>?_)
      refine t_region ?_
      refine t_val (v:=.int .i64 x10_6) rfl rfl hE rfl (r_move hE rfl) (fun a hE=>?_)
      refine t_val (v:=.int .i64 x11_7) rfl rfl hE rfl (r_move hE rfl) (fun a hE=>?_)
      refine t_val (v:=.int .i64 (IntKind.wrap .i64 (x10_6 + x11_7))) rfl rfl hE rfl (r_bin hE rfl rfl g_int b_add) (fun a hE=>?_)
      refine t_val (v:=.int .u64 (IntKind.wrap .u64 (IntKind.wrap .i64 (x10_6 + x11_7)))) rfl rfl hE rfl (r_convI hE rfl un3 un184) (fun a hE=>?_)
      refine t_val (v:=.int .u64 (iShr .u64 (IntKind.wrap .u64 (IntKind.wrap .i64 (x10_6 + x11_7))) 1)) rfl rfl hE rfl (r_bin hE rfl rfl g_int (b_shr ⟨by decide,rfl⟩)) (fun a hE=>?_)
      refine t_val (v:=.int .i64 (IntKind.wrap .i64 (iShr .u64 (IntKind.wrap .u64 (IntKind.wrap .i64 (x10_6 + x11_7))) 1))) rfl rfl hE rfl (r_convI hE rfl un184 un3) (fun a hE=>?_)
      refine t_val (v:=.int .i64 (IntKind.wrap .i64 (iShr .u64 (IntKind.wrap .u64 (IntKind.wrap .i64 (x10_6 + x11_7))) 1))) rfl rfl hE rfl (r_assign hE rfl) (fun a hE=>?_)
      refine t_nil ?_
      refine hK_14 _ _ ?_
      refine w_seq (fun K hK_15=>?_)
      obtain ⟨x43_16,qx43_16,H⟩:=H
      obtain ⟨x47_17,qx47_17,H⟩:=H
      obtain ⟨x44_18,qx44_18,H⟩:=H
      obtain ⟨x48_19,qx48_19,H⟩:=H
      have hT:=tab_of tb179_5 rfl rfl
      refine d_start (fun w : World=>(fun h : Heap=>(hcell h x43_16 = some ((x44_18 : Sl).v)) ∧ (hcell h x47_17 = some ((x48_19 : Sl).v))) w.heap) [9,10] #[false,false,false,false,false,false,false,false,false,false,false] mo hR rfl rfl (fun w' e=>by rw [e]; exact ⟨qx44_18,qx48_19⟩) (fun w hh hR hs=>?_)
      replace H:=M.at hh H; clear hh
      refine d_pureg (i:=0) (v:=x4) #[true,false,false,false,false,false,false,false,false,false,false] rfl rfl hT (by kernel_rfl) hE rfl (wanted_none rfl) (fun w=>r_move hE rfl) (fun a hE=>?_)
      refine d_pureg (i:=1) (v:=(x0 : Sl).v) #[true,true,false,false,false,false,false,false,false,false,false] rfl rfl hT (by kernel_rfl) hE rfl (wanted_none rfl) (fun w=>r_move hE rfl) (fun a hE=>?_)
      refine d_pureg (i:=2) (v:=.int .i64 (IntKind.wrap .i64 (iShr .u64 (IntKind.wrap .u64 (IntKind.wrap .i64 (x10_6 + x11_7))) 1))) #[true,true,true,false,false,false,false,false,false,false,false] rfl rfl hT (by kernel_rfl) hE rfl (wanted_none rfl) (fun w=>r_move hE rfl) (fun a hE=>?_)
      refine d_pureg (i:=3) (v:=.pointer (some x43_16)) #[true,true,true,true,false,false,false,false,false,false,false] rfl rfl hT (by kernel_rfl) hE rfl (wanted_none rfl) (fun w=>r_indexAddrL hE rfl rfl un89 sz22 qx43_16) (fun a hE=>?_)
      refine d_pureg (i:=5) (v:=(x0 : Sl).v) #[true,true,true,true,false,true,false,false,false,false,false] rfl rfl hT (by kernel_rfl) hE rfl (wanted_none rfl) (fun w=>r_move hE rfl) (fun a hE=>?_)
      refine d_pureg (i:=6) (v:=.int .i64 x1) #[true,true,true,true,false,true,true,false,false,false,false] rfl rfl hT (by kernel_rfl) hE rfl (wanted_none rfl) (fun w=>r_move hE rfl) (fun a hE=>?_)
      refine d_pureg (i:=7) (v:=.pointer (some x47_17)) #[true,true,true,true,false,true,true,true,false,false,false] rfl rfl hT (by kernel_rfl) hE rfl (wanted_none rfl) (fun w=>r_indexAddrL hE rfl rfl un89 sz22 qx47_17) (fun a hE=>?_)
      refine d_read (i:=4) (v:=(x44_18 : Sl).v) #[true,true,true,true,true,true,true,true,false,false,false] rfl rfl hT (by kernel_rfl) hE rfl (wanted_none rfl) hs (fun w s=>r_load hE rfl sc22 s.1) (fun a hE=>?_)
      refine d_read (i:=8) (v:=(x48_19 : Sl).v) #[true,true,true,true,true,true,true,true,true,false,false] rfl rfl hT (by kernel_rfl) hE rfl (wanted_none rfl) hs (fun w s=>r_load hE rfl sc22 s.2) (fun a hE=>?_)
      refine d_calllW (i:=9) #[true,true,true,true,true,true,true,true,true,true,false] rfl rfl rfl hT (by kernel_rfl) rfl hE hR (wanted_none rfl) rfl rfl (M.unbind H) (fun x49_20 a w ea hR H=>?_)
      have hE:=Env.put_some hE rfl ea; clear ea
      refine d_pureg (i:=10) (v:=.bool (decide (x49_20 < 0))) #[true,true,true,true,true,true,true,true,true,true,true] rfl rfl hT (by kernel_rfl) hE rfl (wanted_none rfl) (fun w=>r_bin hE rfl rfl g_int b_lss) (fun a hE=>?_)
      refine d_done hT (by kernel_rfl) ?_
      refine hK_15 _ _ ?_
      refine w_cond (decide (x49_20 < 0)) hE rfl (fun hb=>?_) (fun hb=>?_)
      · replace H:=M.ite_t hb H
        refine t_region ?_
        refine t_val (v:=.int .i64 (IntKind.wrap .i64 (iShr .u64 (IntKind.wrap .u64 (IntKind.wrap .i64 (x10_6 + x11_7))) 1))) rfl rfl hE rfl (r_move hE rfl) (fun a hE=>?_)
        refine t_val (v:=.int .i64 (IntKind.wrap .i64 ((IntKind.wrap .i64 (iShr .u64 (IntKind.wrap .u64 (IntKind.wrap .i64 (x10_6 + x11_7))) 1)) + 1))) rfl rfl hE rfl (r_bin hE rfl rfl g_int b_add) (fun a hE=>?_)
        refine t_val (v:=.int .i64 (IntKind.wrap .i64 ((IntKind.wrap .i64 (iShr .u64 (IntKind.wrap .u64 (IntKind.wrap .i64 (x10_6 + x11_7))) 1)) + 1))) rfl rfl hE rfl (r_assign hE rfl) (fun a hE=>?_)
        refine t_nil ?_
        exact hY_11 (IntKind.wrap .i64 ((IntKind.wrap .i64 (iShr .u64 (IntKind.wrap .u64 (IntKind.wrap .i64 (x10_6 + x11_7))) 1)) + 1),x11_7) _ _ (hE.cut (.cons rfl (.cons rfl (.cons rfl (.cons rfl (.cons rfl Subs.nil)))))) hR H
      · replace H:=M.ite_f hb H
        refine t_region ?_
        refine t_val (v:=.int .i64 (IntKind.wrap .i64 (iShr .u64 (IntKind.wrap .u64 (IntKind.wrap .i64 (x10_6 + x11_7))) 1))) rfl rfl hE rfl (r_move hE rfl) (fun a hE=>?_)
        refine t_val (v:=.int .i64 (IntKind.wrap .i64 (iShr .u64 (IntKind.wrap .u64 (IntKind.wrap .i64 (x10_6 + x11_7))) 1))) rfl rfl hE rfl (r_assign hE rfl) (fun a hE=>?_)
        refine t_nil ?_
        exact hY_11 (x10_6,IntKind.wrap .i64 (iShr .u64 (IntKind.wrap .u64 (IntKind.wrap .i64 (x10_6 + x11_7))) 1)) _ _ (hE.cut (.cons rfl (.cons rfl (.cons rfl (.cons rfl (.cons rfl Subs.nil)))))) hR H
    · replace H:=M.ite_f hb H
      refine w_exit ?_
      refine Xu.same ?_
      refine hK_5 _ _ ?_
      refine w_seq (fun K hK_21=>?_)
      refine w_seq (fun K hK_22=>?_)
      refine t_region ?_
      refine t_val (v:=.int .i64 x1) rfl rfl hE rfl (r_move hE rfl) (fun a hE=>?_)
      refine t_val (v:=.int .i64 x1) rfl rfl hE rfl (r_assign hE rfl) (fun a hE=>?_)
      refine t_nil ?_
      refine hK_22 _ _ ?_
      refine w_block ?_
      refine l_loop (fun (s : Int)=>(⟨220,[]⟩ : Frm)) (fun (s : Int)=>[(0,(x0 : Sl).v),(10,.int .i64 x10_6),(13,.int .i64 s)]) H (hE.cut (.cons rfl (.cons rfl (.cons rfl Subs.nil)))) hR (fun Y self2 hY_26 x13_23 a w hE hR H=>?_)
      replace hE : Env (⟨220,[]⟩ : Frm) a [(0,(x0 : Sl).v),(10,.int .i64 x10_6),(13,.int .i64 x13_23)]:=hE
      replace H : (slices_symMergeCmpFunc_slapi_Value_l2 x0 x10_6 self2 x13_23).wp w.heap Q:=H
      unfold slices_symMergeCmpFunc_slapi_Value_l2 at H
      refine w_seq (fun K hK_27=>?_)
      refine w_seq (fun K hK_28=>?_)
      refine t_region ?_
      refine t_val (v:=.int .i64 x13_23) rfl rfl hE rfl (r_move hE rfl) (fun a hE=>?_)
      refine t_val (v:=.int .i64 x10_6) rfl rfl hE rfl (r_move hE rfl) (fun a hE=>?_)
      refine t_val (v:=.int .i64 (IntKind.wrap .i64 (x10_6 - 1))) rfl rfl hE rfl (r_bin hE rfl rfl g_int b_sub) (fun a hE=>?_)
      refine t_val (v:=.bool (decide (x13_23 < (IntKind.wrap .i64 (x10_6 - 1))))) rfl rfl hE rfl (r_bin hE rfl rfl g_int b_lss) (fun a hE=>?_)
      refine t_nil ?_
      refine hK_28 _ _ ?_
      refine w_cond (decide (x13_23 < (IntKind.wrap .i64 (x10_6 - 1)))) hE rfl (fun hb=>?_) (fun hb=>?_)
      · replace H:=M.ite_t hb H
        refine w_skip ?_
        refine hK_27 _ _ ?_
        refine w_seq (fun K hK_29=>?_)
        refine w_block ?_
        obtain ⟨x69_30,qx69_30,H⟩:=H
        obtain ⟨x73_31,qx73_31,H⟩:=H
        obtain ⟨x70_32,qx70_32,H⟩:=H
        obtain ⟨x74_33,qx74_33,H⟩:=H
        obtain ⟨x75_34,qx75_34,H⟩:=H
        refine reg_eq (rops:=ro179_11) (by kernel_rfl) ?_
        have hT : Tab ro179_11 _ _ _:=tab_of tb179_11 rfl (by kernel_rfl)
        have hM:=TabM.of tb179_11m
        refine d_start (m:=18) (fun w : World=>(fun h : Heap=>(hcell h x69_30 = some ((x70_32 : Sl).v)) ∧ (hcell h x73_31 = some ((x74_33 : Sl).v))) w.heap) [14,15,16,17] (unb 18 0) mo hR (by kernel_rfl) (by kernel_rfl) (fun w' e=>by rw [e]; exact ⟨qx70_32,qx74_33⟩) (fun w hh hR hs=>?_)
        replace H:=M.at hh H; clear hh
        refine d_pureg (i:=0) (v:=(x0 : Sl).v) (unb 18 1) rfl rfl hT (anyM hM (by kernel_rfl)) hE rfl (wanted_none rfl) (fun w=>r_move hE rfl) (fun a hE=>?_)
        refine d_pureg (i:=1) (v:=.int .i64 x13_23) (unb 18 3) rfl rfl hT (anyM hM (by kernel_rfl)) hE rfl (wanted_none rfl) (fun w=>r_move hE rfl) (fun a hE=>?_)
        refine d_pureg (i:=2) (v:=(x0 : Sl).v) (unb 18 7) rfl rfl hT (anyM hM (by kernel_rfl)) hE rfl (wanted_none rfl) (fun w=>r_move hE rfl) (fun a hE=>?_)
        refine d_pureg (i:=3) (v:=.int .i64 x13_23) (unb 18 15) rfl rfl hT (anyM hM (by kernel_rfl)) hE rfl (wanted_none rfl) (fun w=>r_move hE rfl) (fun a hE=>?_)
        refine d_pureg (i:=4) (v:=.int .i64 (IntKind.wrap .i64 (x13_23 + 1))) (unb 18 31) rfl rfl hT (anyM hM (by kernel_rfl)) hE rfl (wanted_none rfl) (fun w=>r_bin hE rfl rfl g_int b_add) (fun a hE=>?_)
        refine d_pureg (i:=5) (v:=(x0 : Sl).v) (unb 18 63) rfl rfl hT (anyM hM (by kernel_rfl)) hE rfl (wanted_none rfl) (fun w=>r_move hE rfl) (fun a hE=>?_)
        refine d_pureg (i:=6) (v:=.int .i64 x13_23) (unb 18 127) rfl rfl hT (anyM hM (by kernel_rfl)) hE rfl (wanted_none rfl) (fun w=>r_move hE rfl) (fun a hE=>?_)
        refine d_pureg (i:=7) (v:=.int .i64 (IntKind.wrap .i64 (x13_23 + 1))) (unb 18 255) rfl rfl hT (anyM hM (by kernel_rfl)) hE rfl (wanted_none rfl) (fun w=>r_bin hE rfl rfl g_int b_add) (fun a hE=>?_)
        refine d_pureg (i:=8) (v:=.pointer (some x69_30)) (unb 18 511) rfl rfl hT (anyM hM (by kernel_rfl)) hE rfl (wanted_none rfl) (fun w=>r_indexAddrL hE rfl rfl un89 sz22 qx69_30) (fun a hE=>?_)
        refine d_pureg (i:=10) (v:=(x0 : Sl).v) (unb 18 1535) rfl rfl hT (anyM hM (by kernel_rfl)) hE rfl (wanted_none rfl) (fun w=>r_move hE rfl) (fun a hE=>?_)
        refine d_pureg (i:=11) (v:=.int .i64 x13_23) (unb 18 3583) rfl rfl hT (anyM hM (by kernel_rfl)) hE rfl (wanted_none rfl) (fun w=>r_move hE rfl) (fun a hE=>?_)
        refine d_pureg (i:=12) (v:=.pointer (some x73_31)) (unb 18 7679) rfl rfl hT (anyM hM (by kernel_rfl)) hE rfl (wanted_none rfl) (fun w=>r_indexAddrL hE rfl rfl un89 sz22 qx73_31) (fun a hE=>?_)
        refine d_read (i:=9) (v:=(x70_32 : Sl).v) (unb 18 8191) rfl rfl hT (takeM hM (by kernel_rfl)) hE rfl (wanted_none rfl) hs (fun w s=>r_load hE rfl sc22 s.1) (fun a hE=>?_)
        refine d_read (i:=13) (v:=(x74_33 : Sl).v) (unb 18 16383) rfl rfl hT (takeM hM (by kernel_rfl)) hE rfl (wanted_none rfl) hs (fun w s=>r_load hE rfl sc22 s.2) (fun a hE=>?_)
        refine d_pureg (i:=14) (v:=.pointer (some x75_34)) (unb 18 32767) rfl rfl hT (anyM hM (by kernel_rfl)) hE rfl (wanted_none rfl) (fun w=>r_indexAddrL hE rfl rfl un89 sz22 qx75_34) (fun a hE=>?_)
        obtain ⟨u_35,qu_35,H⟩:=H
        refine d_stlh (i:=15) (unb 18 65535) rfl rfl hT (oneM hM (by kernel_rfl)) rfl hE hR (wanted_none rfl) (r_store hE rfl rfl sz22 qu_35)  (fun a w hE hR hh=>?_)
        replace H:=M.at hh H; clear hh
        obtain ⟨x76_36,qx76_36,H⟩:=H
        refine d_pureg (i:=16) (v:=.pointer (some x76_36)) (unb 18 131071) rfl rfl hT (anyM hM (by kernel_rfl)) hE rfl (wanted_none rfl) (fun w=>r_indexAddrL hE rfl rfl un89 sz22 qx76_36) (fun a hE=>?_)
        obtain ⟨u_37,qu_37,H⟩:=H
        refine d_stlh (i:=17) (unb 18 262143) rfl rfl hT (oneM hM (by kernel_rfl)) rfl hE hR (wanted_none rfl) (r_store hE rfl rfl sz22 qu_37)  (fun a w hE hR hh=>?_)
        replace H:=M.at hh H; clear hh
        refine d_done hT (doneM hM (by kernel_rfl)) ?_
        refine hK_29 _ _ ?_
        refine t_region ?_
        refine t_val (v:=.int .i64 x13_23) rfl rfl hE rfl (r_move hE rfl) (fun a hE=>?_)
        refine t_val (v:=.int .i64 (IntKind.wrap .i64 (x13_23 + 1))) rfl rfl hE rfl (r_bin hE rfl rfl g_int b_add) (fun a hE=>?_)
        refine t_val (v:=.int .i64 (IntKind.wrap .i64 (x13_23 + 1))) rfl rfl hE rfl (r_assign hE rfl) (fun a hE=>?_)
        refine t_nil ?_
        exact hY_26 (IntKind.wrap .i64 (x13_23 + 1)) _ _ (hE.cut (.cons rfl (.cons rfl (.cons rfl Subs.nil)))) hR H
      · replace H:=M.ite_f hb H
        refine w_exit ?_
        refine Xu.same ?_
        refine hK_21 _ _ ?_
        refine w_ret ?_
        exact hret _ _ _ () _ hE hR (res_run hE rfl RV.nil) rfl H
  · replace H:=M.ite_f hb H
    refine w_skip ?_
    refine hK_1 _ _ ?_
    refine w_seq (fun K hK_38=>?_)
    refine w_seq (fun K hK_39=>?_)
    refine t_region ?_
    refine t_val (v:=.int .i64 x3) rfl rfl hE rfl (r_move hE rfl) (fun a hE=>?_)
    refine t_val (v:=.int .i64 x2) rfl rfl hE rfl (r_move hE rfl) (fun a hE=>?_)
    refine t_val (v:=.int .i64 (IntKind.wrap .i64 (x3 - x2))) rfl rfl hE rfl (r_bin hE rfl rfl g_int b_sub) (fun a hE=>?_)
    refine t_val (v:=.bool ((IntKind.wrap .i64 (x3 - x2)) == 1)) rfl rfl hE rfl (r_bin hE rfl rfl g_int b_eql) (fun a hE=>?_)
    refine t_nil ?_
    refine hK_39 _ _ ?_
    refine w_cond ((IntKind.wrap .i64 (x3 - x2)) == 1) hE rfl (fun hb=>?_) (fun hb=>?_)
    · replace H:=M.ite_t hb H
      refine w_seq (fun K hK_40=>?_)
      refine t_region ?_
      refine t_val (v:=.int .i64 x1) rfl rfl hE rfl (r_move hE rfl) (fun a hE=>?_)
      refine t_val (v:=.int .i64 x1) rfl rfl hE rfl (r_assign hE rfl) (fun a hE=>?_)
      refine t_nil ?_
      refine hK_40 _ _ ?_
      refine w_seq (fun K hK_41=>?_)
      refine t_region ?_
      refine t_val (v:=.int .i64 x2) rfl rfl hE rfl (r_move hE rfl) (fun a hE=>?_)
      refine t_val (v:=.int .i64 x2) rfl rfl hE rfl (r_assign hE rfl) (fun a hE=>?_)
      refine t_nil ?_
      refine hK_41 _ _ ?_
      refine w_seq (fun K hK_42=>?_)
      refine w_block ?_
      refine l_loop (fun (s : Int × Int)=>(⟨220,[]⟩ : Frm)) (fun (s : Int × Int)=>[(0,(x0 : Sl).v),(2,.int .i64 x2),(4,x4),(14,.int .i64 s.1),(15,.int .i64 s.2)]) H (hE.cut (.cons rfl (.cons rfl (.cons rfl (.cons rfl (.cons rfl Subs.nil)))))) hR (fun Y self3 hY_48 s a w hE hR H=>?_)
      rcases s with ⟨x14_43,x15_44⟩
      replace hE : Env (⟨220,[]⟩ : Frm) a [(0,(x0 : Sl).v),(2,.int .i64 x2),(4,x4),(14,.int .i64 x14_43),(15,.int .i64 x15_44)]:=hE
      replace H : (slices_symMergeCmpFunc_slapi_Value_l3 x0 x2 x4 self3 (x14_43,x15_44)).wp w.heap Q:=H
      unfold slices_symMergeCmpFunc_slapi_Value_l3 at H
      refine w_seq (fun K hK_49=>?_)
      refine w_seq (fun K hK_50=>?_)
      refine t_region ?_
      refine t_val (v:=.int .i64 x14_43) rfl rfl hE rfl (r_move hE rfl) (fun a hE=>?_)
      refine t_val (v:=.int .i64 x15_44) rfl rfl hE rfl (r_move hE rfl) (fun a hE=>?_)
      refine t_val (v:=.bool (decide (x14_43 < x15_44))) rfl rfl hE rfl (r_bin hE rfl rfl g_int b_lss) (fun a hE=>?_)
      refine t_nil ?_
      refine hK_50 _ _ ?_
      refine w_cond (decide (x14_43 < x15_44)) hE rfl (fun hb=>?_) (fun hb=>?_)
      · replace H:=M.ite_t hb H
        refine w_skip ?_
        refine hK_49 _ _ ?_
        refine w_block ?_
        refine w_seq (fun K hK_51=>?_)
        refine t_region ?_
        refine t_val (v:=.int .i64 x14_43) rfl rfl hE rfl (r_move hE rfl) (fun a hE=>?_)
        refine t_val (v:=.int .i64 x15_44) rfl rfl hE rfl (r_move hE rfl) (fun a hE=>?_)
        refine t_val (v:=.int .i64 (IntKind.wrap .i64 (x14_43 + x15_44))) rfl rfl hE rfl (r_bin hE rfl rfl g_int b_add) (fun a hE=>?_)
        refine t_val (v:=.int .u64 (IntKind.wrap .u64 (IntKind.wrap .i64 (x14_43 + x15_44)))) rfl rfl hE rfl (r_convI hE rfl un3 un184) (fun a hE=>?_)
        refine t_val (v:=.int .u64 (iShr .u64 (IntKind.wrap .u64 (IntKind.wrap .i64 (x14_43 + x15_44))) 1)) rfl rfl hE rfl (r_bin hE rfl rfl g_int (b_shr ⟨by decide,rfl⟩)) (fun a hE=>?_)
        refine t_val (v:=.int .i64 (IntKind.wrap .i64 (iShr .u64 (IntKind.wrap .u64 (IntKind.wrap .i64 (x14_43 + x15_44))) 1))) rfl rfl hE rfl (r_convI hE rfl un184 un3) (fun a hE=>?_)
        refine t_val (v:=.int .i64 (IntKind.wrap .i64 (iShr .u64 (IntKind.wrap .u64 (IntKind.wrap .i64 (x14_43 + x15_44))) 1))) rfl rfl hE rfl (r_assign hE rfl) (fun a hE=>?_)
        refine t_nil ?_
        refine hK_51 _ _ ?_
        refine w_seq (fun K hK_52=>?_)
        obtain ⟨x95_53,qx95_53,H⟩:=H
        obtain ⟨x99_54,qx99_54,H⟩:=H
        obtain ⟨x96_55,qx96_55,H⟩:=H
        obtain ⟨x100_56,qx100_56,H⟩:=H
        have hT:=tab_of tb179_17 rfl rfl
        refine d_start (fun w : World=>(fun h : Heap=>(hcell h x95_53 = some ((x96_55 : Sl).v)) ∧ (hcell h x99_54 = some ((x100_56 : Sl).v))) w.heap) [9,10,11] #[false,false,false,false,false,false,false,false,false,false,false,false] mo hR rfl rfl (fun w' e=>by rw [e]; exact ⟨qx96_55,qx100_56⟩) (fun w hh hR hs=>?_)
        replace H:=M.at hh H; clear hh
        refine d_pureg (i:=0) (v:=x4) #[true,false,false,false,false,false,false,false,false,false,false,false] rfl rfl hT (by kernel_rfl) hE rfl (wanted_none rfl) (fun w=>r_move hE rfl) (fun a hE=>?_)
        refine d_pureg (i:=1) (v:=(x0 : Sl).v) #[true,true,false,false,false,false,false,false,false,false,false,false] rfl rfl hT (by kernel_rfl) hE rfl (wanted_none rfl) (fun w=>r_move hE rfl) (fun a hE=>?_)
        refine d_pureg (i:=2) (v:=.int .i64 x2) #[true,true,true,false,false,false,false,false,false,false,false,false] rfl rfl hT (by kernel_rfl) hE rfl (wanted_none rfl) (fun w=>r_move hE rfl) (fun a hE=>?_)
        refine d_pureg (i:=3) (v:=.pointer (some x95_53)) #[true,true,true,true,false,false,false,false,false,false,false,false] rfl rfl hT (by kernel_rfl) hE rfl (wanted_none rfl) (fun w=>r_indexAddrL hE rfl rfl un89 sz22 qx95_53) (fun a hE=>?_)
        refine d_pureg (i:=5) (v:=(x0 : Sl).v) #[true,true,true,true,false,true,false,false,false,false,false,false] rfl rfl hT (by kernel_rfl) hE rfl (wanted_none rfl) (fun w=>r_move hE rfl) (fun a hE=>?_)
        refine d_pureg (i:=6) (v:=.int .i64 (IntKind.wrap .i64 (iShr .u64 (IntKind.wrap .u64 (IntKind.wrap .i64 (x14_43 + x15_44))) 1))) #[true,true,true,true,false,true,true,false,false,false,false,false] rfl rfl hT (by kernel_rfl) hE rfl (wanted_none rfl) (fun w=>r_move hE rfl) (fun a hE=>?_)
        refine d_pureg (i:=7) (v:=.pointer (some x99_54)) #[true,true,true,true,false,true,true,true,false,false,false,false] rfl rfl hT (by kernel_rfl) hE rfl (wanted_none rfl) (fun w=>r_indexAddrL hE rfl rfl un89 sz22 qx99_54) (fun a hE=>?_)
        refine d_read (i:=4) (v:=(x96_55 : Sl).v) #[true,true,true,true,true,true,true,true,false,false,false,false] rfl rfl hT (by kernel_rfl) hE rfl (wanted_none rfl) hs (fun w s=>r_load hE rfl sc22 s.1) (fun a hE=>?_)
        refine d_read (i:=8) (v:=(x100_56 : Sl).v) #[true,true,true,true,true,true,true,true,true,false,false,false] rfl rfl hT (by kernel_rfl) hE rfl (wanted_none rfl) hs (fun w s=>r_load hE rfl sc22 s.2) (fun a hE=>?_)
        refine d_calllW (i:=9) #[true,true,true,true,true,true,true,true,true,true,false,false] rfl rfl rfl hT (by kernel_rfl) rfl hE hR (wanted_none rfl) rfl rfl (M.unbind H) (fun x101_57 a w ea hR H=>?_)
        have hE:=Env.put_some hE rfl ea; clear ea
        refine d_pureg (i:=10) (v:=.bool (decide (x101_57 < 0))) #[true,true,true,true,true,true,true,true,true,true,true,false] rfl rfl hT (by kernel_rfl) hE rfl (wanted_none rfl) (fun w=>r_bin hE rfl rfl g_int b_lss) (fun a hE=>?_)
        refine d_pureg (i:=11) (v:=.bool (!(decide (x101_57 < 0)))) #[true,true,true,true,true,true,true,true,true,true,true,true] rfl rfl hT (by kernel_rfl) hE rfl (wanted_none rfl) (fun w=>r_un hE rfl u_not) (fun a hE=>?_)
        refine d_done hT (by kernel_rfl) ?_
        refine hK_52 _ _ ?_
        refine w_cond (!(decide (x101_57 < 0))) hE rfl (fun hb=>?_) (fun hb=>?_)
        · replace H:=M.ite_t hb H
          refine t_region ?_
          refine t_val (v:=.int .i64 (IntKind.wrap .i64 (iShr .u64 (IntKind.wrap .u64 (IntKind.wrap .i64 (x14_43 + x15_44))) 1))) rfl rfl hE rfl (r_move hE rfl) (fun a hE=>?_)
          refine t_val (v:=.int .i64 (IntKind.wrap .i64 ((IntKind.wrap .i64 (iShr .u64 (IntKind.wrap .u64 (IntKind.wrap .i64 (x14_43 + x15_44))) 1)) + 1))) rfl rfl hE rfl (r_bin hE rfl rfl g_int b_add) (fun a hE=>?_)
          refine t_val (v:=.int .i64 (IntKind.wrap .i64 ((IntKind.wrap .i64 (iShr .u64 (IntKind.wrap .u64 (IntKind.wrap .i64 (x14_43 + x15_44))) 1)) + 1))) rfl rfl hE rfl (r_assign hE rfl) (fun a hE=>?_)
          refine t_nil ?_
          exact hY_48 (IntKind.wrap .i64 ((IntKind.wrap .i64 (iShr .u64 (IntKind.wrap .u64 (IntKind.wrap .i64 (x14_43 + x15_44))) 1)) + 1),x15_44) _ _ (hE.cut (.cons rfl (.cons rfl (.cons rfl (.cons rfl (.cons rfl Subs.nil)))))) hR H
        · replace H:=M.ite_f hb H
          refine t_region ?_
          refine t_val (v:=.int .i64 (IntKind.wrap .i64 (iShr .u64 (IntKind.wrap .u64 (IntKind.wrap .i64 (x14_43 + x15_44))) 1))) rfl rfl hE rfl (r_move hE rfl) (fun a hE=>?_)
          refine t_val (v:=.int .i64 (IntKind.wrap .i64 (iShr .u64 (IntKind.wrap .u64 (IntKind.wrap .i64 (x14_43 + x15_44))) 1))) rfl rfl hE rfl (r_assign hE rfl) (fun a hE=>?_)
          refine t_nil ?_
          exact hY_48 (x14_43,IntKind.wrap .i64 (iShr .u64 (IntKind.wrap .u64 (IntKind.wrap .i64 (x14_43 + x15_44))) 1)) _ _ (hE.cut (.cons rfl (.cons rfl (.cons rfl (.cons rfl (.cons rfl Subs.nil)))))) hR H
      · replace H:=M.ite_f hb H
        refine w_exit ?_
        refine Xu.same ?_
        refine hK_42 _ _ ?_
        refine w_seq (fun K hK_58=>?_)
        refine w_seq (fun K hK_59=>?_)
        refine t_region ?_
        refine t_val (v:=.int .i64 x2) rfl rfl hE rfl (r_move hE rfl) (fun a hE=>?_)
        refine t_val (v:=.int .i64 x2) rfl rfl hE rfl (r_assign hE rfl) (fun a hE=>?_)
        refine t_nil ?_
        refine hK_59 _ _ ?_
        refine w_block ?_
        refine l_loop (fun (s : Int)=>(⟨220,[]⟩ : Frm)) (fun (s : Int)=>[(0,(x0 : Sl).v),(14,.int .i64 x14_43),(17,.int .i64 s)]) H (hE.cut (.cons rfl (.cons rfl (.cons rfl Subs.nil)))) hR (fun Y self4 hY_63 x17_60 a w hE hR H=>?_)
        replace hE : Env (⟨220,[]⟩ : Frm) a [(0,(x0 : Sl).v),(14,.int .i64 x14_43),(17,.int .i64 x17_60)]:=hE
        replace H : (slices_symMergeCmpFunc_slapi_Value_l4 x0 x14_43 self4 x17_60).wp w.heap Q:=H
        unfold slices_symMergeCmpFunc_slapi_Value_l4 at H
        refine w_seq (fun K hK_64=>?_)
        refine w_seq (fun K hK_65=>?_)
        refine t_region ?_
        refine t_val (v:=.int .i64 x17_60) rfl rfl hE rfl (r_move hE rfl) (fun a hE=>?_)
        refine t_val (v:=.int .i64 x14_43) rfl rfl hE rfl (r_move hE rfl) (fun a hE=>?_)
        refine t_val (v:=.bool (decide (x17_60 > x14_43))) rfl rfl hE rfl (r_bin hE rfl rfl g_int b_gtr) (fun a hE=>?_)
        refine t_nil ?_
        refine hK_65 _ _ ?_
        refine w_cond (decide (x17_60 > x14_43)) hE rfl (fun hb=>?_) (fun hb=>?_)
        · replace H:=M.ite_t hb H
          refine w_skip ?_
          refine hK_64 _ _ ?_
          refine w_seq (fun K hK_66=>?_)
          refine w_block ?_
          obtain ⟨x121_67,qx121_67,H⟩:=H
          obtain ⟨x125_68,qx125_68,H⟩:=H
          obtain ⟨x122_69,qx122_69,H⟩:=H
          obtain ⟨x126_70,qx126_70,H⟩:=H
          obtain ⟨x127_71,qx127_71,H⟩:=H
          refine reg_eq (rops:=ro179_23) (by kernel_rfl) ?_
          have hT : Tab ro179_23 _ _ _:=tab_of tb179_23 rfl (by kernel_rfl)
          have hM:=TabM.of tb179_23m
          refine d_start (m:=18) (fun w : World=>(fun h : Heap=>(hcell h x121_67 = some ((x122_69 : Sl).v)) ∧ (hcell h x125_68 = some ((x126_70 : Sl).v))) w.heap) [14,15,16,17] (unb 18 0) mo hR (by kernel_rfl) (by kernel_rfl) (fun w' e=>by rw [e]; exact ⟨qx122_69,qx126_70⟩) (fun w hh hR hs=>?_)
          replace H:=M.at hh H; clear hh
          refine d_pureg (i:=0) (v:=(x0 : Sl).v) (unb 18 1) rfl rfl hT (anyM hM (by kernel_rfl)) hE rfl (wanted_none rfl) (fun w=>r_move hE rfl) (fun a hE=>?_)
          refine d_pureg (i:=1) (v:=.int .i64 x17_60) (unb 18 3) rfl rfl hT (anyM hM (by kernel_rfl)) hE rfl (wanted_none rfl) (fun w=>r_move hE rfl) (fun a hE=>?_)
          refine d_pureg (i:=2) (v:=(x0 : Sl).v) (unb 18 7) rfl rfl hT (anyM hM (by kernel_rfl)) hE rfl (wanted_none rfl) (fun w=>r_move hE rfl) (fun a hE=>?_)
          refine d_pureg (i:=3) (v:=.int .i64 x17_60) (unb 18 15) rfl rfl hT (anyM hM (by kernel_rfl)) hE rfl (wanted_none rfl) (fun w=>r_move hE rfl) (fun a hE=>?_)
          refine d_pureg (i:=4) (v:=.int .i64 (IntKind.wrap .i64 (x17_60 - 1))) (unb 18 31) rfl rfl hT (anyM hM (by kernel_rfl)) hE rfl (wanted_none rfl) (fun w=>r_bin hE rfl rfl g_int b_sub) (fun a hE=>?_)
          refine d_pureg (i:=5) (v:=(x0 : Sl).v) (unb 18 63) rfl rfl hT (anyM hM (by kernel_rfl)) hE rfl (wanted_none rfl) (fun w=>r_move hE rfl) (fun a hE=>?_)
          refine d_pureg (i:=6) (v:=.int .i64 x17_60) (unb 18 127) rfl rfl hT (anyM hM (by kernel_rfl)) hE rfl (wanted_none rfl) (fun w=>r_move hE rfl) (fun a hE=>?_)
          refine d_pureg (i:=7) (v:=.int .i64 (IntKind.wrap .i64 (x17_60 - 1))) (unb 18 255) rfl rfl hT (anyM hM (by kernel_rfl)) hE rfl (wanted_none rfl) (fun w=>r_bin hE rfl rfl g_int b_sub) (fun a hE=>?_)
          refine d_pureg (i:=8) (v:=.pointer (some x121_67)) (unb 18 511) rfl rfl hT (anyM hM (by kernel_rfl)) hE rfl (wanted_none rfl) (fun w=>r_indexAddrL hE rfl rfl un89 sz22 qx121_67) (fun a hE=>?_)
          refine d_pureg (i:=10) (v:=(x0 : Sl).v) (unb 18 1535) rfl rfl hT (anyM hM (by kernel_rfl)) hE rfl (wanted_none rfl) (fun w=>r_move hE rfl) (fun a hE=>?_)
          refine d_pureg (i:=11) (v:=.int .i64 x17_60) (unb 18 3583) rfl rfl hT (anyM hM (by kernel_rfl)) hE rfl (wanted_none rfl) (fun w=>r_move hE rfl) (fun a hE=>?_)
          refine d_pureg (i:=12) (v:=.pointer (some x125_68)) (unb 18 7679) rfl rfl hT (anyM hM (by kernel_rfl)) hE rfl (wanted_none rfl) (fun w=>r_indexAddrL hE rfl rfl un89 sz22 qx125_68) (fun a hE=>?_)
          refine d_read (i:=9) (v:=(x122_69 : Sl).v) (unb 18 8191) rfl rfl hT (takeM hM (by kernel_rfl)) hE rfl (wanted_none rfl) hs (fun w s=>r_load hE rfl sc22 s.1) (fun a hE=>?_)
          refine d_read (i:=13) (v:=(x126_70 : Sl).v) (unb 18 16383) rfl rfl hT (takeM hM (by kernel_rfl)) hE rfl (wanted_none rfl) hs (fun w s=>r_load hE rfl sc22 s.2) (fun a hE=>?_)
          refine d_pureg (i:=14) (v:=.pointer (some x127_71)) (unb 18 32767) rfl rfl hT (anyM hM (by kernel_rfl)) hE rfl (wanted_none rfl) (fun w=>r_indexAddrL hE rfl rfl un89 sz22 qx127_71) (fun a hE=>?_)
          obtain ⟨u_72,qu_72,H⟩:=H
          refine d_stlh (i:=15) (unb 18 65535) rfl rfl hT (oneM hM (by kernel_rfl)) rfl hE hR (wanted_none rfl) (r_store hE rfl rfl sz22 qu_72)  (fun a w hE hR hh=>?_)
          replace H:=M.at hh H; clear hh
          obtain ⟨x128_73,qx128_73,H⟩:=H
          refine d_pureg (i:=16) (v:=.pointer (some x128_73)) (unb 18 131071) rfl rfl hT (anyM hM (by kernel_rfl)) hE rfl (wanted_none rfl) (fun w=>r_indexAddrL hE rfl rfl un89 sz22 qx128_73) (fun a hE=>?_)
          obtain ⟨u_74,qu_74,H⟩:=H
          refine d_stlh (i:=17) (unb 18 262143) rfl rfl hT (oneM hM (by kernel_rfl)) rfl hE hR (wanted_none rfl) (r_store hE rfl rfl sz22 qu_74)  (fun a w hE hR hh=>?_)
          replace H:=M.at hh H; clear hh
          refine d_done hT (doneM hM (by kernel_rfl)) ?_
          refine hK_66 _ _ ?_
          refine t_region ?_
          refine t_val (v:=.int .i64 x17_60) rfl rfl hE rfl (r_move hE rfl) (fun a hE=>?_)
          refine t_val (v:=.int .i64 (IntKind.wrap .i64 (x17_60 - 1))) rfl rfl hE rfl (r_bin hE rfl rfl g_int b_sub) (fun a hE=>?_)
          refine t_val (v:=.int .i64 (IntKind.wrap .i64 (x17_60 - 1))) rfl rfl hE rfl (r_assign hE rfl) (fun a hE=>?_)
          refine t_nil ?_
          exact hY_63 (IntKind.wrap .i64 (x17_60 - 1)) _ _ (hE.cut (.cons rfl (.cons rfl (.cons rfl Subs.nil)))) hR H
        · replace H:=M.ite_f hb H
          refine w_exit ?_
          refine Xu.same ?_
          refine hK_58 _ _ ?_
          refine w_ret ?_
          exact hret _ _ _ () _ hE hR (res_run hE rfl RV.nil) rfl H
    · replace H:=M.ite_f hb H
      refine w_skip ?_
      refine hK_38 _ _ ?_
      refine w_seq (fun K hK_75=>?_)
      refine t_region ?_
      refine t_val (v:=.int .i64 x1) rfl rfl hE rfl (r_move hE rfl) (fun a hE=>?_)
      refine t_val (v:=.int .i64 x3) rfl rfl hE rfl (r_move hE rfl) (fun a hE=>?_)
      refine t_val (v:=.int .i64 (IntKind.wrap .i64 (x1 + x3))) rfl rfl hE rfl (r_bin hE rfl rfl g_int b_add) (fun a hE=>?_)
      refine t_val (v:=.int .u64 (IntKind.wrap .u64 (IntKind.wrap .i64 (x1 + x3)))) rfl rfl hE rfl (r_convI hE rfl un3 un184) (fun a hE=>?_)
      refine t_val (v:=.int .u64 (iShr .u64 (IntKind.wrap .u64 (IntKind.wrap .i64 (x1 + x3))) 1)) rfl rfl hE rfl (r_bin hE rfl rfl g_int (b_shr ⟨by decide,rfl⟩)) (fun a hE=>?_)
      refine t_val (v:=.int .i64 (IntKind.wrap .i64 (iShr .u64 (IntKind.wrap .u64 (IntKind.wrap .i64 (x1 + x3))) 1))) rfl rfl hE rfl (r_convI hE rfl un184 un3) (fun a hE=>?_)
      refine t_val (v:=.int .i64 (IntKind.wrap .i64 (iShr .u64 (IntKind.wrap .u64 (IntKind.wrap .i64 (x1 + x3))) 1))) rfl rfl hE rfl (r_assign hE rfl) (fun a hE=>?_)
      refine t_nil ?_
      refine hK_75 _ _ ?_
      refine w_seq (fun K hK_76=>?_)
      refine t_region ?_
      refine t_val (v:=.int .i64 (IntKind.wrap .i64 (iShr .u64 (IntKind.wrap .u64 (IntKind.wrap .i64 (x1 + x3))) 1))) rfl rfl hE rfl (r_move hE rfl) (fun a hE=>?_)
      refine t_val (v:=.int .i64 x2) rfl rfl hE rfl (r_move hE rfl) (fun a hE=>?_)
      refine t_val (v:=.int .i64 (IntKind.wrap .i64 ((IntKind.wrap .i64 (iShr .u64 (IntKind.wrap .u64 (IntKind.wrap .i64 (x1 + x3))) 1)) + x2))) rfl rfl hE rfl (r_bin hE rfl rfl g_int b_add) (fun a hE=>?_)
      refine t_val (v:=.int .i64 (IntKind.wrap .i64 ((IntKind.wrap .i64 (iShr .u64 (IntKind.wrap .u64 (IntKind.wrap .i64 (x1 + x3))) 1)) + x2))) rfl rfl hE rfl (r_assign hE rfl) (fun a hE=>?_)
      refine t_nil ?_
      refine hK_76 _ _ ?_
      refine w_seq (fun K hK_77=>?_)
      refine t_region ?_
      refine t_val (v:=.int .i64 0) rfl rfl hE rfl (r_assign hE rfl) (fun a hE=>?_)
      refine t_val (v:=.int .i64 0) rfl rfl hE rfl (r_assign hE rfl) (fun a hE=>?_)
      refine t_nil ?_
      refine hK_77 _ _ ?_
      refine w_seq_join (fun a w=>∃ (x20_78 : Int),∃ (x21_79 : Int),Env (⟨220,[]⟩ : Frm) a [(0,(x0 : Sl).v),(1,.int .i64 x1),(2,.int .i64 x2),(3,.int .i64 x3),(4,x4),(18,.int .i64 (IntKind.wrap .i64 (iShr .u64 (IntKind.wrap .u64 (IntKind.wrap .i64 (x1 + x3))) 1))),(19,.int .i64 (IntKind.wrap .i64 ((IntKind.wrap .i64 (iShr .u64 (IntKind.wrap .u64 (IntKind.wrap .i64 (x1 + x3))) 1)) + x2))),(20,.int .i64 x20_78),(21,.int .i64 x21_79)] ∧ Rest w0 w ∧ (slices_symMergeCmpFunc_slapi_Value_j1 x0 x1 x2 x3 x4 (IntKind.wrap .i64 (iShr .u64 (IntKind.wrap .u64 (IntKind.wrap .i64 (x1 + x3))) 1)) (IntKind.wrap .i64 ((IntKind.wrap .i64 (iShr .u64 (IntKind.wrap .u64 (IntKind.wrap .i64 (x1 + x3))) 1)) + x2)) x20_78 x21_79).wp w.heap Q) ?_ ?_
      · rintro a w ⟨x20_78,x21_79,hE,hR,H⟩
        unfold slices_symMergeCmpFunc_slapi_Value_j1 at H
        refine w_seq (fun K hK_87=>?_)
        refine t_region ?_
        refine t_val (v:=.int .i64 (IntKind.wrap .i64 ((IntKind.wrap .i64 (iShr .u64 (IntKind.wrap .u64 (IntKind.wrap .i64 (x1 + x3))) 1)) + x2))) rfl rfl hE rfl (r_move hE rfl) (fun a hE=>?_)
        refine t_val (v:=.int .i64 (IntKind.wrap .i64 ((IntKind.wrap .i64 ((IntKind.wrap .i64 (iShr .u64 (IntKind.wrap .u64 (IntKind.wrap .i64 (x1 + x3))) 1)) + x2)) - 1))) rfl rfl hE rfl (r_bin hE rfl rfl g_int b_sub) (fun a hE=>?_)
        refine t_val (v:=.int .i64 (IntKind.wrap .i64 ((IntKind.wrap .i64 ((IntKind.wrap .i64 (iShr .u64 (IntKind.wrap .u64 (IntKind.wrap .i64 (x1 + x3))) 1)) + x2)) - 1))) rfl rfl hE rfl (r_assign hE rfl) (fun a hE=>?_)
        refine t_nil ?_
        refine hK_87 _ _ ?_
        refine w_seq (fun K hK_88=>?_)
        refine w_block ?_
        refine l_loop (fun (s : Int × Int)=>(⟨220,[]⟩ : Frm)) (fun (s : Int × Int)=>[(0,(x0 : Sl).v),(1,.int .i64 x1),(2,.int .i64 x2),(3,.int .i64 x3),(4,x4),(18,.int .i64 (IntKind.wrap .i64 (iShr .u64 (IntKind.wrap .u64 (IntKind.wrap .i64 (x1 + x3))) 1))),(19,.int .i64 (IntKind.wrap .i64 ((IntKind.wrap .i64 (iShr .u64 (IntKind.wrap .u64 (IntKind.wrap .i64 (x1 + x3))) 1)) + x2))),(20,.int .i64 s.1),(21,.int .i64 s.2),(22,.int .i64 (IntKind.wrap .i64 ((IntKind.wrap .i64 ((IntKind.wrap .i64 (iShr .u64 (IntKind.wrap .u64 (IntKind.wrap .i64 (x1 + x3))) 1)) + x2)) - 1)))]) H (hE.cut (.cons rfl (.cons rfl (.cons rfl (.cons rfl (.cons rfl (.cons rfl (.cons rfl (.cons rfl (.cons rfl (.cons rfl Subs.nil))))))))))) hR (fun Y self5 hY_99 s a w hE hR H=>?_)
        rcases s with ⟨x20_89,x21_90⟩
        replace hE : Env (⟨220,[]⟩ : Frm) a [(0,(x0 : Sl).v),(1,.int .i64 x1),(2,.int .i64 x2),(3,.int .i64 x3),(4,x4),(18,.int .i64 (IntKind.wrap .i64 (iShr .u64 (IntKind.wrap .u64 (IntKind.wrap .i64 (x1 + x3))) 1))),(19,.int .i64 (IntKind.wrap .i64 ((IntKind.wrap .i64 (iShr .u64 (IntKind.wrap .u64 (IntKind.wrap .i64 (x1 + x3))) 1)) + x2))),(20,.int .i64 x20_89),(21,.int .i64 x21_90),(22,.int .i64 (IntKind.wrap .i64 ((IntKind.wrap .i64 ((IntKind.wrap .i64 (iShr .u64 (IntKind.wrap .u64 (IntKind.wrap .i64 (x1 + x3))) 1)) + x2)) - 1)))]:=hE
        replace H : (slices_symMergeCmpFunc_slapi_Value_l5 x0 x1 x2 x3 x4 (IntKind.wrap .i64 (iShr .u64 (IntKind.wrap .u64 (IntKind.wrap .i64 (x1 + x3))) 1)) (IntKind.wrap .i64 ((IntKind.wrap .i64 (iShr .u64 (IntKind.wrap .u64 (IntKind.wrap .i64 (x1 + x3))) 1)) + x2)) (IntKind.wrap .i64 ((IntKind.wrap .i64 ((IntKind.wrap .i64 (iShr .u64 (IntKind.wrap .u64 (IntKind.wrap .i64 (x1 + x3))) 1)) + x2)) - 1)) self5 (x20_89,x21_90)).wp w.heap Q:=H
        unfold slices_symMergeCmpFunc_slapi_Value_l5 at H
        refine w_seq (fun K hK_100=>?_)
        refine w_seq (fun K hK_101=>?_)
        refine t_region ?_
        refine t_val (v:=.int .i64 x20_89) rfl rfl hE rfl (r_move hE rfl) (fun a hE=>?_)
        refine t_val (v:=.int .i64 x21_90) rfl rfl hE rfl (r_move hE rfl) (fun a hE=>?_)
        refine t_val (v:=.bool (decide (x20_89 < x21_90))) rfl rfl hE rfl (r_bin hE rfl rfl g_int b_lss) (fun a hE=>?_)
        refine t_nil ?_
        refine hK_101 _ _ ?_
        refine w_cond (decide (x20_89 < x21_90)) hE rfl (fun hb=>?_) (fun hb=>?_)
        · replace H:=M.ite_t hb H
          refine w_skip ?_
          refine hK_100 _ _ ?_
          refine w_block ?_
          refine w_seq (fun K hK_102=>?_)
          refine t_region ?_
          refine t_val (v:=.int .i64 x20_89) rfl rfl hE rfl (r_move hE rfl) (fun a hE=>?_)
          refine t_val (v:=.int .i64 x21_90) rfl rfl hE rfl (r_move hE rfl) (fun a hE=>?_)
          refine t_val (v:=.int .i64 (IntKind.wrap .i64 (x20_89 + x21_90))) rfl rfl hE rfl (r_bin hE rfl rfl g_int b_add) (fun a hE=>?_)
          refine t_val (v:=.int .u64 (IntKind.wrap .u64 (IntKind.wrap .i64 (x20_89 + x21_90)))) rfl rfl hE rfl (r_convI hE rfl un3 un184) (fun a hE=>?_)
          refine t_val (v:=.int .u64 (iShr .u64 (IntKind.wrap .u64 (IntKind.wrap .i64 (x20_89 + x21_90))) 1)) rfl rfl hE rfl (r_bin hE rfl rfl g_int (b_shr ⟨by decide,rfl⟩)) (fun a hE=>?_)
          refine t_val (v:=.int .i64 (IntKind.wrap .i64 (iShr .u64 (IntKind.wrap .u64 (IntKind.wrap .i64 (x20_89 + x21_90))) 1))) rfl rfl hE rfl (r_convI hE rfl un184 un3) (fun a hE=>?_)
          refine t_val (v:=.int .i64 (IntKind.wrap .i64 (iShr .u64 (IntKind.wrap .u64 (IntKind.wrap .i64 (x20_89 + x21_90))) 1))) rfl rfl hE rfl (r_assign hE rfl) (fun a hE=>?_)
          refine t_nil ?_
          refine hK_102 _ _ ?_
          refine w_seq (fun K hK_103=>?_)
          obtain ⟨x163_104,qx163_104,H⟩:=H
          obtain ⟨x167_105,qx167_105,H⟩:=H
          obtain ⟨x164_106,qx164_106,H⟩:=H
          obtain ⟨x168_107,qx168_107,H⟩:=H
          have hT:=tab_of tb179_35 rfl rfl
          refine d_start (fun w : World=>(fun h : Heap=>(hcell h x163_104 = some ((x164_106 : Sl).v)) ∧ (hcell h x167_105 = some ((x168_107 : Sl).v))) w.heap) [11,12,13] #[false,false,false,false,false,false,false,false,false,false,false,false,false,false] mo hR rfl rfl (fun w' e=>by rw [e]; exact ⟨qx164_106,qx168_107⟩) (fun w hh hR hs=>?_)
          replace H:=M.at hh H; clear hh
          refine d_pureg (i:=0) (v:=x4) #[true,false,false,false,false,false,false,false,false,false,false,false,false,false] rfl rfl hT (by kernel_rfl) hE rfl (wanted_none rfl) (fun w=>r_move hE rfl) (fun a hE=>?_)
          refine d_pureg (i:=1) (v:=(x0 : Sl).v) #[true,true,false,false,false,false,false,false,false,false,false,false,false,false] rfl rfl hT (by kernel_rfl) hE rfl (wanted_none rfl) (fun w=>r_move hE rfl) (fun a hE=>?_)
          refine d_pureg (i:=2) (v:=.int .i64 (IntKind.wrap .i64 ((IntKind.wrap .i64 ((IntKind.wrap .i64 (iShr .u64 (IntKind.wrap .u64 (IntKind.wrap .i64 (x1 + x3))) 1)) + x2)) - 1))) #[true,true,true,false,false,false,false,false,false,false,false,false,false,false] rfl rfl hT (by kernel_rfl) hE rfl (wanted_none rfl) (fun w=>r_move hE rfl) (fun a hE=>?_)
          refine d_pureg (i:=3) (v:=.int .i64 (IntKind.wrap .i64 (iShr .u64 (IntKind.wrap .u64 (IntKind.wrap .i64 (x20_89 + x21_90))) 1))) #[true,true,true,true,false,false,false,false,false,false,false,false,false,false] rfl rfl hT (by kernel_rfl) hE rfl (wanted_none rfl) (fun w=>r_move hE rfl) (fun a hE=>?_)
          refine d_pureg (i:=4) (v:=.int .i64 (IntKind.wrap .i64 ((IntKind.wrap .i64 ((IntKind.wrap .i64 ((IntKind.wrap .i64 (iShr .u64 (IntKind.wrap .u64 (IntKind.wrap .i64 (x1 + x3))) 1)) + x2)) - 1)) - (IntKind.wrap .i64 (iShr .u64 (IntKind.wrap .u64 (IntKind.wrap .i64 (x20_89 + x21_90))) 1))))) #[true,true,true,true,true,false,false,false,false,false,false,false,false,false] rfl rfl hT (by kernel_rfl) hE rfl (wanted_none rfl) (fun w=>r_bin hE rfl rfl g_int b_sub) (fun a hE=>?_)
          refine d_pureg (i:=5) (v:=.pointer (some x163_104)) #[true,true,true,true,true,true,false,false,false,false,false,false,false,false] rfl rfl hT (by kernel_rfl) hE rfl (wanted_none rfl) (fun w=>r_indexAddrL hE rfl rfl un89 sz22 qx163_104) (fun a hE=>?_)
          refine d_pureg (i:=7) (v:=(x0 : Sl).v) #[true,true,true,true,true,true,false,true,false,false,false,false,false,false] rfl rfl hT (by kernel_rfl) hE rfl (wanted_none rfl) (fun w=>r_move hE rfl) (fun a hE=>?_)
          refine d_pureg (i:=8) (v:=.int .i64 (IntKind.wrap .i64 (iShr .u64 (IntKind.wrap .u64 (IntKind.wrap .i64 (x20_89 + x21_90))) 1))) #[true,true,true,true,true,true,false,true,true,false,false,false,false,false] rfl rfl hT (by kernel_rfl) hE rfl (wanted_none rfl) (fun w=>r_move hE rfl) (fun a hE=>?_)
          refine d_pureg (i:=9) (v:=.pointer (some x167_105)) #[true,true,true,true,true,true,false,true,true,true,false,false,false,false] rfl rfl hT (by kernel_rfl) hE rfl (wanted_none rfl) (fun w=>r_indexAddrL hE rfl rfl un89 sz22 qx167_105) (fun a hE=>?_)
          refine d_read (i:=6) (v:=(x164_106 : Sl).v) #[true,true,true,true,true,true,true,true,true,true,false,false,false,false] rfl rfl hT (by kernel_rfl) hE rfl (wanted_none rfl) hs (fun w s=>r_load hE rfl sc22 s.1) (fun a hE=>?_)
          refine d_read (i:=10) (v:=(x168_107 : Sl).v) #[true,true,true,true,true,true,true,true,true,true,true,false,false,false] rfl rfl hT (by kernel_rfl) hE rfl (wanted_none rfl) hs (fun w s=>r_load hE rfl sc22 s.2) (fun a hE=>?_)
          refine d_calllW (i:=11) #[true,true,true,true,true,true,true,true,true,true,true,true,false,false] rfl rfl rfl hT (by kernel_rfl) rfl hE hR (wanted_none rfl) rfl rfl (M.unbind H) (fun x169_108 a w ea hR H=>?_)
          have hE:=Env.put_some hE rfl ea; clear ea
          refine d_pureg (i:=12) (v:=.bool (decide (x169_108 < 0))) #[true,true,true,true,true,true,true,true,true,true,true,true,true,false] rfl rfl hT (by kernel_rfl) hE rfl (wanted_none rfl) (fun w=>r_bin hE rfl rfl g_int b_lss) (fun a hE=>?_)
          refine d_pureg (i:=13) (v:=.bool (!(decide (x169_108 < 0)))) #[true,true,true,true,true,true,true,true,true,true,true,true,true,true] rfl rfl hT (by kernel_rfl) hE rfl (wanted_none rfl) (fun w=>r_un hE rfl u_not) (fun a hE=>?_)
          refine d_done hT (by kernel_rfl) ?_
          refine hK_103 _ _ ?_
          refine w_cond (!(decide (x169_108 < 0))) hE rfl (fun hb=>?_) (fun hb=>?_)
          · replace H:=M.ite_t hb H
            refine t_region ?_
            refine t_val (v:=.int .i64 (IntKind.wrap .i64 (iShr .u64 (IntKind.wrap .u64 (IntKind.wrap .i64 (x20_89 + x21_90))) 1))) rfl rfl hE rfl (r_move hE rfl) (fun a hE=>?_)
            refine t_val (v:=.int .i64 (IntKind.wrap .i64 ((IntKind.wrap .i64 (iShr .u64 (IntKind.wrap .u64 (IntKind.wrap .i64 (x20_89 + x21_90))) 1)) + 1))) rfl rfl hE rfl (r_bin hE rfl rfl g_int b_add) (fun a hE=>?_)
            refine t_val (v:=.int .i64 (IntKind.wrap .i64 ((IntKind.wrap .i64 (iShr .u64 (IntKind.wrap .u64 (IntKind.wrap .i64 (x20_89 + x21_90))) 1)) + 1))) rfl rfl hE rfl (r_assign hE rfl) (fun a hE=>?_)
            refine t_nil ?_
            exact hY_99 (IntKind.wrap .i64 ((IntKind.wrap .i64 (iShr .u64 (IntKind.wrap .u64 (IntKind.wrap .i64 (x20_89 + x21_90))) 1)) + 1),x21_90) _ _ (hE.cut (.cons rfl (.cons rfl (.cons rfl (.cons rfl (.cons rfl (.cons rfl (.cons rfl (.cons rfl (.cons rfl (.cons rfl Subs.nil))))))))))) hR H
          · replace H:=M.ite_f hb H
            refine t_region ?_
            refine t_val (v:=.int .i64 (IntKind.wrap .i64 (iShr .u64 (IntKind.wrap .u64 (IntKind.wrap .i64 (x20_89 + x21_90))) 1))) rfl rfl hE rfl (r_move hE rfl) (fun a hE=>?_)
            refine t_val (v:=.int .i64 (IntKind.wrap .i64 (iShr .u64 (IntKind.wrap .u64 (IntKind.wrap .i64 (x20_89 + x21_90))) 1))) rfl rfl hE rfl (r_assign hE rfl) (fun a hE=>?_)
            refine t_nil ?_
            exact hY_99 (x20_89,IntKind.wrap .i64 (iShr .u64 (IntKind.wrap .u64 (IntKind.wrap .i64 (x20_89 + x21_90))) 1)) _ _ (hE.cut (.cons rfl (.cons rfl (.cons rfl (.cons rfl (.cons rfl (.cons rfl (.cons rfl (.cons rfl (.cons rfl (.cons rfl Subs.nil))))))))))) hR H
        · replace H:=M.ite_f hb H
          refine w_exit ?_
          refine Xu.same ?_
          refine hK_88 _ _ ?_
          refine w_seq (fun K hK_109=>?_)
          refine t_region ?_
          refine t_val (v:=.int .i64 (IntKind.wrap .i64 ((IntKind.wrap .i64 (iShr .u64 (IntKind.wrap .u64 (IntKind.wrap .i64 (x1 + x3))) 1)) + x2))) rfl rfl hE rfl (r_move hE rfl) (fun a hE=>?_)
          refine t_val (v:=.int .i64 x20_89) rfl rfl hE rfl (r_move hE rfl) (fun a hE=>?_)
          refine t_val (v:=.int .i64 (IntKind.wrap .i64 ((IntKind.wrap .i64 ((IntKind.wrap .i64 (iShr .u64 (IntKind.wrap .u64 (IntKind.wrap .i64 (x1 + x3))) 1)) + x2)) - x20_89))) rfl rfl hE rfl (r_bin hE rfl rfl g_int b_sub) (fun a hE=>?_)
          refine t_val (v:=.int .i64 (IntKind.wrap .i64 ((IntKind.wrap .i64 ((IntKind.wrap .i64 (iShr .u64 (IntKind.wrap .u64 (IntKind.wrap .i64 (x1 + x3))) 1)) + x2)) - x20_89))) rfl rfl hE rfl (r_assign hE rfl) (fun a hE=>?_)
          refine t_nil ?_
          refine hK_109 _ _ ?_
          refine w_seq_join (fun a w=>Env (⟨220,[]⟩ : Frm) a [(0,(x0 : Sl).v),(1,.int .i64 x1),(3,.int .i64 x3),(4,x4),(18,.int .i64 (IntKind.wrap .i64 (iShr .u64 (IntKind.wrap .u64 (IntKind.wrap .i64 (x1 + x3))) 1))),(20,.int .i64 x20_89),(24,.int .i64 (IntKind.wrap .i64 ((IntKind.wrap .i64 ((IntKind.wrap .i64 (iShr .u64 (IntKind.wrap .u64 (IntKind.wrap .i64 (x1 + x3))) 1)) + x2)) - x20_89)))] ∧ Rest w0 w ∧ (slices_symMergeCmpFunc_slapi_Value_j2 x0 x1 x3 x4 (IntKind.wrap .i64 (iShr .u64 (IntKind.wrap .u64 (IntKind.wrap .i64 (x1 + x3))) 1)) x20_89 (IntKind.wrap .i64 ((IntKind.wrap .i64 ((IntKind.wrap .i64 (iShr .u64 (IntKind.wrap .u64 (IntKind.wrap .i64 (x1 + x3))) 1)) + x2)) - x20_89))).wp w.heap Q) ?_ ?_
          · rintro a w ⟨hE,hR,H⟩
            unfold slices_symMergeCmpFunc_slapi_Value_j2 at H
            refine w_seq_join (fun a w=>Env (⟨220,[]⟩ : Frm) a [(0,(x0 : Sl).v),(3,.int .i64 x3),(4,x4),(18,.int .i64 (IntKind.wrap .i64 (iShr .u64 (IntKind.wrap .u64 (IntKind.wrap .i64 (x1 + x3))) 1))),(24,.int .i64 (IntKind.wrap .i64 ((IntKind.wrap .i64 ((IntKind.wrap .i64 (iShr .u64 (IntKind.wrap .u64 (IntKind.wrap .i64 (x1 + x3))) 1)) + x2)) - x20_89)))] ∧ Rest w0 w ∧ (slices_symMergeCmpFunc_slapi_Value_j3 x0 x3 x4 (IntKind.wrap .i64 (iShr .u64 (IntKind.wrap .u64 (IntKind.wrap .i64 (x1 + x3))) 1)) (IntKind.wrap .i64 ((IntKind.wrap .i64 ((IntKind.wrap .i64 (iShr .u64 (IntKind.wrap .u64 (IntKind.wrap .i64 (x1 + x3))) 1)) + x2)) - x20_89))).wp w.heap Q) ?_ ?_
            · rintro a w ⟨hE,hR,H⟩
              unfold slices_symMergeCmpFunc_slapi_Value_j3 at H
              refine w_seq (fun K hK_122=>?_)
              refine t_region ?_
              refine t_val (v:=.int .i64 (IntKind.wrap .i64 (iShr .u64 (IntKind.wrap .u64 (IntKind.wrap .i64 (x1 + x3))) 1))) rfl rfl hE rfl (r_move hE rfl) (fun a hE=>?_)
              refine t_val (v:=.int .i64 (IntKind.wrap .i64 ((IntKind.wrap .i64 ((IntKind.wrap .i64 (iShr .u64 (IntKind.wrap .u64 (IntKind.wrap .i64 (x1 + x3))) 1)) + x2)) - x20_89))) rfl rfl hE rfl (r_move hE rfl) (fun a hE=>?_)
              refine t_val (v:=.bool (decide ((IntKind.wrap .i64 (iShr .u64 (IntKind.wrap .u64 (IntKind.wrap .i64 (x1 + x3))) 1)) < (IntKind.wrap .i64 ((IntKind.wrap .i64 ((IntKind.wrap .i64 (iShr .u64 (IntKind.wrap .u64 (IntKind.wrap .i64 (x1 + x3))) 1)) + x2)) - x20_89))))) rfl rfl hE rfl (r_bin hE rfl rfl g_int b_lss) (fun a hE=>?_)
              refine t_val (v:=.bool (decide ((IntKind.wrap .i64 (iShr .u64 (IntKind.wrap .u64 (IntKind.wrap .i64 (x1 + x3))) 1)) < (IntKind.wrap .i64 ((IntKind.wrap .i64 ((IntKind.wrap .i64 (iShr .u64 (IntKind.wrap .u64 (IntKind.wrap .i64 (x1 + x3))) 1)) + x2)) - x20_89))))) rfl rfl hE rfl (r_move hE rfl) (fun a hE=>?_)
              refine t_grp (n:=(⟨220,[]⟩ : Frm)) (w0:=w0) 4 (fun x213_123 : Bool=>[(0,(x0 : Sl).v),(3,.int .i64 x3),(4,x4),(18,.int .i64 (IntKind.wrap .i64 (iShr .u64 (IntKind.wrap .u64 (IntKind.wrap .i64 (x1 + x3))) 1))),(24,.int .i64 (IntKind.wrap .i64 ((IntKind.wrap .i64 ((IntKind.wrap .i64 (iShr .u64 (IntKind.wrap .u64 (IntKind.wrap .i64 (x1 + x3))) 1)) + x2)) - x20_89))),(213,.bool x213_123)]) (M.unbind H) (fun Kr hKr H=>?_) ?_
              · rcases bool_em (decide ((IntKind.wrap .i64 (iShr .u64 (IntKind.wrap .u64 (IntKind.wrap .i64 (x1 + x3))) 1)) < (IntKind.wrap .i64 ((IntKind.wrap .i64 ((IntKind.wrap .i64 (iShr .u64 (IntKind.wrap .u64 (IntKind.wrap .i64 (x1 + x3))) 1)) + x2)) - x20_89)))) with hb | hb
                · replace H:=M.ite_t hb H
                  have hE:=hE.reb 209 (decide ((IntKind.wrap .i64 (iShr .u64 (IntKind.wrap .u64 (IntKind.wrap .i64 (x1 + x3))) 1)) < (IntKind.wrap .i64 ((IntKind.wrap .i64 ((IntKind.wrap .i64 (iShr .u64 (IntKind.wrap .u64 (IntKind.wrap .i64 (x1 + x3))) 1)) + x2)) - x20_89)))) true hb rfl
                  refine t_on rfl hE rfl rfl rfl ?_
                  refine t_val (v:=.int .i64 (IntKind.wrap .i64 ((IntKind.wrap .i64 ((IntKind.wrap .i64 (iShr .u64 (IntKind.wrap .u64 (IntKind.wrap .i64 (x1 + x3))) 1)) + x2)) - x20_89))) rfl rfl hE rfl (r_move hE rfl) (fun a hE=>?_)
                  refine t_on rfl hE rfl rfl rfl ?_
                  refine t_val (v:=.int .i64 x3) rfl rfl hE rfl (r_move hE rfl) (fun a hE=>?_)
                  refine t_on rfl hE rfl rfl rfl ?_
                  refine t_val (v:=.bool (decide ((IntKind.wrap .i64 ((IntKind.wrap .i64 ((IntKind.wrap .i64 (iShr .u64 (IntKind.wrap .u64 (IntKind.wrap .i64 (x1 + x3))) 1)) + x2)) - x20_89)) < x3))) rfl rfl hE rfl (r_bin hE rfl rfl g_int b_lss) (fun a hE=>?_)
                  refine t_val rfl rfl hE rfl (r_pick_t hE rfl rfl) (fun a hE=>?_)
                  refine t_nil ?_
                  exact hKr _ _ _ (hE.cut (.cons rfl (.cons rfl (.cons rfl (.cons rfl (.cons rfl (.cons rfl Subs.nil))))))) hR H
                · replace H:=M.ite_f hb H
                  have hE:=hE.reb 209 (decide ((IntKind.wrap .i64 (iShr .u64 (IntKind.wrap .u64 (IntKind.wrap .i64 (x1 + x3))) 1)) < (IntKind.wrap .i64 ((IntKind.wrap .i64 ((IntKind.wrap .i64 (iShr .u64 (IntKind.wrap .u64 (IntKind.wrap .i64 (x1 + x3))) 1)) + x2)) - x20_89)))) false hb rfl
                  refine t_off rfl hE rfl rfl rfl (fun a ea=>?_)
                  have hE:=Env.put_some hE rfl ea; clear ea
                  refine t_off rfl hE rfl rfl rfl (fun a ea=>?_)
                  have hE:=Env.put_some hE rfl ea; clear ea
                  refine t_off rfl hE rfl rfl rfl (fun a ea=>?_)
                  have hE:=Env.put_some hE rfl ea; clear ea
                  refine t_val rfl rfl hE rfl (r_pick_f hE rfl rfl) (fun a hE=>?_)
                  refine t_nil ?_
                  exact hKr _ _ _ (hE.cut (.cons rfl (.cons rfl (.cons rfl (.cons rfl (.cons rfl (.cons rfl Subs.nil))))))) hR H
              · intro x213_123 a w hE hR H
                refine t_nil ?_
                refine hK_122 _ _ ?_
                refine w_cond x213_123 hE rfl (fun hb=>?_) (fun hb=>?_)
                · replace H:=M.ite_t hb H
                  refine t_region ?_
                  refine t_val (v:=(x0 : Sl).v) rfl rfl hE rfl (r_move hE rfl) (fun a hE=>?_)
                  refine t_val (v:=.int .i64 (IntKind.wrap .i64 (iShr .u64 (IntKind.wrap .u64 (IntKind.wrap .i64 (x1 + x3))) 1))) rfl rfl hE rfl (r_move hE rfl) (fun a hE=>?_)
                  refine t_val (v:=.int .i64 (IntKind.wrap .i64 ((IntKind.wrap .i64 ((IntKind.wrap .i64 (iShr .u64 (IntKind.wrap .u64 (IntKind.wrap .i64 (x1 + x3))) 1)) + x2)) - x20_89))) rfl rfl hE rfl (r_move hE rfl) (fun a hE=>?_)
                  refine t_val (v:=.int .i64 x3) rfl rfl hE rfl (r_move hE rfl) (fun a hE=>?_)
                  refine t_val (v:=x4) rfl rfl hE rfl (r_move hE rfl) (fun a hE=>?_)
                  refine t_call hE hR cl_slices_symMergeCmpFunc_slapi_Value rfl (sound_callF) (M.unbind H) (fun x219_124 a w ea hR H=>?_)
                  have hE:=Env.put_some hE rfl ea; clear ea
                  refine t_nil ?_
                  exact hret _ _ _ () _ hE hR (res_run hE rfl RV.nil) rfl H
                · replace H:=M.ite_f hb H
                  refine w_skip ?_
                  exact hret _ _ _ () _ hE hR (res_run hE rfl RV.nil) rfl H
            · skip
              refine w_seq (fun K hK_125=>?_)
              refine t_region ?_
              refine t_val (v:=.int .i64 x1) rfl rfl hE rfl (r_move hE rfl) (fun a hE=>?_)
              refine t_val (v:=.int .i64 x20_89) rfl rfl hE rfl (r_move hE rfl) (fun a hE=>?_)
              refine t_val (v:=.bool (decide (x1 < x20_89))) rfl rfl hE rfl (r_bin hE rfl rfl g_int b_lss) (fun a hE=>?_)
              refine t_val (v:=.bool (decide (x1 < x20_89))) rfl rfl hE rfl (r_move hE rfl) (fun a hE=>?_)
              refine t_grp (n:=(⟨220,[]⟩ : Frm)) (w0:=w0) 4 (fun x199_126 : Bool=>[(0,(x0 : Sl).v),(1,.int .i64 x1),(3,.int .i64 x3),(4,x4),(18,.int .i64 (IntKind.wrap .i64 (iShr .u64 (IntKind.wrap .u64 (IntKind.wrap .i64 (x1 + x3))) 1))),(20,.int .i64 x20_89),(24,.int .i64 (IntKind.wrap .i64 ((IntKind.wrap .i64 ((IntKind.wrap .i64 (iShr .u64 (IntKind.wrap .u64 (IntKind.wrap .i64 (x1 + x3))) 1)) + x2)) - x20_89))),(199,.bool x199_126)]) (M.unbind H) (fun Kr hKr H=>?_) ?_
              · rcases bool_em (decide (x1 < x20_89)) with hb | hb
                · replace H:=M.ite_t hb H
                  have hE:=hE.reb 195 (decide (x1 < x20_89)) true hb rfl
                  refine t_on rfl hE rfl rfl rfl ?_
                  refine t_val (v:=.int .i64 x20_89) rfl rfl hE rfl (r_move hE rfl) (fun a hE=>?_)
                  refine t_on rfl hE rfl rfl rfl ?_
                  refine t_val (v:=.int .i64 (IntKind.wrap .i64 (iShr .u64 (IntKind.wrap .u64 (IntKind.wrap .i64 (x1 + x3))) 1))) rfl rfl hE rfl (r_move hE rfl) (fun a hE=>?_)
                  refine t_on rfl hE rfl rfl rfl ?_
                  refine t_val (v:=.bool (decide (x20_89 < (IntKind.wrap .i64 (iShr .u64 (IntKind.wrap .u64 (IntKind.wrap .i64 (x1 + x3))) 1))))) rfl rfl hE rfl (r_bin hE rfl rfl g_int b_lss) (fun a hE=>?_)
                  refine t_val rfl rfl hE rfl (r_pick_t hE rfl rfl) (fun a hE=>?_)
                  refine t_nil ?_
                  exact hKr _ _ _ (hE.cut (.cons rfl (.cons rfl (.cons rfl (.cons rfl (.cons rfl (.cons rfl (.cons rfl (.cons rfl Subs.nil))))))))) hR H
                · replace H:=M.ite_f hb H
                  have hE:=hE.reb 195 (decide (x1 < x20_89)) false hb rfl
                  refine t_off rfl hE rfl rfl rfl (fun a ea=>?_)
                  have hE:=Env.put_some hE rfl ea; clear ea
                  refine t_off rfl hE rfl rfl rfl (fun a ea=>?_)
                  have hE:=Env.put_some hE rfl ea; clear ea
                  refine t_off rfl hE rfl rfl rfl (fun a ea=>?_)
                  have hE:=Env.put_some hE rfl ea; clear ea
                  refine t_val rfl rfl hE rfl (r_pick_f hE rfl rfl) (fun a hE=>?_)
                  refine t_nil ?_
                  exact hKr _ _ _ (hE.cut (.cons rfl (.cons rfl (.cons rfl (.cons rfl (.cons rfl (.cons rfl (.cons rfl (.cons rfl Subs.nil))))))))) hR H
              · intro x199_126 a w hE hR H
                refine t_nil ?_
                refine hK_125 _ _ ?_
                refine w_cond x199_126 hE rfl (fun hb=>?_) (fun hb=>?_)
                · replace H:=M.ite_t hb H
                  refine t_region ?_
                  refine t_val (v:=(x0 : Sl).v) rfl rfl hE rfl (r_move hE rfl) (fun a hE=>?_)
                  refine t_val (v:=.int .i64 x1) rfl rfl hE rfl (r_move hE rfl) (fun a hE=>?_)
                  refine t_val (v:=.int .i64 x20_89) rfl rfl hE rfl (r_move hE rfl) (fun a hE=>?_)
                  refine t_val (v:=.int .i64 (IntKind.wrap .i64 (iShr .u64 (IntKind.wrap .u64 (IntKind.wrap .i64 (x1 + x3))) 1))) rfl rfl hE rfl (r_move hE rfl) (fun a hE=>?_)
                  refine t_val (v:=x4) rfl rfl hE rfl (r_move hE rfl) (fun a hE=>?_)
                  refine t_call hE hR cl_slices_symMergeCmpFunc_slapi_Value rfl (sound_callF) (M.unbind H) (fun x205_127 a w ea hR H=>?_)
                  have hE:=Env.put_some hE rfl ea; clear ea
                  refine t_nil ?_
                  exact ⟨hE.cut (.cons rfl (.cons rfl (.cons rfl (.cons rfl (.cons rfl Subs.nil))))),hR,H⟩
                · replace H:=M.ite_f hb H
                  refine w_skip ?_
                  exact ⟨hE.cut (.cons rfl (.cons rfl (.cons rfl (.cons rfl (.cons rfl Subs.nil))))),hR,H⟩
          · skip
            refine w_seq (fun K hK_128=>?_)
            refine t_region ?_
            refine t_val (v:=.int .i64 x20_89) rfl rfl hE rfl (r_move hE rfl) (fun a hE=>?_)
            refine t_val (v:=.int .i64 x2) rfl rfl hE rfl (r_move hE rfl) (fun a hE=>?_)
            refine t_val (v:=.bool (decide (x20_89 < x2))) rfl rfl hE rfl (r_bin hE rfl rfl g_int b_lss) (fun a hE=>?_)
            refine t_val (v:=.bool (decide (x20_89 < x2))) rfl rfl hE rfl (r_move hE rfl) (fun a hE=>?_)
            refine t_grp (n:=(⟨220,[]⟩ : Frm)) (w0:=w0) 4 (fun x185_129 : Bool=>[(0,(x0 : Sl).v),(1,.int .i64 x1),(2,.int .i64 x2),(3,.int .i64 x3),(4,x4),(18,.int .i64 (IntKind.wrap .i64 (iShr .u64 (IntKind.wrap .u64 (IntKind.wrap .i64 (x1 + x3))) 1))),(20,.int .i64 x20_89),(24,.int .i64 (IntKind.wrap .i64 ((IntKind.wrap .i64 ((IntKind.wrap .i64 (iShr .u64 (IntKind.wrap .u64 (IntKind.wrap .i64 (x1 + x3))) 1)) + x2)) - x20_89))),(185,.bool x185_129)]) (M.unbind H) (fun Kr hKr H=>?_) ?_
            · rcases bool_em (decide (x20_89 < x2)) with hb | hb
              · replace H:=M.ite_t hb H
                have hE:=hE.reb 181 (decide (x20_89 < x2)) true hb rfl
                refine t_on rfl hE rfl rfl rfl ?_
                refine t_val (v:=.int .i64 x2) rfl rfl hE rfl (r_move hE rfl) (fun a hE=>?_)
                refine t_on rfl hE rfl rfl rfl ?_
                refine t_val (v:=.int .i64 (IntKind.wrap .i64 ((IntKind.wrap .i64 ((IntKind.wrap .i64 (iShr .u64 (IntKind.wrap .u64 (IntKind.wrap .i64 (x1 + x3))) 1)) + x2)) - x20_89))) rfl rfl hE rfl (r_move hE rfl) (fun a hE=>?_)
                refine t_on rfl hE rfl rfl rfl ?_
                refine t_val (v:=.bool (decide (x2 < (IntKind.wrap .i64 ((IntKind.wrap .i64 ((IntKind.wrap .i64 (iShr .u64 (IntKind.wrap .u64 (IntKind.wrap .i64 (x1 + x3))) 1)) + x2)) - x20_89))))) rfl rfl hE rfl (r_bin hE rfl rfl g_int b_lss) (fun a hE=>?_)
                refine t_val rfl rfl hE rfl (r_pick_t hE rfl rfl) (fun a hE=>?_)
                refine t_nil ?_
                exact hKr _ _ _ (hE.cut (.cons rfl (.cons rfl (.cons rfl (.cons rfl (.cons rfl (.cons rfl (.cons rfl (.cons rfl (.cons rfl Subs.nil)))))))))) hR H
              · replace H:=M.ite_f hb H
                have hE:=hE.reb 181 (decide (x20_89 < x2)) false hb rfl
                refine t_off rfl hE rfl rfl rfl (fun a ea=>?_)
                have hE:=Env.put_some hE rfl ea; clear ea
                refine t_off rfl hE rfl rfl rfl (fun a ea=>?_)
                have hE:=Env.put_some hE rfl ea; clear ea
                refine t_off rfl hE rfl rfl rfl (fun a ea=>?_)
                have hE:=Env.put_some hE rfl ea; clear ea
                refine t_val rfl rfl hE rfl (r_pick_f hE rfl rfl) (fun a hE=>?_)
                refine t_nil ?_
                exact hKr _ _ _ (hE.cut (.cons rfl (.cons rfl (.cons rfl (.cons rfl (.cons rfl (.cons rfl (.cons rfl (.cons rfl (.cons rfl Subs.nil)))))))))) hR H
            · intro x185_129 a w hE hR H
              refine t_nil ?_
              refine hK_128 _ _ ?_
              refine w_cond x185_129 hE rfl (fun hb=>?_) (fun hb=>?_)
              · replace H:=M.ite_t hb H
                refine t_region ?_
                refine t_val (v:=(x0 : Sl).v) rfl rfl hE rfl (r_move hE rfl) (fun a hE=>?_)
                refine t_val (v:=.int .i64 x20_89) rfl rfl hE rfl (r_move hE rfl) (fun a hE=>?_)
                refine t_val (v:=.int .i64 x2) rfl rfl hE rfl (r_move hE rfl) (fun a hE=>?_)
                refine t_val (v:=.int .i64 (IntKind.wrap .i64 ((IntKind.wrap .i64 ((IntKind.wrap .i64 (iShr .u64 (IntKind.wrap .u64 (IntKind.wrap .i64 (x1 + x3))) 1)) + x2)) - x20_89))) rfl rfl hE rfl (r_move hE rfl) (fun a hE=>?_)
                refine t_val (v:=x4) rfl rfl hE rfl (r_move hE rfl) (fun a hE=>?_)
                refine t_call hE hR cl_slices_rotateCmpFunc_slapi_Value rfl (S_slices_rotateCmpFunc_slapi_Value x0 x20_89 x2 (IntKind.wrap .i64 ((IntKind.wrap .i64 ((IntKind.wrap .i64 (iShr .u64 (IntKind.wrap .u64 (IntKind.wrap .i64 (x1 + x3))) 1)) + x2)) - x20_89)) x4) (M.unbind H) (fun x191_130 a w ea hR H=>?_)
                have hE:=Env.put_some hE rfl ea; clear ea
                refine t_nil ?_
                exact ⟨hE.cut (.cons rfl (.cons rfl (.cons rfl (.cons rfl (.cons rfl (.cons rfl (.cons rfl Subs.nil))))))),hR,H⟩
              · replace H:=M.ite_f hb H
                refine w_skip ?_
                exact ⟨hE.cut (.cons rfl (.cons rfl (.cons rfl (.cons rfl (.cons rfl (.cons rfl (.cons rfl Subs.nil))))))),hR,H⟩
      · skip
        refine w_seq (fun K hK_131=>?_)
        refine t_region ?_
        refine t_val (v:=.int .i64 x2) rfl rfl hE rfl (r_move hE rfl) (fun a hE=>?_)
        refine t_val (v:=.int .i64 (IntKind.wrap .i64 (iShr .u64 (IntKind.wrap .u64 (IntKind.wrap .i64 (x1 + x3))) 1))) rfl rfl hE rfl (r_move hE rfl) (fun a hE=>?_)
        refine t_val (v:=.bool (decide (x2 > (IntKind.wrap .i64 (iShr .u64 (IntKind.wrap .u64 (IntKind.wrap .i64 (x1 + x3))) 1))))) rfl rfl hE rfl (r_bin hE rfl rfl g_int b_gtr) (fun a hE=>?_)
        refine t_nil ?_
        refine hK_131 _ _ ?_
        refine w_cond (decide (x2 > (IntKind.wrap .i64 (iShr .u64 (IntKind.wrap .u64 (IntKind.wrap .i64 (x1 + x3))) 1)))) hE rfl (fun hb=>?_) (fun hb=>?_)
        · replace H:=M.ite_t hb H
          refine w_seq (fun K hK_132=>?_)
          refine t_region ?_
          refine t_val (v:=.int .i64 (IntKind.wrap .i64 ((IntKind.wrap .i64 (iShr .u64 (IntKind.wrap .u64 (IntKind.wrap .i64 (x1 + x3))) 1)) + x2))) rfl rfl hE rfl (r_move hE rfl) (fun a hE=>?_)
          refine t_val (v:=.int .i64 x3) rfl rfl hE rfl (r_move hE rfl) (fun a hE=>?_)
          refine t_val (v:=.int .i64 (IntKind.wrap .i64 ((IntKind.wrap .i64 ((IntKind.wrap .i64 (iShr .u64 (IntKind.wrap .u64 (IntKind.wrap .i64 (x1 + x3))) 1)) + x2)) - x3))) rfl rfl hE rfl (r_bin hE rfl rfl g_int b_sub) (fun a hE=>?_)
          refine t_val (v:=.int .i64 (IntKind.wrap .i64 ((IntKind.wrap .i64 ((IntKind.wrap .i64 (iShr .u64 (IntKind.wrap .u64 (IntKind.wrap .i64 (x1 + x3))) 1)) + x2)) - x3))) rfl rfl hE rfl (r_assign hE rfl) (fun a hE=>?_)
          refine t_nil ?_
          refine hK_132 _ _ ?_
          refine t_region ?_
          refine t_val (v:=.int .i64 (IntKind.wrap .i64 (iShr .u64 (IntKind.wrap .u64 (IntKind.wrap .i64 (x1 + x3))) 1))) rfl rfl hE rfl (r_move hE rfl) (fun a hE=>?_)
          refine t_val (v:=.int .i64 (IntKind.wrap .i64 (iShr .u64 (IntKind.wrap .u64 (IntKind.wrap .i64 (x1 + x3))) 1))) rfl rfl hE rfl (r_assign hE rfl) (fun a hE=>?_)
          refine t_nil ?_
          exact ⟨IntKind.wrap .i64 ((IntKind.wrap .i64 ((IntKind.wrap .i64 (iShr .u64 (IntKind.wrap .u64 (IntKind.wrap .i64 (x1 + x3))) 1)) + x2)) - x3),IntKind.wrap .i64 (iShr .u64 (IntKind.wrap .u64 (IntKind.wrap .i64 (x1 + x3))) 1),hE.cut (.cons rfl (.cons rfl (.cons rfl (.cons rfl (.cons rfl (.cons rfl (.cons rfl (.cons rfl (.cons rfl Subs.nil))))))))),hR,H⟩
        · replace H:=M.ite_f hb H
          refine w_seq (fun K hK_133=>?_)
          refine t_region ?_
          refine t_val (v:=.int .i64 x1) rfl rfl hE rfl (r_move hE rfl) (fun a hE=>?_)
          refine t_val (v:=.int .i64 x1) rfl rfl hE rfl (r_assign hE rfl) (fun a hE=>?_)
          refine t_nil ?_
          refine hK_133 _ _ ?_
          refine t_region ?_
          refine t_val (v:=.int .i64 x2) rfl rfl hE rfl (r_move hE rfl) (fun a hE=>?_)
          refine t_val (v:=.int .i64 x2) rfl rfl hE rfl (r_assign hE rfl) (fun a hE=>?_)
          refine t_nil ?_
          exact ⟨x1,x2,hE.cut (.cons rfl (.cons rfl (.cons rfl (.cons rfl (.cons rfl (.cons rfl (.cons rfl (.cons rfl (.cons rfl Subs.nil))))))))),hR,H⟩

end Gx
namespace Gx
open Go
set_option linter.unusedVariables false
set_option maxRecDepth 100000
def slices_stableCmpFunc_slapi_Value_j1 (self2 : (Int) → M (Unit)) (c6_42 : Int) : M (Unit):=do
  self2 (IntKind.wrap .i64 (c6_42 * 2))
def slices_stableCmpFunc_slapi_Value_l3 (self2 : (Int) → M (Unit)) (c0_29 : Sl) (c1_30 : Int) (c2_31 : Value) (c6_32 : Int) (self3 : (Int × Int) → M (Unit)) : (Int × Int) → M (Unit):=fun s=>match s with
  | (x7_27,x8_28)=>do
    M.ite (decide (x8_28 ≤ c1_30)) (do
      let x43_37 ← slices_symMergeCmpFunc_slapi_Value c0_29 x7_27 (IntKind.wrap .i64 (x7_27 + c6_32)) x8_28 c2_31
      self3 (x8_28,IntKind.wrap .i64 (x8_28 + (IntKind.wrap .i64 (2 * c6_32))))
      ) (do
      M.ite (decide ((IntKind.wrap .i64 (x7_27 + c6_32)) < c1_30)) (do
        let x60_45 ← slices_symMergeCmpFunc_slapi_Value c0_29 x7_27 (IntKind.wrap .i64 (x7_27 + c6_32)) c1_30 c2_31
        slices_stableCmpFunc_slapi_Value_j1 self2 c6_32
        ) (do
        slices_stableCmpFunc_slapi_Value_j1 self2 c6_32
        )
      )
def slices_stableCmpFunc_slapi_Value_l2 (c0_19 : Sl) (c1_20 : Int) (c2_21 : Value) (self2 : (Int) → M (Unit)) : (Int) → M (Unit):=fun s=>match s with
  | x6_18=>do
    M.ite (decide (x6_18 < c1_20)) (do
      M.loop (slices_stableCmpFunc_slapi_Value_l3 self2 c0_19 c1_20 c2_21 x6_18) (0,IntKind.wrap .i64 (2 * x6_18))
      ) (do
      M.pure ()
      )
def slices_stableCmpFunc_slapi_Value_l1 (c0_6 : Sl) (c1_7 : Int) (c2_8 : Value) (c6_9 : Int) (self1 : (Int × Int) → M (Unit)) : (Int × Int) → M (Unit):=fun s=>match s with
  | (x7_4,x8_5)=>do
    M.ite (decide (x8_5 ≤ c1_7)) (do
      let x18_14 ← slices_insertionSortCmpFunc_slapi_Value c0_6 x7_4 x8_5 c2_8
      self1 (x8_5,IntKind.wrap .i64 (x8_5 + c6_9))
      ) (do
      let x27_17 ← slices_insertionSortCmpFunc_slapi_Value c0_6 x7_4 c1_7 c2_8
      M.loop (slices_stableCmpFunc_slapi_Value_l2 c0_6 c1_7 c2_8) c6_9
      )
def slices_stableCmpFunc_slapi_Value (x0 : Sl) (x1 : Int) (x2 : Value) : M (Unit):=do
  M.loop (slices_stableCmpFunc_slapi_Value_l1 x0 x1 x2 20) (0,20)
theorem S_slices_stableCmpFunc_slapi_Value (x0 : Sl) (x1 : Int) (x2 : Value) : Sound Go.Proofs.Tryz.prog 137 #[(x0 : Sl).v,.int .i64 x1,x2] (fun (r : Unit)=>.tuple #[]) (slices_stableCmpFunc_slapi_Value x0 x1 x2):=by
  refine sound_of [(0,(x0 : Sl).v),(1,.int .i64 x1),(2,x2)] Go.Proofs.Tryz.func137 rfl rfl (Nat.le_of_ble_eq_true rfl) (args_of ⟨rfl,rfl,rfl,trivial⟩) (fun w0 w Q R a hret hE hR H=>?_)
  unfold slices_stableCmpFunc_slapi_Value at H
  refine w_seq (fun K hK_1=>?_)
  refine t_region ?_
  refine t_val (v:=.int .i64 20) rfl rfl hE rfl (r_assign hE rfl) (fun a hE=>?_)
  refine t_nil ?_
  refine hK_1 _ _ ?_
  refine w_seq (fun K hK_2=>?_)
  refine t_region ?_
  refine t_val (v:=.int .i64 20) rfl rfl hE rfl (r_move hE rfl) (fun a hE=>?_)
  refine t_val (v:=.int .i64 0) rfl rfl hE rfl (r_assign hE rfl) (fun a hE=>?_)
  refine t_val (v:=.int .i64 20) rfl rfl hE rfl (r_assign hE rfl) (fun a hE=>?_)
  refine t_nil ?_
  refine hK_2 _ _ ?_
  refine w_seq (fun K hK_3=>?_)
  refine w_block ?_
  refine l_loop (fun (s : Int × Int)=>(⟨63,[]⟩ : Frm)) (fun (s : Int × Int)=>[(0,(x0 : Sl).v),(1,.int .i64 x1),(2,x2),(6,.int .i64 20),(7,.int .i64 s.1),(8,.int .i64 s.2)]) H (hE.cut (.cons rfl (.cons rfl (.cons rfl (.cons rfl (.cons rfl (.cons rfl Subs.nil))))))) hR (fun Y self1 hY_10 s a w hE hR H=>?_)
  rcases s with ⟨x7_4,x8_5⟩
  replace hE : Env (⟨63,[]⟩ : Frm) a [(0,(x0 : Sl).v),(1,.int .i64 x1),(2,x2),(6,.int .i64 20),(7,.int .i64 x7_4),(8,.int .i64 x8_5)]:=hE
  replace H : (slices_stableCmpFunc_slapi_Value_l1 x0 x1 x2 20 self1 (x7_4,x8_5)).wp w.heap Q:=H
  unfold slices_stableCmpFunc_slapi_Value_l1 at H
  refine w_seq (fun K hK_11=>?_)
  refine w_seq (fun K hK_12=>?_)
  refine t_region ?_
  refine t_val (v:=.int .i64 x8_5) rfl rfl hE rfl (r_move hE rfl) (fun a hE=>?_)
  refine t_val (v:=.int .i64 x1) rfl rfl hE rfl (r_move hE rfl) (fun a hE=>?_)
  refine t_val (v:=.bool (decide (x8_5 ≤ x1))) rfl rfl hE rfl (r_bin hE rfl rfl g_int b_leq) (fun a hE=>?_)
  refine t_nil ?_
  refine hK_12 _ _ ?_
  refine w_cond (decide (x8_5 ≤ x1)) hE rfl (fun hb=>?_) (fun hb=>?_)
  · replace H:=M.ite_t hb H
    refine w_skip ?_
    refine hK_11 _ _ ?_
    refine w_block ?_
    refine w_seq (fun K hK_13=>?_)
    refine t_region ?_
    refine t_val (v:=(x0 : Sl).v) rfl rfl hE rfl (r_move hE rfl) (fun a hE=>?_)
    refine t_val (v:=.int .i64 x7_4) rfl rfl hE rfl (r_move hE rfl) (fun a hE=>?_)
    refine t_val (v:=.int .i64 x8_5) rfl rfl hE rfl (r_move hE rfl) (fun a hE=>?_)
    refine t_val (v:=x2) rfl rfl hE rfl (r_move hE rfl) (fun a hE=>?_)
    refine t_call hE hR cl_slices_insertionSortCmpFunc_slapi_Value rfl (S_slices_insertionSortCmpFunc_slapi_Value x0 x7_4 x8_5 x2) (M.unbind H) (fun x18_14 a w ea hR H=>?_)
    have hE:=Env.put_some hE rfl ea; clear ea
    refine t_nil ?_
    refine hK_13 _ _ ?_
    refine w_seq (fun K hK_15=>?_)
    refine t_region ?_
    refine t_val (v:=.int .i64 x8_5) rfl rfl hE rfl (r_move hE rfl) (fun a hE=>?_)
    refine t_val (v:=.int .i64 x8_5) rfl rfl hE rfl (r_assign hE rfl) (fun a hE=>?_)
    refine t_nil ?_
    refine hK_15 _ _ ?_
    refine t_region ?_
    refine t_val (v:=.int .i64 x8_5) rfl rfl hE rfl (r_move hE rfl) (fun a hE=>?_)
    refine t_val (v:=.int .i64 20) rfl rfl hE rfl (r_move hE rfl) (fun a hE=>?_)
    refine t_val (v:=.int .i64 (IntKind.wrap .i64 (x8_5 + 20))) rfl rfl hE rfl (r_bin hE rfl rfl g_int b_add) (fun a hE=>?_)
    refine t_val (v:=.int .i64 (IntKind.wrap .i64 (x8_5 + 20))) rfl rfl hE rfl (r_assign hE rfl) (fun a hE=>?_)
    refine t_nil ?_
    exact hY_10 (x8_5,IntKind.wrap .i64 (x8_5 + 20)) _ _ (hE.cut (.cons rfl (.cons rfl (.cons rfl (.cons rfl (.cons rfl (.cons rfl Subs.nil))))))) hR H
  · replace H:=M.ite_f hb H
    refine w_exit ?_
    refine Xu.same ?_
    refine hK_3 _ _ ?_
    refine w_seq (fun K hK_16=>?_)
    refine t_region ?_
    refine t_val (v:=(x0 : Sl).v) rfl rfl hE rfl (r_move hE rfl) (fun a hE=>?_)
    refine t_val (v:=.int .i64 x7_4) rfl rfl hE rfl (r_move hE rfl) (fun a hE=>?_)
    refine t_val (v:=.int .i64 x1) rfl rfl hE rfl (r_move hE rfl) (fun a hE=>?_)
    refine t_val (v:=x2) rfl rfl hE rfl (r_move hE rfl) (fun a hE=>?_)
    refine t_call hE hR cl_slices_insertionSortCmpFunc_slapi_Value rfl (S_slices_insertionSortCmpFunc_slapi_Value x0 x7_4 x1 x2) (M.unbind H) (fun x27_17 a w ea hR H=>?_)
    have hE:=Env.put_some hE rfl ea; clear ea
    refine t_nil ?_
    refine hK_16 _ _ ?_
    refine w_block ?_
    refine l_loop (fun (s : Int)=>(⟨63,[]⟩ : Frm)) (fun (s : Int)=>[(0,(x0 : Sl).v),(1,.int .i64 x1),(2,x2),(6,.int .i64 s)]) H (hE.cut (.cons rfl (.cons rfl (.cons rfl (.cons rfl Subs.nil))))) hR (fun Y self2 hY_22 x6_18 a w hE hR H=>?_)
    replace hE : Env (⟨63,[]⟩ : Frm) a [(0,(x0 : Sl).v),(1,.int .i64 x1),(2,x2),(6,.int .i64 x6_18)]:=hE
    replace H : (slices_stableCmpFunc_slapi_Value_l2 x0 x1 x2 self2 x6_18).wp w.heap Q:=H
    unfold slices_stableCmpFunc_slapi_Value_l2 at H
    refine w_seq (fun K hK_23=>?_)
    refine w_seq (fun K hK_24=>?_)
    refine t_region ?_
    refine t_val (v:=.int .i64 x6_18) rfl rfl hE rfl (r_move hE rfl) (fun a hE=>?_)
    refine t_val (v:=.int .i64 x1) rfl rfl hE rfl (r_move hE rfl) (fun a hE=>?_)
    refine t_val (v:=.bool (decide (x6_18 < x1))) rfl rfl hE rfl (r_bin hE rfl rfl g_int b_lss) (fun a hE=>?_)
    refine t_nil ?_
    refine hK_24 _ _ ?_
    refine w_cond (decide (x6_18 < x1)) hE rfl (fun hb=>?_) (fun hb=>?_)
    · replace H:=M.ite_t hb H
      refine w_skip ?_
      refine hK_23 _ _ ?_
      refine w_block ?_
      refine w_seq (fun K hK_25=>?_)
      refine t_region ?_
      refine t_val (v:=.int .i64 x6_18) rfl rfl hE rfl (r_move hE rfl) (fun a hE=>?_)
      refine t_val (v:=.int .i64 (IntKind.wrap .i64 (2 * x6_18))) rfl rfl hE rfl (r_bin hE rfl rfl g_int b_mul) (fun a hE=>?_)
      refine t_val (v:=.int .i64 0) rfl rfl hE rfl (r_assign hE rfl) (fun a hE=>?_)
      refine t_val (v:=.int .i64 (IntKind.wrap .i64 (2 * x6_18))) rfl rfl hE rfl (r_assign hE rfl) (fun a hE=>?_)
      refine t_nil ?_
      refine hK_25 _ _ ?_
      refine w_seq (fun K hK_26=>?_)
      refine w_block ?_
      refine l_loop (fun (s : Int × Int)=>(⟨63,[]⟩ : Frm)) (fun (s : Int × Int)=>[(0,(x0 : Sl).v),(1,.int .i64 x1),(2,x2),(6,.int .i64 x6_18),(7,.int .i64 s.1),(8,.int .i64 s.2)]) H (hE.cut (.cons rfl (.cons rfl (.cons rfl (.cons rfl (.cons rfl (.cons rfl Subs.nil))))))) hR (fun Y self3 hY_33 s a w hE hR H=>?_)
      rcases s with ⟨x7_27,x8_28⟩
      replace hE : Env (⟨63,[]⟩ : Frm) a [(0,(x0 : Sl).v),(1,.int .i64 x1),(2,x2),(6,.int .i64 x6_18),(7,.int .i64 x7_27),(8,.int .i64 x8_28)]:=hE
      replace H : (slices_stableCmpFunc_slapi_Value_l3 self2 x0 x1 x2 x6_18 self3 (x7_27,x8_28)).wp w.heap Q:=H
      unfold slices_stableCmpFunc_slapi_Value_l3 at H
      refine w_seq (fun K hK_34=>?_)
      refine w_seq (fun K hK_35=>?_)
      refine t_region ?_
      refine t_val (v:=.int .i64 x8_28) rfl rfl hE rfl (r_move hE rfl) (fun a hE=>?_)
      refine t_val (v:=.int .i64 x1) rfl rfl hE rfl (r_move hE rfl) (fun a hE=>?_)
      refine t_val (v:=.bool (decide (x8_28 ≤ x1))) rfl rfl hE rfl (r_bin hE rfl rfl g_int b_leq) (fun a hE=>?_)
      refine t_nil ?_
      refine hK_35 _ _ ?_
      refine w_cond (decide (x8_28 ≤ x1)) hE rfl (fun hb=>?_) (fun hb=>?_)
      · replace H:=M.ite_t hb H
        refine w_skip ?_
        refine hK_34 _ _ ?_
        refine w_block ?_
        refine w_seq (fun K hK_36=>?_)
        refine t_region ?_
        refine t_val (v:=(x0 : Sl).v) rfl rfl hE rfl (r_move hE rfl) (fun a hE=>?_)
        refine t_val (v:=.int .i64 x7_27) rfl rfl hE rfl (r_move hE rfl) (fun a hE=>?_)
        refine t_val (v:=.int .i64 x7_27) rfl rfl hE rfl (r_move hE rfl) (fun a hE=>?_)
        refine t_val (v:=.int .i64 x6_18) rfl rfl hE rfl (r_move hE rfl) (fun a hE=>?_)
        refine t_val (v:=.int .i64 (IntKind.wrap .i64 (x7_27 + x6_18))) rfl rfl hE rfl (r_bin hE rfl rfl g_int b_add) (fun a hE=>?_)
        refine t_val (v:=.int .i64 x8_28) rfl rfl hE rfl (r_move hE rfl) (fun a hE=>?_)
        refine t_val (v:=x2) rfl rfl hE rfl (r_move hE rfl) (fun a hE=>?_)
        refine t_call hE hR cl_slices_symMergeCmpFunc_slapi_Value rfl (S_slices_symMergeCmpFunc_slapi_Value x0 x7_27 (IntKind.wrap .i64 (x7_27 + x6_18)) x8_28 x2) (M.unbind H) (fun x43_37 a w ea hR H=>?_)
        have hE:=Env.put_some hE rfl ea; clear ea
        refine t_nil ?_
        refine hK_36 _ _ ?_
        refine w_seq (fun K hK_38=>?_)
        refine t_region ?_
        refine t_val (v:=.int .i64 x8_28) rfl rfl hE rfl (r_move hE rfl) (fun a hE=>?_)
        refine t_val (v:=.int .i64 x8_28) rfl rfl hE rfl (r_assign hE rfl) (fun a hE=>?_)
        refine t_nil ?_
        refine hK_38 _ _ ?_
        refine t_region ?_
        refine t_val (v:=.int .i64 x8_28) rfl rfl hE rfl (r_move hE rfl) (fun a hE=>?_)
        refine t_val (v:=.int .i64 x6_18) rfl rfl hE rfl (r_move hE rfl) (fun a hE=>?_)
        refine t_val (v:=.int .i64 (IntKind.wrap .i64 (2 * x6_18))) rfl rfl hE rfl (r_bin hE rfl rfl g_int b_mul) (fun a hE=>?_)
        refine t_val (v:=.int .i64 (IntKind.wrap .i64 (x8_28 + (IntKind.wrap .i64 (2 * x6_18))))) rfl rfl hE rfl (r_bin hE rfl rfl g_int b_add) (fun a hE=>?_)
        refine t_val (v:=.int .i64 (IntKind.wrap .i64 (x8_28 + (IntKind.wrap .i64 (2 * x6_18))))) rfl rfl hE rfl (r_assign hE rfl) (fun a hE=>?_)
        refine t_nil ?_
        exact hY_33 (x8_28,IntKind.wrap .i64 (x8_28 + (IntKind.wrap .i64 (2 * x6_18)))) _ _ (hE.cut (.cons rfl (.cons rfl (.cons rfl (.cons rfl (.cons rfl (.cons rfl Subs.nil))))))) hR H
      · replace H:=M.ite_f hb H
        refine w_exit ?_
        refine Xu.same ?_
        refine hK_26 _ _ ?_
        refine w_seq_join (fun a w=>Env (⟨63,[]⟩ : Frm) a [(0,(x0 : Sl).v),(1,.int .i64 x1),(2,x2),(6,.int .i64 x6_18)] ∧ Rest w0 w ∧ (slices_stableCmpFunc_slapi_Value_j1 self2 x6_18).wp w.heap Q) ?_ ?_
        · rintro a w ⟨hE,hR,H⟩
          unfold slices_stableCmpFunc_slapi_Value_j1 at H
          refine t_region ?_
          refine t_val (v:=.int .i64 x6_18) rfl rfl hE rfl (r_move hE rfl) (fun a hE=>?_)
          refine t_val (v:=.int .i64 (IntKind.wrap .i64 (x6_18 * 2))) rfl rfl hE rfl (r_bin hE rfl rfl g_int b_mul) (fun a hE=>?_)
          refine t_val (v:=.int .i64 (IntKind.wrap .i64 (x6_18 * 2))) rfl rfl hE rfl (r_assign hE rfl) (fun a hE=>?_)
          refine t_nil ?_
          exact hY_22 (IntKind.wrap .i64 (x6_18 * 2)) _ _ (hE.cut (.cons rfl (.cons rfl (.cons rfl (.cons rfl Subs.nil))))) hR H
        · skip
          refine w_seq (fun K hK_43=>?_)
          refine t_region ?_
          refine t_val (v:=.int .i64 x7_27) rfl rfl hE rfl (r_move hE rfl) (fun a hE=>?_)
          refine t_val (v:=.int .i64 x6_18) rfl rfl hE rfl (r_move hE rfl) (fun a hE=>?_)
          refine t_val (v:=.int .i64 (IntKind.wrap .i64 (x7_27 + x6_18))) rfl rfl hE rfl (r_bin hE rfl rfl g_int b_add) (fun a hE=>?_)
          refine t_val (v:=.int .i64 (IntKind.wrap .i64 (x7_27 + x6_18))) rfl rfl hE rfl (r_assign hE rfl) (fun a hE=>?_)
          refine t_nil ?_
          refine hK_43 _ _ ?_
          refine w_seq (fun K hK_44=>?_)
          refine t_region ?_
          refine t_val (v:=.int .i64 (IntKind.wrap .i64 (x7_27 + x6_18))) rfl rfl hE rfl (r_move hE rfl) (fun a hE=>?_)
          refine t_val (v:=.int .i64 x1) rfl rfl hE rfl (r_move hE rfl) (fun a hE=>?_)
          refine t_val (v:=.bool (decide ((IntKind.wrap .i64 (x7_27 + x6_18)) < x1))) rfl rfl hE rfl (r_bin hE rfl rfl g_int b_lss) (fun a hE=>?_)
          refine t_nil ?_
          refine hK_44 _ _ ?_
          refine w_cond (decide ((IntKind.wrap .i64 (x7_27 + x6_18)) < x1)) hE rfl (fun hb=>?_) (fun hb=>?_)
          · replace H:=M.ite_t hb H
            refine t_region ?_
            refine t_val (v:=(x0 : Sl).v) rfl rfl hE rfl (r_move hE rfl) (fun a hE=>?_)
            refine t_val (v:=.int .i64 x7_27) rfl rfl hE rfl (r_move hE rfl) (fun a hE=>?_)
            refine t_val (v:=.int .i64 (IntKind.wrap .i64 (x7_27 + x6_18))) rfl rfl hE rfl (r_move hE rfl) (fun a hE=>?_)
            refine t_val (v:=.int .i64 x1) rfl rfl hE rfl (r_move hE rfl) (fun a hE=>?_)
            refine t_val (v:=x2) rfl rfl hE rfl (r_move hE rfl) (fun a hE=>?_)
            refine t_call hE hR cl_slices_symMergeCmpFunc_slapi_Value rfl (S_slices_symMergeCmpFunc_slapi_Value x0 x7_27 (IntKind.wrap .i64 (x7_27 + x6_18)) x1 x2) (M.unbind H) (fun x60_45 a w ea hR H=>?_)
            have hE:=Env.put_some hE rfl ea; clear ea
            refine t_nil ?_
            exact ⟨hE.cut (.cons rfl (.cons rfl (.cons rfl (.cons rfl Subs.nil)))),hR,H⟩
          · replace H:=M.ite_f hb H
            refine w_skip ?_
            exact ⟨hE.cut (.cons rfl (.cons rfl (.cons rfl (.cons rfl Subs.nil)))),hR,H⟩
    · replace H:=M.ite_f hb H
      refine w_exit ?_
      refine Xu.same ?_
      exact hret _ _ _ () _ hE hR (res_run hE rfl RV.nil) rfl H

def slices_SortStableFunc_slslapi_Value_slapi_Value (x0 : Sl) (x1 : Value) : M (Unit):=do
  let x8_1 ← slices_stableCmpFunc_slapi_Value x0 (x0.len : Int) x1
  M.pure ()
theorem S_slices_SortStableFunc_slslapi_Value_slapi_Value (x0 : Sl) (x1 : Value) : Sound Go.Proofs.Tryz.prog 79 #[(x0 : Sl).v,x1] (fun (r : Unit)=>.tuple #[]) (slices_SortStableFunc_slslapi_Value_slapi_Value x0 x1):=by
  refine sound_of [(0,(x0 : Sl).v),(1,x1)] Go.Proofs.Tryz.func79 rfl rfl (Nat.le_of_ble_eq_true rfl) (args_of ⟨rfl,rfl,trivial⟩) (fun w0 w Q R a hret hE hR H=>?_)
  unfold slices_SortStableFunc_slslapi_Value_slapi_Value at H
  refine t_region ?_
  refine t_val (v:=(x0 : Sl).v) rfl rfl hE rfl (r_move hE rfl) (fun a hE=>?_)
  refine t_val (v:=(x0 : Sl).v) rfl rfl hE rfl (r_move hE rfl) (fun a hE=>?_)
  refine t_val (v:=.int .i64 (x0.len : Int)) rfl rfl hE rfl (r_len hE rfl 22 un89) (fun a hE=>?_)
  refine t_val (v:=x1) rfl rfl hE rfl (r_move hE rfl) (fun a hE=>?_)
  refine t_call hE hR cl_slices_stableCmpFunc_slapi_Value rfl (S_slices_stableCmpFunc_slapi_Value x0 (x0.len : Int) x1) (M.unbind H) (fun x8_1 a w ea hR H=>?_)
  have hE:=Env.put_some hE rfl ea; clear ea
  refine t_nil ?_
  exact hret _ _ _ () _ hE hR (res_run hE rfl RV.nil) rfl H

def slices_Clone_slapi_Value_api_Value (x0 : Sl) : M (Sl):=do
  M.ite ((x0).base.isNone) (do
    M.pure Sl.nil
    ) (do
    let y_7 ← fillL 4 0 (#[.int .i64 0,.int .i64 0,.string ByteArray.empty,.slice none 0 0] : Array Value) []
    let x5_6 ← bdL ty_api_Value 0 y_7
    let x7_8 ← apL ty_api_Value 4 56 (#[.int .i64 0,.int .i64 0,.string ByteArray.empty,.slice none 0 0] : Array Value) x5_6 x0
    M.pure x7_8
    )
theorem S_slices_Clone_slapi_Value_api_Value (x0 : Sl) : Sound Go.Proofs.Tryz.prog 21 #[(x0 : Sl).v] (fun (r : Sl)=>(r : Sl).v) (slices_Clone_slapi_Value_api_Value x0):=by
  refine sound_of [(0,(x0 : Sl).v)] Go.Proofs.Tryz.func21 rfl rfl (Nat.le_of_ble_eq_true rfl) (args_of ⟨rfl,trivial⟩) (fun w0 w Q R a hret hE hR H=>?_)
  unfold slices_Clone_slapi_Value_api_Value at H
  refine w_seq (fun K hK_1=>?_)
  refine t_region ?_
  refine t_val (v:=(Sl.nil : Sl).v) rfl rfl hE rfl (r_assign hE rfl) (fun a hE=>?_)
  refine t_nil ?_
  refine hK_1 _ _ ?_
  refine w_seq (fun K hK_2=>?_)
  refine w_seq (fun K hK_3=>?_)
  refine t_region ?_
  refine t_val (v:=(x0 : Sl).v) rfl rfl hE rfl (r_move hE rfl) (fun a hE=>?_)
  refine t_val (v:=.bool ((x0).base.isNone)) rfl rfl hE rfl (r_bin hE rfl rfl (g_sl (v:=Sl.nil)) (b_eqlL un22)) (fun a hE=>?_)
  refine t_nil ?_
  refine hK_3 _ _ ?_
  refine w_cond ((x0).base.isNone) hE rfl (fun hb=>?_) (fun hb=>?_)
  · replace H:=M.ite_t hb H
    refine w_seq (fun K hK_4=>?_)
    refine t_region ?_
    refine t_val (v:=(Sl.nil : Sl).v) rfl rfl hE rfl (r_assign hE rfl) (fun a hE=>?_)
    refine t_nil ?_
    refine hK_4 _ _ ?_
    refine w_ret ?_
    exact hret _ _ _ Sl.nil _ hE hR (res_run hE rfl (RV.tmp rfl RV.nil)) rfl H
  · replace H:=M.ite_f hb H
    refine w_skip ?_
    refine hK_2 _ _ ?_
    refine w_seq (fun K hK_5=>?_)
    refine t_region ?_
    obtain ⟨y_7,qy_7,H⟩:=H
    obtain ⟨x5_6,qx5_6,H⟩:=H
    refine t_valh (v:=(x5_6 : Sl).v) rfl rfl hE rfl hR (r_buildL hE rfl un22 sz24 zr24 rfl qy_7 qx5_6) (fun a w hE hR hh=>?_)
    replace H:=M.at hh H; clear hh
    refine t_val (v:=(x0 : Sl).v) rfl rfl hE rfl (r_move hE rfl) (fun a hE=>?_)
    refine t_ex (fun x7_8=>(x7_8 : Sl).v) rfl rfl hR (M.unbind H) (fun Q H=>ap_run hE rfl rfl ap22 H) (fun x7_8 a w ea hR H=>?_)
    have hE:=Env.put_some hE rfl ea; clear ea
    refine t_val (v:=(x7_8 : Sl).v) rfl rfl hE rfl (r_assign hE rfl) (fun a hE=>?_)
    refine t_nil ?_
    refine hK_5 _ _ ?_
    refine w_ret ?_
    exact hret _ _ _ x7_8 _ hE hR (res_run hE rfl (RV.tmp rfl RV.nil)) rfl H

theorem tb39_5 : tabAt Go.Proofs.Tryz.f39 5 [[],[0],[],[],[3],[],[4,5],[6],[7],[1,2,0,1,2,3,4,5,6,7,8],[9,8,8,0,1,2,3,4,5,6,7,8]] [[],[0],[],[],[3],[],[4,5],[6],[7],[1,2],[8,9]] [[],[0],[],[],[3],[],[3,4,5],[3,4,5,6],[3,4,5,6,7],[0,1,2,3,4,5,6,7,8],[0,1,2,3,4,5,6,7,8,9]] = true:=by kernel_rfl
def value_Clone_l1 (c1_12 : Addr) (c2_13 : Addr) (c10_14 : Int) (self1 : (Int) → M (Array Value)) : (Int) → M (Array Value):=fun s=>match s with
  | x11_11=>do
    M.ite (decide (x11_11 < c10_14)) (do
      let x15_20 ← ldL ((c1_12).add 3)
      let x18_21 ← ldL ((c1_12).add 3)
      let x20_22 ← ixL x18_21 x11_11 4
      let x21_23 ← ldG 4 x20_22
      let x22_24 ← callF Go.Proofs.Tryz.prog fn_value_Clone #[.agg x21_23] (fun r : Array Value=>.agg r)
      chk (fun h : Heap=>(hcell h ((c1_12).add 3) = some ((x15_20 : Sl).v)) ∧ (hcell h ((c1_12).add 3) = some ((x18_21 : Sl).v)) ∧ (x21_23.size = 4 ∧ ∀ i,i < 4 → hcell h (Addr.add x20_22 i) = x21_23[i]?))
      let x23_25 ← ixL x15_20 x11_11 4
      M.need (x22_24.size = 4)
      stG x23_25 x22_24
      self1 (IntKind.wrap .i64 (x11_11 + 1))
      ) (do
      let x25_28 ← ldG 4 c1_12
      M.need (x25_28.size = 4)
      stG c2_13 x25_28
      let r2_30 ← ldG 4 c2_13
      M.pure r2_30
      )
def value_Clone (x0 : Array Value) : M (Array Value):=do
  let x1_2 ← mkB ty_api_Value x0
  let x2_3 ← mkB ty_api_Value (#[.int .i64 0,.int .i64 0,.string ByteArray.empty,.slice none 0 0] : Array Value)
  let x5_5 ← ldL ((x1_2).add 3)
  let x6_6 ← slices_Clone_slapi_Value_api_Value x5_5
  stV ((x1_2).add 3) ((x6_6 : Sl).v)
  let x9_10 ← ldL ((x1_2).add 3)
  M.loop (value_Clone_l1 x1_2 x2_3 (x9_10.len : Int)) 0
theorem S_value_Clone (x0 : Array Value) : Sound Go.Proofs.Tryz.prog 39 #[.agg x0] (fun (r : Array Value)=>.agg r) (value_Clone x0):=by
  refine sound_of [(0,.agg x0)] Go.Proofs.Tryz.func39 rfl rfl (Nat.le_of_ble_eq_true rfl) (args_of ⟨rfl,trivial⟩) (fun w0 w Q R a hret hE hR H=>?_)
  unfold value_Clone at H
  refine w_seq (fun K hK_1=>?_)
  refine t_region ?_
  obtain ⟨x1_2,qx1_2,H⟩:=H
  refine t_valh (v:=.pointer (some x1_2)) rfl rfl hE rfl hR (r_box hE rfl qx1_2) (fun a w hE hR hh=>?_)
  replace H:=M.at hh H; clear hh
  obtain ⟨x2_3,qx2_3,H⟩:=H
  refine t_valh (v:=.pointer (some x2_3)) rfl rfl hE rfl hR (r_alloc zr24 qx2_3) (fun a w hE hR hh=>?_)
  replace H:=M.at hh H; clear hh
  refine t_nil ?_
  refine hK_1 _ _ ?_
  refine w_seq (fun K hK_4=>?_)
  refine t_region ?_
  refine t_val (v:=.pointer (some ((x1_2).add 3))) rfl rfl hE rfl (r_fieldAddr hE rfl fd24_3) (fun a hE=>?_)
  obtain ⟨x5_5,qx5_5,H⟩:=H
  refine t_val (v:=(x5_5 : Sl).v) rfl rfl hE rfl (r_load hE rfl sc22 qx5_5) (fun a hE=>?_)
  refine t_call hE hR cl_slices_Clone_slapi_Value_api_Value rfl (S_slices_Clone_slapi_Value_api_Value x5_5) (M.unbind H) (fun x6_6 a w ea hR H=>?_)
  have hE:=Env.put_some hE rfl ea; clear ea
  refine t_val (v:=.pointer (some ((x1_2).add 3))) rfl rfl hE rfl (r_fieldAddr hE rfl fd24_3) (fun a hE=>?_)
  obtain ⟨u_7,qu_7,H⟩:=H
  refine t_sth rfl rfl hE hR (r_store hE rfl rfl sz22 qu_7) (fun a w hE hR hh=>?_)
  replace H:=M.at hh H; clear hh
  refine t_nil ?_
  refine hK_4 _ _ ?_
  refine w_seq (fun K hK_8=>?_)
  refine w_seq (fun K hK_9=>?_)
  refine t_region ?_
  refine t_val (v:=.pointer (some ((x1_2).add 3))) rfl rfl hE rfl (r_fieldAddr hE rfl fd24_3) (fun a hE=>?_)
  obtain ⟨x9_10,qx9_10,H⟩:=H
  refine t_val (v:=(x9_10 : Sl).v) rfl rfl hE rfl (r_load hE rfl sc22 qx9_10) (fun a hE=>?_)
  refine t_val (v:=.int .i64 (x9_10.len : Int)) rfl rfl hE rfl (r_len hE rfl 24 un22) (fun a hE=>?_)
  refine t_val (v:=.int .i64 0) rfl rfl hE rfl (r_move hE rfl) (fun a hE=>?_)
  refine t_nil ?_
  refine hK_9 _ _ ?_
  refine w_block ?_
  refine l_loop (fun (s : Int)=>(⟨26,[]⟩ : Frm)) (fun (s : Int)=>[(1,.pointer (some x1_2)),(2,.pointer (some x2_3)),(10,.int .i64 (x9_10.len : Int)),(11,.int .i64 s)]) H (hE.cut (.cons rfl (.cons rfl (.cons rfl (.cons rfl Subs.nil))))) hR (fun Y self1 hY_15 x11_11 a w hE hR H=>?_)
  replace hE : Env (⟨26,[]⟩ : Frm) a [(1,.pointer (some x1_2)),(2,.pointer (some x2_3)),(10,.int .i64 (x9_10.len : Int)),(11,.int .i64 x11_11)]:=hE
  replace H : (value_Clone_l1 x1_2 x2_3 (x9_10.len : Int) self1 x11_11).wp w.heap Q:=H
  unfold value_Clone_l1 at H
  refine w_seq (fun K hK_16=>?_)
  refine t_region ?_
  refine t_val (v:=.bool (decide (x11_11 < (x9_10.len : Int)))) rfl rfl hE rfl (r_bin hE rfl rfl g_int b_lss) (fun a hE=>?_)
  refine t_nil ?_
  refine hK_16 _ _ ?_
  refine w_seq (fun K hK_17=>?_)
  refine w_cond (decide (x11_11 < (x9_10.len : Int))) hE rfl (fun hb=>?_) (fun hb=>?_)
  · replace H:=M.ite_t hb H
    refine w_skip ?_
    refine hK_17 _ _ ?_
    refine w_seq (fun K hK_18=>?_)
    refine w_block ?_
    refine w_seq (fun K hK_19=>?_)
    refine t_region ?_
    refine t_val (v:=.int .i64 x11_11) rfl rfl hE rfl (r_move hE rfl) (fun a hE=>?_)
    refine t_val (v:=.int .i64 x11_11) rfl rfl hE rfl (r_assign hE rfl) (fun a hE=>?_)
    refine t_nil ?_
    refine hK_19 _ _ ?_
    obtain ⟨x15_20,qx15_20,H⟩:=H
    obtain ⟨x18_21,qx18_21,H⟩:=H
    obtain ⟨x20_22,qx20_22,H⟩:=H
    obtain ⟨x21_23,qx21_23,H⟩:=H
    have hT:=tab_of tb39_5 rfl rfl
    refine d_start (fun w : World=>(fun h : Heap=>(hcell h ((x1_2).add 3) = some ((x15_20 : Sl).v)) ∧ (hcell h ((x1_2).add 3) = some ((x18_21 : Sl).v)) ∧ (x21_23.size = 4 ∧ ∀ i,i < 4 → hcell h (Addr.add x20_22 i) = x21_23[i]?)) w.heap) [9,10] #[false,false,false,false,false,false,false,false,false,false,false] mo hR rfl rfl (fun w' e=>by rw [e]; exact ⟨qx15_20,qx18_21,qx21_23⟩) (fun w hh hR hs=>?_)
    replace H:=M.at hh H; clear hh
    refine d_pureg (i:=0) (v:=.pointer (some ((x1_2).add 3))) #[true,false,false,false,false,false,false,false,false,false,false] rfl rfl hT (by kernel_rfl) hE rfl (wanted_none rfl) (fun w=>r_fieldAddr hE rfl fd24_3) (fun a hE=>?_)
    refine d_pureg (i:=2) (v:=.int .i64 x11_11) #[true,false,true,false,false,false,false,false,false,false,false] rfl rfl hT (by kernel_rfl) hE rfl (wanted_none rfl) (fun w=>r_move hE rfl) (fun a hE=>?_)
    refine d_pureg (i:=3) (v:=.pointer (some ((x1_2).add 3))) #[true,false,true,true,false,false,false,false,false,false,false] rfl rfl hT (by kernel_rfl) hE rfl (wanted_none rfl) (fun w=>r_fieldAddr hE rfl fd24_3) (fun a hE=>?_)
    refine d_pureg (i:=5) (v:=.int .i64 x11_11) #[true,false,true,true,false,true,false,false,false,false,false] rfl rfl hT (by kernel_rfl) hE rfl (wanted_none rfl) (fun w=>r_move hE rfl) (fun a hE=>?_)
    refine d_read (i:=1) (v:=(x15_20 : Sl).v) #[true,true,true,true,false,true,false,false,false,false,false] rfl rfl hT (by kernel_rfl) hE rfl (wanted_none rfl) hs (fun w s=>r_load hE rfl sc22 s.1) (fun a hE=>?_)
    refine d_read (i:=4) (v:=(x18_21 : Sl).v) #[true,true,true,true,true,true,false,false,false,false,false] rfl rfl hT (by kernel_rfl) hE rfl (wanted_none rfl) hs (fun w s=>r_load hE rfl sc22 s.2.1) (fun a hE=>?_)
    refine d_pureg (i:=6) (v:=.pointer (some x20_22)) #[true,true,true,true,true,true,true,false,false,false,false] rfl rfl hT (by kernel_rfl) hE rfl (wanted_none rfl) (fun w=>r_indexAddrL hE rfl rfl un22 sz24 qx20_22) (fun a hE=>?_)
    refine d_read (i:=7) (v:=.agg x21_23) #[true,true,true,true,true,true,true,true,false,false,false] rfl rfl hT (by kernel_rfl) hE rfl (wanted_none rfl) hs (fun w s=>r_loadG hE rfl ag24 s.2.2) (fun a hE=>?_)
    refine d_call (i:=8) #[true,true,true,true,true,true,true,true,true,false,false] rfl rfl rfl hT (by kernel_rfl) rfl hE hR (wanted_none rfl) cl_value_Clone rfl (sound_callF) (M.unbind H) (fun r h H w' e=>by obtain ⟨_,sA,H⟩:=H; rw [e]; exact sA) (fun x22_24 a w ea hR H hs=>?_)
    obtain ⟨_,sA,H⟩:=H; clear sA
    have hE:=Env.put_some hE rfl ea; clear ea
    obtain ⟨x23_25,qx23_25,H⟩:=H
    refine d_pureg (i:=9) (v:=.pointer (some x23_25)) #[true,true,true,true,true,true,true,true,true,true,false] rfl rfl hT (by kernel_rfl) hE rfl (wanted_none rfl) (fun w=>r_indexAddrL hE rfl rfl un22 sz24 qx23_25) (fun a hE=>?_)
    obtain ⟨qz,H⟩:=H
    obtain ⟨u_26,qu_26,H⟩:=H
    refine d_stlh (i:=10) #[true,true,true,true,true,true,true,true,true,true,true] rfl rfl hT (by kernel_rfl) rfl hE hR (wanted_none rfl) (r_storeG hE rfl rfl sz24 qz qu_26)  (fun a w hE hR hh=>?_)
    replace H:=M.at hh H; clear hh
    refine d_done hT (by kernel_rfl) ?_
    refine hK_18 _ _ ?_
    refine t_region ?_
    refine t_val (v:=.int .i64 (IntKind.wrap .i64 (x11_11 + 1))) rfl rfl hE rfl (r_bin hE rfl rfl g_int b_add) (fun a hE=>?_)
    refine t_val (v:=.int .i64 (IntKind.wrap .i64 (x11_11 + 1))) rfl rfl hE rfl (r_move hE rfl) (fun a hE=>?_)
    refine t_nil ?_
    exact hY_15 (IntKind.wrap .i64 (x11_11 + 1)) _ _ (hE.cut (.cons rfl (.cons rfl (.cons rfl (.cons rfl Subs.nil))))) hR H
  · replace H:=M.ite_f hb H
    refine w_exit ?_
    refine Xu.same ?_
    refine hK_8 _ _ ?_
    refine w_seq (fun K hK_27=>?_)
    refine t_region ?_
    obtain ⟨x25_28,qx25_28,H⟩:=H
    refine t_val (v:=.agg x25_28) rfl rfl hE rfl (r_loadG hE rfl ag24 qx25_28) (fun a hE=>?_)
    obtain ⟨qz,H⟩:=H
    obtain ⟨u_29,qu_29,H⟩:=H
    refine t_sth rfl rfl hE hR (r_storeG hE rfl rfl sz24 qz qu_29) (fun a w hE hR hh=>?_)
    replace H:=M.at hh H; clear hh
    refine t_nil ?_
    refine hK_27 _ _ ?_
    refine w_ret ?_
    obtain ⟨r2_30,qr2_30,H⟩:=H
    exact hret _ _ _ r2_30 _ hE hR (res_run hE rfl (RV.cellG rfl ag24 qr2_30 RV.nil)) rfl H

def value_made (x0 : Array Value) : M (Array Value × Int):=do
  let x1_2 ← mkB ty_api_Value x0
  let x2_3 ← mkB ty_api_Value (#[.int .i64 0,.int .i64 0,.string ByteArray.empty,.slice none 0 0] : Array Value)
  let x5_6 ← ldG 4 x1_2
  let x6_7 ← value_Check x5_6
  M.ite (x6_7 != 0) (do
    M.need ((#[.int .i64 0,.int .i64 0,.string ByteArray.empty,.slice none 0 0] : Array Value).size = 4)
    stG x2_3 (#[.int .i64 0,.int .i64 0,.string ByteArray.empty,.slice none 0 0] : Array Value)
    let r2_11 ← ldG 4 x2_3
    M.pure (r2_11,x6_7)
    ) (do
    let x11_13 ← ldG 4 x1_2
    let x12_14 ← value_Clone x11_13
    M.need (x12_14.size = 4)
    stG x2_3 x12_14
    let r2_16 ← ldG 4 x2_3
    M.pure (r2_16,0)
    )
theorem S_value_made (x0 : Array Value) : Sound Go.Proofs.Tryz.prog 81 #[.agg x0] (fun (r : Array Value × Int)=>.tuple #[.agg r.1,.int .i64 r.2]) (value_made x0):=by
  refine sound_of [(0,.agg x0)] Go.Proofs.Tryz.func81 rfl rfl (Nat.le_of_ble_eq_true rfl) (args_of ⟨rfl,trivial⟩) (fun w0 w Q R a hret hE hR H=>?_)
  unfold value_made at H
  refine w_seq (fun K hK_1=>?_)
  refine t_region ?_
  obtain ⟨x1_2,qx1_2,H⟩:=H
  refine t_valh (v:=.pointer (some x1_2)) rfl rfl hE rfl hR (r_box hE rfl qx1_2) (fun a w hE hR hh=>?_)
  replace H:=M.at hh H; clear hh
  obtain ⟨x2_3,qx2_3,H⟩:=H
  refine t_valh (v:=.pointer (some x2_3)) rfl rfl hE rfl hR (r_alloc zr24 qx2_3) (fun a w hE hR hh=>?_)
  replace H:=M.at hh H; clear hh
  refine t_val (v:=.int .i64 0) rfl rfl hE rfl (r_assign hE rfl) (fun a hE=>?_)
  refine t_nil ?_
  refine hK_1 _ _ ?_
  refine w_seq (fun K hK_4=>?_)
  refine w_seq (fun K hK_5=>?_)
  refine t_region ?_
  obtain ⟨x5_6,qx5_6,H⟩:=H
  refine t_val (v:=.agg x5_6) rfl rfl hE rfl (r_loadG hE rfl ag24 qx5_6) (fun a hE=>?_)
  refine t_call hE hR cl_value_Check rfl (S_value_Check x5_6) (M.unbind H) (fun x6_7 a w ea hR H=>?_)
  have hE:=Env.put_some hE rfl ea; clear ea
  refine t_val (v:=.int .i64 x6_7) rfl rfl hE rfl (r_assign hE rfl) (fun a hE=>?_)
  refine t_nil ?_
  refine hK_5 _ _ ?_
  refine w_seq (fun K hK_8=>?_)
  refine t_region ?_
  refine t_val (v:=.int .i64 x6_7) rfl rfl hE rfl (r_move hE rfl) (fun a hE=>?_)
  refine t_val (v:=.bool (x6_7 != 0)) rfl rfl hE rfl (r_bin hE rfl rfl g_int b_neq) (fun a hE=>?_)
  refine t_nil ?_
  refine hK_8 _ _ ?_
  refine w_cond (x6_7 != 0) hE rfl (fun hb=>?_) (fun hb=>?_)
  · replace H:=M.ite_t hb H
    refine w_seq (fun K hK_9=>?_)
    refine t_region ?_
    refine t_val (v:=.agg (#[.int .i64 0,.int .i64 0,.string ByteArray.empty,.slice none 0 0] : Array Value)) rfl rfl hE rfl (r_build0 bd24) (fun a hE=>?_)
    refine t_val (v:=.int .i64 x6_7) rfl rfl hE rfl (r_move hE rfl) (fun a hE=>?_)
    obtain ⟨qz,H⟩:=H
    obtain ⟨u_10,qu_10,H⟩:=H
    refine t_sth rfl rfl hE hR (r_storeG hE rfl rfl sz24 qz qu_10) (fun a w hE hR hh=>?_)
    replace H:=M.at hh H; clear hh
    refine t_val (v:=.int .i64 x6_7) rfl rfl hE rfl (r_assign hE rfl) (fun a hE=>?_)
    refine t_nil ?_
    refine hK_9 _ _ ?_
    refine w_ret ?_
    obtain ⟨r2_11,qr2_11,H⟩:=H
    exact hret _ _ _ (r2_11,x6_7) _ hE hR (res_run hE rfl (RV.cellG rfl ag24 qr2_11 (RV.tmp rfl RV.nil))) rfl H
  · replace H:=M.ite_f hb H
    refine w_skip ?_
    refine hK_4 _ _ ?_
    refine w_seq (fun K hK_12=>?_)
    refine t_region ?_
    obtain ⟨x11_13,qx11_13,H⟩:=H
    refine t_val (v:=.agg x11_13) rfl rfl hE rfl (r_loadG hE rfl ag24 qx11_13) (fun a hE=>?_)
    refine t_call hE hR cl_value_Clone rfl (S_value_Clone x11_13) (M.unbind H) (fun x12_14 a w ea hR H=>?_)
    have hE:=Env.put_some hE rfl ea; clear ea
    obtain ⟨qz,H⟩:=H
    obtain ⟨u_15,qu_15,H⟩:=H
    refine t_sth rfl rfl hE hR (r_storeG hE rfl rfl sz24 qz qu_15) (fun a w hE hR hh=>?_)
    replace H:=M.at hh H; clear hh
    refine t_val (v:=.int .i64 0) rfl rfl hE rfl (r_assign hE rfl) (fun a hE=>?_)
    refine t_nil ?_
    refine hK_12 _ _ ?_
    refine w_ret ?_
    obtain ⟨r2_16,qr2_16,H⟩:=H
    exact hret _ _ _ (r2_16,0) _ hE hR (res_run hE rfl (RV.cellG rfl ag24 qr2_16 (RV.tmp rfl RV.nil))) rfl H

def slices_Grow_slapi_Value_api_Value_j1 (x0_4 : Sl) : M (Sl):=do
  M.pure x0_4
def slices_Grow_slapi_Value_api_Value (x0 : Sl) (x1 : Int) : M (Sl):=do
  M.ite (decide (x1 < 0)) (do
    M.fail
    ) (do
    M.ite (decide ((IntKind.wrap .i64 (x1 - (IntKind.wrap .i64 ((x0.cap : Int) - (x0.len : Int))))) > 0)) (do
      let x20_8 ← slL x0 0 (x0.cap : Int) 4
      let x22_9 ← apM ty_api_Value 4 56 (#[.int .i64 0,.int .i64 0,.string ByteArray.empty,.slice none 0 0] : Array Value) x20_8 (IntKind.wrap .i64 (x1 - (IntKind.wrap .i64 ((x0.cap : Int) - (x0.len : Int)))))
      let x25_10 ← slL x22_9 0 (x0.len : Int) 4
      slices_Grow_slapi_Value_api_Value_j1 x25_10
      ) (do
      slices_Grow_slapi_Value_api_Value_j1 x0
      )
    )
theorem S_slices_Grow_slapi_Value_api_Value (x0 : Sl) (x1 : Int) : Sound Go.Proofs.Tryz.prog 138 #[(x0 : Sl).v,.int .i64 x1] (fun (r : Sl)=>(r : Sl).v) (slices_Grow_slapi_Value_api_Value x0 x1):=by
  refine sound_of [(0,(x0 : Sl).v),(1,.int .i64 x1)] Go.Proofs.Tryz.func138 rfl rfl (Nat.le_of_ble_eq_true rfl) (args_of ⟨rfl,rfl,trivial⟩) (fun w0 w Q R a hret hE hR H=>?_)
  unfold slices_Grow_slapi_Value_api_Value at H
  refine w_seq (fun K hK_1=>?_)
  refine t_region ?_
  refine t_val (v:=(Sl.nil : Sl).v) rfl rfl hE rfl (r_assign hE rfl) (fun a hE=>?_)
  refine t_nil ?_
  refine hK_1 _ _ ?_
  refine w_seq (fun K hK_2=>?_)
  refine w_seq (fun K hK_3=>?_)
  refine t_region ?_
  refine t_val (v:=.int .i64 x1) rfl rfl hE rfl (r_move hE rfl) (fun a hE=>?_)
  refine t_val (v:=.bool (decide (x1 < 0))) rfl rfl hE rfl (r_bin hE rfl rfl g_int b_lss) (fun a hE=>?_)
  refine t_nil ?_
  refine hK_3 _ _ ?_
  refine w_cond (decide (x1 < 0)) hE rfl (fun hb=>?_) (fun hb=>?_)
  · replace H:=M.ite_t hb H
    exact False.elim H
  · replace H:=M.ite_f hb H
    refine w_skip ?_
    refine hK_2 _ _ ?_
    refine w_seq_join (fun a w=>∃ (x0_4 : Sl),Env (⟨27,[]⟩ : Frm) a [(0,(x0_4 : Sl).v)] ∧ Rest w0 w ∧ (slices_Grow_slapi_Value_api_Value_j1 x0_4).wp w.heap Q) ?_ ?_
    · rintro a w ⟨x0_4,hE,hR,H⟩
      unfold slices_Grow_slapi_Value_api_Value_j1 at H
      refine w_seq (fun K hK_5=>?_)
      refine t_region ?_
      refine t_val (v:=(x0_4 : Sl).v) rfl rfl hE rfl (r_move hE rfl) (fun a hE=>?_)
      refine t_val (v:=(x0_4 : Sl).v) rfl rfl hE rfl (r_assign hE rfl) (fun a hE=>?_)
      refine t_nil ?_
      refine hK_5 _ _ ?_
      refine w_ret ?_
      exact hret _ _ _ x0_4 _ hE hR (res_run hE rfl (RV.tmp rfl RV.nil)) rfl H
    · skip
      refine w_seq (fun K hK_6=>?_)
      refine t_region ?_
      refine t_val (v:=.int .i64 x1) rfl rfl hE rfl (r_move hE rfl) (fun a hE=>?_)
      refine t_val (v:=(x0 : Sl).v) rfl rfl hE rfl (r_move hE rfl) (fun a hE=>?_)
      refine t_val (v:=.int .i64 (x0.cap : Int)) rfl rfl hE rfl (r_cap hE rfl 24 un22) (fun a hE=>?_)
      refine t_val (v:=(x0 : Sl).v) rfl rfl hE rfl (r_move hE rfl) (fun a hE=>?_)
      refine t_val (v:=.int .i64 (x0.len : Int)) rfl rfl hE rfl (r_len hE rfl 24 un22) (fun a hE=>?_)
      refine t_val (v:=.int .i64 (IntKind.wrap .i64 ((x0.cap : Int) - (x0.len : Int)))) rfl rfl hE rfl (r_bin hE rfl rfl g_int b_sub) (fun a hE=>?_)
      refine t_val (v:=.int .i64 (IntKind.wrap .i64 (x1 - (IntKind.wrap .i64 ((x0.cap : Int) - (x0.len : Int)))))) rfl rfl hE rfl (r_bin hE rfl rfl g_int b_sub) (fun a hE=>?_)
      refine t_val (v:=.int .i64 (IntKind.wrap .i64 (x1 - (IntKind.wrap .i64 ((x0.cap : Int) - (x0.len : Int)))))) rfl rfl hE rfl (r_assign hE rfl) (fun a hE=>?_)
      refine t_nil ?_
      refine hK_6 _ _ ?_
      refine w_seq (fun K hK_7=>?_)
      refine t_region ?_
      refine t_val (v:=.int .i64 (IntKind.wrap .i64 (x1 - (IntKind.wrap .i64 ((x0.cap : Int) - (x0.len : Int)))))) rfl rfl hE rfl (r_move hE rfl) (fun a hE=>?_)
      refine t_val (v:=.bool (decide ((IntKind.wrap .i64 (x1 - (IntKind.wrap .i64 ((x0.cap : Int) - (x0.len : Int))))) > 0))) rfl rfl hE rfl (r_bin hE rfl rfl g_int b_gtr) (fun a hE=>?_)
      refine t_nil ?_
      refine hK_7 _ _ ?_
      refine w_cond (decide ((IntKind.wrap .i64 (x1 - (IntKind.wrap .i64 ((x0.cap : Int) - (x0.len : Int))))) > 0)) hE rfl (fun hb=>?_) (fun hb=>?_)
      · replace H:=M.ite_t hb H
        refine t_region ?_
        refine t_val (v:=(x0 : Sl).v) rfl rfl hE rfl (r_move hE rfl) (fun a hE=>?_)
        refine t_val (v:=(x0 : Sl).v) rfl rfl hE rfl (r_move hE rfl) (fun a hE=>?_)
        refine t_val (v:=.int .i64 (x0.cap : Int)) rfl rfl hE rfl (r_cap hE rfl 24 un22) (fun a hE=>?_)
        obtain ⟨x20_8,qx20_8,H⟩:=H
        refine t_val (v:=(x20_8 : Sl).v) rfl rfl hE rfl (r_sliceL_h hE rfl rfl un22 sz24 qx20_8) (fun a hE=>?_)
        refine t_val (v:=.int .i64 (IntKind.wrap .i64 (x1 - (IntKind.wrap .i64 ((x0.cap : Int) - (x0.len : Int)))))) rfl rfl hE rfl (r_move hE rfl) (fun a hE=>?_)
        refine t_ex (fun x22_9=>(x22_9 : Sl).v) rfl rfl hR (M.unbind H) (fun Q H=>apM_run hE rfl rfl ap22 un3 rfl H) (fun x22_9 a w ea hR H=>?_)
        have hE:=Env.put_some hE rfl ea; clear ea
        refine t_val (v:=(x0 : Sl).v) rfl rfl hE rfl (r_move hE rfl) (fun a hE=>?_)
        refine t_val (v:=.int .i64 (x0.len : Int)) rfl rfl hE rfl (r_len hE rfl 24 un22) (fun a hE=>?_)
        obtain ⟨x25_10,qx25_10,H⟩:=H
        refine t_val (v:=(x25_10 : Sl).v) rfl rfl hE rfl (r_sliceL_h hE rfl rfl un22 sz24 qx25_10) (fun a hE=>?_)
        refine t_val (v:=(x25_10 : Sl).v) rfl rfl hE rfl (r_assign hE rfl) (fun a hE=>?_)
        refine t_nil ?_
        exact ⟨x25_10,hE.cut (.cons rfl Subs.nil),hR,H⟩
      · replace H:=M.ite_f hb H
        refine w_skip ?_
        exact ⟨x0,hE.cut (.cons rfl Subs.nil),hR,H⟩

def slices_Concat_slapi_Value_api_Value_l2 (c25_25 : Sl) (c26_26 : Int) (self2 : (Sl × Int) → M (Sl)) : (Sl × Int) → M (Sl):=fun s=>match s with
  | (x6_23,x27_24)=>do
    M.ite (decide (x27_24 < c26_26)) (do
      let x29_32 ← ixL c25_25 x27_24 1
      let x30_33 ← ldL x29_32
      let x33_34 ← apL ty_api_Value 4 56 (#[.int .i64 0,.int .i64 0,.string ByteArray.empty,.slice none 0 0] : Array Value) x6_23 x30_33
      self2 (x33_34,IntKind.wrap .i64 (x27_24 + 1))
      ) (do
      M.pure x6_23
      )
def slices_Concat_slapi_Value_api_Value_l1 (c0_7 : Sl) (c9_8 : Sl) (c10_9 : Int) (self1 : (Int × Int) → M (Sl)) : (Int × Int) → M (Sl):=fun s=>match s with
  | (x3_5,x11_6)=>do
    M.ite (decide (x11_6 < c10_9)) (do
      let x13_15 ← ixL c9_8 x11_6 1
      let x14_16 ← ldL x13_15
      M.ite (decide ((IntKind.wrap .i64 (x3_5 + (x14_16.len : Int))) < 0)) (do
        M.fail
        ) (do
        self1 (IntKind.wrap .i64 (x3_5 + (x14_16.len : Int)),IntKind.wrap .i64 (x11_6 + 1))
        )
      ) (do
      let x24_20 ← slices_Grow_slapi_Value_api_Value Sl.nil x3_5
      M.loop (slices_Concat_slapi_Value_api_Value_l2 c0_7 (c0_7.len : Int)) (x24_20,0)
      )
def slices_Concat_slapi_Value_api_Value (x0 : Sl) : M (Sl):=do
  M.loop (slices_Concat_slapi_Value_api_Value_l1 x0 x0 (x0.len : Int)) (0,0)
theorem S_slices_Concat_slapi_Value_api_Value (x0 : Sl) : Sound Go.Proofs.Tryz.prog 82 #[(x0 : Sl).v] (fun (r : Sl)=>(r : Sl).v) (slices_Concat_slapi_Value_api_Value x0):=by
  refine sound_of [(0,(x0 : Sl).v)] Go.Proofs.Tryz.func82 rfl rfl (Nat.le_of_ble_eq_true rfl) (args_of ⟨rfl,trivial⟩) (fun w0 w Q R a hret hE hR H=>?_)
  unfold slices_Concat_slapi_Value_api_Value at H
  refine w_seq (fun K hK_1=>?_)
  refine t_region ?_
  refine t_val (v:=(Sl.nil : Sl).v) rfl rfl hE rfl (r_assign hE rfl) (fun a hE=>?_)
  refine t_nil ?_
  refine hK_1 _ _ ?_
  refine w_seq (fun K hK_2=>?_)
  refine t_region ?_
  refine t_val (v:=.int .i64 0) rfl rfl hE rfl (r_assign hE rfl) (fun a hE=>?_)
  refine t_nil ?_
  refine hK_2 _ _ ?_
  refine w_seq (fun K hK_3=>?_)
  refine w_seq (fun K hK_4=>?_)
  refine t_region ?_
  refine t_val (v:=(x0 : Sl).v) rfl rfl hE rfl (r_move hE rfl) (fun a hE=>?_)
  refine t_val (v:=.int .i64 (x0.len : Int)) rfl rfl hE rfl (r_len hE rfl 22 un89) (fun a hE=>?_)
  refine t_val (v:=.int .i64 0) rfl rfl hE rfl (r_move hE rfl) (fun a hE=>?_)
  refine t_nil ?_
  refine hK_4 _ _ ?_
  refine w_block ?_
  refine l_loop (fun (s : Int × Int)=>(⟨36,[]⟩ : Frm)) (fun (s : Int × Int)=>[(0,(x0 : Sl).v),(3,.int .i64 s.1),(9,(x0 : Sl).v),(10,.int .i64 (x0.len : Int)),(11,.int .i64 s.2)]) H (hE.cut (.cons rfl (.cons rfl (.cons rfl (.cons rfl (.cons rfl Subs.nil)))))) hR (fun Y self1 hY_10 s a w hE hR H=>?_)
  rcases s with ⟨x3_5,x11_6⟩
  replace hE : Env (⟨36,[]⟩ : Frm) a [(0,(x0 : Sl).v),(3,.int .i64 x3_5),(9,(x0 : Sl).v),(10,.int .i64 (x0.len : Int)),(11,.int .i64 x11_6)]:=hE
  replace H : (slices_Concat_slapi_Value_api_Value_l1 x0 x0 (x0.len : Int) self1 (x3_5,x11_6)).wp w.heap Q:=H
  unfold slices_Concat_slapi_Value_api_Value_l1 at H
  refine w_seq (fun K hK_11=>?_)
  refine t_region ?_
  refine t_val (v:=.bool (decide (x11_6 < (x0.len : Int)))) rfl rfl hE rfl (r_bin hE rfl rfl g_int b_lss) (fun a hE=>?_)
  refine t_nil ?_
  refine hK_11 _ _ ?_
  refine w_seq (fun K hK_12=>?_)
  refine w_cond (decide (x11_6 < (x0.len : Int))) hE rfl (fun hb=>?_) (fun hb=>?_)
  · replace H:=M.ite_t hb H
    refine w_skip ?_
    refine hK_12 _ _ ?_
    refine w_seq (fun K hK_13=>?_)
    refine w_block ?_
    refine w_seq (fun K hK_14=>?_)
    refine t_region ?_
    obtain ⟨x13_15,qx13_15,H⟩:=H
    refine t_val (v:=.pointer (some x13_15)) rfl rfl hE rfl (r_indexAddrL hE rfl rfl un89 sz22 qx13_15) (fun a hE=>?_)
    obtain ⟨x14_16,qx14_16,H⟩:=H
    refine t_val (v:=(x14_16 : Sl).v) rfl rfl hE rfl (r_load hE rfl sc22 qx14_16) (fun a hE=>?_)
    refine t_val (v:=(x14_16 : Sl).v) rfl rfl hE rfl (r_assign hE rfl) (fun a hE=>?_)
    refine t_nil ?_
    refine hK_14 _ _ ?_
    refine w_seq (fun K hK_17=>?_)
    refine t_region ?_
    refine t_val (v:=.int .i64 x3_5) rfl rfl hE rfl (r_move hE rfl) (fun a hE=>?_)
    refine t_val (v:=(x14_16 : Sl).v) rfl rfl hE rfl (r_move hE rfl) (fun a hE=>?_)
    refine t_val (v:=.int .i64 (x14_16.len : Int)) rfl rfl hE rfl (r_len hE rfl 24 un22) (fun a hE=>?_)
    refine t_val (v:=.int .i64 (IntKind.wrap .i64 (x3_5 + (x14_16.len : Int)))) rfl rfl hE rfl (r_bin hE rfl rfl g_int b_add) (fun a hE=>?_)
    refine t_val (v:=.int .i64 (IntKind.wrap .i64 (x3_5 + (x14_16.len : Int)))) rfl rfl hE rfl (r_assign hE rfl) (fun a hE=>?_)
    refine t_nil ?_
    refine hK_17 _ _ ?_
    refine w_seq (fun K hK_18=>?_)
    refine t_region ?_
    refine t_val (v:=.int .i64 (IntKind.wrap .i64 (x3_5 + (x14_16.len : Int)))) rfl rfl hE rfl (r_move hE rfl) (fun a hE=>?_)
    refine t_val (v:=.bool (decide ((IntKind.wrap .i64 (x3_5 + (x14_16.len : Int))) < 0))) rfl rfl hE rfl (r_bin hE rfl rfl g_int b_lss) (fun a hE=>?_)
    refine t_nil ?_
    refine hK_18 _ _ ?_
    refine w_cond (decide ((IntKind.wrap .i64 (x3_5 + (x14_16.len : Int))) < 0)) hE rfl (fun hb=>?_) (fun hb=>?_)
    · replace H:=M.ite_t hb H
      exact False.elim H
    · replace H:=M.ite_f hb H
      refine w_skip ?_
      refine hK_13 _ _ ?_
      refine t_region ?_
      refine t_val (v:=.int .i64 (IntKind.wrap .i64 (x11_6 + 1))) rfl rfl hE rfl (r_bin hE rfl rfl g_int b_add) (fun a hE=>?_)
      refine t_val (v:=.int .i64 (IntKind.wrap .i64 (x11_6 + 1))) rfl rfl hE rfl (r_move hE rfl) (fun a hE=>?_)
      refine t_nil ?_
      exact hY_10 (IntKind.wrap .i64 (x3_5 + (x14_16.len : Int)),IntKind.wrap .i64 (x11_6 + 1)) _ _ (hE.cut (.cons rfl (.cons rfl (.cons rfl (.cons rfl (.cons rfl Subs.nil)))))) hR H
  · replace H:=M.ite_f hb H
    refine w_exit ?_
    refine Xu.same ?_
    refine hK_3 _ _ ?_
    refine w_seq (fun K hK_19=>?_)
    refine t_region ?_
    refine t_val (v:=.int .i64 x3_5) rfl rfl hE rfl (r_move hE rfl) (fun a hE=>?_)
    refine t_call hE hR cl_slices_Grow_slapi_Value_api_Value rfl (S_slices_Grow_slapi_Value_api_Value Sl.nil x3_5) (M.unbind H) (fun x24_20 a w ea hR H=>?_)
    have hE:=Env.put_some hE rfl ea; clear ea
    refine t_val (v:=(x24_20 : Sl).v) rfl rfl hE rfl (r_assign hE rfl) (fun a hE=>?_)
    refine t_nil ?_
    refine hK_19 _ _ ?_
    refine w_seq (fun K hK_21=>?_)
    refine w_seq (fun K hK_22=>?_)
    refine t_region ?_
    refine t_val (v:=(x0 : Sl).v) rfl rfl hE rfl (r_move hE rfl) (fun a hE=>?_)
    refine t_val (v:=.int .i64 (x0.len : Int)) rfl rfl hE rfl (r_len hE rfl 22 un89) (fun a hE=>?_)
    refine t_val (v:=.int .i64 0) rfl rfl hE rfl (r_move hE rfl) (fun a hE=>?_)
    refine t_nil ?_
    refine hK_22 _ _ ?_
    refine w_block ?_
    refine l_loop (fun (s : Sl × Int)=>(⟨36,[]⟩ : Frm)) (fun (s : Sl × Int)=>[(6,(s.1 : Sl).v),(25,(x0 : Sl).v),(26,.int .i64 (x0.len : Int)),(27,.int .i64 s.2)]) H (hE.cut (.cons rfl (.cons rfl (.cons rfl (.cons rfl Subs.nil))))) hR (fun Y self2 hY_27 s a w hE hR H=>?_)
    rcases s with ⟨x6_23,x27_24⟩
    replace hE : Env (⟨36,[]⟩ : Frm) a [(6,(x6_23 : Sl).v),(25,(x0 : Sl).v),(26,.int .i64 (x0.len : Int)),(27,.int .i64 x27_24)]:=hE
    replace H : (slices_Concat_slapi_Value_api_Value_l2 x0 (x0.len : Int) self2 (x6_23,x27_24)).wp w.heap Q:=H
    unfold slices_Concat_slapi_Value_api_Value_l2 at H
    refine w_seq (fun K hK_28=>?_)
    refine t_region ?_
    refine t_val (v:=.bool (decide (x27_24 < (x0.len : Int)))) rfl rfl hE rfl (r_bin hE rfl rfl g_int b_lss) (fun a hE=>?_)
    refine t_nil ?_
    refine hK_28 _ _ ?_
    refine w_seq (fun K hK_29=>?_)
    refine w_cond (decide (x27_24 < (x0.len : Int))) hE rfl (fun hb=>?_) (fun hb=>?_)
    · replace H:=M.ite_t hb H
      refine w_skip ?_
      refine hK_29 _ _ ?_
      refine w_seq (fun K hK_30=>?_)
      refine w_block ?_
      refine w_seq (fun K hK_31=>?_)
      refine t_region ?_
      obtain ⟨x29_32,qx29_32,H⟩:=H
      refine t_val (v:=.pointer (some x29_32)) rfl rfl hE rfl (r_indexAddrL hE rfl rfl un89 sz22 qx29_32) (fun a hE=>?_)
      obtain ⟨x30_33,qx30_33,H⟩:=H
      refine t_val (v:=(x30_33 : Sl).v) rfl rfl hE rfl (r_load hE rfl sc22 qx30_33) (fun a hE=>?_)
      refine t_val (v:=(x30_33 : Sl).v) rfl rfl hE rfl (r_assign hE rfl) (fun a hE=>?_)
      refine t_nil ?_
      refine hK_31 _ _ ?_
      refine t_region ?_
      refine t_val (v:=(x6_23 : Sl).v) rfl rfl hE rfl (r_move hE rfl) (fun a hE=>?_)
      refine t_val (v:=(x30_33 : Sl).v) rfl rfl hE rfl (r_move hE rfl) (fun a hE=>?_)
      refine t_ex (fun x33_34=>(x33_34 : Sl).v) rfl rfl hR (M.unbind H) (fun Q H=>ap_run hE rfl rfl ap22 H) (fun x33_34 a w ea hR H=>?_)
      have hE:=Env.put_some hE rfl ea; clear ea
      refine t_val (v:=(x33_34 : Sl).v) rfl rfl hE rfl (r_assign hE rfl) (fun a hE=>?_)
      refine t_nil ?_
      refine hK_30 _ _ ?_
      refine t_region ?_
      refine t_val (v:=.int .i64 (IntKind.wrap .i64 (x27_24 + 1))) rfl rfl hE rfl (r_bin hE rfl rfl g_int b_add) (fun a hE=>?_)
      refine t_val (v:=.int .i64 (IntKind.wrap .i64 (x27_24 + 1))) rfl rfl hE rfl (r_move hE rfl) (fun a hE=>?_)
      refine t_nil ?_
      exact hY_27 (x33_34,IntKind.wrap .i64 (x27_24 + 1)) _ _ (hE.cut (.cons rfl (.cons rfl (.cons rfl (.cons rfl Subs.nil))))) hR H
    · replace H:=M.ite_f hb H
      refine w_exit ?_
      refine Xu.same ?_
      refine hK_21 _ _ ?_
      refine w_seq (fun K hK_35=>?_)
      refine t_region ?_
      refine t_val (v:=(x6_23 : Sl).v) rfl rfl hE rfl (r_move hE rfl) (fun a hE=>?_)
      refine t_val (v:=(x6_23 : Sl).v) rfl rfl hE rfl (r_assign hE rfl) (fun a hE=>?_)
      refine t_nil ?_
      refine hK_35 _ _ ?_
      refine w_ret ?_
      exact hret _ _ _ x6_23 _ hE hR (res_run hE rfl (RV.tmp rfl RV.nil)) rfl H

end Gx
