/- Printed by program: Go functions as Lean programs, each tied to its code. No condition. -/
import Derived.Test.YthelieedlghccaaGreatDoorP0
import Derived.Test.YthelieedlghccaaGreatDoorP1
import Derived.Test.YthelieedlghccaaGreatDoorP2
import Derived.Test.YthelieedlghccaaGreatDoorP3
set_option linter.unusedVariables false
set_option linter.unusedSimpArgs false
namespace Gx
open Go
set_option linter.unusedVariables false
set_option maxRecDepth 100000
noncomputable def ro178_6 : Array Oper := opsOf Go.Proofs.Tryz.f178 6
def tE178_6 : List (List Nat) := [[], [], [], [], [3], [], [], [6], [5, 7], [8], [], [], [10, 11], [12], [0, 1, 0, 1, 5, 6, 7, 8, 9, 13], [14, 9, 0, 1, 5, 6, 7, 8, 9, 13], [2, 4, 0, 1, 2, 3, 4, 5, 6, 7, 8, 9, 10, 11, 12, 13, 14, 15], [16, 13, 15, 0, 1, 2, 3, 4, 5, 6, 7, 8, 9, 10, 11, 12, 13, 14, 15]]
def tC178_6 : List (List Nat) := [[], [], [], [], [3], [], [], [6], [5, 7], [8], [], [], [10, 11], [12], [0, 1], [9, 14], [2, 4], [13, 16]]
def tW178_6 : List (List Nat) := [[], [], [], [], [3], [], [], [6], [5, 6, 7], [5, 6, 7, 8], [], [], [10, 11], [10, 11, 12], [0, 1, 5, 6, 7, 8, 9, 10, 11, 12, 13], [0, 1, 5, 6, 7, 8, 9, 10, 11, 12, 13, 14], [0, 1, 2, 3, 4, 5, 6, 7, 8, 9, 10, 11, 12, 13, 14, 15], [0, 1, 2, 3, 4, 5, 6, 7, 8, 9, 10, 11, 12, 13, 14, 15, 16]]
theorem tb178_6 : tabAt Go.Proofs.Tryz.f178 6 tE178_6 tC178_6 tW178_6 = true := by kernel_rfl
theorem tb178_6m : tabMB 18 tE178_6 tC178_6 tW178_6 [0, 0, 0, 0, 8, 0, 0, 64, 160, 256, 0, 0, 3072, 4096, 9187, 25571, 65535, 131071] [0, 0, 0, 0, 8, 0, 0, 64, 160, 256, 0, 0, 3072, 4096, 3, 16896, 20, 73728] [0, 0, 0, 0, 8, 0, 0, 64, 224, 480, 0, 0, 3072, 7168, 16355, 32739, 65535, 131071] = true := by kernel_rfl
def slices_insertionSortCmpFunc_slapi_Value_j1 (self1 : (Int) → M (Unit)) (self2 : (Int) → M (Unit)) (c0_21 : Sl) (c8_25 : Int) (c9_26 : Int) (x34_20 : Bool) : M (Unit) := do
  M.ite x34_20 (do
    let x45_28 ← ixL c0_21 (IntKind.wrap .i64 (c9_26 - 1)) 1
    let x49_29 ← ixL c0_21 c9_26 1
    let x46_30 ← ldL x45_28
    let x50_31 ← ldL x49_29
    let x51_32 ← ixL c0_21 c9_26 1
    stV x51_32 ((x46_30 : Sl).v)
    let x52_34 ← ixL c0_21 (IntKind.wrap .i64 (c9_26 - 1)) 1
    stV x52_34 ((x50_31 : Sl).v)
    self2 (IntKind.wrap .i64 (c9_26 - 1))
    ) (do
    self1 (IntKind.wrap .i64 (c8_25 + 1))
    )
noncomputable def ro178_4 : Array Oper := opsOf Go.Proofs.Tryz.f178 4
def tE178_4 : List (List Nat) := [[], [], [0, 1], [2], [3], [3], [3], [5, 6, 3], [7, 3], [3], [3], [10, 3], [9, 11, 3], [12, 3], [4, 8, 13, 3, 3], [14, 3], [3, 15]]
def tC178_4 : List (List Nat) := [[], [], [0, 1], [2], [3], [3], [3], [3, 5, 6], [3, 7], [3], [3], [3, 10], [3, 9, 11], [3, 12], [3, 4, 8, 13], [3, 14], [3, 15]]
def tW178_4 : List (List Nat) := [[], [], [0, 1], [0, 1, 2], [0, 1, 2, 3], [0, 1, 2, 3], [0, 1, 2, 3], [0, 1, 2, 3, 5, 6], [0, 1, 2, 3, 5, 6, 7], [0, 1, 2, 3], [0, 1, 2, 3], [0, 1, 2, 3, 10], [0, 1, 2, 3, 9, 10, 11], [0, 1, 2, 3, 9, 10, 11, 12], [0, 1, 2, 3, 4, 5, 6, 7, 8, 9, 10, 11, 12, 13], [0, 1, 2, 3, 4, 5, 6, 7, 8, 9, 10, 11, 12, 13, 14], [0, 1, 2, 3, 4, 5, 6, 7, 8, 9, 10, 11, 12, 13, 14, 15]]
theorem tb178_4 : tabAt Go.Proofs.Tryz.f178 4 tE178_4 tC178_4 tW178_4 = true := by kernel_rfl
theorem tb178_4m : tabMB 17 tE178_4 tC178_4 tW178_4 [0, 0, 3, 4, 8, 8, 8, 104, 136, 8, 8, 1032, 2568, 4104, 8472, 16392, 32776] [0, 0, 3, 4, 8, 8, 8, 104, 136, 8, 8, 1032, 2568, 4104, 8472, 16392, 32776] [0, 0, 3, 7, 15, 15, 15, 111, 239, 15, 15, 1039, 3599, 7695, 16383, 32767, 65535] = true := by kernel_rfl
def slices_insertionSortCmpFunc_slapi_Value_l2 (self1 : (Int) → M (Unit)) (c0_13 : Sl) (c1_14 : Int) (c3_16 : Value) (c8_17 : Int) (self2 : (Int) → M (Unit)) : (Int) → M (Unit) := fun s => match s with
  | x9_12 => do
    M.ite (decide (x9_12 > c1_14)) (do
      let x25_37 ← ixL c0_13 x9_12 1
      let x30_38 ← ixL c0_13 (IntKind.wrap .i64 (x9_12 - 1)) 1
      let x26_39 ← ldL x25_37
      let x31_40 ← ldL x30_38
      let x32_41 ← callW Go.Proofs.Tryz.prog (fun r : Int => .int .i64 r) c3_16 [(x26_39 : Sl).v, (x31_40 : Sl).v]
      slices_insertionSortCmpFunc_slapi_Value_j1 self1 self2 c0_13 c8_17 x9_12 (decide (x32_41 < 0))
      ) (do
      slices_insertionSortCmpFunc_slapi_Value_j1 self1 self2 c0_13 c8_17 x9_12 false
      )
def slices_insertionSortCmpFunc_slapi_Value_l1 (c0_3 : Sl) (c1_4 : Int) (c2_5 : Int) (c3_6 : Value) (self1 : (Int) → M (Unit)) : (Int) → M (Unit) := fun s => match s with
  | x8_2 => do
    M.ite (decide (x8_2 < c2_5)) (do
      M.loop (slices_insertionSortCmpFunc_slapi_Value_l2 self1 c0_3 c1_4 c3_6 x8_2) x8_2
      ) (do
      M.pure ()
      )
def slices_insertionSortCmpFunc_slapi_Value (x0 : Sl) (x1 : Int) (x2 : Int) (x3 : Value) : M (Unit) := do
  M.loop (slices_insertionSortCmpFunc_slapi_Value_l1 x0 x1 x2 x3) (IntKind.wrap .i64 (x1 + 1))
theorem S_slices_insertionSortCmpFunc_slapi_Value (x0 : Sl) (x1 : Int) (x2 : Int) (x3 : Value) : Sound Go.Proofs.Tryz.prog 178 #[(x0 : Sl).v, .int .i64 x1, .int .i64 x2, x3] (fun (r : Unit) => .tuple #[]) (slices_insertionSortCmpFunc_slapi_Value x0 x1 x2 x3) := by
  refine sound_of [(0, (x0 : Sl).v), (1, .int .i64 x1), (2, .int .i64 x2), (3, x3)] Go.Proofs.Tryz.func178 rfl rfl (Nat.le_of_ble_eq_true rfl) (args_of ⟨rfl, rfl, rfl, rfl, trivial⟩) (fun w0 w Q R a hret hE hR H => ?_)
  unfold slices_insertionSortCmpFunc_slapi_Value at H
  refine w_seq (fun K hK_1 => ?_)
  refine t_region ?_
  refine t_val (v := .int .i64 x1) rfl rfl hE rfl (r_move hE rfl) (fun a hE => ?_)
  refine t_val (v := .int .i64 (IntKind.wrap .i64 (x1 + 1))) rfl rfl hE rfl (r_bin hE rfl rfl g_int b_add) (fun a hE => ?_)
  refine t_val (v := .int .i64 (IntKind.wrap .i64 (x1 + 1))) rfl rfl hE rfl (r_assign hE rfl) (fun a hE => ?_)
  refine t_nil ?_
  refine hK_1 _ _ ?_
  refine w_block ?_
  refine l_loop (fun (s : Int) => (⟨53, []⟩ : Frm)) (fun (s : Int) => [(0, (x0 : Sl).v), (1, .int .i64 x1), (2, .int .i64 x2), (3, x3), (8, .int .i64 s)]) H (hE.cut (.cons rfl (.cons rfl (.cons rfl (.cons rfl (.cons rfl Subs.nil)))))) hR (fun Y self1 hY_7 x8_2 a w hE hR H => ?_)
  replace hE : Env (⟨53, []⟩ : Frm) a [(0, (x0 : Sl).v), (1, .int .i64 x1), (2, .int .i64 x2), (3, x3), (8, .int .i64 x8_2)] := hE
  replace H : (slices_insertionSortCmpFunc_slapi_Value_l1 x0 x1 x2 x3 self1 x8_2).wp w.heap Q := H
  unfold slices_insertionSortCmpFunc_slapi_Value_l1 at H
  refine w_seq (fun K hK_8 => ?_)
  refine w_seq (fun K hK_9 => ?_)
  refine t_region ?_
  refine t_val (v := .int .i64 x8_2) rfl rfl hE rfl (r_move hE rfl) (fun a hE => ?_)
  refine t_val (v := .int .i64 x2) rfl rfl hE rfl (r_move hE rfl) (fun a hE => ?_)
  refine t_val (v := .bool (decide (x8_2 < x2))) rfl rfl hE rfl (r_bin hE rfl rfl g_int b_lss) (fun a hE => ?_)
  refine t_nil ?_
  refine hK_9 _ _ ?_
  refine w_cond (decide (x8_2 < x2)) hE rfl (fun hb => ?_) (fun hb => ?_)
  · replace H := M.ite_t hb H
    refine w_skip ?_
    refine hK_8 _ _ ?_
    refine w_seq (fun K hK_10 => ?_)
    refine w_block ?_
    refine w_seq (fun K hK_11 => ?_)
    refine t_region ?_
    refine t_val (v := .int .i64 x8_2) rfl rfl hE rfl (r_move hE rfl) (fun a hE => ?_)
    refine t_val (v := .int .i64 x8_2) rfl rfl hE rfl (r_assign hE rfl) (fun a hE => ?_)
    refine t_nil ?_
    refine hK_11 _ _ ?_
    refine w_block ?_
    refine l_loop (fun (s : Int) => (⟨53, []⟩ : Frm)) (fun (s : Int) => [(0, (x0 : Sl).v), (1, .int .i64 x1), (2, .int .i64 x2), (3, x3), (8, .int .i64 x8_2), (9, .int .i64 s)]) H (hE.cut (.cons rfl (.cons rfl (.cons rfl (.cons rfl (.cons rfl (.cons rfl Subs.nil))))))) hR (fun Y self2 hY_18 x9_12 a w hE hR H => ?_)
    replace hE : Env (⟨53, []⟩ : Frm) a [(0, (x0 : Sl).v), (1, .int .i64 x1), (2, .int .i64 x2), (3, x3), (8, .int .i64 x8_2), (9, .int .i64 x9_12)] := hE
    replace H : (slices_insertionSortCmpFunc_slapi_Value_l2 self1 x0 x1 x3 x8_2 self2 x9_12).wp w.heap Q := H
    unfold slices_insertionSortCmpFunc_slapi_Value_l2 at H
    refine w_seq (fun K hK_19 => ?_)
    refine w_seq_join (fun a w => ∃ (x34_20 : Bool), Env (⟨53, []⟩ : Frm) a [(0, (x0 : Sl).v), (1, .int .i64 x1), (2, .int .i64 x2), (3, x3), (8, .int .i64 x8_2), (9, .int .i64 x9_12), (34, .bool x34_20)] ∧ Rest w0 w ∧ (slices_insertionSortCmpFunc_slapi_Value_j1 self1 self2 x0 x8_2 x9_12 x34_20).wp w.heap Q) ?_ ?_
    · rintro a w ⟨x34_20, hE, hR, H⟩
      unfold slices_insertionSortCmpFunc_slapi_Value_j1 at H
      refine w_cond x34_20 hE rfl (fun hb => ?_) (fun hb => ?_)
      · replace H := M.ite_t hb H
        refine w_skip ?_
        refine hK_19 _ _ ?_
        refine w_seq (fun K hK_27 => ?_)
        refine w_block ?_
        obtain ⟨x45_28, qx45_28, H⟩ := H
        obtain ⟨x49_29, qx49_29, H⟩ := H
        obtain ⟨x46_30, qx46_30, H⟩ := H
        obtain ⟨x50_31, qx50_31, H⟩ := H
        obtain ⟨x51_32, qx51_32, H⟩ := H
        refine reg_eq (rops := ro178_6) (by kernel_rfl) ?_
        have hT : Tab ro178_6 _ _ _ := tab_of tb178_6 rfl (by kernel_rfl)
        have hM := TabM.of tb178_6m
        refine d_start (m := 18) (fun w : World => (fun h : Heap => (hcell h x45_28 = some ((x46_30 : Sl).v)) ∧ (hcell h x49_29 = some ((x50_31 : Sl).v))) w.heap) [14, 15, 16, 17] (unb 18 0) mo hR (by kernel_rfl) (by kernel_rfl) (fun w' e => by rw [e]; exact ⟨qx46_30, qx50_31⟩) (fun w hh hR hs => ?_)
        replace H := M.at hh H; clear hh
        refine d_pureg (i := 0) (v := (x0 : Sl).v) (unb 18 1) rfl rfl hT (anyM hM (by kernel_rfl)) hE rfl (wanted_none rfl) (fun w => r_move hE rfl) (fun a hE => ?_)
        refine d_pureg (i := 1) (v := .int .i64 x9_12) (unb 18 3) rfl rfl hT (anyM hM (by kernel_rfl)) hE rfl (wanted_none rfl) (fun w => r_move hE rfl) (fun a hE => ?_)
        refine d_pureg (i := 2) (v := (x0 : Sl).v) (unb 18 7) rfl rfl hT (anyM hM (by kernel_rfl)) hE rfl (wanted_none rfl) (fun w => r_move hE rfl) (fun a hE => ?_)
        refine d_pureg (i := 3) (v := .int .i64 x9_12) (unb 18 15) rfl rfl hT (anyM hM (by kernel_rfl)) hE rfl (wanted_none rfl) (fun w => r_move hE rfl) (fun a hE => ?_)
        refine d_pureg (i := 4) (v := .int .i64 (IntKind.wrap .i64 (x9_12 - 1))) (unb 18 31) rfl rfl hT (anyM hM (by kernel_rfl)) hE rfl (wanted_none rfl) (fun w => r_bin hE rfl rfl g_int b_sub) (fun a hE => ?_)
        refine d_pureg (i := 5) (v := (x0 : Sl).v) (unb 18 63) rfl rfl hT (anyM hM (by kernel_rfl)) hE rfl (wanted_none rfl) (fun w => r_move hE rfl) (fun a hE => ?_)
        refine d_pureg (i := 6) (v := .int .i64 x9_12) (unb 18 127) rfl rfl hT (anyM hM (by kernel_rfl)) hE rfl (wanted_none rfl) (fun w => r_move hE rfl) (fun a hE => ?_)
        refine d_pureg (i := 7) (v := .int .i64 (IntKind.wrap .i64 (x9_12 - 1))) (unb 18 255) rfl rfl hT (anyM hM (by kernel_rfl)) hE rfl (wanted_none rfl) (fun w => r_bin hE rfl rfl g_int b_sub) (fun a hE => ?_)
        refine d_pureg (i := 8) (v := .pointer (some x45_28)) (unb 18 511) rfl rfl hT (anyM hM (by kernel_rfl)) hE rfl (wanted_none rfl) (fun w => r_indexAddrL hE rfl rfl un89 sz22 qx45_28) (fun a hE => ?_)
        refine d_pureg (i := 10) (v := (x0 : Sl).v) (unb 18 1535) rfl rfl hT (anyM hM (by kernel_rfl)) hE rfl (wanted_none rfl) (fun w => r_move hE rfl) (fun a hE => ?_)
        refine d_pureg (i := 11) (v := .int .i64 x9_12) (unb 18 3583) rfl rfl hT (anyM hM (by kernel_rfl)) hE rfl (wanted_none rfl) (fun w => r_move hE rfl) (fun a hE => ?_)
        refine d_pureg (i := 12) (v := .pointer (some x49_29)) (unb 18 7679) rfl rfl hT (anyM hM (by kernel_rfl)) hE rfl (wanted_none rfl) (fun w => r_indexAddrL hE rfl rfl un89 sz22 qx49_29) (fun a hE => ?_)
        refine d_read (i := 9) (v := (x46_30 : Sl).v) (unb 18 8191) rfl rfl hT (takeM hM (by kernel_rfl)) hE rfl (wanted_none rfl) hs (fun w s => r_load hE rfl sc22 s.1) (fun a hE => ?_)
        refine d_read (i := 13) (v := (x50_31 : Sl).v) (unb 18 16383) rfl rfl hT (takeM hM (by kernel_rfl)) hE rfl (wanted_none rfl) hs (fun w s => r_load hE rfl sc22 s.2) (fun a hE => ?_)
        refine d_pureg (i := 14) (v := .pointer (some x51_32)) (unb 18 32767) rfl rfl hT (anyM hM (by kernel_rfl)) hE rfl (wanted_none rfl) (fun w => r_indexAddrL hE rfl rfl un89 sz22 qx51_32) (fun a hE => ?_)
        obtain ⟨u_33, qu_33, H⟩ := H
        refine d_stlh (i := 15) (unb 18 65535) rfl rfl hT (oneM hM (by kernel_rfl)) rfl hE hR (wanted_none rfl) (r_store hE rfl rfl sz22 qu_33)  (fun a w hE hR hh => ?_)
        replace H := M.at hh H; clear hh
        obtain ⟨x52_34, qx52_34, H⟩ := H
        refine d_pureg (i := 16) (v := .pointer (some x52_34)) (unb 18 131071) rfl rfl hT (anyM hM (by kernel_rfl)) hE rfl (wanted_none rfl) (fun w => r_indexAddrL hE rfl rfl un89 sz22 qx52_34) (fun a hE => ?_)
        obtain ⟨u_35, qu_35, H⟩ := H
        refine d_stlh (i := 17) (unb 18 262143) rfl rfl hT (oneM hM (by kernel_rfl)) rfl hE hR (wanted_none rfl) (r_store hE rfl rfl sz22 qu_35)  (fun a w hE hR hh => ?_)
        replace H := M.at hh H; clear hh
        refine d_done hT (doneM hM (by kernel_rfl)) ?_
        refine hK_27 _ _ ?_
        refine t_region ?_
        refine t_val (v := .int .i64 x9_12) rfl rfl hE rfl (r_move hE rfl) (fun a hE => ?_)
        refine t_val (v := .int .i64 (IntKind.wrap .i64 (x9_12 - 1))) rfl rfl hE rfl (r_bin hE rfl rfl g_int b_sub) (fun a hE => ?_)
        refine t_val (v := .int .i64 (IntKind.wrap .i64 (x9_12 - 1))) rfl rfl hE rfl (r_assign hE rfl) (fun a hE => ?_)
        refine t_nil ?_
        exact hY_18 (IntKind.wrap .i64 (x9_12 - 1)) _ _ (hE.cut (.cons rfl (.cons rfl (.cons rfl (.cons rfl (.cons rfl (.cons rfl Subs.nil))))))) hR H
      · replace H := M.ite_f hb H
        refine w_exit ?_
        refine Xu.same ?_
        refine hK_10 _ _ ?_
        refine t_region ?_
        refine t_val (v := .int .i64 x8_2) rfl rfl hE rfl (r_move hE rfl) (fun a hE => ?_)
        refine t_val (v := .int .i64 (IntKind.wrap .i64 (x8_2 + 1))) rfl rfl hE rfl (r_bin hE rfl rfl g_int b_add) (fun a hE => ?_)
        refine t_val (v := .int .i64 (IntKind.wrap .i64 (x8_2 + 1))) rfl rfl hE rfl (r_assign hE rfl) (fun a hE => ?_)
        refine t_nil ?_
        exact hY_7 (IntKind.wrap .i64 (x8_2 + 1)) _ _ (hE.cut (.cons rfl (.cons rfl (.cons rfl (.cons rfl (.cons rfl Subs.nil)))))) hR H
    · skip
      rcases bool_em (decide (x9_12 > x1)) with hb_36 | hb_36
      · replace H := M.ite_t hb_36 H
        obtain ⟨x25_37, qx25_37, H⟩ := H
        obtain ⟨x30_38, qx30_38, H⟩ := H
        obtain ⟨x26_39, qx26_39, H⟩ := H
        obtain ⟨x31_40, qx31_40, H⟩ := H
        refine reg_eq (rops := ro178_4) (by kernel_rfl) ?_
        have hT : Tab ro178_4 _ _ _ := tab_of tb178_4 rfl (by kernel_rfl)
        have hM := TabM.of tb178_4m
        refine d_start (m := 17) (fun w : World => (fun h : Heap => (hcell h x25_37 = some ((x26_39 : Sl).v)) ∧ (hcell h x30_38 = some ((x31_40 : Sl).v))) w.heap) [14, 15, 16] (unb 17 0) mo hR (by kernel_rfl) (by kernel_rfl) (fun w' e => by rw [e]; exact ⟨qx26_39, qx31_40⟩) (fun w hh hR hs => ?_)
        replace H := M.at hh H; clear hh
        refine d_pureg (i := 0) (v := .int .i64 x9_12) (unb 17 1) rfl rfl hT (anyM hM (by kernel_rfl)) hE rfl (wanted_none rfl) (fun w => r_move hE rfl) (fun a hE => ?_)
        refine d_pureg (i := 1) (v := .int .i64 x1) (unb 17 3) rfl rfl hT (anyM hM (by kernel_rfl)) hE rfl (wanted_none rfl) (fun w => r_move hE rfl) (fun a hE => ?_)
        refine d_pureg (i := 2) (v := .bool (decide (x9_12 > x1))) (unb 17 7) rfl rfl hT (anyM hM (by kernel_rfl)) hE rfl (wanted_none rfl) (fun w => r_bin hE rfl rfl g_int b_gtr) (fun a hE => ?_)
        refine d_pureg (i := 3) (v := .bool (decide (x9_12 > x1))) (unb 17 15) rfl rfl hT (anyM hM (by kernel_rfl)) hE rfl (wanted_none rfl) (fun w => r_move hE rfl) (fun a hE => ?_)
        have hE := hE.reb 21 (decide (x9_12 > x1)) true hb_36 rfl
        replace hE := hE.cut (l' := [(0, (x0 : Sl).v), (1, .int .i64 x1), (2, .int .i64 x2), (3, x3), (8, .int .i64 x8_2), (9, .int .i64 x9_12), (21, .bool true)]) (.cons rfl (.cons rfl (.cons rfl (.cons rfl (.cons rfl (.cons rfl (.cons rfl Subs.nil)))))))
        refine d_pureg (i := 4) (v := x3) (unb 17 31) rfl rfl hT (anyM hM (by kernel_rfl)) hE rfl (wanted_of rfl hE rfl rfl rfl) (fun w => r_move hE rfl) (fun a hE => ?_)
        refine d_pureg (i := 5) (v := (x0 : Sl).v) (unb 17 63) rfl rfl hT (anyM hM (by kernel_rfl)) hE rfl (wanted_of rfl hE rfl rfl rfl) (fun w => r_move hE rfl) (fun a hE => ?_)
        refine d_pureg (i := 6) (v := .int .i64 x9_12) (unb 17 127) rfl rfl hT (anyM hM (by kernel_rfl)) hE rfl (wanted_of rfl hE rfl rfl rfl) (fun w => r_move hE rfl) (fun a hE => ?_)
        refine d_pureg (i := 7) (v := .pointer (some x25_37)) (unb 17 255) rfl rfl hT (anyM hM (by kernel_rfl)) hE rfl (wanted_of rfl hE rfl rfl rfl) (fun w => r_indexAddrL hE rfl rfl un89 sz22 qx25_37) (fun a hE => ?_)
        refine d_pureg (i := 9) (v := (x0 : Sl).v) (unb 17 767) rfl rfl hT (anyM hM (by kernel_rfl)) hE rfl (wanted_of rfl hE rfl rfl rfl) (fun w => r_move hE rfl) (fun a hE => ?_)
        refine d_pureg (i := 10) (v := .int .i64 x9_12) (unb 17 1791) rfl rfl hT (anyM hM (by kernel_rfl)) hE rfl (wanted_of rfl hE rfl rfl rfl) (fun w => r_move hE rfl) (fun a hE => ?_)
        refine d_pureg (i := 11) (v := .int .i64 (IntKind.wrap .i64 (x9_12 - 1))) (unb 17 3839) rfl rfl hT (anyM hM (by kernel_rfl)) hE rfl (wanted_of rfl hE rfl rfl rfl) (fun w => r_bin hE rfl rfl g_int b_sub) (fun a hE => ?_)
        refine d_pureg (i := 12) (v := .pointer (some x30_38)) (unb 17 7935) rfl rfl hT (anyM hM (by kernel_rfl)) hE rfl (wanted_of rfl hE rfl rfl rfl) (fun w => r_indexAddrL hE rfl rfl un89 sz22 qx30_38) (fun a hE => ?_)
        refine d_read (i := 8) (v := (x26_39 : Sl).v) (unb 17 8191) rfl rfl hT (takeM hM (by kernel_rfl)) hE rfl (wanted_of rfl hE rfl rfl rfl) hs (fun w s => r_load hE rfl sc22 s.1) (fun a hE => ?_)
        refine d_read (i := 13) (v := (x31_40 : Sl).v) (unb 17 16383) rfl rfl hT (takeM hM (by kernel_rfl)) hE rfl (wanted_of rfl hE rfl rfl rfl) hs (fun w s => r_load hE rfl sc22 s.2) (fun a hE => ?_)
        refine d_calllW (i := 14) (unb 17 32767) rfl rfl rfl hT (oneM hM (by kernel_rfl)) rfl hE hR (wanted_of rfl hE rfl rfl rfl) rfl rfl (M.unbind H) (fun x32_41 a w ea hR H => ?_)
        have hE := Env.put_some hE rfl ea; clear ea
        refine d_pureg (i := 15) (v := .bool (decide (x32_41 < 0))) (unb 17 65535) rfl rfl hT (anyM hM (by kernel_rfl)) hE rfl (wanted_of rfl hE rfl rfl rfl) (fun w => r_bin hE rfl rfl g_int b_lss) (fun a hE => ?_)
        refine d_pureg (i := 16) (v := .bool (decide (x32_41 < 0))) (unb 17 131071) rfl rfl hT (anyM hM (by kernel_rfl)) hE rfl (wanted_none rfl) (fun w => r_pick_t hE rfl rfl) (fun a hE => ?_)
        refine d_done hT (doneM hM (by kernel_rfl)) ?_
        exact ⟨decide (x32_41 < 0), hE.cut (.cons rfl (.cons rfl (.cons rfl (.cons rfl (.cons rfl (.cons rfl (.cons rfl Subs.nil))))))), hR, H⟩
      · replace H := M.ite_f hb_36 H
        refine reg_eq (rops := ro178_4) (by kernel_rfl) ?_
        have hT : Tab ro178_4 _ _ _ := tab_of tb178_4 rfl (by kernel_rfl)
        have hM := TabM.of tb178_4m
        refine d_start (m := 17) (fun w : World => (fun h : Heap => True) w.heap) [0, 1, 2, 3, 4, 5, 6, 7, 8, 9, 10, 11, 12, 13, 14, 15, 16] (unb 17 0) mo hR (by kernel_rfl) (by kernel_rfl) (fun w' e => by rw [e]; exact trivial) (fun w hh hR hs => ?_)
        replace H := M.at hh H; clear hh
        refine d_pureg (i := 0) (v := .int .i64 x9_12) (unb 17 1) rfl rfl hT (anyM hM (by kernel_rfl)) hE rfl (wanted_none rfl) (fun w => r_move hE rfl) (fun a hE => ?_)
        refine d_pureg (i := 1) (v := .int .i64 x1) (unb 17 3) rfl rfl hT (anyM hM (by kernel_rfl)) hE rfl (wanted_none rfl) (fun w => r_move hE rfl) (fun a hE => ?_)
        refine d_pureg (i := 2) (v := .bool (decide (x9_12 > x1))) (unb 17 7) rfl rfl hT (anyM hM (by kernel_rfl)) hE rfl (wanted_none rfl) (fun w => r_bin hE rfl rfl g_int b_gtr) (fun a hE => ?_)
        refine d_pureg (i := 3) (v := .bool (decide (x9_12 > x1))) (unb 17 15) rfl rfl hT (anyM hM (by kernel_rfl)) hE rfl (wanted_none rfl) (fun w => r_move hE rfl) (fun a hE => ?_)
        have hE := hE.reb 21 (decide (x9_12 > x1)) false hb_36 rfl
        replace hE := hE.cut (l' := [(0, (x0 : Sl).v), (1, .int .i64 x1), (2, .int .i64 x2), (3, x3), (8, .int .i64 x8_2), (9, .int .i64 x9_12), (21, .bool false)]) (.cons rfl (.cons rfl (.cons rfl (.cons rfl (.cons rfl (.cons rfl (.cons rfl Subs.nil)))))))
        refine d_offsM' [(4, some 22), (5, some 23), (6, some 24), (7, some 25), (8, some 26), (9, some 27), (10, some 28), (11, some 29), (12, some 30), (13, some 31), (14, some 32), (15, some 33)] 1 hT hM hE (by kernel_rfl) (m' := 65535) (by kernel_rfl) (fun a hE => ?_)
        refine d_pureg (i := 16) (v := .bool false) (unb 17 131071) rfl rfl hT (anyM hM (by kernel_rfl)) hE rfl (wanted_none rfl) (fun w => r_pick_f hE rfl rfl) (fun a hE => ?_)
        refine d_done hT (doneM hM (by kernel_rfl)) ?_
        exact ⟨false, hE.cut (.cons rfl (.cons rfl (.cons rfl (.cons rfl (.cons rfl (.cons rfl (.cons rfl Subs.nil))))))), hR, H⟩
  · replace H := M.ite_f hb H
    refine w_exit ?_
    refine Xu.same ?_
    exact hret _ _ _ () _ hE hR (res_run hE rfl RV.nil) rfl H

def slices_stableCmpFunc_slapi_Value_j1 (self2 : (Int) → M (Unit)) (c6_42 : Int) : M (Unit) := do
  self2 (IntKind.wrap .i64 (c6_42 * 2))
def slices_stableCmpFunc_slapi_Value_l3 (self2 : (Int) → M (Unit)) (c0_29 : Sl) (c1_30 : Int) (c2_31 : Value) (c6_32 : Int) (self3 : (Int × Int) → M (Unit)) : (Int × Int) → M (Unit) := fun s => match s with
  | (x7_27, x8_28) => do
    M.ite (decide (x8_28 ≤ c1_30)) (do
      let x43_37 ← slices_symMergeCmpFunc_slapi_Value c0_29 x7_27 (IntKind.wrap .i64 (x7_27 + c6_32)) x8_28 c2_31
      self3 (x8_28, IntKind.wrap .i64 (x8_28 + (IntKind.wrap .i64 (2 * c6_32))))
      ) (do
      M.ite (decide ((IntKind.wrap .i64 (x7_27 + c6_32)) < c1_30)) (do
        let x60_45 ← slices_symMergeCmpFunc_slapi_Value c0_29 x7_27 (IntKind.wrap .i64 (x7_27 + c6_32)) c1_30 c2_31
        slices_stableCmpFunc_slapi_Value_j1 self2 c6_32
        ) (do
        slices_stableCmpFunc_slapi_Value_j1 self2 c6_32
        )
      )
def slices_stableCmpFunc_slapi_Value_l2 (c0_19 : Sl) (c1_20 : Int) (c2_21 : Value) (self2 : (Int) → M (Unit)) : (Int) → M (Unit) := fun s => match s with
  | x6_18 => do
    M.ite (decide (x6_18 < c1_20)) (do
      M.loop (slices_stableCmpFunc_slapi_Value_l3 self2 c0_19 c1_20 c2_21 x6_18) (0, IntKind.wrap .i64 (2 * x6_18))
      ) (do
      M.pure ()
      )
def slices_stableCmpFunc_slapi_Value_l1 (c0_6 : Sl) (c1_7 : Int) (c2_8 : Value) (c6_9 : Int) (self1 : (Int × Int) → M (Unit)) : (Int × Int) → M (Unit) := fun s => match s with
  | (x7_4, x8_5) => do
    M.ite (decide (x8_5 ≤ c1_7)) (do
      let x18_14 ← slices_insertionSortCmpFunc_slapi_Value c0_6 x7_4 x8_5 c2_8
      self1 (x8_5, IntKind.wrap .i64 (x8_5 + c6_9))
      ) (do
      let x27_17 ← slices_insertionSortCmpFunc_slapi_Value c0_6 x7_4 c1_7 c2_8
      M.loop (slices_stableCmpFunc_slapi_Value_l2 c0_6 c1_7 c2_8) c6_9
      )
def slices_stableCmpFunc_slapi_Value (x0 : Sl) (x1 : Int) (x2 : Value) : M (Unit) := do
  M.loop (slices_stableCmpFunc_slapi_Value_l1 x0 x1 x2 20) (0, 20)
theorem S_slices_stableCmpFunc_slapi_Value (x0 : Sl) (x1 : Int) (x2 : Value) : Sound Go.Proofs.Tryz.prog 137 #[(x0 : Sl).v, .int .i64 x1, x2] (fun (r : Unit) => .tuple #[]) (slices_stableCmpFunc_slapi_Value x0 x1 x2) := by
  refine sound_of [(0, (x0 : Sl).v), (1, .int .i64 x1), (2, x2)] Go.Proofs.Tryz.func137 rfl rfl (Nat.le_of_ble_eq_true rfl) (args_of ⟨rfl, rfl, rfl, trivial⟩) (fun w0 w Q R a hret hE hR H => ?_)
  unfold slices_stableCmpFunc_slapi_Value at H
  refine w_seq (fun K hK_1 => ?_)
  refine t_region ?_
  refine t_val (v := .int .i64 20) rfl rfl hE rfl (r_assign hE rfl) (fun a hE => ?_)
  refine t_nil ?_
  refine hK_1 _ _ ?_
  refine w_seq (fun K hK_2 => ?_)
  refine t_region ?_
  refine t_val (v := .int .i64 20) rfl rfl hE rfl (r_move hE rfl) (fun a hE => ?_)
  refine t_val (v := .int .i64 0) rfl rfl hE rfl (r_assign hE rfl) (fun a hE => ?_)
  refine t_val (v := .int .i64 20) rfl rfl hE rfl (r_assign hE rfl) (fun a hE => ?_)
  refine t_nil ?_
  refine hK_2 _ _ ?_
  refine w_seq (fun K hK_3 => ?_)
  refine w_block ?_
  refine l_loop (fun (s : Int × Int) => (⟨63, []⟩ : Frm)) (fun (s : Int × Int) => [(0, (x0 : Sl).v), (1, .int .i64 x1), (2, x2), (6, .int .i64 20), (7, .int .i64 s.1), (8, .int .i64 s.2)]) H (hE.cut (.cons rfl (.cons rfl (.cons rfl (.cons rfl (.cons rfl (.cons rfl Subs.nil))))))) hR (fun Y self1 hY_10 s a w hE hR H => ?_)
  rcases s with ⟨x7_4, x8_5⟩
  replace hE : Env (⟨63, []⟩ : Frm) a [(0, (x0 : Sl).v), (1, .int .i64 x1), (2, x2), (6, .int .i64 20), (7, .int .i64 x7_4), (8, .int .i64 x8_5)] := hE
  replace H : (slices_stableCmpFunc_slapi_Value_l1 x0 x1 x2 20 self1 (x7_4, x8_5)).wp w.heap Q := H
  unfold slices_stableCmpFunc_slapi_Value_l1 at H
  refine w_seq (fun K hK_11 => ?_)
  refine w_seq (fun K hK_12 => ?_)
  refine t_region ?_
  refine t_val (v := .int .i64 x8_5) rfl rfl hE rfl (r_move hE rfl) (fun a hE => ?_)
  refine t_val (v := .int .i64 x1) rfl rfl hE rfl (r_move hE rfl) (fun a hE => ?_)
  refine t_val (v := .bool (decide (x8_5 ≤ x1))) rfl rfl hE rfl (r_bin hE rfl rfl g_int b_leq) (fun a hE => ?_)
  refine t_nil ?_
  refine hK_12 _ _ ?_
  refine w_cond (decide (x8_5 ≤ x1)) hE rfl (fun hb => ?_) (fun hb => ?_)
  · replace H := M.ite_t hb H
    refine w_skip ?_
    refine hK_11 _ _ ?_
    refine w_block ?_
    refine w_seq (fun K hK_13 => ?_)
    refine t_region ?_
    refine t_val (v := (x0 : Sl).v) rfl rfl hE rfl (r_move hE rfl) (fun a hE => ?_)
    refine t_val (v := .int .i64 x7_4) rfl rfl hE rfl (r_move hE rfl) (fun a hE => ?_)
    refine t_val (v := .int .i64 x8_5) rfl rfl hE rfl (r_move hE rfl) (fun a hE => ?_)
    refine t_val (v := x2) rfl rfl hE rfl (r_move hE rfl) (fun a hE => ?_)
    refine t_call hE hR cl_slices_insertionSortCmpFunc_slapi_Value rfl (S_slices_insertionSortCmpFunc_slapi_Value x0 x7_4 x8_5 x2) (M.unbind H) (fun x18_14 a w ea hR H => ?_)
    have hE := Env.put_some hE rfl ea; clear ea
    refine t_nil ?_
    refine hK_13 _ _ ?_
    refine w_seq (fun K hK_15 => ?_)
    refine t_region ?_
    refine t_val (v := .int .i64 x8_5) rfl rfl hE rfl (r_move hE rfl) (fun a hE => ?_)
    refine t_val (v := .int .i64 x8_5) rfl rfl hE rfl (r_assign hE rfl) (fun a hE => ?_)
    refine t_nil ?_
    refine hK_15 _ _ ?_
    refine t_region ?_
    refine t_val (v := .int .i64 x8_5) rfl rfl hE rfl (r_move hE rfl) (fun a hE => ?_)
    refine t_val (v := .int .i64 20) rfl rfl hE rfl (r_move hE rfl) (fun a hE => ?_)
    refine t_val (v := .int .i64 (IntKind.wrap .i64 (x8_5 + 20))) rfl rfl hE rfl (r_bin hE rfl rfl g_int b_add) (fun a hE => ?_)
    refine t_val (v := .int .i64 (IntKind.wrap .i64 (x8_5 + 20))) rfl rfl hE rfl (r_assign hE rfl) (fun a hE => ?_)
    refine t_nil ?_
    exact hY_10 (x8_5, IntKind.wrap .i64 (x8_5 + 20)) _ _ (hE.cut (.cons rfl (.cons rfl (.cons rfl (.cons rfl (.cons rfl (.cons rfl Subs.nil))))))) hR H
  · replace H := M.ite_f hb H
    refine w_exit ?_
    refine Xu.same ?_
    refine hK_3 _ _ ?_
    refine w_seq (fun K hK_16 => ?_)
    refine t_region ?_
    refine t_val (v := (x0 : Sl).v) rfl rfl hE rfl (r_move hE rfl) (fun a hE => ?_)
    refine t_val (v := .int .i64 x7_4) rfl rfl hE rfl (r_move hE rfl) (fun a hE => ?_)
    refine t_val (v := .int .i64 x1) rfl rfl hE rfl (r_move hE rfl) (fun a hE => ?_)
    refine t_val (v := x2) rfl rfl hE rfl (r_move hE rfl) (fun a hE => ?_)
    refine t_call hE hR cl_slices_insertionSortCmpFunc_slapi_Value rfl (S_slices_insertionSortCmpFunc_slapi_Value x0 x7_4 x1 x2) (M.unbind H) (fun x27_17 a w ea hR H => ?_)
    have hE := Env.put_some hE rfl ea; clear ea
    refine t_nil ?_
    refine hK_16 _ _ ?_
    refine w_block ?_
    refine l_loop (fun (s : Int) => (⟨63, []⟩ : Frm)) (fun (s : Int) => [(0, (x0 : Sl).v), (1, .int .i64 x1), (2, x2), (6, .int .i64 s)]) H (hE.cut (.cons rfl (.cons rfl (.cons rfl (.cons rfl Subs.nil))))) hR (fun Y self2 hY_22 x6_18 a w hE hR H => ?_)
    replace hE : Env (⟨63, []⟩ : Frm) a [(0, (x0 : Sl).v), (1, .int .i64 x1), (2, x2), (6, .int .i64 x6_18)] := hE
    replace H : (slices_stableCmpFunc_slapi_Value_l2 x0 x1 x2 self2 x6_18).wp w.heap Q := H
    unfold slices_stableCmpFunc_slapi_Value_l2 at H
    refine w_seq (fun K hK_23 => ?_)
    refine w_seq (fun K hK_24 => ?_)
    refine t_region ?_
    refine t_val (v := .int .i64 x6_18) rfl rfl hE rfl (r_move hE rfl) (fun a hE => ?_)
    refine t_val (v := .int .i64 x1) rfl rfl hE rfl (r_move hE rfl) (fun a hE => ?_)
    refine t_val (v := .bool (decide (x6_18 < x1))) rfl rfl hE rfl (r_bin hE rfl rfl g_int b_lss) (fun a hE => ?_)
    refine t_nil ?_
    refine hK_24 _ _ ?_
    refine w_cond (decide (x6_18 < x1)) hE rfl (fun hb => ?_) (fun hb => ?_)
    · replace H := M.ite_t hb H
      refine w_skip ?_
      refine hK_23 _ _ ?_
      refine w_block ?_
      refine w_seq (fun K hK_25 => ?_)
      refine t_region ?_
      refine t_val (v := .int .i64 x6_18) rfl rfl hE rfl (r_move hE rfl) (fun a hE => ?_)
      refine t_val (v := .int .i64 (IntKind.wrap .i64 (2 * x6_18))) rfl rfl hE rfl (r_bin hE rfl rfl g_int b_mul) (fun a hE => ?_)
      refine t_val (v := .int .i64 0) rfl rfl hE rfl (r_assign hE rfl) (fun a hE => ?_)
      refine t_val (v := .int .i64 (IntKind.wrap .i64 (2 * x6_18))) rfl rfl hE rfl (r_assign hE rfl) (fun a hE => ?_)
      refine t_nil ?_
      refine hK_25 _ _ ?_
      refine w_seq (fun K hK_26 => ?_)
      refine w_block ?_
      refine l_loop (fun (s : Int × Int) => (⟨63, []⟩ : Frm)) (fun (s : Int × Int) => [(0, (x0 : Sl).v), (1, .int .i64 x1), (2, x2), (6, .int .i64 x6_18), (7, .int .i64 s.1), (8, .int .i64 s.2)]) H (hE.cut (.cons rfl (.cons rfl (.cons rfl (.cons rfl (.cons rfl (.cons rfl Subs.nil))))))) hR (fun Y self3 hY_33 s a w hE hR H => ?_)
      rcases s with ⟨x7_27, x8_28⟩
      replace hE : Env (⟨63, []⟩ : Frm) a [(0, (x0 : Sl).v), (1, .int .i64 x1), (2, x2), (6, .int .i64 x6_18), (7, .int .i64 x7_27), (8, .int .i64 x8_28)] := hE
      replace H : (slices_stableCmpFunc_slapi_Value_l3 self2 x0 x1 x2 x6_18 self3 (x7_27, x8_28)).wp w.heap Q := H
      unfold slices_stableCmpFunc_slapi_Value_l3 at H
      refine w_seq (fun K hK_34 => ?_)
      refine w_seq (fun K hK_35 => ?_)
      refine t_region ?_
      refine t_val (v := .int .i64 x8_28) rfl rfl hE rfl (r_move hE rfl) (fun a hE => ?_)
      refine t_val (v := .int .i64 x1) rfl rfl hE rfl (r_move hE rfl) (fun a hE => ?_)
      refine t_val (v := .bool (decide (x8_28 ≤ x1))) rfl rfl hE rfl (r_bin hE rfl rfl g_int b_leq) (fun a hE => ?_)
      refine t_nil ?_
      refine hK_35 _ _ ?_
      refine w_cond (decide (x8_28 ≤ x1)) hE rfl (fun hb => ?_) (fun hb => ?_)
      · replace H := M.ite_t hb H
        refine w_skip ?_
        refine hK_34 _ _ ?_
        refine w_block ?_
        refine w_seq (fun K hK_36 => ?_)
        refine t_region ?_
        refine t_val (v := (x0 : Sl).v) rfl rfl hE rfl (r_move hE rfl) (fun a hE => ?_)
        refine t_val (v := .int .i64 x7_27) rfl rfl hE rfl (r_move hE rfl) (fun a hE => ?_)
        refine t_val (v := .int .i64 x7_27) rfl rfl hE rfl (r_move hE rfl) (fun a hE => ?_)
        refine t_val (v := .int .i64 x6_18) rfl rfl hE rfl (r_move hE rfl) (fun a hE => ?_)
        refine t_val (v := .int .i64 (IntKind.wrap .i64 (x7_27 + x6_18))) rfl rfl hE rfl (r_bin hE rfl rfl g_int b_add) (fun a hE => ?_)
        refine t_val (v := .int .i64 x8_28) rfl rfl hE rfl (r_move hE rfl) (fun a hE => ?_)
        refine t_val (v := x2) rfl rfl hE rfl (r_move hE rfl) (fun a hE => ?_)
        refine t_call hE hR cl_slices_symMergeCmpFunc_slapi_Value rfl (S_slices_symMergeCmpFunc_slapi_Value x0 x7_27 (IntKind.wrap .i64 (x7_27 + x6_18)) x8_28 x2) (M.unbind H) (fun x43_37 a w ea hR H => ?_)
        have hE := Env.put_some hE rfl ea; clear ea
        refine t_nil ?_
        refine hK_36 _ _ ?_
        refine w_seq (fun K hK_38 => ?_)
        refine t_region ?_
        refine t_val (v := .int .i64 x8_28) rfl rfl hE rfl (r_move hE rfl) (fun a hE => ?_)
        refine t_val (v := .int .i64 x8_28) rfl rfl hE rfl (r_assign hE rfl) (fun a hE => ?_)
        refine t_nil ?_
        refine hK_38 _ _ ?_
        refine t_region ?_
        refine t_val (v := .int .i64 x8_28) rfl rfl hE rfl (r_move hE rfl) (fun a hE => ?_)
        refine t_val (v := .int .i64 x6_18) rfl rfl hE rfl (r_move hE rfl) (fun a hE => ?_)
        refine t_val (v := .int .i64 (IntKind.wrap .i64 (2 * x6_18))) rfl rfl hE rfl (r_bin hE rfl rfl g_int b_mul) (fun a hE => ?_)
        refine t_val (v := .int .i64 (IntKind.wrap .i64 (x8_28 + (IntKind.wrap .i64 (2 * x6_18))))) rfl rfl hE rfl (r_bin hE rfl rfl g_int b_add) (fun a hE => ?_)
        refine t_val (v := .int .i64 (IntKind.wrap .i64 (x8_28 + (IntKind.wrap .i64 (2 * x6_18))))) rfl rfl hE rfl (r_assign hE rfl) (fun a hE => ?_)
        refine t_nil ?_
        exact hY_33 (x8_28, IntKind.wrap .i64 (x8_28 + (IntKind.wrap .i64 (2 * x6_18)))) _ _ (hE.cut (.cons rfl (.cons rfl (.cons rfl (.cons rfl (.cons rfl (.cons rfl Subs.nil))))))) hR H
      · replace H := M.ite_f hb H
        refine w_exit ?_
        refine Xu.same ?_
        refine hK_26 _ _ ?_
        refine w_seq_join (fun a w => Env (⟨63, []⟩ : Frm) a [(0, (x0 : Sl).v), (1, .int .i64 x1), (2, x2), (6, .int .i64 x6_18)] ∧ Rest w0 w ∧ (slices_stableCmpFunc_slapi_Value_j1 self2 x6_18).wp w.heap Q) ?_ ?_
        · rintro a w ⟨hE, hR, H⟩
          unfold slices_stableCmpFunc_slapi_Value_j1 at H
          refine t_region ?_
          refine t_val (v := .int .i64 x6_18) rfl rfl hE rfl (r_move hE rfl) (fun a hE => ?_)
          refine t_val (v := .int .i64 (IntKind.wrap .i64 (x6_18 * 2))) rfl rfl hE rfl (r_bin hE rfl rfl g_int b_mul) (fun a hE => ?_)
          refine t_val (v := .int .i64 (IntKind.wrap .i64 (x6_18 * 2))) rfl rfl hE rfl (r_assign hE rfl) (fun a hE => ?_)
          refine t_nil ?_
          exact hY_22 (IntKind.wrap .i64 (x6_18 * 2)) _ _ (hE.cut (.cons rfl (.cons rfl (.cons rfl (.cons rfl Subs.nil))))) hR H
        · skip
          refine w_seq (fun K hK_43 => ?_)
          refine t_region ?_
          refine t_val (v := .int .i64 x7_27) rfl rfl hE rfl (r_move hE rfl) (fun a hE => ?_)
          refine t_val (v := .int .i64 x6_18) rfl rfl hE rfl (r_move hE rfl) (fun a hE => ?_)
          refine t_val (v := .int .i64 (IntKind.wrap .i64 (x7_27 + x6_18))) rfl rfl hE rfl (r_bin hE rfl rfl g_int b_add) (fun a hE => ?_)
          refine t_val (v := .int .i64 (IntKind.wrap .i64 (x7_27 + x6_18))) rfl rfl hE rfl (r_assign hE rfl) (fun a hE => ?_)
          refine t_nil ?_
          refine hK_43 _ _ ?_
          refine w_seq (fun K hK_44 => ?_)
          refine t_region ?_
          refine t_val (v := .int .i64 (IntKind.wrap .i64 (x7_27 + x6_18))) rfl rfl hE rfl (r_move hE rfl) (fun a hE => ?_)
          refine t_val (v := .int .i64 x1) rfl rfl hE rfl (r_move hE rfl) (fun a hE => ?_)
          refine t_val (v := .bool (decide ((IntKind.wrap .i64 (x7_27 + x6_18)) < x1))) rfl rfl hE rfl (r_bin hE rfl rfl g_int b_lss) (fun a hE => ?_)
          refine t_nil ?_
          refine hK_44 _ _ ?_
          refine w_cond (decide ((IntKind.wrap .i64 (x7_27 + x6_18)) < x1)) hE rfl (fun hb => ?_) (fun hb => ?_)
          · replace H := M.ite_t hb H
            refine t_region ?_
            refine t_val (v := (x0 : Sl).v) rfl rfl hE rfl (r_move hE rfl) (fun a hE => ?_)
            refine t_val (v := .int .i64 x7_27) rfl rfl hE rfl (r_move hE rfl) (fun a hE => ?_)
            refine t_val (v := .int .i64 (IntKind.wrap .i64 (x7_27 + x6_18))) rfl rfl hE rfl (r_move hE rfl) (fun a hE => ?_)
            refine t_val (v := .int .i64 x1) rfl rfl hE rfl (r_move hE rfl) (fun a hE => ?_)
            refine t_val (v := x2) rfl rfl hE rfl (r_move hE rfl) (fun a hE => ?_)
            refine t_call hE hR cl_slices_symMergeCmpFunc_slapi_Value rfl (S_slices_symMergeCmpFunc_slapi_Value x0 x7_27 (IntKind.wrap .i64 (x7_27 + x6_18)) x1 x2) (M.unbind H) (fun x60_45 a w ea hR H => ?_)
            have hE := Env.put_some hE rfl ea; clear ea
            refine t_nil ?_
            exact ⟨hE.cut (.cons rfl (.cons rfl (.cons rfl (.cons rfl Subs.nil)))), hR, H⟩
          · replace H := M.ite_f hb H
            refine w_skip ?_
            exact ⟨hE.cut (.cons rfl (.cons rfl (.cons rfl (.cons rfl Subs.nil)))), hR, H⟩
    · replace H := M.ite_f hb H
      refine w_exit ?_
      refine Xu.same ?_
      exact hret _ _ _ () _ hE hR (res_run hE rfl RV.nil) rfl H

def slices_SortStableFunc_slslapi_Value_slapi_Value (x0 : Sl) (x1 : Value) : M (Unit) := do
  let x8_1 ← slices_stableCmpFunc_slapi_Value x0 (x0.len : Int) x1
  M.pure ()
theorem S_slices_SortStableFunc_slslapi_Value_slapi_Value (x0 : Sl) (x1 : Value) : Sound Go.Proofs.Tryz.prog 79 #[(x0 : Sl).v, x1] (fun (r : Unit) => .tuple #[]) (slices_SortStableFunc_slslapi_Value_slapi_Value x0 x1) := by
  refine sound_of [(0, (x0 : Sl).v), (1, x1)] Go.Proofs.Tryz.func79 rfl rfl (Nat.le_of_ble_eq_true rfl) (args_of ⟨rfl, rfl, trivial⟩) (fun w0 w Q R a hret hE hR H => ?_)
  unfold slices_SortStableFunc_slslapi_Value_slapi_Value at H
  refine t_region ?_
  refine t_val (v := (x0 : Sl).v) rfl rfl hE rfl (r_move hE rfl) (fun a hE => ?_)
  refine t_val (v := (x0 : Sl).v) rfl rfl hE rfl (r_move hE rfl) (fun a hE => ?_)
  refine t_val (v := .int .i64 (x0.len : Int)) rfl rfl hE rfl (r_len hE rfl 22 un89) (fun a hE => ?_)
  refine t_val (v := x1) rfl rfl hE rfl (r_move hE rfl) (fun a hE => ?_)
  refine t_call hE hR cl_slices_stableCmpFunc_slapi_Value rfl (S_slices_stableCmpFunc_slapi_Value x0 (x0.len : Int) x1) (M.unbind H) (fun x8_1 a w ea hR H => ?_)
  have hE := Env.put_some hE rfl ea; clear ea
  refine t_nil ?_
  exact hret _ _ _ () _ hE hR (res_run hE rfl RV.nil) rfl H

def slices_Clone_slapi_Value_api_Value (x0 : Sl) : M (Sl) := do
  M.ite ((x0).base.isNone) (do
    M.pure Sl.nil
    ) (do
    let y_7 ← fillL 4 0 (#[.int .i64 0, .int .i64 0, .string ByteArray.empty, .slice none 0 0] : Array Value) []
    let x5_6 ← bdL ty_api_Value 0 y_7
    let x7_8 ← apL ty_api_Value 4 56 (#[.int .i64 0, .int .i64 0, .string ByteArray.empty, .slice none 0 0] : Array Value) x5_6 x0
    M.pure x7_8
    )
theorem S_slices_Clone_slapi_Value_api_Value (x0 : Sl) : Sound Go.Proofs.Tryz.prog 21 #[(x0 : Sl).v] (fun (r : Sl) => (r : Sl).v) (slices_Clone_slapi_Value_api_Value x0) := by
  refine sound_of [(0, (x0 : Sl).v)] Go.Proofs.Tryz.func21 rfl rfl (Nat.le_of_ble_eq_true rfl) (args_of ⟨rfl, trivial⟩) (fun w0 w Q R a hret hE hR H => ?_)
  unfold slices_Clone_slapi_Value_api_Value at H
  refine w_seq (fun K hK_1 => ?_)
  refine t_region ?_
  refine t_val (v := (Sl.nil : Sl).v) rfl rfl hE rfl (r_assign hE rfl) (fun a hE => ?_)
  refine t_nil ?_
  refine hK_1 _ _ ?_
  refine w_seq (fun K hK_2 => ?_)
  refine w_seq (fun K hK_3 => ?_)
  refine t_region ?_
  refine t_val (v := (x0 : Sl).v) rfl rfl hE rfl (r_move hE rfl) (fun a hE => ?_)
  refine t_val (v := .bool ((x0).base.isNone)) rfl rfl hE rfl (r_bin hE rfl rfl (g_sl (v := Sl.nil)) (b_eqlL un22)) (fun a hE => ?_)
  refine t_nil ?_
  refine hK_3 _ _ ?_
  refine w_cond ((x0).base.isNone) hE rfl (fun hb => ?_) (fun hb => ?_)
  · replace H := M.ite_t hb H
    refine w_seq (fun K hK_4 => ?_)
    refine t_region ?_
    refine t_val (v := (Sl.nil : Sl).v) rfl rfl hE rfl (r_assign hE rfl) (fun a hE => ?_)
    refine t_nil ?_
    refine hK_4 _ _ ?_
    refine w_ret ?_
    exact hret _ _ _ Sl.nil _ hE hR (res_run hE rfl (RV.tmp rfl RV.nil)) rfl H
  · replace H := M.ite_f hb H
    refine w_skip ?_
    refine hK_2 _ _ ?_
    refine w_seq (fun K hK_5 => ?_)
    refine t_region ?_
    obtain ⟨y_7, qy_7, H⟩ := H
    obtain ⟨x5_6, qx5_6, H⟩ := H
    refine t_valh (v := (x5_6 : Sl).v) rfl rfl hE rfl hR (r_buildL hE rfl un22 sz24 zr24 rfl qy_7 qx5_6) (fun a w hE hR hh => ?_)
    replace H := M.at hh H; clear hh
    refine t_val (v := (x0 : Sl).v) rfl rfl hE rfl (r_move hE rfl) (fun a hE => ?_)
    refine t_ex (fun x7_8 => (x7_8 : Sl).v) rfl rfl hR (M.unbind H) (fun Q H => ap_run hE rfl rfl ap22 H) (fun x7_8 a w ea hR H => ?_)
    have hE := Env.put_some hE rfl ea; clear ea
    refine t_val (v := (x7_8 : Sl).v) rfl rfl hE rfl (r_assign hE rfl) (fun a hE => ?_)
    refine t_nil ?_
    refine hK_5 _ _ ?_
    refine w_ret ?_
    exact hret _ _ _ x7_8 _ hE hR (res_run hE rfl (RV.tmp rfl RV.nil)) rfl H

theorem tb39_5 : tabAt Go.Proofs.Tryz.f39 5 [[], [0], [], [], [3], [], [4, 5], [6], [7], [1, 2, 0, 1, 2, 3, 4, 5, 6, 7, 8], [9, 8, 8, 0, 1, 2, 3, 4, 5, 6, 7, 8]] [[], [0], [], [], [3], [], [4, 5], [6], [7], [1, 2], [8, 9]] [[], [0], [], [], [3], [], [3, 4, 5], [3, 4, 5, 6], [3, 4, 5, 6, 7], [0, 1, 2, 3, 4, 5, 6, 7, 8], [0, 1, 2, 3, 4, 5, 6, 7, 8, 9]] = true := by kernel_rfl
def value_Clone_l1 (c1_12 : Addr) (c2_13 : Addr) (c10_14 : Int) (self1 : (Int) → M (Array Value)) : (Int) → M (Array Value) := fun s => match s with
  | x11_11 => do
    M.ite (decide (x11_11 < c10_14)) (do
      let x15_20 ← ldL ((c1_12).add 3)
      let x18_21 ← ldL ((c1_12).add 3)
      let x20_22 ← ixL x18_21 x11_11 4
      let x21_23 ← ldG 4 x20_22
      let x22_24 ← callF Go.Proofs.Tryz.prog fn_value_Clone #[.agg x21_23] (fun r : Array Value => .agg r)
      chk (fun h : Heap => (hcell h ((c1_12).add 3) = some ((x15_20 : Sl).v)) ∧ (hcell h ((c1_12).add 3) = some ((x18_21 : Sl).v)) ∧ (x21_23.size = 4 ∧ ∀ i, i < 4 → hcell h (Addr.add x20_22 i) = x21_23[i]?))
      let x23_25 ← ixL x15_20 x11_11 4
      M.need (x22_24.size = 4)
      stG x23_25 x22_24
      self1 (IntKind.wrap .i64 (x11_11 + 1))
      ) (do
      let x25_28 ← ldG 4 c1_12
      M.need (x25_28.size = 4)
      stG c2_13 x25_28
      let r2_30 ← ldG 4 c2_13
      M.pure r2_30
      )
def value_Clone (x0 : Array Value) : M (Array Value) := do
  let x1_2 ← mkB ty_api_Value x0
  let x2_3 ← mkB ty_api_Value (#[.int .i64 0, .int .i64 0, .string ByteArray.empty, .slice none 0 0] : Array Value)
  let x5_5 ← ldL ((x1_2).add 3)
  let x6_6 ← slices_Clone_slapi_Value_api_Value x5_5
  stV ((x1_2).add 3) ((x6_6 : Sl).v)
  let x9_10 ← ldL ((x1_2).add 3)
  M.loop (value_Clone_l1 x1_2 x2_3 (x9_10.len : Int)) 0
theorem S_value_Clone (x0 : Array Value) : Sound Go.Proofs.Tryz.prog 39 #[.agg x0] (fun (r : Array Value) => .agg r) (value_Clone x0) := by
  refine sound_of [(0, .agg x0)] Go.Proofs.Tryz.func39 rfl rfl (Nat.le_of_ble_eq_true rfl) (args_of ⟨rfl, trivial⟩) (fun w0 w Q R a hret hE hR H => ?_)
  unfold value_Clone at H
  refine w_seq (fun K hK_1 => ?_)
  refine t_region ?_
  obtain ⟨x1_2, qx1_2, H⟩ := H
  refine t_valh (v := .pointer (some x1_2)) rfl rfl hE rfl hR (r_box hE rfl qx1_2) (fun a w hE hR hh => ?_)
  replace H := M.at hh H; clear hh
  obtain ⟨x2_3, qx2_3, H⟩ := H
  refine t_valh (v := .pointer (some x2_3)) rfl rfl hE rfl hR (r_alloc zr24 qx2_3) (fun a w hE hR hh => ?_)
  replace H := M.at hh H; clear hh
  refine t_nil ?_
  refine hK_1 _ _ ?_
  refine w_seq (fun K hK_4 => ?_)
  refine t_region ?_
  refine t_val (v := .pointer (some ((x1_2).add 3))) rfl rfl hE rfl (r_fieldAddr hE rfl fd24_3) (fun a hE => ?_)
  obtain ⟨x5_5, qx5_5, H⟩ := H
  refine t_val (v := (x5_5 : Sl).v) rfl rfl hE rfl (r_load hE rfl sc22 qx5_5) (fun a hE => ?_)
  refine t_call hE hR cl_slices_Clone_slapi_Value_api_Value rfl (S_slices_Clone_slapi_Value_api_Value x5_5) (M.unbind H) (fun x6_6 a w ea hR H => ?_)
  have hE := Env.put_some hE rfl ea; clear ea
  refine t_val (v := .pointer (some ((x1_2).add 3))) rfl rfl hE rfl (r_fieldAddr hE rfl fd24_3) (fun a hE => ?_)
  obtain ⟨u_7, qu_7, H⟩ := H
  refine t_sth rfl rfl hE hR (r_store hE rfl rfl sz22 qu_7) (fun a w hE hR hh => ?_)
  replace H := M.at hh H; clear hh
  refine t_nil ?_
  refine hK_4 _ _ ?_
  refine w_seq (fun K hK_8 => ?_)
  refine w_seq (fun K hK_9 => ?_)
  refine t_region ?_
  refine t_val (v := .pointer (some ((x1_2).add 3))) rfl rfl hE rfl (r_fieldAddr hE rfl fd24_3) (fun a hE => ?_)
  obtain ⟨x9_10, qx9_10, H⟩ := H
  refine t_val (v := (x9_10 : Sl).v) rfl rfl hE rfl (r_load hE rfl sc22 qx9_10) (fun a hE => ?_)
  refine t_val (v := .int .i64 (x9_10.len : Int)) rfl rfl hE rfl (r_len hE rfl 24 un22) (fun a hE => ?_)
  refine t_val (v := .int .i64 0) rfl rfl hE rfl (r_move hE rfl) (fun a hE => ?_)
  refine t_nil ?_
  refine hK_9 _ _ ?_
  refine w_block ?_
  refine l_loop (fun (s : Int) => (⟨26, []⟩ : Frm)) (fun (s : Int) => [(1, .pointer (some x1_2)), (2, .pointer (some x2_3)), (10, .int .i64 (x9_10.len : Int)), (11, .int .i64 s)]) H (hE.cut (.cons rfl (.cons rfl (.cons rfl (.cons rfl Subs.nil))))) hR (fun Y self1 hY_15 x11_11 a w hE hR H => ?_)
  replace hE : Env (⟨26, []⟩ : Frm) a [(1, .pointer (some x1_2)), (2, .pointer (some x2_3)), (10, .int .i64 (x9_10.len : Int)), (11, .int .i64 x11_11)] := hE
  replace H : (value_Clone_l1 x1_2 x2_3 (x9_10.len : Int) self1 x11_11).wp w.heap Q := H
  unfold value_Clone_l1 at H
  refine w_seq (fun K hK_16 => ?_)
  refine t_region ?_
  refine t_val (v := .bool (decide (x11_11 < (x9_10.len : Int)))) rfl rfl hE rfl (r_bin hE rfl rfl g_int b_lss) (fun a hE => ?_)
  refine t_nil ?_
  refine hK_16 _ _ ?_
  refine w_seq (fun K hK_17 => ?_)
  refine w_cond (decide (x11_11 < (x9_10.len : Int))) hE rfl (fun hb => ?_) (fun hb => ?_)
  · replace H := M.ite_t hb H
    refine w_skip ?_
    refine hK_17 _ _ ?_
    refine w_seq (fun K hK_18 => ?_)
    refine w_block ?_
    refine w_seq (fun K hK_19 => ?_)
    refine t_region ?_
    refine t_val (v := .int .i64 x11_11) rfl rfl hE rfl (r_move hE rfl) (fun a hE => ?_)
    refine t_val (v := .int .i64 x11_11) rfl rfl hE rfl (r_assign hE rfl) (fun a hE => ?_)
    refine t_nil ?_
    refine hK_19 _ _ ?_
    obtain ⟨x15_20, qx15_20, H⟩ := H
    obtain ⟨x18_21, qx18_21, H⟩ := H
    obtain ⟨x20_22, qx20_22, H⟩ := H
    obtain ⟨x21_23, qx21_23, H⟩ := H
    have hT := tab_of tb39_5 rfl rfl
    refine d_start (fun w : World => (fun h : Heap => (hcell h ((x1_2).add 3) = some ((x15_20 : Sl).v)) ∧ (hcell h ((x1_2).add 3) = some ((x18_21 : Sl).v)) ∧ (x21_23.size = 4 ∧ ∀ i, i < 4 → hcell h (Addr.add x20_22 i) = x21_23[i]?)) w.heap) [9, 10] #[false, false, false, false, false, false, false, false, false, false, false] mo hR rfl rfl (fun w' e => by rw [e]; exact ⟨qx15_20, qx18_21, qx21_23⟩) (fun w hh hR hs => ?_)
    replace H := M.at hh H; clear hh
    refine d_pureg (i := 0) (v := .pointer (some ((x1_2).add 3))) #[true, false, false, false, false, false, false, false, false, false, false] rfl rfl hT (by kernel_rfl) hE rfl (wanted_none rfl) (fun w => r_fieldAddr hE rfl fd24_3) (fun a hE => ?_)
    refine d_pureg (i := 2) (v := .int .i64 x11_11) #[true, false, true, false, false, false, false, false, false, false, false] rfl rfl hT (by kernel_rfl) hE rfl (wanted_none rfl) (fun w => r_move hE rfl) (fun a hE => ?_)
    refine d_pureg (i := 3) (v := .pointer (some ((x1_2).add 3))) #[true, false, true, true, false, false, false, false, false, false, false] rfl rfl hT (by kernel_rfl) hE rfl (wanted_none rfl) (fun w => r_fieldAddr hE rfl fd24_3) (fun a hE => ?_)
    refine d_pureg (i := 5) (v := .int .i64 x11_11) #[true, false, true, true, false, true, false, false, false, false, false] rfl rfl hT (by kernel_rfl) hE rfl (wanted_none rfl) (fun w => r_move hE rfl) (fun a hE => ?_)
    refine d_read (i := 1) (v := (x15_20 : Sl).v) #[true, true, true, true, false, true, false, false, false, false, false] rfl rfl hT (by kernel_rfl) hE rfl (wanted_none rfl) hs (fun w s => r_load hE rfl sc22 s.1) (fun a hE => ?_)
    refine d_read (i := 4) (v := (x18_21 : Sl).v) #[true, true, true, true, true, true, false, false, false, false, false] rfl rfl hT (by kernel_rfl) hE rfl (wanted_none rfl) hs (fun w s => r_load hE rfl sc22 s.2.1) (fun a hE => ?_)
    refine d_pureg (i := 6) (v := .pointer (some x20_22)) #[true, true, true, true, true, true, true, false, false, false, false] rfl rfl hT (by kernel_rfl) hE rfl (wanted_none rfl) (fun w => r_indexAddrL hE rfl rfl un22 sz24 qx20_22) (fun a hE => ?_)
    refine d_read (i := 7) (v := .agg x21_23) #[true, true, true, true, true, true, true, true, false, false, false] rfl rfl hT (by kernel_rfl) hE rfl (wanted_none rfl) hs (fun w s => r_loadG hE rfl ag24 s.2.2) (fun a hE => ?_)
    refine d_call (i := 8) #[true, true, true, true, true, true, true, true, true, false, false] rfl rfl rfl hT (by kernel_rfl) rfl hE hR (wanted_none rfl) cl_value_Clone rfl (sound_callF) (M.unbind H) (fun r h H w' e => by obtain ⟨_, sA, H⟩ := H; rw [e]; exact sA) (fun x22_24 a w ea hR H hs => ?_)
    obtain ⟨_, sA, H⟩ := H; clear sA
    have hE := Env.put_some hE rfl ea; clear ea
    obtain ⟨x23_25, qx23_25, H⟩ := H
    refine d_pureg (i := 9) (v := .pointer (some x23_25)) #[true, true, true, true, true, true, true, true, true, true, false] rfl rfl hT (by kernel_rfl) hE rfl (wanted_none rfl) (fun w => r_indexAddrL hE rfl rfl un22 sz24 qx23_25) (fun a hE => ?_)
    obtain ⟨qz, H⟩ := H
    obtain ⟨u_26, qu_26, H⟩ := H
    refine d_stlh (i := 10) #[true, true, true, true, true, true, true, true, true, true, true] rfl rfl hT (by kernel_rfl) rfl hE hR (wanted_none rfl) (r_storeG hE rfl rfl sz24 qz qu_26)  (fun a w hE hR hh => ?_)
    replace H := M.at hh H; clear hh
    refine d_done hT (by kernel_rfl) ?_
    refine hK_18 _ _ ?_
    refine t_region ?_
    refine t_val (v := .int .i64 (IntKind.wrap .i64 (x11_11 + 1))) rfl rfl hE rfl (r_bin hE rfl rfl g_int b_add) (fun a hE => ?_)
    refine t_val (v := .int .i64 (IntKind.wrap .i64 (x11_11 + 1))) rfl rfl hE rfl (r_move hE rfl) (fun a hE => ?_)
    refine t_nil ?_
    exact hY_15 (IntKind.wrap .i64 (x11_11 + 1)) _ _ (hE.cut (.cons rfl (.cons rfl (.cons rfl (.cons rfl Subs.nil))))) hR H
  · replace H := M.ite_f hb H
    refine w_exit ?_
    refine Xu.same ?_
    refine hK_8 _ _ ?_
    refine w_seq (fun K hK_27 => ?_)
    refine t_region ?_
    obtain ⟨x25_28, qx25_28, H⟩ := H
    refine t_val (v := .agg x25_28) rfl rfl hE rfl (r_loadG hE rfl ag24 qx25_28) (fun a hE => ?_)
    obtain ⟨qz, H⟩ := H
    obtain ⟨u_29, qu_29, H⟩ := H
    refine t_sth rfl rfl hE hR (r_storeG hE rfl rfl sz24 qz qu_29) (fun a w hE hR hh => ?_)
    replace H := M.at hh H; clear hh
    refine t_nil ?_
    refine hK_27 _ _ ?_
    refine w_ret ?_
    obtain ⟨r2_30, qr2_30, H⟩ := H
    exact hret _ _ _ r2_30 _ hE hR (res_run hE rfl (RV.cellG rfl ag24 qr2_30 RV.nil)) rfl H

def value_made (x0 : Array Value) : M (Array Value × Int) := do
  let x1_2 ← mkB ty_api_Value x0
  let x2_3 ← mkB ty_api_Value (#[.int .i64 0, .int .i64 0, .string ByteArray.empty, .slice none 0 0] : Array Value)
  let x5_6 ← ldG 4 x1_2
  let x6_7 ← value_Check x5_6
  M.ite (x6_7 != 0) (do
    M.need ((#[.int .i64 0, .int .i64 0, .string ByteArray.empty, .slice none 0 0] : Array Value).size = 4)
    stG x2_3 (#[.int .i64 0, .int .i64 0, .string ByteArray.empty, .slice none 0 0] : Array Value)
    let r2_11 ← ldG 4 x2_3
    M.pure (r2_11, x6_7)
    ) (do
    let x11_13 ← ldG 4 x1_2
    let x12_14 ← value_Clone x11_13
    M.need (x12_14.size = 4)
    stG x2_3 x12_14
    let r2_16 ← ldG 4 x2_3
    M.pure (r2_16, 0)
    )
theorem S_value_made (x0 : Array Value) : Sound Go.Proofs.Tryz.prog 81 #[.agg x0] (fun (r : Array Value × Int) => .tuple #[.agg r.1, .int .i64 r.2]) (value_made x0) := by
  refine sound_of [(0, .agg x0)] Go.Proofs.Tryz.func81 rfl rfl (Nat.le_of_ble_eq_true rfl) (args_of ⟨rfl, trivial⟩) (fun w0 w Q R a hret hE hR H => ?_)
  unfold value_made at H
  refine w_seq (fun K hK_1 => ?_)
  refine t_region ?_
  obtain ⟨x1_2, qx1_2, H⟩ := H
  refine t_valh (v := .pointer (some x1_2)) rfl rfl hE rfl hR (r_box hE rfl qx1_2) (fun a w hE hR hh => ?_)
  replace H := M.at hh H; clear hh
  obtain ⟨x2_3, qx2_3, H⟩ := H
  refine t_valh (v := .pointer (some x2_3)) rfl rfl hE rfl hR (r_alloc zr24 qx2_3) (fun a w hE hR hh => ?_)
  replace H := M.at hh H; clear hh
  refine t_val (v := .int .i64 0) rfl rfl hE rfl (r_assign hE rfl) (fun a hE => ?_)
  refine t_nil ?_
  refine hK_1 _ _ ?_
  refine w_seq (fun K hK_4 => ?_)
  refine w_seq (fun K hK_5 => ?_)
  refine t_region ?_
  obtain ⟨x5_6, qx5_6, H⟩ := H
  refine t_val (v := .agg x5_6) rfl rfl hE rfl (r_loadG hE rfl ag24 qx5_6) (fun a hE => ?_)
  refine t_call hE hR cl_value_Check rfl (S_value_Check x5_6) (M.unbind H) (fun x6_7 a w ea hR H => ?_)
  have hE := Env.put_some hE rfl ea; clear ea
  refine t_val (v := .int .i64 x6_7) rfl rfl hE rfl (r_assign hE rfl) (fun a hE => ?_)
  refine t_nil ?_
  refine hK_5 _ _ ?_
  refine w_seq (fun K hK_8 => ?_)
  refine t_region ?_
  refine t_val (v := .int .i64 x6_7) rfl rfl hE rfl (r_move hE rfl) (fun a hE => ?_)
  refine t_val (v := .bool (x6_7 != 0)) rfl rfl hE rfl (r_bin hE rfl rfl g_int b_neq) (fun a hE => ?_)
  refine t_nil ?_
  refine hK_8 _ _ ?_
  refine w_cond (x6_7 != 0) hE rfl (fun hb => ?_) (fun hb => ?_)
  · replace H := M.ite_t hb H
    refine w_seq (fun K hK_9 => ?_)
    refine t_region ?_
    refine t_val (v := .agg (#[.int .i64 0, .int .i64 0, .string ByteArray.empty, .slice none 0 0] : Array Value)) rfl rfl hE rfl (r_build0 bd24) (fun a hE => ?_)
    refine t_val (v := .int .i64 x6_7) rfl rfl hE rfl (r_move hE rfl) (fun a hE => ?_)
    obtain ⟨qz, H⟩ := H
    obtain ⟨u_10, qu_10, H⟩ := H
    refine t_sth rfl rfl hE hR (r_storeG hE rfl rfl sz24 qz qu_10) (fun a w hE hR hh => ?_)
    replace H := M.at hh H; clear hh
    refine t_val (v := .int .i64 x6_7) rfl rfl hE rfl (r_assign hE rfl) (fun a hE => ?_)
    refine t_nil ?_
    refine hK_9 _ _ ?_
    refine w_ret ?_
    obtain ⟨r2_11, qr2_11, H⟩ := H
    exact hret _ _ _ (r2_11, x6_7) _ hE hR (res_run hE rfl (RV.cellG rfl ag24 qr2_11 (RV.tmp rfl RV.nil))) rfl H
  · replace H := M.ite_f hb H
    refine w_skip ?_
    refine hK_4 _ _ ?_
    refine w_seq (fun K hK_12 => ?_)
    refine t_region ?_
    obtain ⟨x11_13, qx11_13, H⟩ := H
    refine t_val (v := .agg x11_13) rfl rfl hE rfl (r_loadG hE rfl ag24 qx11_13) (fun a hE => ?_)
    refine t_call hE hR cl_value_Clone rfl (S_value_Clone x11_13) (M.unbind H) (fun x12_14 a w ea hR H => ?_)
    have hE := Env.put_some hE rfl ea; clear ea
    obtain ⟨qz, H⟩ := H
    obtain ⟨u_15, qu_15, H⟩ := H
    refine t_sth rfl rfl hE hR (r_storeG hE rfl rfl sz24 qz qu_15) (fun a w hE hR hh => ?_)
    replace H := M.at hh H; clear hh
    refine t_val (v := .int .i64 0) rfl rfl hE rfl (r_assign hE rfl) (fun a hE => ?_)
    refine t_nil ?_
    refine hK_12 _ _ ?_
    refine w_ret ?_
    obtain ⟨r2_16, qr2_16, H⟩ := H
    exact hret _ _ _ (r2_16, 0) _ hE hR (res_run hE rfl (RV.cellG rfl ag24 qr2_16 (RV.tmp rfl RV.nil))) rfl H

end Gx
namespace Gx
open Go
set_option linter.unusedVariables false
set_option maxRecDepth 100000
def slices_Grow_slapi_Value_api_Value_j1 (x0_4 : Sl) : M (Sl) := do
  M.pure x0_4
def slices_Grow_slapi_Value_api_Value (x0 : Sl) (x1 : Int) : M (Sl) := do
  M.ite (decide (x1 < 0)) (do
    M.fail
    ) (do
    M.ite (decide ((IntKind.wrap .i64 (x1 - (IntKind.wrap .i64 ((x0.cap : Int) - (x0.len : Int))))) > 0)) (do
      let x20_8 ← slL x0 0 (x0.cap : Int) 4
      let x22_9 ← apM ty_api_Value 4 56 (#[.int .i64 0, .int .i64 0, .string ByteArray.empty, .slice none 0 0] : Array Value) x20_8 (IntKind.wrap .i64 (x1 - (IntKind.wrap .i64 ((x0.cap : Int) - (x0.len : Int)))))
      let x25_10 ← slL x22_9 0 (x0.len : Int) 4
      slices_Grow_slapi_Value_api_Value_j1 x25_10
      ) (do
      slices_Grow_slapi_Value_api_Value_j1 x0
      )
    )
theorem S_slices_Grow_slapi_Value_api_Value (x0 : Sl) (x1 : Int) : Sound Go.Proofs.Tryz.prog 138 #[(x0 : Sl).v, .int .i64 x1] (fun (r : Sl) => (r : Sl).v) (slices_Grow_slapi_Value_api_Value x0 x1) := by
  refine sound_of [(0, (x0 : Sl).v), (1, .int .i64 x1)] Go.Proofs.Tryz.func138 rfl rfl (Nat.le_of_ble_eq_true rfl) (args_of ⟨rfl, rfl, trivial⟩) (fun w0 w Q R a hret hE hR H => ?_)
  unfold slices_Grow_slapi_Value_api_Value at H
  refine w_seq (fun K hK_1 => ?_)
  refine t_region ?_
  refine t_val (v := (Sl.nil : Sl).v) rfl rfl hE rfl (r_assign hE rfl) (fun a hE => ?_)
  refine t_nil ?_
  refine hK_1 _ _ ?_
  refine w_seq (fun K hK_2 => ?_)
  refine w_seq (fun K hK_3 => ?_)
  refine t_region ?_
  refine t_val (v := .int .i64 x1) rfl rfl hE rfl (r_move hE rfl) (fun a hE => ?_)
  refine t_val (v := .bool (decide (x1 < 0))) rfl rfl hE rfl (r_bin hE rfl rfl g_int b_lss) (fun a hE => ?_)
  refine t_nil ?_
  refine hK_3 _ _ ?_
  refine w_cond (decide (x1 < 0)) hE rfl (fun hb => ?_) (fun hb => ?_)
  · replace H := M.ite_t hb H
    exact False.elim H
  · replace H := M.ite_f hb H
    refine w_skip ?_
    refine hK_2 _ _ ?_
    refine w_seq_join (fun a w => ∃ (x0_4 : Sl), Env (⟨27, []⟩ : Frm) a [(0, (x0_4 : Sl).v)] ∧ Rest w0 w ∧ (slices_Grow_slapi_Value_api_Value_j1 x0_4).wp w.heap Q) ?_ ?_
    · rintro a w ⟨x0_4, hE, hR, H⟩
      unfold slices_Grow_slapi_Value_api_Value_j1 at H
      refine w_seq (fun K hK_5 => ?_)
      refine t_region ?_
      refine t_val (v := (x0_4 : Sl).v) rfl rfl hE rfl (r_move hE rfl) (fun a hE => ?_)
      refine t_val (v := (x0_4 : Sl).v) rfl rfl hE rfl (r_assign hE rfl) (fun a hE => ?_)
      refine t_nil ?_
      refine hK_5 _ _ ?_
      refine w_ret ?_
      exact hret _ _ _ x0_4 _ hE hR (res_run hE rfl (RV.tmp rfl RV.nil)) rfl H
    · skip
      refine w_seq (fun K hK_6 => ?_)
      refine t_region ?_
      refine t_val (v := .int .i64 x1) rfl rfl hE rfl (r_move hE rfl) (fun a hE => ?_)
      refine t_val (v := (x0 : Sl).v) rfl rfl hE rfl (r_move hE rfl) (fun a hE => ?_)
      refine t_val (v := .int .i64 (x0.cap : Int)) rfl rfl hE rfl (r_cap hE rfl 24 un22) (fun a hE => ?_)
      refine t_val (v := (x0 : Sl).v) rfl rfl hE rfl (r_move hE rfl) (fun a hE => ?_)
      refine t_val (v := .int .i64 (x0.len : Int)) rfl rfl hE rfl (r_len hE rfl 24 un22) (fun a hE => ?_)
      refine t_val (v := .int .i64 (IntKind.wrap .i64 ((x0.cap : Int) - (x0.len : Int)))) rfl rfl hE rfl (r_bin hE rfl rfl g_int b_sub) (fun a hE => ?_)
      refine t_val (v := .int .i64 (IntKind.wrap .i64 (x1 - (IntKind.wrap .i64 ((x0.cap : Int) - (x0.len : Int)))))) rfl rfl hE rfl (r_bin hE rfl rfl g_int b_sub) (fun a hE => ?_)
      refine t_val (v := .int .i64 (IntKind.wrap .i64 (x1 - (IntKind.wrap .i64 ((x0.cap : Int) - (x0.len : Int)))))) rfl rfl hE rfl (r_assign hE rfl) (fun a hE => ?_)
      refine t_nil ?_
      refine hK_6 _ _ ?_
      refine w_seq (fun K hK_7 => ?_)
      refine t_region ?_
      refine t_val (v := .int .i64 (IntKind.wrap .i64 (x1 - (IntKind.wrap .i64 ((x0.cap : Int) - (x0.len : Int)))))) rfl rfl hE rfl (r_move hE rfl) (fun a hE => ?_)
      refine t_val (v := .bool (decide ((IntKind.wrap .i64 (x1 - (IntKind.wrap .i64 ((x0.cap : Int) - (x0.len : Int))))) > 0))) rfl rfl hE rfl (r_bin hE rfl rfl g_int b_gtr) (fun a hE => ?_)
      refine t_nil ?_
      refine hK_7 _ _ ?_
      refine w_cond (decide ((IntKind.wrap .i64 (x1 - (IntKind.wrap .i64 ((x0.cap : Int) - (x0.len : Int))))) > 0)) hE rfl (fun hb => ?_) (fun hb => ?_)
      · replace H := M.ite_t hb H
        refine t_region ?_
        refine t_val (v := (x0 : Sl).v) rfl rfl hE rfl (r_move hE rfl) (fun a hE => ?_)
        refine t_val (v := (x0 : Sl).v) rfl rfl hE rfl (r_move hE rfl) (fun a hE => ?_)
        refine t_val (v := .int .i64 (x0.cap : Int)) rfl rfl hE rfl (r_cap hE rfl 24 un22) (fun a hE => ?_)
        obtain ⟨x20_8, qx20_8, H⟩ := H
        refine t_val (v := (x20_8 : Sl).v) rfl rfl hE rfl (r_sliceL_h hE rfl rfl un22 sz24 qx20_8) (fun a hE => ?_)
        refine t_val (v := .int .i64 (IntKind.wrap .i64 (x1 - (IntKind.wrap .i64 ((x0.cap : Int) - (x0.len : Int)))))) rfl rfl hE rfl (r_move hE rfl) (fun a hE => ?_)
        refine t_ex (fun x22_9 => (x22_9 : Sl).v) rfl rfl hR (M.unbind H) (fun Q H => apM_run hE rfl rfl ap22 un3 rfl H) (fun x22_9 a w ea hR H => ?_)
        have hE := Env.put_some hE rfl ea; clear ea
        refine t_val (v := (x0 : Sl).v) rfl rfl hE rfl (r_move hE rfl) (fun a hE => ?_)
        refine t_val (v := .int .i64 (x0.len : Int)) rfl rfl hE rfl (r_len hE rfl 24 un22) (fun a hE => ?_)
        obtain ⟨x25_10, qx25_10, H⟩ := H
        refine t_val (v := (x25_10 : Sl).v) rfl rfl hE rfl (r_sliceL_h hE rfl rfl un22 sz24 qx25_10) (fun a hE => ?_)
        refine t_val (v := (x25_10 : Sl).v) rfl rfl hE rfl (r_assign hE rfl) (fun a hE => ?_)
        refine t_nil ?_
        exact ⟨x25_10, hE.cut (.cons rfl Subs.nil), hR, H⟩
      · replace H := M.ite_f hb H
        refine w_skip ?_
        exact ⟨x0, hE.cut (.cons rfl Subs.nil), hR, H⟩

def slices_Concat_slapi_Value_api_Value_l2 (c25_25 : Sl) (c26_26 : Int) (self2 : (Sl × Int) → M (Sl)) : (Sl × Int) → M (Sl) := fun s => match s with
  | (x6_23, x27_24) => do
    M.ite (decide (x27_24 < c26_26)) (do
      let x29_32 ← ixL c25_25 x27_24 1
      let x30_33 ← ldL x29_32
      let x33_34 ← apL ty_api_Value 4 56 (#[.int .i64 0, .int .i64 0, .string ByteArray.empty, .slice none 0 0] : Array Value) x6_23 x30_33
      self2 (x33_34, IntKind.wrap .i64 (x27_24 + 1))
      ) (do
      M.pure x6_23
      )
def slices_Concat_slapi_Value_api_Value_l1 (c0_7 : Sl) (c9_8 : Sl) (c10_9 : Int) (self1 : (Int × Int) → M (Sl)) : (Int × Int) → M (Sl) := fun s => match s with
  | (x3_5, x11_6) => do
    M.ite (decide (x11_6 < c10_9)) (do
      let x13_15 ← ixL c9_8 x11_6 1
      let x14_16 ← ldL x13_15
      M.ite (decide ((IntKind.wrap .i64 (x3_5 + (x14_16.len : Int))) < 0)) (do
        M.fail
        ) (do
        self1 (IntKind.wrap .i64 (x3_5 + (x14_16.len : Int)), IntKind.wrap .i64 (x11_6 + 1))
        )
      ) (do
      let x24_20 ← slices_Grow_slapi_Value_api_Value Sl.nil x3_5
      M.loop (slices_Concat_slapi_Value_api_Value_l2 c0_7 (c0_7.len : Int)) (x24_20, 0)
      )
def slices_Concat_slapi_Value_api_Value (x0 : Sl) : M (Sl) := do
  M.loop (slices_Concat_slapi_Value_api_Value_l1 x0 x0 (x0.len : Int)) (0, 0)
theorem S_slices_Concat_slapi_Value_api_Value (x0 : Sl) : Sound Go.Proofs.Tryz.prog 82 #[(x0 : Sl).v] (fun (r : Sl) => (r : Sl).v) (slices_Concat_slapi_Value_api_Value x0) := by
  refine sound_of [(0, (x0 : Sl).v)] Go.Proofs.Tryz.func82 rfl rfl (Nat.le_of_ble_eq_true rfl) (args_of ⟨rfl, trivial⟩) (fun w0 w Q R a hret hE hR H => ?_)
  unfold slices_Concat_slapi_Value_api_Value at H
  refine w_seq (fun K hK_1 => ?_)
  refine t_region ?_
  refine t_val (v := (Sl.nil : Sl).v) rfl rfl hE rfl (r_assign hE rfl) (fun a hE => ?_)
  refine t_nil ?_
  refine hK_1 _ _ ?_
  refine w_seq (fun K hK_2 => ?_)
  refine t_region ?_
  refine t_val (v := .int .i64 0) rfl rfl hE rfl (r_assign hE rfl) (fun a hE => ?_)
  refine t_nil ?_
  refine hK_2 _ _ ?_
  refine w_seq (fun K hK_3 => ?_)
  refine w_seq (fun K hK_4 => ?_)
  refine t_region ?_
  refine t_val (v := (x0 : Sl).v) rfl rfl hE rfl (r_move hE rfl) (fun a hE => ?_)
  refine t_val (v := .int .i64 (x0.len : Int)) rfl rfl hE rfl (r_len hE rfl 22 un89) (fun a hE => ?_)
  refine t_val (v := .int .i64 0) rfl rfl hE rfl (r_move hE rfl) (fun a hE => ?_)
  refine t_nil ?_
  refine hK_4 _ _ ?_
  refine w_block ?_
  refine l_loop (fun (s : Int × Int) => (⟨36, []⟩ : Frm)) (fun (s : Int × Int) => [(0, (x0 : Sl).v), (3, .int .i64 s.1), (9, (x0 : Sl).v), (10, .int .i64 (x0.len : Int)), (11, .int .i64 s.2)]) H (hE.cut (.cons rfl (.cons rfl (.cons rfl (.cons rfl (.cons rfl Subs.nil)))))) hR (fun Y self1 hY_10 s a w hE hR H => ?_)
  rcases s with ⟨x3_5, x11_6⟩
  replace hE : Env (⟨36, []⟩ : Frm) a [(0, (x0 : Sl).v), (3, .int .i64 x3_5), (9, (x0 : Sl).v), (10, .int .i64 (x0.len : Int)), (11, .int .i64 x11_6)] := hE
  replace H : (slices_Concat_slapi_Value_api_Value_l1 x0 x0 (x0.len : Int) self1 (x3_5, x11_6)).wp w.heap Q := H
  unfold slices_Concat_slapi_Value_api_Value_l1 at H
  refine w_seq (fun K hK_11 => ?_)
  refine t_region ?_
  refine t_val (v := .bool (decide (x11_6 < (x0.len : Int)))) rfl rfl hE rfl (r_bin hE rfl rfl g_int b_lss) (fun a hE => ?_)
  refine t_nil ?_
  refine hK_11 _ _ ?_
  refine w_seq (fun K hK_12 => ?_)
  refine w_cond (decide (x11_6 < (x0.len : Int))) hE rfl (fun hb => ?_) (fun hb => ?_)
  · replace H := M.ite_t hb H
    refine w_skip ?_
    refine hK_12 _ _ ?_
    refine w_seq (fun K hK_13 => ?_)
    refine w_block ?_
    refine w_seq (fun K hK_14 => ?_)
    refine t_region ?_
    obtain ⟨x13_15, qx13_15, H⟩ := H
    refine t_val (v := .pointer (some x13_15)) rfl rfl hE rfl (r_indexAddrL hE rfl rfl un89 sz22 qx13_15) (fun a hE => ?_)
    obtain ⟨x14_16, qx14_16, H⟩ := H
    refine t_val (v := (x14_16 : Sl).v) rfl rfl hE rfl (r_load hE rfl sc22 qx14_16) (fun a hE => ?_)
    refine t_val (v := (x14_16 : Sl).v) rfl rfl hE rfl (r_assign hE rfl) (fun a hE => ?_)
    refine t_nil ?_
    refine hK_14 _ _ ?_
    refine w_seq (fun K hK_17 => ?_)
    refine t_region ?_
    refine t_val (v := .int .i64 x3_5) rfl rfl hE rfl (r_move hE rfl) (fun a hE => ?_)
    refine t_val (v := (x14_16 : Sl).v) rfl rfl hE rfl (r_move hE rfl) (fun a hE => ?_)
    refine t_val (v := .int .i64 (x14_16.len : Int)) rfl rfl hE rfl (r_len hE rfl 24 un22) (fun a hE => ?_)
    refine t_val (v := .int .i64 (IntKind.wrap .i64 (x3_5 + (x14_16.len : Int)))) rfl rfl hE rfl (r_bin hE rfl rfl g_int b_add) (fun a hE => ?_)
    refine t_val (v := .int .i64 (IntKind.wrap .i64 (x3_5 + (x14_16.len : Int)))) rfl rfl hE rfl (r_assign hE rfl) (fun a hE => ?_)
    refine t_nil ?_
    refine hK_17 _ _ ?_
    refine w_seq (fun K hK_18 => ?_)
    refine t_region ?_
    refine t_val (v := .int .i64 (IntKind.wrap .i64 (x3_5 + (x14_16.len : Int)))) rfl rfl hE rfl (r_move hE rfl) (fun a hE => ?_)
    refine t_val (v := .bool (decide ((IntKind.wrap .i64 (x3_5 + (x14_16.len : Int))) < 0))) rfl rfl hE rfl (r_bin hE rfl rfl g_int b_lss) (fun a hE => ?_)
    refine t_nil ?_
    refine hK_18 _ _ ?_
    refine w_cond (decide ((IntKind.wrap .i64 (x3_5 + (x14_16.len : Int))) < 0)) hE rfl (fun hb => ?_) (fun hb => ?_)
    · replace H := M.ite_t hb H
      exact False.elim H
    · replace H := M.ite_f hb H
      refine w_skip ?_
      refine hK_13 _ _ ?_
      refine t_region ?_
      refine t_val (v := .int .i64 (IntKind.wrap .i64 (x11_6 + 1))) rfl rfl hE rfl (r_bin hE rfl rfl g_int b_add) (fun a hE => ?_)
      refine t_val (v := .int .i64 (IntKind.wrap .i64 (x11_6 + 1))) rfl rfl hE rfl (r_move hE rfl) (fun a hE => ?_)
      refine t_nil ?_
      exact hY_10 (IntKind.wrap .i64 (x3_5 + (x14_16.len : Int)), IntKind.wrap .i64 (x11_6 + 1)) _ _ (hE.cut (.cons rfl (.cons rfl (.cons rfl (.cons rfl (.cons rfl Subs.nil)))))) hR H
  · replace H := M.ite_f hb H
    refine w_exit ?_
    refine Xu.same ?_
    refine hK_3 _ _ ?_
    refine w_seq (fun K hK_19 => ?_)
    refine t_region ?_
    refine t_val (v := .int .i64 x3_5) rfl rfl hE rfl (r_move hE rfl) (fun a hE => ?_)
    refine t_call hE hR cl_slices_Grow_slapi_Value_api_Value rfl (S_slices_Grow_slapi_Value_api_Value Sl.nil x3_5) (M.unbind H) (fun x24_20 a w ea hR H => ?_)
    have hE := Env.put_some hE rfl ea; clear ea
    refine t_val (v := (x24_20 : Sl).v) rfl rfl hE rfl (r_assign hE rfl) (fun a hE => ?_)
    refine t_nil ?_
    refine hK_19 _ _ ?_
    refine w_seq (fun K hK_21 => ?_)
    refine w_seq (fun K hK_22 => ?_)
    refine t_region ?_
    refine t_val (v := (x0 : Sl).v) rfl rfl hE rfl (r_move hE rfl) (fun a hE => ?_)
    refine t_val (v := .int .i64 (x0.len : Int)) rfl rfl hE rfl (r_len hE rfl 22 un89) (fun a hE => ?_)
    refine t_val (v := .int .i64 0) rfl rfl hE rfl (r_move hE rfl) (fun a hE => ?_)
    refine t_nil ?_
    refine hK_22 _ _ ?_
    refine w_block ?_
    refine l_loop (fun (s : Sl × Int) => (⟨36, []⟩ : Frm)) (fun (s : Sl × Int) => [(6, (s.1 : Sl).v), (25, (x0 : Sl).v), (26, .int .i64 (x0.len : Int)), (27, .int .i64 s.2)]) H (hE.cut (.cons rfl (.cons rfl (.cons rfl (.cons rfl Subs.nil))))) hR (fun Y self2 hY_27 s a w hE hR H => ?_)
    rcases s with ⟨x6_23, x27_24⟩
    replace hE : Env (⟨36, []⟩ : Frm) a [(6, (x6_23 : Sl).v), (25, (x0 : Sl).v), (26, .int .i64 (x0.len : Int)), (27, .int .i64 x27_24)] := hE
    replace H : (slices_Concat_slapi_Value_api_Value_l2 x0 (x0.len : Int) self2 (x6_23, x27_24)).wp w.heap Q := H
    unfold slices_Concat_slapi_Value_api_Value_l2 at H
    refine w_seq (fun K hK_28 => ?_)
    refine t_region ?_
    refine t_val (v := .bool (decide (x27_24 < (x0.len : Int)))) rfl rfl hE rfl (r_bin hE rfl rfl g_int b_lss) (fun a hE => ?_)
    refine t_nil ?_
    refine hK_28 _ _ ?_
    refine w_seq (fun K hK_29 => ?_)
    refine w_cond (decide (x27_24 < (x0.len : Int))) hE rfl (fun hb => ?_) (fun hb => ?_)
    · replace H := M.ite_t hb H
      refine w_skip ?_
      refine hK_29 _ _ ?_
      refine w_seq (fun K hK_30 => ?_)
      refine w_block ?_
      refine w_seq (fun K hK_31 => ?_)
      refine t_region ?_
      obtain ⟨x29_32, qx29_32, H⟩ := H
      refine t_val (v := .pointer (some x29_32)) rfl rfl hE rfl (r_indexAddrL hE rfl rfl un89 sz22 qx29_32) (fun a hE => ?_)
      obtain ⟨x30_33, qx30_33, H⟩ := H
      refine t_val (v := (x30_33 : Sl).v) rfl rfl hE rfl (r_load hE rfl sc22 qx30_33) (fun a hE => ?_)
      refine t_val (v := (x30_33 : Sl).v) rfl rfl hE rfl (r_assign hE rfl) (fun a hE => ?_)
      refine t_nil ?_
      refine hK_31 _ _ ?_
      refine t_region ?_
      refine t_val (v := (x6_23 : Sl).v) rfl rfl hE rfl (r_move hE rfl) (fun a hE => ?_)
      refine t_val (v := (x30_33 : Sl).v) rfl rfl hE rfl (r_move hE rfl) (fun a hE => ?_)
      refine t_ex (fun x33_34 => (x33_34 : Sl).v) rfl rfl hR (M.unbind H) (fun Q H => ap_run hE rfl rfl ap22 H) (fun x33_34 a w ea hR H => ?_)
      have hE := Env.put_some hE rfl ea; clear ea
      refine t_val (v := (x33_34 : Sl).v) rfl rfl hE rfl (r_assign hE rfl) (fun a hE => ?_)
      refine t_nil ?_
      refine hK_30 _ _ ?_
      refine t_region ?_
      refine t_val (v := .int .i64 (IntKind.wrap .i64 (x27_24 + 1))) rfl rfl hE rfl (r_bin hE rfl rfl g_int b_add) (fun a hE => ?_)
      refine t_val (v := .int .i64 (IntKind.wrap .i64 (x27_24 + 1))) rfl rfl hE rfl (r_move hE rfl) (fun a hE => ?_)
      refine t_nil ?_
      exact hY_27 (x33_34, IntKind.wrap .i64 (x27_24 + 1)) _ _ (hE.cut (.cons rfl (.cons rfl (.cons rfl (.cons rfl Subs.nil))))) hR H
    · replace H := M.ite_f hb H
      refine w_exit ?_
      refine Xu.same ?_
      refine hK_21 _ _ ?_
      refine w_seq (fun K hK_35 => ?_)
      refine t_region ?_
      refine t_val (v := (x6_23 : Sl).v) rfl rfl hE rfl (r_move hE rfl) (fun a hE => ?_)
      refine t_val (v := (x6_23 : Sl).v) rfl rfl hE rfl (r_assign hE rfl) (fun a hE => ?_)
      refine t_nil ?_
      refine hK_35 _ _ ?_
      refine w_ret ?_
      exact hret _ _ _ x6_23 _ hE hR (res_run hE rfl (RV.tmp rfl RV.nil)) rfl H

theorem tb20_8 : tabAt Go.Proofs.Tryz.f20 8 [[], [], [1], [0, 2], [3], [4], [5], [], [], [7, 8], [9], [10], [11], [6, 12]] [[], [], [1], [0, 2], [3], [4], [5], [], [], [7, 8], [9], [10], [11], [6, 12]] [[], [], [1], [0, 1, 2], [0, 1, 2, 3], [0, 1, 2, 3, 4], [0, 1, 2, 3, 4, 5], [], [], [7, 8], [7, 8, 9], [7, 8, 9, 10], [7, 8, 9, 10, 11], [0, 1, 2, 3, 4, 5, 6, 7, 8, 9, 10, 11, 12]] = true := by kernel_rfl
def value_Map_l1 (c2_16 : Addr) (c4_17 : Sl) (self1 : (Int) → M (Array Value × Int)) : (Int) → M (Array Value × Int) := fun s => match s with
  | x5_15 => do
    M.ite (decide (x5_15 < (c4_17.len : Int))) (do
      let x25_23 ← ixL c4_17 (IntKind.wrap .i64 (x5_15 - 1)) 1
      let x31_24 ← ixL c4_17 x5_15 1
      let x26_25 ← ldL x25_23
      let x27_26 ← ixL x26_25 0 4
      let x28_27 ← ldG 4 x27_26
      let x32_28 ← ldL x31_24
      let x33_29 ← ixL x32_28 0 4
      let x34_30 ← ldG 4 x33_29
      let x35_31 ← value_Same x28_27 x34_30
      M.ite x35_31 (do
        M.need ((#[.int .i64 0, .int .i64 0, .string ByteArray.empty, .slice none 0 0] : Array Value).size = 4)
        stG c2_16 (#[.int .i64 0, .int .i64 0, .string ByteArray.empty, .slice none 0 0] : Array Value)
        let r2_34 ← ldG 4 c2_16
        M.pure (r2_34, 5)
        ) (do
        self1 (IntKind.wrap .i64 (x5_15 + 1))
        )
      ) (do
      let x38_36 ← slices_Concat_slapi_Value_api_Value c4_17
      let x40_37 ← value_made (#[.int .i64 5, .int .i64 0, .string ByteArray.empty, (x38_36 : Sl).v] : Array Value)
      M.need (x40_37.1.size = 4)
      stG c2_16 x40_37.1
      let r2_39 ← ldG 4 c2_16
      M.pure (r2_39, x40_37.2)
      )
def value_Map (x0 : Sl) : M (Array Value × Int) := do
  let x2_2 ← mkB ty_api_Value (#[.int .i64 0, .int .i64 0, .string ByteArray.empty, .slice none 0 0] : Array Value)
  M.ite ((Int.tmod (x0.len : Int) 2) == 1) (do
    M.need ((#[.int .i64 0, .int .i64 0, .string ByteArray.empty, .slice none 0 0] : Array Value).size = 4)
    stG x2_2 (#[.int .i64 0, .int .i64 0, .string ByteArray.empty, .slice none 0 0] : Array Value)
    let r2_7 ← ldG 4 x2_2
    M.pure (r2_7, 1)
    ) (do
    let x12_9 ← slices_Chunk_slapi_Value_api_Value x0 2
    let x13_10 ← slices_Collect_slapi_Value x12_9
    let x15_12 ← slices_SortStableFunc_slslapi_Value_slapi_Value x13_10 (Value.func (.func fn_value_Map_1) #[] #[])
    M.loop (value_Map_l1 x2_2 x13_10) 1
    )
theorem S_value_Map (x0 : Sl) : Sound Go.Proofs.Tryz.prog 20 #[(x0 : Sl).v] (fun (r : Array Value × Int) => .tuple #[.agg r.1, .int .i64 r.2]) (value_Map x0) := by
  refine sound_of [(0, (x0 : Sl).v)] Go.Proofs.Tryz.func20 rfl rfl (Nat.le_of_ble_eq_true rfl) (args_of ⟨rfl, trivial⟩) (fun w0 w Q R a hret hE hR H => ?_)
  unfold value_Map at H
  refine w_seq (fun K hK_1 => ?_)
  refine t_region ?_
  obtain ⟨x2_2, qx2_2, H⟩ := H
  refine t_valh (v := .pointer (some x2_2)) rfl rfl hE rfl hR (r_alloc zr24 qx2_2) (fun a w hE hR hh => ?_)
  replace H := M.at hh H; clear hh
  refine t_val (v := .int .i64 0) rfl rfl hE rfl (r_assign hE rfl) (fun a hE => ?_)
  refine t_nil ?_
  refine hK_1 _ _ ?_
  refine w_seq (fun K hK_3 => ?_)
  refine w_seq (fun K hK_4 => ?_)
  refine t_region ?_
  refine t_val (v := (x0 : Sl).v) rfl rfl hE rfl (r_move hE rfl) (fun a hE => ?_)
  refine t_val (v := .int .i64 (x0.len : Int)) rfl rfl hE rfl (r_len hE rfl 24 un22) (fun a hE => ?_)
  refine t_val (v := .int .i64 (Int.tmod (x0.len : Int) 2)) rfl rfl hE rfl (r_bin hE rfl rfl g_int (b_rem ⟨by decide, rfl⟩)) (fun a hE => ?_)
  refine t_val (v := .bool ((Int.tmod (x0.len : Int) 2) == 1)) rfl rfl hE rfl (r_bin hE rfl rfl g_int b_eql) (fun a hE => ?_)
  refine t_nil ?_
  refine hK_4 _ _ ?_
  refine w_cond ((Int.tmod (x0.len : Int) 2) == 1) hE rfl (fun hb => ?_) (fun hb => ?_)
  · replace H := M.ite_t hb H
    refine w_seq (fun K hK_5 => ?_)
    refine t_region ?_
    refine t_val (v := .agg (#[.int .i64 0, .int .i64 0, .string ByteArray.empty, .slice none 0 0] : Array Value)) rfl rfl hE rfl (r_build0 bd24) (fun a hE => ?_)
    obtain ⟨qz, H⟩ := H
    obtain ⟨u_6, qu_6, H⟩ := H
    refine t_sth rfl rfl hE hR (r_storeG hE rfl rfl sz24 qz qu_6) (fun a w hE hR hh => ?_)
    replace H := M.at hh H; clear hh
    refine t_val (v := .int .i64 1) rfl rfl hE rfl (r_assign hE rfl) (fun a hE => ?_)
    refine t_nil ?_
    refine hK_5 _ _ ?_
    refine w_ret ?_
    obtain ⟨r2_7, qr2_7, H⟩ := H
    exact hret _ _ _ (r2_7, 1) _ hE hR (res_run hE rfl (RV.cellG rfl ag24 qr2_7 (RV.tmp rfl RV.nil))) rfl H
  · replace H := M.ite_f hb H
    refine w_skip ?_
    refine hK_3 _ _ ?_
    refine w_seq (fun K hK_8 => ?_)
    refine t_region ?_
    refine t_val (v := (x0 : Sl).v) rfl rfl hE rfl (r_move hE rfl) (fun a hE => ?_)
    refine t_call hE hR cl_slices_Chunk_slapi_Value_api_Value rfl (S_slices_Chunk_slapi_Value_api_Value x0 2) (M.unbind H) (fun x12_9 a w ea hR H => ?_)
    have hE := Env.put_some hE rfl ea; clear ea
    refine t_call hE hR cl_slices_Collect_slapi_Value rfl (S_slices_Collect_slapi_Value x12_9) (M.unbind H) (fun x13_10 a w ea hR H => ?_)
    have hE := Env.put_some hE rfl ea; clear ea
    refine t_val (v := (x13_10 : Sl).v) rfl rfl hE rfl (r_assign hE rfl) (fun a hE => ?_)
    refine t_nil ?_
    refine hK_8 _ _ ?_
    refine w_seq (fun K hK_11 => ?_)
    refine t_region ?_
    refine t_val (v := (x13_10 : Sl).v) rfl rfl hE rfl (r_move hE rfl) (fun a hE => ?_)
    refine t_call hE hR cl_slices_SortStableFunc_slslapi_Value_slapi_Value rfl (S_slices_SortStableFunc_slslapi_Value_slapi_Value x13_10 (Value.func (.func fn_value_Map_1) #[] #[])) (M.unbind H) (fun x15_12 a w ea hR H => ?_)
    have hE := Env.put_some hE rfl ea; clear ea
    refine t_nil ?_
    refine hK_11 _ _ ?_
    refine w_seq (fun K hK_13 => ?_)
    refine w_seq (fun K hK_14 => ?_)
    refine t_region ?_
    refine t_val (v := .int .i64 1) rfl rfl hE rfl (r_assign hE rfl) (fun a hE => ?_)
    refine t_nil ?_
    refine hK_14 _ _ ?_
    refine w_block ?_
    refine l_loop (fun (s : Int) => (⟨43, []⟩ : Frm)) (fun (s : Int) => [(2, .pointer (some x2_2)), (4, (x13_10 : Sl).v), (5, .int .i64 s)]) H (hE.cut (.cons rfl (.cons rfl (.cons rfl Subs.nil)))) hR (fun Y self1 hY_18 x5_15 a w hE hR H => ?_)
    replace hE : Env (⟨43, []⟩ : Frm) a [(2, .pointer (some x2_2)), (4, (x13_10 : Sl).v), (5, .int .i64 x5_15)] := hE
    replace H : (value_Map_l1 x2_2 x13_10 self1 x5_15).wp w.heap Q := H
    unfold value_Map_l1 at H
    refine w_seq (fun K hK_19 => ?_)
    refine w_seq (fun K hK_20 => ?_)
    refine t_region ?_
    refine t_val (v := .int .i64 x5_15) rfl rfl hE rfl (r_move hE rfl) (fun a hE => ?_)
    refine t_val (v := (x13_10 : Sl).v) rfl rfl hE rfl (r_move hE rfl) (fun a hE => ?_)
    refine t_val (v := .int .i64 (x13_10.len : Int)) rfl rfl hE rfl (r_len hE rfl 22 un89) (fun a hE => ?_)
    refine t_val (v := .bool (decide (x5_15 < (x13_10.len : Int)))) rfl rfl hE rfl (r_bin hE rfl rfl g_int b_lss) (fun a hE => ?_)
    refine t_nil ?_
    refine hK_20 _ _ ?_
    refine w_cond (decide (x5_15 < (x13_10.len : Int))) hE rfl (fun hb => ?_) (fun hb => ?_)
    · replace H := M.ite_t hb H
      refine w_skip ?_
      refine hK_19 _ _ ?_
      refine w_seq (fun K hK_21 => ?_)
      refine w_block ?_
      refine w_seq (fun K hK_22 => ?_)
      obtain ⟨x25_23, qx25_23, H⟩ := H
      obtain ⟨x31_24, qx31_24, H⟩ := H
      obtain ⟨x26_25, qx26_25, H⟩ := H
      obtain ⟨x27_26, qx27_26, H⟩ := H
      obtain ⟨x28_27, qx28_27, H⟩ := H
      obtain ⟨x32_28, qx32_28, H⟩ := H
      obtain ⟨x33_29, qx33_29, H⟩ := H
      obtain ⟨x34_30, qx34_30, H⟩ := H
      have hT := tab_of tb20_8 rfl rfl
      refine d_start (fun w : World => (fun h : Heap => (hcell h x25_23 = some ((x26_25 : Sl).v)) ∧ (x28_27.size = 4 ∧ ∀ i, i < 4 → hcell h (Addr.add x27_26 i) = x28_27[i]?) ∧ (hcell h x31_24 = some ((x32_28 : Sl).v)) ∧ (x34_30.size = 4 ∧ ∀ i, i < 4 → hcell h (Addr.add x33_29 i) = x34_30[i]?)) w.heap) [13] #[false, false, false, false, false, false, false, false, false, false, false, false, false, false] mo hR rfl rfl (fun w' e => by rw [e]; exact ⟨qx26_25, qx28_27, qx32_28, qx34_30⟩) (fun w hh hR hs => ?_)
      replace H := M.at hh H; clear hh
      refine d_pureg (i := 0) (v := (x13_10 : Sl).v) #[true, false, false, false, false, false, false, false, false, false, false, false, false, false] rfl rfl hT (by kernel_rfl) hE rfl (wanted_none rfl) (fun w => r_move hE rfl) (fun a hE => ?_)
      refine d_pureg (i := 1) (v := .int .i64 x5_15) #[true, true, false, false, false, false, false, false, false, false, false, false, false, false] rfl rfl hT (by kernel_rfl) hE rfl (wanted_none rfl) (fun w => r_move hE rfl) (fun a hE => ?_)
      refine d_pureg (i := 2) (v := .int .i64 (IntKind.wrap .i64 (x5_15 - 1))) #[true, true, true, false, false, false, false, false, false, false, false, false, false, false] rfl rfl hT (by kernel_rfl) hE rfl (wanted_none rfl) (fun w => r_bin hE rfl rfl g_int b_sub) (fun a hE => ?_)
      refine d_pureg (i := 3) (v := .pointer (some x25_23)) #[true, true, true, true, false, false, false, false, false, false, false, false, false, false] rfl rfl hT (by kernel_rfl) hE rfl (wanted_none rfl) (fun w => r_indexAddrL hE rfl rfl un89 sz22 qx25_23) (fun a hE => ?_)
      refine d_pureg (i := 7) (v := (x13_10 : Sl).v) #[true, true, true, true, false, false, false, true, false, false, false, false, false, false] rfl rfl hT (by kernel_rfl) hE rfl (wanted_none rfl) (fun w => r_move hE rfl) (fun a hE => ?_)
      refine d_pureg (i := 8) (v := .int .i64 x5_15) #[true, true, true, true, false, false, false, true, true, false, false, false, false, false] rfl rfl hT (by kernel_rfl) hE rfl (wanted_none rfl) (fun w => r_move hE rfl) (fun a hE => ?_)
      refine d_pureg (i := 9) (v := .pointer (some x31_24)) #[true, true, true, true, false, false, false, true, true, true, false, false, false, false] rfl rfl hT (by kernel_rfl) hE rfl (wanted_none rfl) (fun w => r_indexAddrL hE rfl rfl un89 sz22 qx31_24) (fun a hE => ?_)
      refine d_read (i := 4) (v := (x26_25 : Sl).v) #[true, true, true, true, true, false, false, true, true, true, false, false, false, false] rfl rfl hT (by kernel_rfl) hE rfl (wanted_none rfl) hs (fun w s => r_load hE rfl sc22 s.1) (fun a hE => ?_)
      refine d_pureg (i := 5) (v := .pointer (some x27_26)) #[true, true, true, true, true, true, false, true, true, true, false, false, false, false] rfl rfl hT (by kernel_rfl) hE rfl (wanted_none rfl) (fun w => r_indexAddrL hE rfl rfl un22 sz24 qx27_26) (fun a hE => ?_)
      refine d_read (i := 6) (v := .agg x28_27) #[true, true, true, true, true, true, true, true, true, true, false, false, false, false] rfl rfl hT (by kernel_rfl) hE rfl (wanted_none rfl) hs (fun w s => r_loadG hE rfl ag24 s.2.1) (fun a hE => ?_)
      refine d_read (i := 10) (v := (x32_28 : Sl).v) #[true, true, true, true, true, true, true, true, true, true, true, false, false, false] rfl rfl hT (by kernel_rfl) hE rfl (wanted_none rfl) hs (fun w s => r_load hE rfl sc22 s.2.2.1) (fun a hE => ?_)
      refine d_pureg (i := 11) (v := .pointer (some x33_29)) #[true, true, true, true, true, true, true, true, true, true, true, true, false, false] rfl rfl hT (by kernel_rfl) hE rfl (wanted_none rfl) (fun w => r_indexAddrL hE rfl rfl un22 sz24 qx33_29) (fun a hE => ?_)
      refine d_read (i := 12) (v := .agg x34_30) #[true, true, true, true, true, true, true, true, true, true, true, true, true, false] rfl rfl hT (by kernel_rfl) hE rfl (wanted_none rfl) hs (fun w s => r_loadG hE rfl ag24 s.2.2.2) (fun a hE => ?_)
      refine d_calll (i := 13) #[true, true, true, true, true, true, true, true, true, true, true, true, true, true] rfl rfl rfl hT (by kernel_rfl) rfl hE hR (wanted_none rfl) cl_value_Same rfl (S_value_Same x28_27 x34_30) (M.unbind H) (fun x35_31 a w ea hR H => ?_)
      have hE := Env.put_some hE rfl ea; clear ea
      refine d_done hT (by kernel_rfl) ?_
      refine hK_22 _ _ ?_
      refine w_cond x35_31 hE rfl (fun hb => ?_) (fun hb => ?_)
      · replace H := M.ite_t hb H
        refine w_seq (fun K hK_32 => ?_)
        refine t_region ?_
        refine t_val (v := .agg (#[.int .i64 0, .int .i64 0, .string ByteArray.empty, .slice none 0 0] : Array Value)) rfl rfl hE rfl (r_build0 bd24) (fun a hE => ?_)
        obtain ⟨qz, H⟩ := H
        obtain ⟨u_33, qu_33, H⟩ := H
        refine t_sth rfl rfl hE hR (r_storeG hE rfl rfl sz24 qz qu_33) (fun a w hE hR hh => ?_)
        replace H := M.at hh H; clear hh
        refine t_val (v := .int .i64 5) rfl rfl hE rfl (r_assign hE rfl) (fun a hE => ?_)
        refine t_nil ?_
        refine hK_32 _ _ ?_
        refine w_ret ?_
        obtain ⟨r2_34, qr2_34, H⟩ := H
        exact hret _ _ _ (r2_34, 5) _ hE hR (res_run hE rfl (RV.cellG rfl ag24 qr2_34 (RV.tmp rfl RV.nil))) rfl H
      · replace H := M.ite_f hb H
        refine w_skip ?_
        refine hK_21 _ _ ?_
        refine t_region ?_
        refine t_val (v := .int .i64 x5_15) rfl rfl hE rfl (r_move hE rfl) (fun a hE => ?_)
        refine t_val (v := .int .i64 (IntKind.wrap .i64 (x5_15 + 1))) rfl rfl hE rfl (r_bin hE rfl rfl g_int b_add) (fun a hE => ?_)
        refine t_val (v := .int .i64 (IntKind.wrap .i64 (x5_15 + 1))) rfl rfl hE rfl (r_assign hE rfl) (fun a hE => ?_)
        refine t_nil ?_
        exact hY_18 (IntKind.wrap .i64 (x5_15 + 1)) _ _ (hE.cut (.cons rfl (.cons rfl (.cons rfl Subs.nil)))) hR H
    · replace H := M.ite_f hb H
      refine w_exit ?_
      refine Xu.same ?_
      refine hK_13 _ _ ?_
      refine w_seq (fun K hK_35 => ?_)
      refine t_region ?_
      refine t_val (v := (x13_10 : Sl).v) rfl rfl hE rfl (r_move hE rfl) (fun a hE => ?_)
      refine t_call hE hR cl_slices_Concat_slapi_Value_api_Value rfl (S_slices_Concat_slapi_Value_api_Value x13_10) (M.unbind H) (fun x38_36 a w ea hR H => ?_)
      have hE := Env.put_some hE rfl ea; clear ea
      refine t_val (v := .agg (#[.int .i64 5, .int .i64 0, .string ByteArray.empty, (x38_36 : Sl).v] : Array Value)) rfl rfl hE rfl (r_build hE rfl zr24 pl24 (by rfl)) (fun a hE => ?_)
      refine t_call hE hR cl_value_made rfl (S_value_made (#[.int .i64 5, .int .i64 0, .string ByteArray.empty, (x38_36 : Sl).v] : Array Value)) (M.unbind H) (fun x40_37 a w ea hR H => ?_)
      have hE := Env.put_some hE rfl ea; clear ea
      refine t_val (v := .agg x40_37.1) rfl rfl hE rfl (r_extract hE rfl rfl) (fun a hE => ?_)
      refine t_val (v := .int .i64 x40_37.2) rfl rfl hE rfl (r_extract hE rfl rfl) (fun a hE => ?_)
      obtain ⟨qz, H⟩ := H
      obtain ⟨u_38, qu_38, H⟩ := H
      refine t_sth rfl rfl hE hR (r_storeG hE rfl rfl sz24 qz qu_38) (fun a w hE hR hh => ?_)
      replace H := M.at hh H; clear hh
      refine t_val (v := .int .i64 x40_37.2) rfl rfl hE rfl (r_assign hE rfl) (fun a hE => ?_)
      refine t_nil ?_
      refine hK_35 _ _ ?_
      refine w_ret ?_
      obtain ⟨r2_39, qr2_39, H⟩ := H
      exact hret _ _ _ (r2_39, x40_37.2) _ hE hR (res_run hE rfl (RV.cellG rfl ag24 qr2_39 (RV.tmp rfl RV.nil))) rfl H

def value_Int (x0 : Int) : M (Array Value) := do
  let x2_2 ← mkB ty_api_Value (#[.int .i64 0, .int .i64 0, .string ByteArray.empty, .slice none 0 0] : Array Value)
  M.need ((#[.int .i64 1, .int .i64 x0, .string ByteArray.empty, .slice none 0 0] : Array Value).size = 4)
  stG x2_2 (#[.int .i64 1, .int .i64 x0, .string ByteArray.empty, .slice none 0 0] : Array Value)
  let r2_5 ← ldG 4 x2_2
  M.pure r2_5
theorem S_value_Int (x0 : Int) : Sound Go.Proofs.Tryz.prog 26 #[.int .i64 x0] (fun (r : Array Value) => .agg r) (value_Int x0) := by
  refine sound_of [(0, .int .i64 x0)] Go.Proofs.Tryz.func26 rfl rfl (Nat.le_of_ble_eq_true rfl) (args_of ⟨rfl, trivial⟩) (fun w0 w Q R a hret hE hR H => ?_)
  unfold value_Int at H
  refine w_seq (fun K hK_1 => ?_)
  refine t_region ?_
  obtain ⟨x2_2, qx2_2, H⟩ := H
  refine t_valh (v := .pointer (some x2_2)) rfl rfl hE rfl hR (r_alloc zr24 qx2_2) (fun a w hE hR hh => ?_)
  replace H := M.at hh H; clear hh
  refine t_nil ?_
  refine hK_1 _ _ ?_
  refine w_seq (fun K hK_3 => ?_)
  refine t_region ?_
  refine t_val (v := .int .i64 x0) rfl rfl hE rfl (r_move hE rfl) (fun a hE => ?_)
  refine t_val (v := .agg (#[.int .i64 1, .int .i64 x0, .string ByteArray.empty, .slice none 0 0] : Array Value)) rfl rfl hE rfl (r_build hE rfl zr24 pl24 (by rfl)) (fun a hE => ?_)
  obtain ⟨qz, H⟩ := H
  obtain ⟨u_4, qu_4, H⟩ := H
  refine t_sth rfl rfl hE hR (r_storeG hE rfl rfl sz24 qz qu_4) (fun a w hE hR hh => ?_)
  replace H := M.at hh H; clear hh
  refine t_nil ?_
  refine hK_3 _ _ ?_
  refine w_ret ?_
  obtain ⟨r2_5, qr2_5, H⟩ := H
  exact hret _ _ _ r2_5 _ hE hR (res_run hE rfl (RV.cellG rfl ag24 qr2_5 RV.nil)) rfl H

def value_Str (x0 : ByteArray) : M (Array Value) := do
  let x2_2 ← mkB ty_api_Value (#[.int .i64 0, .int .i64 0, .string ByteArray.empty, .slice none 0 0] : Array Value)
  M.need ((#[.int .i64 2, .int .i64 0, .string x0, .slice none 0 0] : Array Value).size = 4)
  stG x2_2 (#[.int .i64 2, .int .i64 0, .string x0, .slice none 0 0] : Array Value)
  let r2_5 ← ldG 4 x2_2
  M.pure r2_5
theorem S_value_Str (x0 : ByteArray) : Sound Go.Proofs.Tryz.prog 28 #[.string x0] (fun (r : Array Value) => .agg r) (value_Str x0) := by
  refine sound_of [(0, .string x0)] Go.Proofs.Tryz.func28 rfl rfl (Nat.le_of_ble_eq_true rfl) (args_of ⟨rfl, trivial⟩) (fun w0 w Q R a hret hE hR H => ?_)
  unfold value_Str at H
  refine w_seq (fun K hK_1 => ?_)
  refine t_region ?_
  obtain ⟨x2_2, qx2_2, H⟩ := H
  refine t_valh (v := .pointer (some x2_2)) rfl rfl hE rfl hR (r_alloc zr24 qx2_2) (fun a w hE hR hh => ?_)
  replace H := M.at hh H; clear hh
  refine t_nil ?_
  refine hK_1 _ _ ?_
  refine w_seq (fun K hK_3 => ?_)
  refine t_region ?_
  refine t_val (v := .string x0) rfl rfl hE rfl (r_move hE rfl) (fun a hE => ?_)
  refine t_val (v := .agg (#[.int .i64 2, .int .i64 0, .string x0, .slice none 0 0] : Array Value)) rfl rfl hE rfl (r_build hE rfl zr24 pl24 (by rfl)) (fun a hE => ?_)
  obtain ⟨qz, H⟩ := H
  obtain ⟨u_4, qu_4, H⟩ := H
  refine t_sth rfl rfl hE hR (r_storeG hE rfl rfl sz24 qz qu_4) (fun a w hE hR hh => ?_)
  replace H := M.at hh H; clear hh
  refine t_nil ?_
  refine hK_3 _ _ ?_
  refine w_ret ?_
  obtain ⟨r2_5, qr2_5, H⟩ := H
  exact hret _ _ _ r2_5 _ hE hR (res_run hE rfl (RV.cellG rfl ag24 qr2_5 RV.nil)) rfl H

def value_Bool_j1 (c2_6 : Addr) (c3_7 : Addr) : M (Array Value) := do
  let x7_9 ← ldG 4 c3_7
  M.need (x7_9.size = 4)
  stG c2_6 x7_9
  let r2_11 ← ldG 4 c2_6
  M.pure r2_11
def value_Bool (x0 : Bool) : M (Array Value) := do
  let x2_2 ← mkB ty_api_Value (#[.int .i64 0, .int .i64 0, .string ByteArray.empty, .slice none 0 0] : Array Value)
  let x3_4 ← mkB ty_api_Value (#[.int .i64 0, .int .i64 0, .string ByteArray.empty, .slice none 0 0] : Array Value)
  M.need ((#[.int .i64 3, .int .i64 0, .string ByteArray.empty, .slice none 0 0] : Array Value).size = 4)
  stG x3_4 (#[.int .i64 3, .int .i64 0, .string ByteArray.empty, .slice none 0 0] : Array Value)
  M.ite x0 (do
    stV ((x3_4).add 1) (.int .i64 1)
    value_Bool_j1 x2_2 x3_4
    ) (do
    value_Bool_j1 x2_2 x3_4
    )
theorem S_value_Bool (x0 : Bool) : Sound Go.Proofs.Tryz.prog 34 #[.bool x0] (fun (r : Array Value) => .agg r) (value_Bool x0) := by
  refine sound_of [(0, .bool x0)] Go.Proofs.Tryz.func34 rfl rfl (Nat.le_of_ble_eq_true rfl) (args_of ⟨rfl, trivial⟩) (fun w0 w Q R a hret hE hR H => ?_)
  unfold value_Bool at H
  refine w_seq (fun K hK_1 => ?_)
  refine t_region ?_
  obtain ⟨x2_2, qx2_2, H⟩ := H
  refine t_valh (v := .pointer (some x2_2)) rfl rfl hE rfl hR (r_alloc zr24 qx2_2) (fun a w hE hR hh => ?_)
  replace H := M.at hh H; clear hh
  refine t_nil ?_
  refine hK_1 _ _ ?_
  refine w_seq (fun K hK_3 => ?_)
  refine t_region ?_
  refine t_val (v := .agg (#[.int .i64 3, .int .i64 0, .string ByteArray.empty, .slice none 0 0] : Array Value)) rfl rfl hE rfl (r_build hE rfl zr24 pl24 (by rfl)) (fun a hE => ?_)
  obtain ⟨x3_4, qx3_4, H⟩ := H
  refine t_valh (v := .pointer (some x3_4)) rfl rfl hE rfl hR (r_alloc zr24 qx3_4) (fun a w hE hR hh => ?_)
  replace H := M.at hh H; clear hh
  obtain ⟨qz, H⟩ := H
  obtain ⟨u_5, qu_5, H⟩ := H
  refine t_sth rfl rfl hE hR (r_storeG hE rfl rfl sz24 qz qu_5) (fun a w hE hR hh => ?_)
  replace H := M.at hh H; clear hh
  refine t_nil ?_
  refine hK_3 _ _ ?_
  refine w_seq_join (fun a w => Env (⟨8, []⟩ : Frm) a [(2, .pointer (some x2_2)), (3, .pointer (some x3_4))] ∧ Rest w0 w ∧ (value_Bool_j1 x2_2 x3_4).wp w.heap Q) ?_ ?_
  · rintro a w ⟨hE, hR, H⟩
    unfold value_Bool_j1 at H
    refine w_seq (fun K hK_8 => ?_)
    refine t_region ?_
    obtain ⟨x7_9, qx7_9, H⟩ := H
    refine t_val (v := .agg x7_9) rfl rfl hE rfl (r_loadG hE rfl ag24 qx7_9) (fun a hE => ?_)
    obtain ⟨qz, H⟩ := H
    obtain ⟨u_10, qu_10, H⟩ := H
    refine t_sth rfl rfl hE hR (r_storeG hE rfl rfl sz24 qz qu_10) (fun a w hE hR hh => ?_)
    replace H := M.at hh H; clear hh
    refine t_nil ?_
    refine hK_8 _ _ ?_
    refine w_ret ?_
    obtain ⟨r2_11, qr2_11, H⟩ := H
    exact hret _ _ _ r2_11 _ hE hR (res_run hE rfl (RV.cellG rfl ag24 qr2_11 RV.nil)) rfl H
  · skip
    refine w_seq (fun K hK_12 => ?_)
    refine t_region ?_
    refine t_val (v := .bool x0) rfl rfl hE rfl (r_move hE rfl) (fun a hE => ?_)
    refine t_nil ?_
    refine hK_12 _ _ ?_
    refine w_cond x0 hE rfl (fun hb => ?_) (fun hb => ?_)
    · replace H := M.ite_t hb H
      refine t_region ?_
      refine t_val (v := .pointer (some ((x3_4).add 1))) rfl rfl hE rfl (r_fieldAddr hE rfl fd24_1) (fun a hE => ?_)
      obtain ⟨u_13, qu_13, H⟩ := H
      refine t_sth rfl rfl hE hR (r_store hE rfl rfl sz2 qu_13) (fun a w hE hR hh => ?_)
      replace H := M.at hh H; clear hh
      refine t_nil ?_
      exact ⟨hE.cut (.cons rfl (.cons rfl Subs.nil)), hR, H⟩
    · replace H := M.ite_f hb H
      refine w_skip ?_
      exact ⟨hE.cut (.cons rfl (.cons rfl Subs.nil)), hR, H⟩

def ramblelaw02_begun  : M (Bool) := do
  let x7_3 ← value_Str (⟨#[98]⟩ : ByteArray)
  let x8_4 ← value_Int 1
  let x9_5 ← value_Str (⟨#[97]⟩ : ByteArray)
  let x10_6 ← value_Bool true
  let y_8 ← fillL 4 4 (#[.int .i64 0, .int .i64 0, .string ByteArray.empty, .slice none 0 0] : Array Value) [(0, .agg x7_3), (1, .agg x8_4), (2, .agg x9_5), (3, .agg x10_6)]
  let x11_7 ← bdL ty_api_Value 4 y_8
  let x12_9 ← value_Map x11_7
  let x1_10 ← mkB ty_api_Value (#[.int .i64 0, .int .i64 0, .string ByteArray.empty, .slice none 0 0] : Array Value)
  M.need (x12_9.1.size = 4)
  stG x1_10 x12_9.1
  let x16_13 ← value_Parse (⟨#[123, 39, 97, 39, 58, 32, 116, 114, 117, 101, 44, 32, 39, 98, 39, 58, 32, 49, 125]⟩ : ByteArray)
  let x3_14 ← mkB ty_api_Value (#[.int .i64 0, .int .i64 0, .string ByteArray.empty, .slice none 0 0] : Array Value)
  M.need (x16_13.1.size = 4)
  stG x3_14 x16_13.1
  let x26_17 ← M.ite (x12_9.2 == 0) (do
    let x23_18 ← ldG 4 x1_10
    let x24_19 ← value_Text x23_18
    M.pure (sEq x24_19 (⟨#[123, 39, 97, 39, 58, 32, 116, 114, 117, 101, 44, 32, 39, 98, 39, 58, 32, 49, 125]⟩ : ByteArray))
    ) (do
    M.pure false
    )
  let x30_20 ← M.ite x26_17 (do
    M.pure (x16_13.2.2 == 0)
    ) (do
    M.pure false
    )
  let x34_21 ← M.ite x30_20 (do
    M.pure (x16_13.2.1 == 0)
    ) (do
    M.pure false
    )
  let x39_22 ← M.ite x34_21 (do
    let x36_23 ← ldG 4 x1_10
    let x37_24 ← ldG 4 x3_14
    let x38_25 ← rambleref02_Same x36_23 x37_24
    M.pure x38_25
    ) (do
    M.pure false
    )
  M.pure x39_22
theorem S_ramblelaw02_begun  : Sound Go.Proofs.Tryz.prog 14 #[] (fun (r : Bool) => .bool r) (ramblelaw02_begun ) := by
  refine sound_of [] Go.Proofs.Tryz.func14 rfl rfl (Nat.le_of_ble_eq_true rfl) (args_of trivial) (fun w0 w Q R a hret hE hR H => ?_)
  unfold ramblelaw02_begun at H
  refine w_seq (fun K hK_1 => ?_)
  refine t_region ?_
  refine t_val (v := .bool false) rfl rfl hE rfl (r_assign hE rfl) (fun a hE => ?_)
  refine t_nil ?_
  refine hK_1 _ _ ?_
  refine w_seq (fun K hK_2 => ?_)
  refine t_region ?_
  refine t_call hE hR cl_value_Str rfl (S_value_Str (⟨#[98]⟩ : ByteArray)) (M.unbind H) (fun x7_3 a w ea hR H => ?_)
  have hE := Env.put_some hE rfl ea; clear ea
  refine t_call hE hR cl_value_Int rfl (S_value_Int 1) (M.unbind H) (fun x8_4 a w ea hR H => ?_)
  have hE := Env.put_some hE rfl ea; clear ea
  refine t_call hE hR cl_value_Str rfl (S_value_Str (⟨#[97]⟩ : ByteArray)) (M.unbind H) (fun x9_5 a w ea hR H => ?_)
  have hE := Env.put_some hE rfl ea; clear ea
  refine t_call hE hR cl_value_Bool rfl (S_value_Bool true) (M.unbind H) (fun x10_6 a w ea hR H => ?_)
  have hE := Env.put_some hE rfl ea; clear ea
  obtain ⟨y_8, qy_8, H⟩ := H
  obtain ⟨x11_7, qx11_7, H⟩ := H
  refine t_valh (v := (x11_7 : Sl).v) rfl rfl hE rfl hR (r_buildL hE rfl un22 sz24 zr24 rfl qy_8 qx11_7) (fun a w hE hR hh => ?_)
  replace H := M.at hh H; clear hh
  refine t_call hE hR cl_value_Map rfl (S_value_Map x11_7) (M.unbind H) (fun x12_9 a w ea hR H => ?_)
  have hE := Env.put_some hE rfl ea; clear ea
  refine t_val (v := .tuple #[.agg x12_9.1, .int .i64 x12_9.2]) rfl rfl hE rfl (r_move hE rfl) (fun a hE => ?_)
  refine t_val (v := .agg x12_9.1) rfl rfl hE rfl (r_extract hE rfl rfl) (fun a hE => ?_)
  refine t_val (v := .int .i64 x12_9.2) rfl rfl hE rfl (r_extract hE rfl rfl) (fun a hE => ?_)
  obtain ⟨x1_10, qx1_10, H⟩ := H
  refine t_valh (v := .pointer (some x1_10)) rfl rfl hE rfl hR (r_alloc zr24 qx1_10) (fun a w hE hR hh => ?_)
  replace H := M.at hh H; clear hh
  obtain ⟨qz, H⟩ := H
  obtain ⟨u_11, qu_11, H⟩ := H
  refine t_sth rfl rfl hE hR (r_storeG hE rfl rfl sz24 qz qu_11) (fun a w hE hR hh => ?_)
  replace H := M.at hh H; clear hh
  refine t_val (v := .int .i64 x12_9.2) rfl rfl hE rfl (r_assign hE rfl) (fun a hE => ?_)
  refine t_nil ?_
  refine hK_2 _ _ ?_
  refine w_seq (fun K hK_12 => ?_)
  refine t_region ?_
  refine t_call hE hR cl_value_Parse rfl (S_value_Parse (⟨#[123, 39, 97, 39, 58, 32, 116, 114, 117, 101, 44, 32, 39, 98, 39, 58, 32, 49, 125]⟩ : ByteArray)) (M.unbind H) (fun x16_13 a w ea hR H => ?_)
  have hE := Env.put_some hE rfl ea; clear ea
  refine t_val (v := .tuple #[.agg x16_13.1, .int .i64 x16_13.2.1, .int .i64 x16_13.2.2]) rfl rfl hE rfl (r_move hE rfl) (fun a hE => ?_)
  refine t_val (v := .agg x16_13.1) rfl rfl hE rfl (r_extract hE rfl rfl) (fun a hE => ?_)
  refine t_val (v := .int .i64 x16_13.2.1) rfl rfl hE rfl (r_extract hE rfl rfl) (fun a hE => ?_)
  refine t_val (v := .int .i64 x16_13.2.2) rfl rfl hE rfl (r_extract hE rfl rfl) (fun a hE => ?_)
  obtain ⟨x3_14, qx3_14, H⟩ := H
  refine t_valh (v := .pointer (some x3_14)) rfl rfl hE rfl hR (r_alloc zr24 qx3_14) (fun a w hE hR hh => ?_)
  replace H := M.at hh H; clear hh
  obtain ⟨qz, H⟩ := H
  obtain ⟨u_15, qu_15, H⟩ := H
  refine t_sth rfl rfl hE hR (r_storeG hE rfl rfl sz24 qz qu_15) (fun a w hE hR hh => ?_)
  replace H := M.at hh H; clear hh
  refine t_val (v := .int .i64 x16_13.2.1) rfl rfl hE rfl (r_assign hE rfl) (fun a hE => ?_)
  refine t_val (v := .int .i64 x16_13.2.2) rfl rfl hE rfl (r_assign hE rfl) (fun a hE => ?_)
  refine t_nil ?_
  refine hK_12 _ _ ?_
  refine w_seq (fun K hK_16 => ?_)
  refine t_region ?_
  refine t_val (v := .int .i64 x12_9.2) rfl rfl hE rfl (r_move hE rfl) (fun a hE => ?_)
  refine t_val (v := .bool (x12_9.2 == 0)) rfl rfl hE rfl (r_bin hE rfl rfl g_int b_eql) (fun a hE => ?_)
  refine t_val (v := .bool (x12_9.2 == 0)) rfl rfl hE rfl (r_move hE rfl) (fun a hE => ?_)
  refine t_grp (n := (⟨40, []⟩ : Frm)) (w0 := w0) 4 (fun x26_17 : Bool => [(0, .bool false), (1, .pointer (some x1_10)), (3, .pointer (some x3_14)), (4, .int .i64 x16_13.2.1), (5, .int .i64 x16_13.2.2), (26, .bool x26_17)]) (M.unbind H) (fun Kr hKr H => ?_) ?_
  · rcases bool_em (x12_9.2 == 0) with hb | hb
    · replace H := M.ite_t hb H
      have hE := hE.reb 22 (x12_9.2 == 0) true hb rfl
      refine t_on rfl hE rfl rfl rfl ?_
      obtain ⟨x23_18, qx23_18, H⟩ := H
      refine t_val (v := .agg x23_18) rfl rfl hE rfl (r_loadG hE rfl ag24 qx23_18) (fun a hE => ?_)
      refine t_on rfl hE rfl rfl rfl ?_
      refine t_call hE hR cl_value_Text rfl (S_value_Text x23_18) (M.unbind H) (fun x24_19 a w ea hR H => ?_)
      have hE := Env.put_some hE rfl ea; clear ea
      refine t_on rfl hE rfl rfl rfl ?_
      refine t_val (v := .bool (sEq x24_19 (⟨#[123, 39, 97, 39, 58, 32, 116, 114, 117, 101, 44, 32, 39, 98, 39, 58, 32, 49, 125]⟩ : ByteArray))) rfl rfl hE rfl (r_bin hE rfl rfl g_str b_eqlS) (fun a hE => ?_)
      refine t_val rfl rfl hE rfl (r_pick_t hE rfl rfl) (fun a hE => ?_)
      refine t_nil ?_
      exact hKr _ _ _ (hE.cut (.cons rfl (.cons rfl (.cons rfl (.cons rfl (.cons rfl (.cons rfl Subs.nil))))))) hR H
    · replace H := M.ite_f hb H
      have hE := hE.reb 22 (x12_9.2 == 0) false hb rfl
      refine t_off rfl hE rfl rfl rfl (fun a ea => ?_)
      have hE := Env.put_some hE rfl ea; clear ea
      refine t_off rfl hE rfl rfl rfl (fun a ea => ?_)
      have hE := Env.put_some hE rfl ea; clear ea
      refine t_off rfl hE rfl rfl rfl (fun a ea => ?_)
      have hE := Env.put_some hE rfl ea; clear ea
      refine t_val rfl rfl hE rfl (r_pick_f hE rfl rfl) (fun a hE => ?_)
      refine t_nil ?_
      exact hKr _ _ _ (hE.cut (.cons rfl (.cons rfl (.cons rfl (.cons rfl (.cons rfl (.cons rfl Subs.nil))))))) hR H
  · intro x26_17 a w hE hR H
    refine t_val (v := .bool x26_17) rfl rfl hE rfl (r_move hE rfl) (fun a hE => ?_)
    refine t_grp (n := (⟨40, []⟩ : Frm)) (w0 := w0) 3 (fun x30_20 : Bool => [(0, .bool false), (1, .pointer (some x1_10)), (3, .pointer (some x3_14)), (4, .int .i64 x16_13.2.1), (30, .bool x30_20)]) (M.unbind H) (fun Kr hKr H => ?_) ?_
    · rcases bool_em x26_17 with hb | hb
      · replace H := M.ite_t hb H
        have hE := hE.reb 27 x26_17 true hb rfl
        refine t_on rfl hE rfl rfl rfl ?_
        refine t_val (v := .int .i64 x16_13.2.2) rfl rfl hE rfl (r_move hE rfl) (fun a hE => ?_)
        refine t_on rfl hE rfl rfl rfl ?_
        refine t_val (v := .bool (x16_13.2.2 == 0)) rfl rfl hE rfl (r_bin hE rfl rfl g_int b_eql) (fun a hE => ?_)
        refine t_val rfl rfl hE rfl (r_pick_t hE rfl rfl) (fun a hE => ?_)
        refine t_nil ?_
        exact hKr _ _ _ (hE.cut (.cons rfl (.cons rfl (.cons rfl (.cons rfl (.cons rfl Subs.nil)))))) hR H
      · replace H := M.ite_f hb H
        have hE := hE.reb 27 x26_17 false hb rfl
        refine t_off rfl hE rfl rfl rfl (fun a ea => ?_)
        have hE := Env.put_some hE rfl ea; clear ea
        refine t_off rfl hE rfl rfl rfl (fun a ea => ?_)
        have hE := Env.put_some hE rfl ea; clear ea
        refine t_val rfl rfl hE rfl (r_pick_f hE rfl rfl) (fun a hE => ?_)
        refine t_nil ?_
        exact hKr _ _ _ (hE.cut (.cons rfl (.cons rfl (.cons rfl (.cons rfl (.cons rfl Subs.nil)))))) hR H
    · intro x30_20 a w hE hR H
      refine t_val (v := .bool x30_20) rfl rfl hE rfl (r_move hE rfl) (fun a hE => ?_)
      refine t_grp (n := (⟨40, []⟩ : Frm)) (w0 := w0) 3 (fun x34_21 : Bool => [(0, .bool false), (1, .pointer (some x1_10)), (3, .pointer (some x3_14)), (34, .bool x34_21)]) (M.unbind H) (fun Kr hKr H => ?_) ?_
      · rcases bool_em x30_20 with hb | hb
        · replace H := M.ite_t hb H
          have hE := hE.reb 31 x30_20 true hb rfl
          refine t_on rfl hE rfl rfl rfl ?_
          refine t_val (v := .int .i64 x16_13.2.1) rfl rfl hE rfl (r_move hE rfl) (fun a hE => ?_)
          refine t_on rfl hE rfl rfl rfl ?_
          refine t_val (v := .bool (x16_13.2.1 == 0)) rfl rfl hE rfl (r_bin hE rfl rfl g_int b_eql) (fun a hE => ?_)
          refine t_val rfl rfl hE rfl (r_pick_t hE rfl rfl) (fun a hE => ?_)
          refine t_nil ?_
          exact hKr _ _ _ (hE.cut (.cons rfl (.cons rfl (.cons rfl (.cons rfl Subs.nil))))) hR H
        · replace H := M.ite_f hb H
          have hE := hE.reb 31 x30_20 false hb rfl
          refine t_off rfl hE rfl rfl rfl (fun a ea => ?_)
          have hE := Env.put_some hE rfl ea; clear ea
          refine t_off rfl hE rfl rfl rfl (fun a ea => ?_)
          have hE := Env.put_some hE rfl ea; clear ea
          refine t_val rfl rfl hE rfl (r_pick_f hE rfl rfl) (fun a hE => ?_)
          refine t_nil ?_
          exact hKr _ _ _ (hE.cut (.cons rfl (.cons rfl (.cons rfl (.cons rfl Subs.nil))))) hR H
      · intro x34_21 a w hE hR H
        refine t_val (v := .bool x34_21) rfl rfl hE rfl (r_move hE rfl) (fun a hE => ?_)
        refine t_grp (n := (⟨40, []⟩ : Frm)) (w0 := w0) 4 (fun x39_22 : Bool => [(0, .bool false), (39, .bool x39_22)]) (M.unbind H) (fun Kr hKr H => ?_) ?_
        · rcases bool_em x34_21 with hb | hb
          · replace H := M.ite_t hb H
            have hE := hE.reb 35 x34_21 true hb rfl
            refine t_on rfl hE rfl rfl rfl ?_
            obtain ⟨x36_23, qx36_23, H⟩ := H
            refine t_val (v := .agg x36_23) rfl rfl hE rfl (r_loadG hE rfl ag24 qx36_23) (fun a hE => ?_)
            refine t_on rfl hE rfl rfl rfl ?_
            obtain ⟨x37_24, qx37_24, H⟩ := H
            refine t_val (v := .agg x37_24) rfl rfl hE rfl (r_loadG hE rfl ag24 qx37_24) (fun a hE => ?_)
            refine t_on rfl hE rfl rfl rfl ?_
            refine t_call hE hR cl_rambleref02_Same rfl (S_rambleref02_Same x36_23 x37_24) (M.unbind H) (fun x38_25 a w ea hR H => ?_)
            have hE := Env.put_some hE rfl ea; clear ea
            refine t_val rfl rfl hE rfl (r_pick_t hE rfl rfl) (fun a hE => ?_)
            refine t_nil ?_
            exact hKr _ _ _ (hE.cut (.cons rfl (.cons rfl Subs.nil))) hR H
          · replace H := M.ite_f hb H
            have hE := hE.reb 35 x34_21 false hb rfl
            refine t_off rfl hE rfl rfl rfl (fun a ea => ?_)
            have hE := Env.put_some hE rfl ea; clear ea
            refine t_off rfl hE rfl rfl rfl (fun a ea => ?_)
            have hE := Env.put_some hE rfl ea; clear ea
            refine t_off rfl hE rfl rfl rfl (fun a ea => ?_)
            have hE := Env.put_some hE rfl ea; clear ea
            refine t_val rfl rfl hE rfl (r_pick_f hE rfl rfl) (fun a hE => ?_)
            refine t_nil ?_
            exact hKr _ _ _ (hE.cut (.cons rfl (.cons rfl Subs.nil))) hR H
        · intro x39_22 a w hE hR H
          refine t_val (v := .bool x39_22) rfl rfl hE rfl (r_assign hE rfl) (fun a hE => ?_)
          refine t_nil ?_
          refine hK_16 _ _ ?_
          refine w_ret ?_
          exact hret _ _ _ x39_22 _ hE hR (res_run hE rfl (RV.tmp rfl RV.nil)) rfl H

end Gx
namespace Gx
open Go
set_option linter.unusedVariables false
set_option maxRecDepth 100000
theorem tb36_6 : tabAt Go.Proofs.Tryz.f36 6 [[], [0], [], [1, 2], [3], [], [4, 5]] [[], [0], [], [1, 2], [3], [], [4, 5]] [[], [0], [], [0, 1, 2], [0, 1, 2, 3], [], [0, 1, 2, 3, 4, 5]] = true := by kernel_rfl
def value_Get_l1 (c2_14 : Addr) (c3_15 : Addr) (c4_16 : Addr) (self1 : (Int) → M (Array Value × Bool)) : (Int) → M (Array Value × Bool) := fun s => match s with
  | x6_13 => do
    let x14_20 ← ldL ((c2_14).add 3)
    M.ite (decide ((IntKind.wrap .i64 (x6_13 + 1)) < (x14_20.len : Int))) (do
      let x20_23 ← ldL ((c2_14).add 3)
      let x22_24 ← ixL x20_23 x6_13 4
      let x23_25 ← ldG 4 x22_24
      let x24_26 ← ldG 4 c3_15
      let x25_27 ← value_Same x23_25 x24_26
      M.ite x25_27 (do
        let x27_29 ← ldL ((c2_14).add 3)
        let x30_30 ← ixL x27_29 (IntKind.wrap .i64 (x6_13 + 1)) 4
        let x31_31 ← ldG 4 x30_30
        let x32_32 ← value_Clone x31_31
        M.need (x32_32.size = 4)
        stG c4_16 x32_32
        let r4_34 ← ldG 4 c4_16
        M.pure (r4_34, true)
        ) (do
        self1 (IntKind.wrap .i64 (x6_13 + 2))
        )
      ) (do
      M.need ((#[.int .i64 0, .int .i64 0, .string ByteArray.empty, .slice none 0 0] : Array Value).size = 4)
      stG c4_16 (#[.int .i64 0, .int .i64 0, .string ByteArray.empty, .slice none 0 0] : Array Value)
      let r4_37 ← ldG 4 c4_16
      M.pure (r4_37, false)
      )
def value_Get (x0 : Array Value) (x1 : Array Value) : M (Array Value × Bool) := do
  let x2_2 ← mkB ty_api_Value x0
  let x3_3 ← mkB ty_api_Value x1
  let x4_4 ← mkB ty_api_Value (#[.int .i64 0, .int .i64 0, .string ByteArray.empty, .slice none 0 0] : Array Value)
  let x8_7 ← ldI .i64 ((x2_2).add 0)
  M.ite (x8_7 != 5) (do
    M.need ((#[.int .i64 0, .int .i64 0, .string ByteArray.empty, .slice none 0 0] : Array Value).size = 4)
    stG x4_4 (#[.int .i64 0, .int .i64 0, .string ByteArray.empty, .slice none 0 0] : Array Value)
    let r4_10 ← ldG 4 x4_4
    M.pure (r4_10, false)
    ) (do
    M.loop (value_Get_l1 x2_2 x3_3 x4_4) 0
    )
theorem S_value_Get (x0 : Array Value) (x1 : Array Value) : Sound Go.Proofs.Tryz.prog 36 #[.agg x0, .agg x1] (fun (r : Array Value × Bool) => .tuple #[.agg r.1, .bool r.2]) (value_Get x0 x1) := by
  refine sound_of [(0, .agg x0), (1, .agg x1)] Go.Proofs.Tryz.func36 rfl rfl (Nat.le_of_ble_eq_true rfl) (args_of ⟨rfl, rfl, trivial⟩) (fun w0 w Q R a hret hE hR H => ?_)
  unfold value_Get at H
  refine w_seq (fun K hK_1 => ?_)
  refine t_region ?_
  obtain ⟨x2_2, qx2_2, H⟩ := H
  refine t_valh (v := .pointer (some x2_2)) rfl rfl hE rfl hR (r_box hE rfl qx2_2) (fun a w hE hR hh => ?_)
  replace H := M.at hh H; clear hh
  obtain ⟨x3_3, qx3_3, H⟩ := H
  refine t_valh (v := .pointer (some x3_3)) rfl rfl hE rfl hR (r_box hE rfl qx3_3) (fun a w hE hR hh => ?_)
  replace H := M.at hh H; clear hh
  obtain ⟨x4_4, qx4_4, H⟩ := H
  refine t_valh (v := .pointer (some x4_4)) rfl rfl hE rfl hR (r_alloc zr24 qx4_4) (fun a w hE hR hh => ?_)
  replace H := M.at hh H; clear hh
  refine t_val (v := .bool false) rfl rfl hE rfl (r_assign hE rfl) (fun a hE => ?_)
  refine t_nil ?_
  refine hK_1 _ _ ?_
  refine w_seq (fun K hK_5 => ?_)
  refine w_seq (fun K hK_6 => ?_)
  refine t_region ?_
  refine t_val (v := .pointer (some ((x2_2).add 0))) rfl rfl hE rfl (r_fieldAddr hE rfl fd24_0) (fun a hE => ?_)
  obtain ⟨x8_7, qx8_7, H⟩ := H
  refine t_val (v := .int .i64 x8_7) rfl rfl hE rfl (r_load hE rfl sc3 qx8_7) (fun a hE => ?_)
  refine t_val (v := .bool (x8_7 != 5)) rfl rfl hE rfl (r_bin hE rfl rfl g_int b_neq) (fun a hE => ?_)
  refine t_nil ?_
  refine hK_6 _ _ ?_
  refine w_cond (x8_7 != 5) hE rfl (fun hb => ?_) (fun hb => ?_)
  · replace H := M.ite_t hb H
    refine w_seq (fun K hK_8 => ?_)
    refine t_region ?_
    refine t_val (v := .agg (#[.int .i64 0, .int .i64 0, .string ByteArray.empty, .slice none 0 0] : Array Value)) rfl rfl hE rfl (r_build0 bd24) (fun a hE => ?_)
    obtain ⟨qz, H⟩ := H
    obtain ⟨u_9, qu_9, H⟩ := H
    refine t_sth rfl rfl hE hR (r_storeG hE rfl rfl sz24 qz qu_9) (fun a w hE hR hh => ?_)
    replace H := M.at hh H; clear hh
    refine t_val (v := .bool false) rfl rfl hE rfl (r_assign hE rfl) (fun a hE => ?_)
    refine t_nil ?_
    refine hK_8 _ _ ?_
    refine w_ret ?_
    obtain ⟨r4_10, qr4_10, H⟩ := H
    exact hret _ _ _ (r4_10, false) _ hE hR (res_run hE rfl (RV.cellG rfl ag24 qr4_10 (RV.tmp rfl RV.nil))) rfl H
  · replace H := M.ite_f hb H
    refine w_skip ?_
    refine hK_5 _ _ ?_
    refine w_seq (fun K hK_11 => ?_)
    refine w_seq (fun K hK_12 => ?_)
    refine t_region ?_
    refine t_val (v := .int .i64 0) rfl rfl hE rfl (r_assign hE rfl) (fun a hE => ?_)
    refine t_nil ?_
    refine hK_12 _ _ ?_
    refine w_block ?_
    refine l_loop (fun (s : Int) => (⟨34, []⟩ : Frm)) (fun (s : Int) => [(2, .pointer (some x2_2)), (3, .pointer (some x3_3)), (4, .pointer (some x4_4)), (6, .int .i64 s)]) H (hE.cut (.cons rfl (.cons rfl (.cons rfl (.cons rfl Subs.nil))))) hR (fun Y self1 hY_17 x6_13 a w hE hR H => ?_)
    replace hE : Env (⟨34, []⟩ : Frm) a [(2, .pointer (some x2_2)), (3, .pointer (some x3_3)), (4, .pointer (some x4_4)), (6, .int .i64 x6_13)] := hE
    replace H : (value_Get_l1 x2_2 x3_3 x4_4 self1 x6_13).wp w.heap Q := H
    unfold value_Get_l1 at H
    refine w_seq (fun K hK_18 => ?_)
    refine w_seq (fun K hK_19 => ?_)
    refine t_region ?_
    refine t_val (v := .int .i64 x6_13) rfl rfl hE rfl (r_move hE rfl) (fun a hE => ?_)
    refine t_val (v := .int .i64 (IntKind.wrap .i64 (x6_13 + 1))) rfl rfl hE rfl (r_bin hE rfl rfl g_int b_add) (fun a hE => ?_)
    refine t_val (v := .pointer (some ((x2_2).add 3))) rfl rfl hE rfl (r_fieldAddr hE rfl fd24_3) (fun a hE => ?_)
    obtain ⟨x14_20, qx14_20, H⟩ := H
    refine t_val (v := (x14_20 : Sl).v) rfl rfl hE rfl (r_load hE rfl sc22 qx14_20) (fun a hE => ?_)
    refine t_val (v := .int .i64 (x14_20.len : Int)) rfl rfl hE rfl (r_len hE rfl 24 un22) (fun a hE => ?_)
    refine t_val (v := .bool (decide ((IntKind.wrap .i64 (x6_13 + 1)) < (x14_20.len : Int)))) rfl rfl hE rfl (r_bin hE rfl rfl g_int b_lss) (fun a hE => ?_)
    refine t_nil ?_
    refine hK_19 _ _ ?_
    refine w_cond (decide ((IntKind.wrap .i64 (x6_13 + 1)) < (x14_20.len : Int))) hE rfl (fun hb => ?_) (fun hb => ?_)
    · replace H := M.ite_t hb H
      refine w_skip ?_
      refine hK_18 _ _ ?_
      refine w_seq (fun K hK_21 => ?_)
      refine w_block ?_
      refine w_seq (fun K hK_22 => ?_)
      obtain ⟨x20_23, qx20_23, H⟩ := H
      obtain ⟨x22_24, qx22_24, H⟩ := H
      obtain ⟨x23_25, qx23_25, H⟩ := H
      obtain ⟨x24_26, qx24_26, H⟩ := H
      have hT := tab_of tb36_6 rfl rfl
      refine d_start (fun w : World => (fun h : Heap => (hcell h ((x2_2).add 3) = some ((x20_23 : Sl).v)) ∧ (x23_25.size = 4 ∧ ∀ i, i < 4 → hcell h (Addr.add x22_24 i) = x23_25[i]?) ∧ (x24_26.size = 4 ∧ ∀ i, i < 4 → hcell h (Addr.add x3_3 i) = x24_26[i]?)) w.heap) [6] #[false, false, false, false, false, false, false] mo hR rfl rfl (fun w' e => by rw [e]; exact ⟨qx20_23, qx23_25, qx24_26⟩) (fun w hh hR hs => ?_)
      replace H := M.at hh H; clear hh
      refine d_pureg (i := 0) (v := .pointer (some ((x2_2).add 3))) #[true, false, false, false, false, false, false] rfl rfl hT (by kernel_rfl) hE rfl (wanted_none rfl) (fun w => r_fieldAddr hE rfl fd24_3) (fun a hE => ?_)
      refine d_pureg (i := 2) (v := .int .i64 x6_13) #[true, false, true, false, false, false, false] rfl rfl hT (by kernel_rfl) hE rfl (wanted_none rfl) (fun w => r_move hE rfl) (fun a hE => ?_)
      refine d_read (i := 1) (v := (x20_23 : Sl).v) #[true, true, true, false, false, false, false] rfl rfl hT (by kernel_rfl) hE rfl (wanted_none rfl) hs (fun w s => r_load hE rfl sc22 s.1) (fun a hE => ?_)
      refine d_pureg (i := 3) (v := .pointer (some x22_24)) #[true, true, true, true, false, false, false] rfl rfl hT (by kernel_rfl) hE rfl (wanted_none rfl) (fun w => r_indexAddrL hE rfl rfl un22 sz24 qx22_24) (fun a hE => ?_)
      refine d_read (i := 4) (v := .agg x23_25) #[true, true, true, true, true, false, false] rfl rfl hT (by kernel_rfl) hE rfl (wanted_none rfl) hs (fun w s => r_loadG hE rfl ag24 s.2.1) (fun a hE => ?_)
      refine d_read (i := 5) (v := .agg x24_26) #[true, true, true, true, true, true, false] rfl rfl hT (by kernel_rfl) hE rfl (wanted_none rfl) hs (fun w s => r_loadG hE rfl ag24 s.2.2) (fun a hE => ?_)
      refine d_calll (i := 6) #[true, true, true, true, true, true, true] rfl rfl rfl hT (by kernel_rfl) rfl hE hR (wanted_none rfl) cl_value_Same rfl (S_value_Same x23_25 x24_26) (M.unbind H) (fun x25_27 a w ea hR H => ?_)
      have hE := Env.put_some hE rfl ea; clear ea
      refine d_done hT (by kernel_rfl) ?_
      refine hK_22 _ _ ?_
      refine w_cond x25_27 hE rfl (fun hb => ?_) (fun hb => ?_)
      · replace H := M.ite_t hb H
        refine w_seq (fun K hK_28 => ?_)
        refine t_region ?_
        refine t_val (v := .pointer (some ((x2_2).add 3))) rfl rfl hE rfl (r_fieldAddr hE rfl fd24_3) (fun a hE => ?_)
        obtain ⟨x27_29, qx27_29, H⟩ := H
        refine t_val (v := (x27_29 : Sl).v) rfl rfl hE rfl (r_load hE rfl sc22 qx27_29) (fun a hE => ?_)
        refine t_val (v := .int .i64 x6_13) rfl rfl hE rfl (r_move hE rfl) (fun a hE => ?_)
        refine t_val (v := .int .i64 (IntKind.wrap .i64 (x6_13 + 1))) rfl rfl hE rfl (r_bin hE rfl rfl g_int b_add) (fun a hE => ?_)
        obtain ⟨x30_30, qx30_30, H⟩ := H
        refine t_val (v := .pointer (some x30_30)) rfl rfl hE rfl (r_indexAddrL hE rfl rfl un22 sz24 qx30_30) (fun a hE => ?_)
        obtain ⟨x31_31, qx31_31, H⟩ := H
        refine t_val (v := .agg x31_31) rfl rfl hE rfl (r_loadG hE rfl ag24 qx31_31) (fun a hE => ?_)
        refine t_call hE hR cl_value_Clone rfl (S_value_Clone x31_31) (M.unbind H) (fun x32_32 a w ea hR H => ?_)
        have hE := Env.put_some hE rfl ea; clear ea
        obtain ⟨qz, H⟩ := H
        obtain ⟨u_33, qu_33, H⟩ := H
        refine t_sth rfl rfl hE hR (r_storeG hE rfl rfl sz24 qz qu_33) (fun a w hE hR hh => ?_)
        replace H := M.at hh H; clear hh
        refine t_val (v := .bool true) rfl rfl hE rfl (r_assign hE rfl) (fun a hE => ?_)
        refine t_nil ?_
        refine hK_28 _ _ ?_
        refine w_ret ?_
        obtain ⟨r4_34, qr4_34, H⟩ := H
        exact hret _ _ _ (r4_34, true) _ hE hR (res_run hE rfl (RV.cellG rfl ag24 qr4_34 (RV.tmp rfl RV.nil))) rfl H
      · replace H := M.ite_f hb H
        refine w_skip ?_
        refine hK_21 _ _ ?_
        refine t_region ?_
        refine t_val (v := .int .i64 x6_13) rfl rfl hE rfl (r_move hE rfl) (fun a hE => ?_)
        refine t_val (v := .int .i64 (IntKind.wrap .i64 (x6_13 + 2))) rfl rfl hE rfl (r_bin hE rfl rfl g_int b_add) (fun a hE => ?_)
        refine t_val (v := .int .i64 (IntKind.wrap .i64 (x6_13 + 2))) rfl rfl hE rfl (r_assign hE rfl) (fun a hE => ?_)
        refine t_nil ?_
        exact hY_17 (IntKind.wrap .i64 (x6_13 + 2)) _ _ (hE.cut (.cons rfl (.cons rfl (.cons rfl (.cons rfl Subs.nil))))) hR H
    · replace H := M.ite_f hb H
      refine w_exit ?_
      refine Xu.same ?_
      refine hK_11 _ _ ?_
      refine w_seq (fun K hK_35 => ?_)
      refine t_region ?_
      refine t_val (v := .agg (#[.int .i64 0, .int .i64 0, .string ByteArray.empty, .slice none 0 0] : Array Value)) rfl rfl hE rfl (r_build0 bd24) (fun a hE => ?_)
      obtain ⟨qz, H⟩ := H
      obtain ⟨u_36, qu_36, H⟩ := H
      refine t_sth rfl rfl hE hR (r_storeG hE rfl rfl sz24 qz qu_36) (fun a w hE hR hh => ?_)
      replace H := M.at hh H; clear hh
      refine t_val (v := .bool false) rfl rfl hE rfl (r_assign hE rfl) (fun a hE => ?_)
      refine t_nil ?_
      refine hK_35 _ _ ?_
      refine w_ret ?_
      obtain ⟨r4_37, qr4_37, H⟩ := H
      exact hret _ _ _ (r4_37, false) _ hE hR (res_run hE rfl (RV.cellG rfl ag24 qr4_37 (RV.tmp rfl RV.nil))) rfl H

theorem tb37_6 : tabAt Go.Proofs.Tryz.f37 6 [[], [0], [], [1, 2], [3], [], [4, 5]] [[], [0], [], [1, 2], [3], [], [4, 5]] [[], [0], [], [0, 1, 2], [0, 1, 2, 3], [], [0, 1, 2, 3, 4, 5]] = true := by kernel_rfl
def rambleref02_Get_l1 (c2_14 : Addr) (c3_15 : Addr) (c4_16 : Addr) (self1 : (Int) → M (Array Value × Bool)) : (Int) → M (Array Value × Bool) := fun s => match s with
  | x6_13 => do
    let x14_20 ← ldL ((c2_14).add 3)
    M.ite (decide ((IntKind.wrap .i64 (x6_13 + 1)) < (x14_20.len : Int))) (do
      let x20_23 ← ldL ((c2_14).add 3)
      let x22_24 ← ixL x20_23 x6_13 4
      let x23_25 ← ldG 4 x22_24
      let x24_26 ← ldG 4 c3_15
      let x25_27 ← rambleref02_Same x23_25 x24_26
      M.ite x25_27 (do
        let x27_29 ← ldL ((c2_14).add 3)
        let x30_30 ← ixL x27_29 (IntKind.wrap .i64 (x6_13 + 1)) 4
        let x31_31 ← ldG 4 x30_30
        M.need (x31_31.size = 4)
        stG c4_16 x31_31
        let r4_33 ← ldG 4 c4_16
        M.pure (r4_33, true)
        ) (do
        self1 (IntKind.wrap .i64 (x6_13 + 2))
        )
      ) (do
      M.need ((#[.int .i64 0, .int .i64 0, .string ByteArray.empty, .slice none 0 0] : Array Value).size = 4)
      stG c4_16 (#[.int .i64 0, .int .i64 0, .string ByteArray.empty, .slice none 0 0] : Array Value)
      let r4_36 ← ldG 4 c4_16
      M.pure (r4_36, false)
      )
def rambleref02_Get (x0 : Array Value) (x1 : Array Value) : M (Array Value × Bool) := do
  let x2_2 ← mkB ty_api_Value x0
  let x3_3 ← mkB ty_api_Value x1
  let x4_4 ← mkB ty_api_Value (#[.int .i64 0, .int .i64 0, .string ByteArray.empty, .slice none 0 0] : Array Value)
  let x8_7 ← ldI .i64 ((x2_2).add 0)
  M.ite (x8_7 != 5) (do
    M.need ((#[.int .i64 0, .int .i64 0, .string ByteArray.empty, .slice none 0 0] : Array Value).size = 4)
    stG x4_4 (#[.int .i64 0, .int .i64 0, .string ByteArray.empty, .slice none 0 0] : Array Value)
    let r4_10 ← ldG 4 x4_4
    M.pure (r4_10, false)
    ) (do
    M.loop (rambleref02_Get_l1 x2_2 x3_3 x4_4) 0
    )
theorem S_rambleref02_Get (x0 : Array Value) (x1 : Array Value) : Sound Go.Proofs.Tryz.prog 37 #[.agg x0, .agg x1] (fun (r : Array Value × Bool) => .tuple #[.agg r.1, .bool r.2]) (rambleref02_Get x0 x1) := by
  refine sound_of [(0, .agg x0), (1, .agg x1)] Go.Proofs.Tryz.func37 rfl rfl (Nat.le_of_ble_eq_true rfl) (args_of ⟨rfl, rfl, trivial⟩) (fun w0 w Q R a hret hE hR H => ?_)
  unfold rambleref02_Get at H
  refine w_seq (fun K hK_1 => ?_)
  refine t_region ?_
  obtain ⟨x2_2, qx2_2, H⟩ := H
  refine t_valh (v := .pointer (some x2_2)) rfl rfl hE rfl hR (r_box hE rfl qx2_2) (fun a w hE hR hh => ?_)
  replace H := M.at hh H; clear hh
  obtain ⟨x3_3, qx3_3, H⟩ := H
  refine t_valh (v := .pointer (some x3_3)) rfl rfl hE rfl hR (r_box hE rfl qx3_3) (fun a w hE hR hh => ?_)
  replace H := M.at hh H; clear hh
  obtain ⟨x4_4, qx4_4, H⟩ := H
  refine t_valh (v := .pointer (some x4_4)) rfl rfl hE rfl hR (r_alloc zr24 qx4_4) (fun a w hE hR hh => ?_)
  replace H := M.at hh H; clear hh
  refine t_val (v := .bool false) rfl rfl hE rfl (r_assign hE rfl) (fun a hE => ?_)
  refine t_nil ?_
  refine hK_1 _ _ ?_
  refine w_seq (fun K hK_5 => ?_)
  refine w_seq (fun K hK_6 => ?_)
  refine t_region ?_
  refine t_val (v := .pointer (some ((x2_2).add 0))) rfl rfl hE rfl (r_fieldAddr hE rfl fd24_0) (fun a hE => ?_)
  obtain ⟨x8_7, qx8_7, H⟩ := H
  refine t_val (v := .int .i64 x8_7) rfl rfl hE rfl (r_load hE rfl sc3 qx8_7) (fun a hE => ?_)
  refine t_val (v := .bool (x8_7 != 5)) rfl rfl hE rfl (r_bin hE rfl rfl g_int b_neq) (fun a hE => ?_)
  refine t_nil ?_
  refine hK_6 _ _ ?_
  refine w_cond (x8_7 != 5) hE rfl (fun hb => ?_) (fun hb => ?_)
  · replace H := M.ite_t hb H
    refine w_seq (fun K hK_8 => ?_)
    refine t_region ?_
    refine t_val (v := .agg (#[.int .i64 0, .int .i64 0, .string ByteArray.empty, .slice none 0 0] : Array Value)) rfl rfl hE rfl (r_build0 bd24) (fun a hE => ?_)
    obtain ⟨qz, H⟩ := H
    obtain ⟨u_9, qu_9, H⟩ := H
    refine t_sth rfl rfl hE hR (r_storeG hE rfl rfl sz24 qz qu_9) (fun a w hE hR hh => ?_)
    replace H := M.at hh H; clear hh
    refine t_val (v := .bool false) rfl rfl hE rfl (r_assign hE rfl) (fun a hE => ?_)
    refine t_nil ?_
    refine hK_8 _ _ ?_
    refine w_ret ?_
    obtain ⟨r4_10, qr4_10, H⟩ := H
    exact hret _ _ _ (r4_10, false) _ hE hR (res_run hE rfl (RV.cellG rfl ag24 qr4_10 (RV.tmp rfl RV.nil))) rfl H
  · replace H := M.ite_f hb H
    refine w_skip ?_
    refine hK_5 _ _ ?_
    refine w_seq (fun K hK_11 => ?_)
    refine w_seq (fun K hK_12 => ?_)
    refine t_region ?_
    refine t_val (v := .int .i64 0) rfl rfl hE rfl (r_assign hE rfl) (fun a hE => ?_)
    refine t_nil ?_
    refine hK_12 _ _ ?_
    refine w_block ?_
    refine l_loop (fun (s : Int) => (⟨33, []⟩ : Frm)) (fun (s : Int) => [(2, .pointer (some x2_2)), (3, .pointer (some x3_3)), (4, .pointer (some x4_4)), (6, .int .i64 s)]) H (hE.cut (.cons rfl (.cons rfl (.cons rfl (.cons rfl Subs.nil))))) hR (fun Y self1 hY_17 x6_13 a w hE hR H => ?_)
    replace hE : Env (⟨33, []⟩ : Frm) a [(2, .pointer (some x2_2)), (3, .pointer (some x3_3)), (4, .pointer (some x4_4)), (6, .int .i64 x6_13)] := hE
    replace H : (rambleref02_Get_l1 x2_2 x3_3 x4_4 self1 x6_13).wp w.heap Q := H
    unfold rambleref02_Get_l1 at H
    refine w_seq (fun K hK_18 => ?_)
    refine w_seq (fun K hK_19 => ?_)
    refine t_region ?_
    refine t_val (v := .int .i64 x6_13) rfl rfl hE rfl (r_move hE rfl) (fun a hE => ?_)
    refine t_val (v := .int .i64 (IntKind.wrap .i64 (x6_13 + 1))) rfl rfl hE rfl (r_bin hE rfl rfl g_int b_add) (fun a hE => ?_)
    refine t_val (v := .pointer (some ((x2_2).add 3))) rfl rfl hE rfl (r_fieldAddr hE rfl fd24_3) (fun a hE => ?_)
    obtain ⟨x14_20, qx14_20, H⟩ := H
    refine t_val (v := (x14_20 : Sl).v) rfl rfl hE rfl (r_load hE rfl sc22 qx14_20) (fun a hE => ?_)
    refine t_val (v := .int .i64 (x14_20.len : Int)) rfl rfl hE rfl (r_len hE rfl 24 un22) (fun a hE => ?_)
    refine t_val (v := .bool (decide ((IntKind.wrap .i64 (x6_13 + 1)) < (x14_20.len : Int)))) rfl rfl hE rfl (r_bin hE rfl rfl g_int b_lss) (fun a hE => ?_)
    refine t_nil ?_
    refine hK_19 _ _ ?_
    refine w_cond (decide ((IntKind.wrap .i64 (x6_13 + 1)) < (x14_20.len : Int))) hE rfl (fun hb => ?_) (fun hb => ?_)
    · replace H := M.ite_t hb H
      refine w_skip ?_
      refine hK_18 _ _ ?_
      refine w_seq (fun K hK_21 => ?_)
      refine w_block ?_
      refine w_seq (fun K hK_22 => ?_)
      obtain ⟨x20_23, qx20_23, H⟩ := H
      obtain ⟨x22_24, qx22_24, H⟩ := H
      obtain ⟨x23_25, qx23_25, H⟩ := H
      obtain ⟨x24_26, qx24_26, H⟩ := H
      have hT := tab_of tb37_6 rfl rfl
      refine d_start (fun w : World => (fun h : Heap => (hcell h ((x2_2).add 3) = some ((x20_23 : Sl).v)) ∧ (x23_25.size = 4 ∧ ∀ i, i < 4 → hcell h (Addr.add x22_24 i) = x23_25[i]?) ∧ (x24_26.size = 4 ∧ ∀ i, i < 4 → hcell h (Addr.add x3_3 i) = x24_26[i]?)) w.heap) [6] #[false, false, false, false, false, false, false] mo hR rfl rfl (fun w' e => by rw [e]; exact ⟨qx20_23, qx23_25, qx24_26⟩) (fun w hh hR hs => ?_)
      replace H := M.at hh H; clear hh
      refine d_pureg (i := 0) (v := .pointer (some ((x2_2).add 3))) #[true, false, false, false, false, false, false] rfl rfl hT (by kernel_rfl) hE rfl (wanted_none rfl) (fun w => r_fieldAddr hE rfl fd24_3) (fun a hE => ?_)
      refine d_pureg (i := 2) (v := .int .i64 x6_13) #[true, false, true, false, false, false, false] rfl rfl hT (by kernel_rfl) hE rfl (wanted_none rfl) (fun w => r_move hE rfl) (fun a hE => ?_)
      refine d_read (i := 1) (v := (x20_23 : Sl).v) #[true, true, true, false, false, false, false] rfl rfl hT (by kernel_rfl) hE rfl (wanted_none rfl) hs (fun w s => r_load hE rfl sc22 s.1) (fun a hE => ?_)
      refine d_pureg (i := 3) (v := .pointer (some x22_24)) #[true, true, true, true, false, false, false] rfl rfl hT (by kernel_rfl) hE rfl (wanted_none rfl) (fun w => r_indexAddrL hE rfl rfl un22 sz24 qx22_24) (fun a hE => ?_)
      refine d_read (i := 4) (v := .agg x23_25) #[true, true, true, true, true, false, false] rfl rfl hT (by kernel_rfl) hE rfl (wanted_none rfl) hs (fun w s => r_loadG hE rfl ag24 s.2.1) (fun a hE => ?_)
      refine d_read (i := 5) (v := .agg x24_26) #[true, true, true, true, true, true, false] rfl rfl hT (by kernel_rfl) hE rfl (wanted_none rfl) hs (fun w s => r_loadG hE rfl ag24 s.2.2) (fun a hE => ?_)
      refine d_calll (i := 6) #[true, true, true, true, true, true, true] rfl rfl rfl hT (by kernel_rfl) rfl hE hR (wanted_none rfl) cl_rambleref02_Same rfl (S_rambleref02_Same x23_25 x24_26) (M.unbind H) (fun x25_27 a w ea hR H => ?_)
      have hE := Env.put_some hE rfl ea; clear ea
      refine d_done hT (by kernel_rfl) ?_
      refine hK_22 _ _ ?_
      refine w_cond x25_27 hE rfl (fun hb => ?_) (fun hb => ?_)
      · replace H := M.ite_t hb H
        refine w_seq (fun K hK_28 => ?_)
        refine t_region ?_
        refine t_val (v := .pointer (some ((x2_2).add 3))) rfl rfl hE rfl (r_fieldAddr hE rfl fd24_3) (fun a hE => ?_)
        obtain ⟨x27_29, qx27_29, H⟩ := H
        refine t_val (v := (x27_29 : Sl).v) rfl rfl hE rfl (r_load hE rfl sc22 qx27_29) (fun a hE => ?_)
        refine t_val (v := .int .i64 x6_13) rfl rfl hE rfl (r_move hE rfl) (fun a hE => ?_)
        refine t_val (v := .int .i64 (IntKind.wrap .i64 (x6_13 + 1))) rfl rfl hE rfl (r_bin hE rfl rfl g_int b_add) (fun a hE => ?_)
        obtain ⟨x30_30, qx30_30, H⟩ := H
        refine t_val (v := .pointer (some x30_30)) rfl rfl hE rfl (r_indexAddrL hE rfl rfl un22 sz24 qx30_30) (fun a hE => ?_)
        obtain ⟨x31_31, qx31_31, H⟩ := H
        refine t_val (v := .agg x31_31) rfl rfl hE rfl (r_loadG hE rfl ag24 qx31_31) (fun a hE => ?_)
        obtain ⟨qz, H⟩ := H
        obtain ⟨u_32, qu_32, H⟩ := H
        refine t_sth rfl rfl hE hR (r_storeG hE rfl rfl sz24 qz qu_32) (fun a w hE hR hh => ?_)
        replace H := M.at hh H; clear hh
        refine t_val (v := .bool true) rfl rfl hE rfl (r_assign hE rfl) (fun a hE => ?_)
        refine t_nil ?_
        refine hK_28 _ _ ?_
        refine w_ret ?_
        obtain ⟨r4_33, qr4_33, H⟩ := H
        exact hret _ _ _ (r4_33, true) _ hE hR (res_run hE rfl (RV.cellG rfl ag24 qr4_33 (RV.tmp rfl RV.nil))) rfl H
      · replace H := M.ite_f hb H
        refine w_skip ?_
        refine hK_21 _ _ ?_
        refine t_region ?_
        refine t_val (v := .int .i64 x6_13) rfl rfl hE rfl (r_move hE rfl) (fun a hE => ?_)
        refine t_val (v := .int .i64 (IntKind.wrap .i64 (x6_13 + 2))) rfl rfl hE rfl (r_bin hE rfl rfl g_int b_add) (fun a hE => ?_)
        refine t_val (v := .int .i64 (IntKind.wrap .i64 (x6_13 + 2))) rfl rfl hE rfl (r_assign hE rfl) (fun a hE => ?_)
        refine t_nil ?_
        exact hY_17 (IntKind.wrap .i64 (x6_13 + 2)) _ _ (hE.cut (.cons rfl (.cons rfl (.cons rfl (.cons rfl Subs.nil))))) hR H
    · replace H := M.ite_f hb H
      refine w_exit ?_
      refine Xu.same ?_
      refine hK_11 _ _ ?_
      refine w_seq (fun K hK_34 => ?_)
      refine t_region ?_
      refine t_val (v := .agg (#[.int .i64 0, .int .i64 0, .string ByteArray.empty, .slice none 0 0] : Array Value)) rfl rfl hE rfl (r_build0 bd24) (fun a hE => ?_)
      obtain ⟨qz, H⟩ := H
      obtain ⟨u_35, qu_35, H⟩ := H
      refine t_sth rfl rfl hE hR (r_storeG hE rfl rfl sz24 qz qu_35) (fun a w hE hR hh => ?_)
      replace H := M.at hh H; clear hh
      refine t_val (v := .bool false) rfl rfl hE rfl (r_assign hE rfl) (fun a hE => ?_)
      refine t_nil ?_
      refine hK_34 _ _ ?_
      refine w_ret ?_
      obtain ⟨r4_36, qr4_36, H⟩ := H
      exact hret _ _ _ (r4_36, false) _ hE hR (res_run hE rfl (RV.cellG rfl ag24 qr4_36 (RV.tmp rfl RV.nil))) rfl H

end Gx
