/- Printed by program: Go functions as Lean programs, each tied to its code. No condition. -/
import Derived.Test.YthelieedlghccaaDoorP0
import Derived.Test.YthelieedlghccaaDoorP1
import Derived.Test.YthelieedlghccaaDoorP2
set_option linter.unusedVariables false
set_option linter.unusedSimpArgs false
namespace Gx
open Go
set_option linter.unusedVariables false
set_option maxRecDepth 100000
/-- slices.Chunk[[]ramble/api.Value,ramble/api.Value] -/
def slices_Chunk_slapi_Value_api_Value (x0 : Sl) (x1 : Int) : M (Value) := do
  let x2_2 ← mkB ty_sl_api_Value #[(x0 : Sl).v]
  let x3_3 ← mkB ty_int #[.int .i64 x1]
  let x5_6 ← ldI .i64 x3_3
  M.ite (decide (x5_6 < 1)) (do
    M.fail
    ) (do
    M.pure (Value.func (.func fn_slices_Chunk_slapi_Value_api_Value_1) #[] #[.pointer (some x2_2), .pointer (some x3_3)])
    )
theorem S_slices_Chunk_slapi_Value_api_Value (x0 : Sl) (x1 : Int) : Sound Go.Proofs.Tryd.prog 14 #[(x0 : Sl).v, .int .i64 x1] (fun (r : Value) => r) (slices_Chunk_slapi_Value_api_Value x0 x1) := by
  refine sound_of [(0, (x0 : Sl).v), (1, .int .i64 x1)] Go.Proofs.Tryd.func14 rfl rfl (Nat.le_of_ble_eq_true rfl) (args_of ⟨rfl, rfl, trivial⟩) (fun w0 w Q R a hret hE hR H => ?_)
  unfold slices_Chunk_slapi_Value_api_Value at H
  refine w_seq (fun K hK_1 => ?_)
  refine t_region ?_
  obtain ⟨x2_2, qx2_2, H⟩ := H
  refine t_valh (v := .pointer (some x2_2)) rfl rfl hE rfl hR (r_box hE rfl qx2_2) (fun a w hE hR hh => ?_)
  replace H := M.at hh H; clear hh
  obtain ⟨x3_3, qx3_3, H⟩ := H
  refine t_valh (v := .pointer (some x3_3)) rfl rfl hE rfl hR (r_box hE rfl qx3_3) (fun a w hE hR hh => ?_)
  replace H := M.at hh H; clear hh
  refine t_val (v := Value.nilFunc) rfl rfl hE rfl (r_assign hE rfl) (fun a hE => ?_)
  refine t_nil ?_
  refine hK_1 _ _ ?_
  refine w_seq (fun K hK_4 => ?_)
  refine w_seq (fun K hK_5 => ?_)
  refine t_region ?_
  obtain ⟨x5_6, qx5_6, H⟩ := H
  refine t_val (v := .int .i64 x5_6) rfl rfl hE rfl (r_load hE rfl sc3 qx5_6) (fun a hE => ?_)
  refine t_val (v := .bool (decide (x5_6 < 1))) rfl rfl hE rfl (r_bin hE rfl rfl g_int b_lss) (fun a hE => ?_)
  refine t_nil ?_
  refine hK_5 _ _ ?_
  refine w_cond (decide (x5_6 < 1)) hE rfl (fun hb => ?_) (fun hb => ?_)
  · replace H := M.ite_t hb H
    exact False.elim H
  · replace H := M.ite_f hb H
    refine w_skip ?_
    refine hK_4 _ _ ?_
    refine w_seq (fun K hK_7 => ?_)
    refine t_region ?_
    refine t_val (v := (Value.func (.func fn_slices_Chunk_slapi_Value_api_Value_1) #[] #[.pointer (some x2_2), .pointer (some x3_3)])) rfl rfl hE rfl (r_makeFunc hE rfl) (fun a hE => ?_)
    refine t_val (v := (Value.func (.func fn_slices_Chunk_slapi_Value_api_Value_1) #[] #[.pointer (some x2_2), .pointer (some x3_3)])) rfl rfl hE rfl (r_assign hE rfl) (fun a hE => ?_)
    refine t_nil ?_
    refine hK_7 _ _ ?_
    refine w_ret ?_
    exact hret _ _ _ (Value.func (.func fn_slices_Chunk_slapi_Value_api_Value_1) #[] #[.pointer (some x2_2), .pointer (some x3_3)]) _ hE hR (res_run hE rfl (RV.tmp rfl RV.nil)) rfl H

/-- slices.CompactFunc[[]ramble/api.Value,ramble/api.Value] -/
theorem tb17_6 : tabAt Go.Proofs.Tryd.f17 6 [[], [], [], [1, 2], [3], [], [], [6], [5, 7], [8], [0, 4, 9]] [[], [], [], [1, 2], [3], [], [], [6], [5, 7], [8], [0, 4, 9]] [[], [], [], [1, 2], [1, 2, 3], [], [], [6], [5, 6, 7], [5, 6, 7, 8], [0, 1, 2, 3, 4, 5, 6, 7, 8, 9]] = true := by kernel_rfl
def slices_CompactFunc_slapi_Value_api_Value_j1 (self2 : (Int × Int) → M (Sl)) (c7_36 : Int) (x5_32 : Int) : M (Sl) := do
  self2 (x5_32, IntKind.wrap .i64 (c7_36 + 1))
theorem tb17_11 : tabAt Go.Proofs.Tryd.f17 11 [[], [], [], [1, 2], [3], [], [], [6], [5, 7], [8], [0, 4, 9], [10]] [[], [], [], [1, 2], [3], [], [], [6], [5, 7], [8], [0, 4, 9], [10]] [[], [], [], [1, 2], [1, 2, 3], [], [], [6], [5, 6, 7], [5, 6, 7, 8], [0, 1, 2, 3, 4, 5, 6, 7, 8, 9], [0, 1, 2, 3, 4, 5, 6, 7, 8, 9, 10]] = true := by kernel_rfl
def slices_CompactFunc_slapi_Value_api_Value_l2 (c0_26 : Sl) (c1_27 : Value) (c6_28 : Sl) (self2 : (Int × Int) → M (Sl)) : (Int × Int) → M (Sl) := fun s => match s with
  | (x5_24, x7_25) => do
    M.ite (decide (x7_25 < (c6_28.len : Int))) (do
      let x41_38 ← ixL c6_28 x7_25 4
      let x46_39 ← ixL c6_28 (IntKind.wrap .i64 (x7_25 - 1)) 4
      let x42_40 ← ldG 4 x41_38
      let x47_41 ← ldG 4 x46_39
      let x48_42 ← callW Go.Proofs.Tryd.prog (fun r : Bool => .bool r) c1_27 [.agg x42_40, .agg x47_41]
      M.ite (!x48_42) (do
        let x54_44 ← ixL c6_28 x7_25 4
        let x55_45 ← ldG 4 x54_44
        let x56_46 ← ixL c0_26 x5_24 4
        M.need (x55_45.size = 4)
        stG x56_46 x55_45
        slices_CompactFunc_slapi_Value_api_Value_j1 self2 x7_25 (IntKind.wrap .i64 (x5_24 + 1))
        ) (do
        slices_CompactFunc_slapi_Value_api_Value_j1 self2 x7_25 x5_24
        )
      ) (do
      let x61_49 ← slL c0_26 x5_24 c0_26.len 4
      let u_50 ← clL (#[.int .i64 0, .int .i64 0, .string ByteArray.empty, .slice none 0 0] : Array Value) x61_49
      let x64_52 ← slL c0_26 0 x5_24 4
      M.pure x64_52
      )
def slices_CompactFunc_slapi_Value_api_Value_l1 (c0_8 : Sl) (c1_9 : Value) (self1 : (Int) → M (Sl)) : (Int) → M (Sl) := fun s => match s with
  | x5_7 => do
    M.ite (decide (x5_7 < (c0_8.len : Int))) (do
      let x21_15 ← ixL c0_8 x5_7 4
      let x26_16 ← ixL c0_8 (IntKind.wrap .i64 (x5_7 - 1)) 4
      let x22_17 ← ldG 4 x21_15
      let x27_18 ← ldG 4 x26_16
      let x28_19 ← callW Go.Proofs.Tryd.prog (fun r : Bool => .bool r) c1_9 [.agg x22_17, .agg x27_18]
      M.ite x28_19 (do
        let x31_21 ← slL c0_8 x5_7 c0_8.len 4
        M.loop (slices_CompactFunc_slapi_Value_api_Value_l2 c0_8 c1_9 x31_21) (x5_7, 1)
        ) (do
        self1 (IntKind.wrap .i64 (x5_7 + 1))
        )
      ) (do
      M.pure c0_8
      )
def slices_CompactFunc_slapi_Value_api_Value (x0 : Sl) (x1 : Value) : M (Sl) := do
  M.ite (decide ((x0.len : Int) < 2)) (do
    M.pure x0
    ) (do
    M.loop (slices_CompactFunc_slapi_Value_api_Value_l1 x0 x1) 1
    )
theorem S_slices_CompactFunc_slapi_Value_api_Value (x0 : Sl) (x1 : Value) : Sound Go.Proofs.Tryd.prog 17 #[(x0 : Sl).v, x1] (fun (r : Sl) => (r : Sl).v) (slices_CompactFunc_slapi_Value_api_Value x0 x1) := by
  refine sound_of [(0, (x0 : Sl).v), (1, x1)] Go.Proofs.Tryd.func17 rfl rfl (Nat.le_of_ble_eq_true rfl) (args_of ⟨rfl, rfl, trivial⟩) (fun w0 w Q R a hret hE hR H => ?_)
  unfold slices_CompactFunc_slapi_Value_api_Value at H
  refine w_seq (fun K hK_1 => ?_)
  refine t_region ?_
  refine t_val (v := (Sl.nil : Sl).v) rfl rfl hE rfl (r_assign hE rfl) (fun a hE => ?_)
  refine t_nil ?_
  refine hK_1 _ _ ?_
  refine w_seq (fun K hK_2 => ?_)
  refine w_seq (fun K hK_3 => ?_)
  refine t_region ?_
  refine t_val (v := (x0 : Sl).v) rfl rfl hE rfl (r_move hE rfl) (fun a hE => ?_)
  refine t_val (v := .int .i64 (x0.len : Int)) rfl rfl hE rfl (r_len hE rfl 42 un22) (fun a hE => ?_)
  refine t_val (v := .bool (decide ((x0.len : Int) < 2))) rfl rfl hE rfl (r_bin hE rfl rfl g_int b_lss) (fun a hE => ?_)
  refine t_nil ?_
  refine hK_3 _ _ ?_
  refine w_cond (decide ((x0.len : Int) < 2)) hE rfl (fun hb => ?_) (fun hb => ?_)
  · replace H := M.ite_t hb H
    refine w_seq (fun K hK_4 => ?_)
    refine t_region ?_
    refine t_val (v := (x0 : Sl).v) rfl rfl hE rfl (r_move hE rfl) (fun a hE => ?_)
    refine t_val (v := (x0 : Sl).v) rfl rfl hE rfl (r_assign hE rfl) (fun a hE => ?_)
    refine t_nil ?_
    refine hK_4 _ _ ?_
    refine w_ret ?_
    exact hret _ _ _ x0 _ hE hR (res_run hE rfl (RV.tmp rfl RV.nil)) rfl H
  · replace H := M.ite_f hb H
    refine w_skip ?_
    refine hK_2 _ _ ?_
    refine w_seq (fun K hK_5 => ?_)
    refine w_seq (fun K hK_6 => ?_)
    refine t_region ?_
    refine t_val (v := .int .i64 1) rfl rfl hE rfl (r_assign hE rfl) (fun a hE => ?_)
    refine t_nil ?_
    refine hK_6 _ _ ?_
    refine w_block ?_
    refine l_loop (fun (s : Int) => (⟨66, []⟩ : Frm)) (fun (s : Int) => [(0, (x0 : Sl).v), (1, x1), (5, .int .i64 s)]) H (hE.cut (.cons rfl (.cons rfl (.cons rfl Subs.nil)))) hR (fun Y self1 hY_10 x5_7 a w hE hR H => ?_)
    replace hE : Env (⟨66, []⟩ : Frm) a [(0, (x0 : Sl).v), (1, x1), (5, .int .i64 x5_7)] := hE
    replace H : (slices_CompactFunc_slapi_Value_api_Value_l1 x0 x1 self1 x5_7).wp w.heap Q := H
    unfold slices_CompactFunc_slapi_Value_api_Value_l1 at H
    refine w_seq (fun K hK_11 => ?_)
    refine w_seq (fun K hK_12 => ?_)
    refine t_region ?_
    refine t_val (v := .int .i64 x5_7) rfl rfl hE rfl (r_move hE rfl) (fun a hE => ?_)
    refine t_val (v := (x0 : Sl).v) rfl rfl hE rfl (r_move hE rfl) (fun a hE => ?_)
    refine t_val (v := .int .i64 (x0.len : Int)) rfl rfl hE rfl (r_len hE rfl 42 un22) (fun a hE => ?_)
    refine t_val (v := .bool (decide (x5_7 < (x0.len : Int)))) rfl rfl hE rfl (r_bin hE rfl rfl g_int b_lss) (fun a hE => ?_)
    refine t_nil ?_
    refine hK_12 _ _ ?_
    refine w_cond (decide (x5_7 < (x0.len : Int))) hE rfl (fun hb => ?_) (fun hb => ?_)
    · replace H := M.ite_t hb H
      refine w_skip ?_
      refine hK_11 _ _ ?_
      refine w_seq (fun K hK_13 => ?_)
      refine w_block ?_
      refine w_seq (fun K hK_14 => ?_)
      obtain ⟨x21_15, qx21_15, H⟩ := H
      obtain ⟨x26_16, qx26_16, H⟩ := H
      obtain ⟨x22_17, qx22_17, H⟩ := H
      obtain ⟨x27_18, qx27_18, H⟩ := H
      have hT := tab_of tb17_6 rfl rfl
      refine d_start (fun w : World => (fun h : Heap => (x22_17.size = 4 ∧ ∀ i, i < 4 → hcell h (Addr.add x21_15 i) = x22_17[i]?) ∧ (x27_18.size = 4 ∧ ∀ i, i < 4 → hcell h (Addr.add x26_16 i) = x27_18[i]?)) w.heap) [10] #[false, false, false, false, false, false, false, false, false, false, false] mo hR rfl rfl (fun w' e => by rw [e]; exact ⟨qx22_17, qx27_18⟩) (fun w hh hR hs => ?_)
      replace H := M.at hh H; clear hh
      refine d_pureg (i := 0) (v := x1) #[true, false, false, false, false, false, false, false, false, false, false] rfl rfl hT (by kernel_rfl) hE rfl (wanted_none rfl) (fun w => r_move hE rfl) (fun a hE => ?_)
      refine d_pureg (i := 1) (v := (x0 : Sl).v) #[true, true, false, false, false, false, false, false, false, false, false] rfl rfl hT (by kernel_rfl) hE rfl (wanted_none rfl) (fun w => r_move hE rfl) (fun a hE => ?_)
      refine d_pureg (i := 2) (v := .int .i64 x5_7) #[true, true, true, false, false, false, false, false, false, false, false] rfl rfl hT (by kernel_rfl) hE rfl (wanted_none rfl) (fun w => r_move hE rfl) (fun a hE => ?_)
      refine d_pureg (i := 3) (v := .pointer (some x21_15)) #[true, true, true, true, false, false, false, false, false, false, false] rfl rfl hT (by kernel_rfl) hE rfl (wanted_none rfl) (fun w => r_indexAddrL hE rfl rfl un22 sz42 qx21_15) (fun a hE => ?_)
      refine d_pureg (i := 5) (v := (x0 : Sl).v) #[true, true, true, true, false, true, false, false, false, false, false] rfl rfl hT (by kernel_rfl) hE rfl (wanted_none rfl) (fun w => r_move hE rfl) (fun a hE => ?_)
      refine d_pureg (i := 6) (v := .int .i64 x5_7) #[true, true, true, true, false, true, true, false, false, false, false] rfl rfl hT (by kernel_rfl) hE rfl (wanted_none rfl) (fun w => r_move hE rfl) (fun a hE => ?_)
      refine d_pureg (i := 7) (v := .int .i64 (IntKind.wrap .i64 (x5_7 - 1))) #[true, true, true, true, false, true, true, true, false, false, false] rfl rfl hT (by kernel_rfl) hE rfl (wanted_none rfl) (fun w => r_bin hE rfl rfl g_int b_sub) (fun a hE => ?_)
      refine d_pureg (i := 8) (v := .pointer (some x26_16)) #[true, true, true, true, false, true, true, true, true, false, false] rfl rfl hT (by kernel_rfl) hE rfl (wanted_none rfl) (fun w => r_indexAddrL hE rfl rfl un22 sz42 qx26_16) (fun a hE => ?_)
      refine d_read (i := 4) (v := .agg x22_17) #[true, true, true, true, true, true, true, true, true, false, false] rfl rfl hT (by kernel_rfl) hE rfl (wanted_none rfl) hs (fun w s => r_loadG hE rfl ag42 s.1) (fun a hE => ?_)
      refine d_read (i := 9) (v := .agg x27_18) #[true, true, true, true, true, true, true, true, true, true, false] rfl rfl hT (by kernel_rfl) hE rfl (wanted_none rfl) hs (fun w s => r_loadG hE rfl ag42 s.2) (fun a hE => ?_)
      refine d_calllW (i := 10) #[true, true, true, true, true, true, true, true, true, true, true] rfl rfl rfl hT (by kernel_rfl) rfl hE hR (wanted_none rfl) rfl rfl (M.unbind H) (fun x28_19 a w ea hR H => ?_)
      have hE := Env.put_some hE rfl ea; clear ea
      refine d_done hT (by kernel_rfl) ?_
      refine hK_14 _ _ ?_
      refine w_cond x28_19 hE rfl (fun hb => ?_) (fun hb => ?_)
      · replace H := M.ite_t hb H
        refine w_seq (fun K hK_20 => ?_)
        refine t_region ?_
        refine t_val (v := (x0 : Sl).v) rfl rfl hE rfl (r_move hE rfl) (fun a hE => ?_)
        refine t_val (v := .int .i64 x5_7) rfl rfl hE rfl (r_move hE rfl) (fun a hE => ?_)
        obtain ⟨x31_21, qx31_21, H⟩ := H
        refine t_val (v := (x31_21 : Sl).v) rfl rfl hE rfl (r_sliceL_l hE rfl rfl un22 sz42 qx31_21) (fun a hE => ?_)
        refine t_val (v := (x31_21 : Sl).v) rfl rfl hE rfl (r_assign hE rfl) (fun a hE => ?_)
        refine t_nil ?_
        refine hK_20 _ _ ?_
        refine w_seq (fun K hK_22 => ?_)
        refine w_seq (fun K hK_23 => ?_)
        refine t_region ?_
        refine t_val (v := .int .i64 1) rfl rfl hE rfl (r_assign hE rfl) (fun a hE => ?_)
        refine t_nil ?_
        refine hK_23 _ _ ?_
        refine w_block ?_
        refine l_loop (fun (s : Int × Int) => (⟨66, []⟩ : Frm)) (fun (s : Int × Int) => [(0, (x0 : Sl).v), (1, x1), (5, .int .i64 s.1), (6, (x31_21 : Sl).v), (7, .int .i64 s.2)]) H (hE.cut (.cons rfl (.cons rfl (.cons rfl (.cons rfl (.cons rfl Subs.nil)))))) hR (fun Y self2 hY_29 s a w hE hR H => ?_)
        rcases s with ⟨x5_24, x7_25⟩
        replace hE : Env (⟨66, []⟩ : Frm) a [(0, (x0 : Sl).v), (1, x1), (5, .int .i64 x5_24), (6, (x31_21 : Sl).v), (7, .int .i64 x7_25)] := hE
        replace H : (slices_CompactFunc_slapi_Value_api_Value_l2 x0 x1 x31_21 self2 (x5_24, x7_25)).wp w.heap Q := H
        unfold slices_CompactFunc_slapi_Value_api_Value_l2 at H
        refine w_seq (fun K hK_30 => ?_)
        refine w_seq (fun K hK_31 => ?_)
        refine t_region ?_
        refine t_val (v := .int .i64 x7_25) rfl rfl hE rfl (r_move hE rfl) (fun a hE => ?_)
        refine t_val (v := (x31_21 : Sl).v) rfl rfl hE rfl (r_move hE rfl) (fun a hE => ?_)
        refine t_val (v := .int .i64 (x31_21.len : Int)) rfl rfl hE rfl (r_len hE rfl 42 un22) (fun a hE => ?_)
        refine t_val (v := .bool (decide (x7_25 < (x31_21.len : Int)))) rfl rfl hE rfl (r_bin hE rfl rfl g_int b_lss) (fun a hE => ?_)
        refine t_nil ?_
        refine hK_31 _ _ ?_
        refine w_cond (decide (x7_25 < (x31_21.len : Int))) hE rfl (fun hb => ?_) (fun hb => ?_)
        · replace H := M.ite_t hb H
          refine w_skip ?_
          refine hK_30 _ _ ?_
          refine w_seq_join (fun a w => ∃ (x5_32 : Int), Env (⟨66, []⟩ : Frm) a [(0, (x0 : Sl).v), (1, x1), (6, (x31_21 : Sl).v), (7, .int .i64 x7_25), (5, .int .i64 x5_32)] ∧ Rest w0 w ∧ (slices_CompactFunc_slapi_Value_api_Value_j1 self2 x7_25 x5_32).wp w.heap Q) ?_ ?_
          · rintro a w ⟨x5_32, hE, hR, H⟩
            unfold slices_CompactFunc_slapi_Value_api_Value_j1 at H
            refine t_region ?_
            refine t_val (v := .int .i64 x7_25) rfl rfl hE rfl (r_move hE rfl) (fun a hE => ?_)
            refine t_val (v := .int .i64 (IntKind.wrap .i64 (x7_25 + 1))) rfl rfl hE rfl (r_bin hE rfl rfl g_int b_add) (fun a hE => ?_)
            refine t_val (v := .int .i64 (IntKind.wrap .i64 (x7_25 + 1))) rfl rfl hE rfl (r_assign hE rfl) (fun a hE => ?_)
            refine t_nil ?_
            exact hY_29 (x5_32, IntKind.wrap .i64 (x7_25 + 1)) _ _ (hE.cut (.cons rfl (.cons rfl (.cons rfl (.cons rfl (.cons rfl Subs.nil)))))) hR H
          · skip
            refine w_block ?_
            refine w_seq (fun K hK_37 => ?_)
            obtain ⟨x41_38, qx41_38, H⟩ := H
            obtain ⟨x46_39, qx46_39, H⟩ := H
            obtain ⟨x42_40, qx42_40, H⟩ := H
            obtain ⟨x47_41, qx47_41, H⟩ := H
            have hT := tab_of tb17_11 rfl rfl
            refine d_start (fun w : World => (fun h : Heap => (x42_40.size = 4 ∧ ∀ i, i < 4 → hcell h (Addr.add x41_38 i) = x42_40[i]?) ∧ (x47_41.size = 4 ∧ ∀ i, i < 4 → hcell h (Addr.add x46_39 i) = x47_41[i]?)) w.heap) [10, 11] #[false, false, false, false, false, false, false, false, false, false, false, false] mo hR rfl rfl (fun w' e => by rw [e]; exact ⟨qx42_40, qx47_41⟩) (fun w hh hR hs => ?_)
            replace H := M.at hh H; clear hh
            refine d_pureg (i := 0) (v := x1) #[true, false, false, false, false, false, false, false, false, false, false, false] rfl rfl hT (by kernel_rfl) hE rfl (wanted_none rfl) (fun w => r_move hE rfl) (fun a hE => ?_)
            refine d_pureg (i := 1) (v := (x31_21 : Sl).v) #[true, true, false, false, false, false, false, false, false, false, false, false] rfl rfl hT (by kernel_rfl) hE rfl (wanted_none rfl) (fun w => r_move hE rfl) (fun a hE => ?_)
            refine d_pureg (i := 2) (v := .int .i64 x7_25) #[true, true, true, false, false, false, false, false, false, false, false, false] rfl rfl hT (by kernel_rfl) hE rfl (wanted_none rfl) (fun w => r_move hE rfl) (fun a hE => ?_)
            refine d_pureg (i := 3) (v := .pointer (some x41_38)) #[true, true, true, true, false, false, false, false, false, false, false, false] rfl rfl hT (by kernel_rfl) hE rfl (wanted_none rfl) (fun w => r_indexAddrL hE rfl rfl un22 sz42 qx41_38) (fun a hE => ?_)
            refine d_pureg (i := 5) (v := (x31_21 : Sl).v) #[true, true, true, true, false, true, false, false, false, false, false, false] rfl rfl hT (by kernel_rfl) hE rfl (wanted_none rfl) (fun w => r_move hE rfl) (fun a hE => ?_)
            refine d_pureg (i := 6) (v := .int .i64 x7_25) #[true, true, true, true, false, true, true, false, false, false, false, false] rfl rfl hT (by kernel_rfl) hE rfl (wanted_none rfl) (fun w => r_move hE rfl) (fun a hE => ?_)
            refine d_pureg (i := 7) (v := .int .i64 (IntKind.wrap .i64 (x7_25 - 1))) #[true, true, true, true, false, true, true, true, false, false, false, false] rfl rfl hT (by kernel_rfl) hE rfl (wanted_none rfl) (fun w => r_bin hE rfl rfl g_int b_sub) (fun a hE => ?_)
            refine d_pureg (i := 8) (v := .pointer (some x46_39)) #[true, true, true, true, false, true, true, true, true, false, false, false] rfl rfl hT (by kernel_rfl) hE rfl (wanted_none rfl) (fun w => r_indexAddrL hE rfl rfl un22 sz42 qx46_39) (fun a hE => ?_)
            refine d_read (i := 4) (v := .agg x42_40) #[true, true, true, true, true, true, true, true, true, false, false, false] rfl rfl hT (by kernel_rfl) hE rfl (wanted_none rfl) hs (fun w s => r_loadG hE rfl ag42 s.1) (fun a hE => ?_)
            refine d_read (i := 9) (v := .agg x47_41) #[true, true, true, true, true, true, true, true, true, true, false, false] rfl rfl hT (by kernel_rfl) hE rfl (wanted_none rfl) hs (fun w s => r_loadG hE rfl ag42 s.2) (fun a hE => ?_)
            refine d_calllW (i := 10) #[true, true, true, true, true, true, true, true, true, true, true, false] rfl rfl rfl hT (by kernel_rfl) rfl hE hR (wanted_none rfl) rfl rfl (M.unbind H) (fun x48_42 a w ea hR H => ?_)
            have hE := Env.put_some hE rfl ea; clear ea
            refine d_pureg (i := 11) (v := .bool (!x48_42)) #[true, true, true, true, true, true, true, true, true, true, true, true] rfl rfl hT (by kernel_rfl) hE rfl (wanted_none rfl) (fun w => r_un hE rfl u_not) (fun a hE => ?_)
            refine d_done hT (by kernel_rfl) ?_
            refine hK_37 _ _ ?_
            refine w_cond (!x48_42) hE rfl (fun hb => ?_) (fun hb => ?_)
            · replace H := M.ite_t hb H
              refine w_seq (fun K hK_43 => ?_)
              refine t_region ?_
              refine t_val (v := (x0 : Sl).v) rfl rfl hE rfl (r_move hE rfl) (fun a hE => ?_)
              refine t_val (v := .int .i64 x5_24) rfl rfl hE rfl (r_move hE rfl) (fun a hE => ?_)
              refine t_val (v := (x31_21 : Sl).v) rfl rfl hE rfl (r_move hE rfl) (fun a hE => ?_)
              refine t_val (v := .int .i64 x7_25) rfl rfl hE rfl (r_move hE rfl) (fun a hE => ?_)
              obtain ⟨x54_44, qx54_44, H⟩ := H
              refine t_val (v := .pointer (some x54_44)) rfl rfl hE rfl (r_indexAddrL hE rfl rfl un22 sz42 qx54_44) (fun a hE => ?_)
              obtain ⟨x55_45, qx55_45, H⟩ := H
              refine t_val (v := .agg x55_45) rfl rfl hE rfl (r_loadG hE rfl ag42 qx55_45) (fun a hE => ?_)
              obtain ⟨x56_46, qx56_46, H⟩ := H
              refine t_val (v := .pointer (some x56_46)) rfl rfl hE rfl (r_indexAddrL hE rfl rfl un22 sz42 qx56_46) (fun a hE => ?_)
              obtain ⟨qz, H⟩ := H
              obtain ⟨u_47, qu_47, H⟩ := H
              refine t_sth rfl rfl hE hR (r_storeG hE rfl rfl sz42 qz qu_47) (fun a w hE hR hh => ?_)
              replace H := M.at hh H; clear hh
              refine t_nil ?_
              refine hK_43 _ _ ?_
              refine t_region ?_
              refine t_val (v := .int .i64 x5_24) rfl rfl hE rfl (r_move hE rfl) (fun a hE => ?_)
              refine t_val (v := .int .i64 (IntKind.wrap .i64 (x5_24 + 1))) rfl rfl hE rfl (r_bin hE rfl rfl g_int b_add) (fun a hE => ?_)
              refine t_val (v := .int .i64 (IntKind.wrap .i64 (x5_24 + 1))) rfl rfl hE rfl (r_assign hE rfl) (fun a hE => ?_)
              refine t_nil ?_
              exact ⟨IntKind.wrap .i64 (x5_24 + 1), hE.cut (.cons rfl (.cons rfl (.cons rfl (.cons rfl (.cons rfl Subs.nil))))), hR, H⟩
            · replace H := M.ite_f hb H
              refine w_skip ?_
              exact ⟨x5_24, hE.cut (.cons rfl (.cons rfl (.cons rfl (.cons rfl (.cons rfl Subs.nil))))), hR, H⟩
        · replace H := M.ite_f hb H
          refine w_exit ?_
          refine Xu.same ?_
          refine hK_22 _ _ ?_
          refine w_seq (fun K hK_48 => ?_)
          refine t_region ?_
          refine t_val (v := (x0 : Sl).v) rfl rfl hE rfl (r_move hE rfl) (fun a hE => ?_)
          refine t_val (v := .int .i64 x5_24) rfl rfl hE rfl (r_move hE rfl) (fun a hE => ?_)
          obtain ⟨x61_49, qx61_49, H⟩ := H
          refine t_val (v := (x61_49 : Sl).v) rfl rfl hE rfl (r_sliceL_l hE rfl rfl un22 sz42 qx61_49) (fun a hE => ?_)
          refine t_ex (fun u_50 => .tuple #[]) rfl rfl hR (M.unbind H) (fun Q H => clL_run hE rfl ap22 H) (fun u_50 a w ea hR H => ?_)
          have hE := Env.put_none hE ea; clear ea
          refine t_nil ?_
          refine hK_48 _ _ ?_
          refine w_seq (fun K hK_51 => ?_)
          refine t_region ?_
          refine t_val (v := (x0 : Sl).v) rfl rfl hE rfl (r_move hE rfl) (fun a hE => ?_)
          refine t_val (v := .int .i64 x5_24) rfl rfl hE rfl (r_move hE rfl) (fun a hE => ?_)
          obtain ⟨x64_52, qx64_52, H⟩ := H
          refine t_val (v := (x64_52 : Sl).v) rfl rfl hE rfl (r_sliceL_h hE rfl rfl un22 sz42 qx64_52) (fun a hE => ?_)
          refine t_val (v := (x64_52 : Sl).v) rfl rfl hE rfl (r_assign hE rfl) (fun a hE => ?_)
          refine t_nil ?_
          refine hK_51 _ _ ?_
          refine w_ret ?_
          exact hret _ _ _ x64_52 _ hE hR (res_run hE rfl (RV.tmp rfl RV.nil)) rfl H
      · replace H := M.ite_f hb H
        refine w_skip ?_
        refine hK_13 _ _ ?_
        refine t_region ?_
        refine t_val (v := .int .i64 x5_7) rfl rfl hE rfl (r_move hE rfl) (fun a hE => ?_)
        refine t_val (v := .int .i64 (IntKind.wrap .i64 (x5_7 + 1))) rfl rfl hE rfl (r_bin hE rfl rfl g_int b_add) (fun a hE => ?_)
        refine t_val (v := .int .i64 (IntKind.wrap .i64 (x5_7 + 1))) rfl rfl hE rfl (r_assign hE rfl) (fun a hE => ?_)
        refine t_nil ?_
        exact hY_10 (IntKind.wrap .i64 (x5_7 + 1)) _ _ (hE.cut (.cons rfl (.cons rfl (.cons rfl Subs.nil)))) hR H
    · replace H := M.ite_f hb H
      refine w_exit ?_
      refine Xu.same ?_
      refine hK_5 _ _ ?_
      refine w_seq (fun K hK_53 => ?_)
      refine t_region ?_
      refine t_val (v := (x0 : Sl).v) rfl rfl hE rfl (r_move hE rfl) (fun a hE => ?_)
      refine t_val (v := (x0 : Sl).v) rfl rfl hE rfl (r_assign hE rfl) (fun a hE => ?_)
      refine t_nil ?_
      refine hK_53 _ _ ?_
      refine w_ret ?_
      exact hret _ _ _ x0 _ hE hR (res_run hE rfl (RV.tmp rfl RV.nil)) rfl H

/-- (*strings.Builder).String -/
theorem tb25_1 : tabAt Go.Proofs.Tryd.f25 1 [[], [0], [1], [2], [3], [], [5], [6], [7], [8], [4, 9], [10, 0, 1, 2, 3, 4, 5, 6, 7, 8, 9, 10]] [[], [0], [1], [2], [3], [], [5], [6], [7], [8], [4, 9], [10]] [[], [0], [0, 1], [0, 1, 2], [0, 1, 2, 3], [], [5], [5, 6], [5, 6, 7], [5, 6, 7, 8], [0, 1, 2, 3, 4, 5, 6, 7, 8, 9], [0, 1, 2, 3, 4, 5, 6, 7, 8, 9, 10]] = true := by kernel_rfl
def strings_Builder_String (x0 : Option Addr) : M (ByteArray) := do
  let x4_3 ← nilP x0
  let x9_4 ← nilP x0
  let x6_5 ← ldL ((x4_3).add 1)
  let x11_6 ← ldL ((x9_4).add 1)
  let x7_7 ← uSD x6_5
  let x13_8 ← uStr ty_uint8 x7_7 (x11_6.len : Int)
  M.pure x13_8
theorem S_strings_Builder_String (x0 : Option Addr) : Sound Go.Proofs.Tryd.prog 25 #[.pointer x0] (fun (r : ByteArray) => .string r) (strings_Builder_String x0) := by
  refine sound_of [(0, .pointer x0)] Go.Proofs.Tryd.func25 rfl rfl (Nat.le_of_ble_eq_true rfl) (args_of ⟨rfl, trivial⟩) (fun w0 w Q R a hret hE hR H => ?_)
  unfold strings_Builder_String at H
  refine w_seq (fun K hK_1 => ?_)
  refine t_region ?_
  refine t_val (v := .string ByteArray.empty) rfl rfl hE rfl (r_assign hE rfl) (fun a hE => ?_)
  refine t_nil ?_
  refine hK_1 _ _ ?_
  refine w_seq (fun K hK_2 => ?_)
  obtain ⟨x4_3, qx4_3, H⟩ := H
  obtain ⟨x9_4, qx9_4, H⟩ := H
  obtain ⟨x6_5, qx6_5, H⟩ := H
  obtain ⟨x11_6, qx11_6, H⟩ := H
  have hT := tab_of tb25_1 rfl rfl
  refine d_start (fun w : World => (fun h : Heap => (hcell h ((x4_3).add 1) = some ((x6_5 : Sl).v)) ∧ (hcell h ((x9_4).add 1) = some ((x11_6 : Sl).v))) w.heap) [10, 11] #[false, false, false, false, false, false, false, false, false, false, false, false] mo hR rfl rfl (fun w' e => by rw [e]; exact ⟨qx6_5, qx11_6⟩) (fun w hh hR hs => ?_)
  replace H := M.at hh H; clear hh
  refine d_pureg (i := 0) (v := .pointer x0) #[true, false, false, false, false, false, false, false, false, false, false, false] rfl rfl hT (by kernel_rfl) hE rfl (wanted_none rfl) (fun w => r_move hE rfl) (fun a hE => ?_)
  refine d_pureg (i := 1) (v := .pointer (some x4_3)) #[true, true, false, false, false, false, false, false, false, false, false, false] rfl rfl hT (by kernel_rfl) hE rfl (wanted_none rfl) (fun w => r_nilCheck hE (hx_eq rfl (congrArg Value.pointer qx4_3))) (fun a hE => ?_)
  refine d_pureg (i := 2) (v := .pointer (some ((x4_3).add 1))) #[true, true, true, false, false, false, false, false, false, false, false, false] rfl rfl hT (by kernel_rfl) hE rfl (wanted_none rfl) (fun w => r_fieldAddr hE rfl fd53_1) (fun a hE => ?_)
  refine d_pureg (i := 5) (v := .pointer x0) #[true, true, true, false, false, true, false, false, false, false, false, false] rfl rfl hT (by kernel_rfl) hE rfl (wanted_none rfl) (fun w => r_move hE rfl) (fun a hE => ?_)
  refine d_pureg (i := 6) (v := .pointer (some x9_4)) #[true, true, true, false, false, true, true, false, false, false, false, false] rfl rfl hT (by kernel_rfl) hE rfl (wanted_none rfl) (fun w => r_nilCheck hE (hx_eq rfl (congrArg Value.pointer qx9_4))) (fun a hE => ?_)
  refine d_pureg (i := 7) (v := .pointer (some ((x9_4).add 1))) #[true, true, true, false, false, true, true, true, false, false, false, false] rfl rfl hT (by kernel_rfl) hE rfl (wanted_none rfl) (fun w => r_fieldAddr hE rfl fd53_1) (fun a hE => ?_)
  refine d_read (i := 3) (v := (x6_5 : Sl).v) #[true, true, true, true, false, true, true, true, false, false, false, false] rfl rfl hT (by kernel_rfl) hE rfl (wanted_none rfl) hs (fun w s => r_load hE rfl sc51 s.1) (fun a hE => ?_)
  refine d_read (i := 8) (v := (x11_6 : Sl).v) #[true, true, true, true, false, true, true, true, true, false, false, false] rfl rfl hT (by kernel_rfl) hE rfl (wanted_none rfl) hs (fun w s => r_load hE rfl sc51 s.2) (fun a hE => ?_)
  refine d_pureg (i := 9) (v := .int .i64 (x11_6.len : Int)) #[true, true, true, true, false, true, true, true, true, true, false, false] rfl rfl hT (by kernel_rfl) hE rfl (wanted_none rfl) (fun w => r_len hE rfl 5 un51) (fun a hE => ?_)
  obtain ⟨x7_7, qx7_7, H⟩ := H
  refine d_one (i := 4) (v := .pointer x7_7) #[true, true, true, true, true, true, true, true, true, true, false, false] rfl rfl hT (by kernel_rfl) rfl hE hR rfl (wanted_none rfl) (r_uSD hE rfl qx7_7) ⟨rfl, rfl, rfl, Nat.le_refl _⟩ (fun w' e => by rw [e]; exact hs) (fun a w hE hR hh hs => ?_)
  replace H := M.at hh H; clear hh
  refine d_exl (i := 10) (fun x13_8 => .string x13_8) #[true, true, true, true, true, true, true, true, true, true, true, false] rfl rfl hT (by kernel_rfl) rfl hR (wanted_none rfl) (M.unbind H) (fun Q H => uStr_run hE rfl rfl un82 co5 H) (fun x13_8 a w ea hR H => ?_)
  have hE := Env.put_some hE rfl ea; clear ea
  refine d_pureg (i := 11) (v := .string x13_8) #[true, true, true, true, true, true, true, true, true, true, true, true] rfl rfl hT (by kernel_rfl) hE rfl (wanted_none rfl) (fun w => r_assign hE rfl) (fun a hE => ?_)
  refine d_done hT (by kernel_rfl) ?_
  refine hK_2 _ _ ?_
  refine w_ret ?_
  exact hret _ _ _ x13_8 _ hE hR (res_run hE rfl (RV.tmp rfl RV.nil)) rfl H

/-- ramble/result.Table -/
theorem tb6_14 : tabAt Go.Proofs.Tryd.f6 14 [[], [], [1], [2], [0], [], [0, 5, 0, 1, 2, 3, 4, 5], [6, 4, 0, 1, 2, 3, 4, 5, 6], [7, 3, 6, 0, 1, 2, 3, 4, 5, 6], [6, 6, 0, 1, 2, 3, 4, 5, 6]] [[], [], [1], [2], [0], [], [0, 5], [4, 6], [3, 7], [6]] [[], [], [1], [1, 2], [0], [], [0, 1, 2, 3, 4, 5], [0, 1, 2, 3, 4, 5, 6], [0, 1, 2, 3, 4, 5, 6, 7], [0, 1, 2, 3, 4, 5, 6]] = true := by kernel_rfl
def result_Table_y2 (c2_45 : Addr) (c3_46 : Addr) (c5_47 : Addr) (lp2 : Nat) : (Sl) → M Nat := fun x => match x with
  | x30_48 => do
    let _ ← beg lp2
    let x32_51 ← ixL x30_48 0 4
    let x34_52 ← ldI .i64 ((x32_51).add 0)
    M.ite (x34_52 != 2) (do
      stV c2_45 (.string ByteArray.empty)
      stV c3_46 (.int .i64 21)
      M.pure 1
      ) (do
      let x38_56 ← ixL x30_48 0 4
      let x36_57 ← ldL c5_47
      let x39_58 ← ldG 4 x38_56
      let y_60 ← fillL 4 1 (#[.int .i64 0, .int .i64 0, .string ByteArray.empty, .slice none 0 0] : Array Value) [(0, .agg (#[.int .i64 0, .int .i64 0, .string ByteArray.empty, .slice none 0 0] : Array Value))]
      let x41_59 ← bdL ty_api_Value 1 y_60
      chk (fun h : Heap => (hcell h c5_47 = some ((x36_57 : Sl).v)) ∧ (x39_58.size = 4 ∧ ∀ i, i < 4 → hcell h (Addr.add x38_56 i) = x39_58[i]?))
      let x42_61 ← apL ty_api_Value 4 56 (#[.int .i64 0, .int .i64 0, .string ByteArray.empty, .slice none 0 0] : Array Value) x36_57 x41_59
      let x43_62 ← ixL x42_61 (x36_57.len : Int) 4
      let y_67 ← do
        M.both (do
          M.need (x39_58.size = 4)
          stG x43_62 x39_58
          stV c5_47 ((x42_61 : Sl).v)
          M.pure ()
          ) (do
          stV c5_47 ((x42_61 : Sl).v)
          M.need (x39_58.size = 4)
          stG x43_62 x39_58
          M.pure ()
          )
      M.pure 0
      )
def result_Table_l3 (cm_86 : List Nat) (c2_87 : Addr) (c3_88 : Addr) (c9_89 : Addr) (c10_90 : Value) (c52_91 : Sl) (c53_92 : Int) (self3 : (Int) → M (ByteArray × Int)) : (Int) → M (ByteArray × Int) := fun s => match s with
  | x54_85 => do
    M.ite (decide (x54_85 < c53_92)) (do
      let x56_98 ← ixL c52_91 x54_85 4
      let x57_99 ← ldG 4 x56_98
      let x12_100 ← mkB ty_api_Value (#[.int .i64 0, .int .i64 0, .string ByteArray.empty, .slice none 0 0] : Array Value)
      M.need (x57_99.size = 4)
      stG x12_100 x57_99
      let x60_102 ← callV Go.Proofs.Tryd.prog (fun r : Unit => .tuple #[]) c10_90 [(Value.func (.func fn_result_Table_2) #[] #[.pointer (some x12_100)])]
      self3 (IntKind.wrap .i64 (x54_85 + 1))
      ) (do
      let x62_104 ← strings_Builder_String (some c9_89)
      stV c2_87 (.string x62_104)
      stV c3_88 (.int .i64 0)
      let _ ← shut cm_86
      let r2_107 ← ldS c2_87
      let r3_108 ← ldI .i64 c3_88
      M.pure (r2_107, r3_108)
      )
def result_Table_l1 (c0_19 : Sl) (c2_20 : Addr) (c3_21 : Addr) (c5_22 : Addr) (c18_23 : Sl) (c19_24 : Int) (self1 : (List Nat × Int) → M (ByteArray × Int)) : (List Nat × Int) → M (ByteArray × Int) := fun s => match s with
  | (xm_17, x20_18) => do
    M.ite (decide (x20_18 < c19_24)) (do
      let x22_30 ← ixL c18_23 x20_18 4
      let x23_31 ← ldG 4 x22_30
      let x7_32 ← mkB ty_api_Value (#[.int .i64 0, .int .i64 0, .string ByteArray.empty, .slice none 0 0] : Array Value)
      M.need (x23_31.size = 4)
      stG x7_32 x23_31
      let x25_36 ← ldI .i64 ((x7_32).add 0)
      M.ite (x25_36 != 5) (do
        stV c2_20 (.string ByteArray.empty)
        stV c3_21 (.int .i64 21)
        let _ ← shut xm_17
        let r2_40 ← ldS c2_20
        let r3_41 ← ldI .i64 c3_21
        M.pure (r2_40, r3_41)
        ) (do
        let x28_43 ← ldL ((x7_32).add 3)
        let x29_44 ← slices_Chunk_slapi_Value_api_Value x28_43 2
        let j_68 ← rgF Go.Proofs.Tryd.prog (fun x : Sl => [(x : Sl).v]) [.ret] (result_Table_y2 c2_20 c3_21 c5_22) x29_44
        M.ite (decide (j_68.1 = 1)) (do
          let _ ← shut (j_68.2 :: xm_17)
          let r2_69 ← ldS c2_20
          let r3_70 ← ldI .i64 c3_21
          M.pure (r2_69, r3_70)
          ) (do
          self1 ((j_68.2 :: xm_17), IntKind.wrap .i64 (x20_18 + 1))
          )
        )
      ) (do
      let x45_72 ← ldL c5_22
      let x46_73 ← callF Go.Proofs.Tryd.prog fn_slices_SortFunc_slapi_Value_api_Value #[(x45_72 : Sl).v, (Value.func (.func fn_value_Compare) #[] #[])] (fun r : Unit => .tuple #[])
      let x47_75 ← ldL c5_22
      let x48_76 ← slices_CompactFunc_slapi_Value_api_Value x47_75 (Value.func (.func fn_value_Same) #[] #[])
      stV c5_22 ((x48_76 : Sl).v)
      let x9_79 ← mkB ty_strings_Builder (#[.pointer none, .slice none 0 0] : Array Value)
      let x51_82 ← callV Go.Proofs.Tryd.prog (fun r : Unit => .tuple #[]) (Value.func (.func fn_result_Table_1) #[] #[.pointer (some c5_22), .pointer (some x9_79)]) [(Value.func (.func fn_value_Text) #[] #[])]
      M.loop (result_Table_l3 xm_17 c2_20 c3_21 x9_79 (Value.func (.func fn_result_Table_1) #[] #[.pointer (some c5_22), .pointer (some x9_79)]) c0_19 (c0_19.len : Int)) 0
      )
def result_Table (x0 : Sl) : M (ByteArray × Int) := do
  let x2_2 ← mkB ty_string (#[.string ByteArray.empty] : Array Value)
  let x3_3 ← mkB ty_api_Errno (#[.int .i64 0] : Array Value)
  let x14_6 ← result_first x0
  M.ite (x14_6 != 0) (do
    stV x2_2 (.string ByteArray.empty)
    stV x3_3 (.int .i64 x14_6)
    let _ ← shut ([])
    let r2_11 ← ldS x2_2
    let r3_12 ← ldI .i64 x3_3
    M.pure (r2_11, r3_12)
    ) (do
    let x5_14 ← mkB ty_sl_api_Value (#[.slice none 0 0] : Array Value)
    M.loop (result_Table_l1 x0 x2_2 x3_3 x5_14 x0 (x0.len : Int)) ([], 0)
    )
theorem S_result_Table (x0 : Sl) : Sound Go.Proofs.Tryd.prog 6 #[(x0 : Sl).v] (fun (r : ByteArray × Int) => .tuple #[.string r.1, .int .i64 r.2]) (result_Table x0) := by
  refine sound_ofM [(0, (x0 : Sl).v)] Go.Proofs.Tryd.func6 rfl rfl (Nat.le_of_ble_eq_true rfl) (args_of ⟨rfl, trivial⟩) (fun w0 w Q R a hret hE hR H => ?_)
  unfold result_Table at H
  refine w_seq (fun K hK_1 => ?_)
  refine t_region ?_
  obtain ⟨x2_2, qx2_2, H⟩ := H
  refine t_valh (v := .pointer (some x2_2)) rfl rfl hE rfl hR (r_alloc zr9 qx2_2) (fun a w hE hR hh => ?_)
  replace H := M.at hh H; clear hh
  obtain ⟨x3_3, qx3_3, H⟩ := H
  refine t_valh (v := .pointer (some x3_3)) rfl rfl hE rfl hR (r_alloc zr24 qx3_3) (fun a w hE hR hh => ?_)
  replace H := M.at hh H; clear hh
  refine t_nil ?_
  refine hK_1 _ _ ?_
  refine w_seq (fun K hK_4 => ?_)
  refine w_seq (fun K hK_5 => ?_)
  refine t_region ?_
  refine t_val (v := (x0 : Sl).v) rfl rfl hE rfl (r_move hE rfl) (fun a hE => ?_)
  refine t_call hE hR cl_result_first rfl (S_result_first x0) (M.unbind H) (fun x14_6 a w ea hR H => ?_)
  have hE := Env.put_some hE rfl ea; clear ea
  refine t_val (v := .int .i64 x14_6) rfl rfl hE rfl (r_assign hE rfl) (fun a hE => ?_)
  refine t_nil ?_
  refine hK_5 _ _ ?_
  refine w_seq (fun K hK_7 => ?_)
  refine t_region ?_
  refine t_val (v := .int .i64 x14_6) rfl rfl hE rfl (r_move hE rfl) (fun a hE => ?_)
  refine t_val (v := .bool (x14_6 != 0)) rfl rfl hE rfl (r_bin hE rfl rfl g_int b_neq) (fun a hE => ?_)
  refine t_nil ?_
  refine hK_7 _ _ ?_
  refine w_cond (x14_6 != 0) hE rfl (fun hb => ?_) (fun hb => ?_)
  · replace H := M.ite_t hb H
    refine w_seq (fun K hK_8 => ?_)
    refine t_region ?_
    refine t_val (v := .int .i64 x14_6) rfl rfl hE rfl (r_move hE rfl) (fun a hE => ?_)
    obtain ⟨u_9, qu_9, H⟩ := H
    refine t_sth rfl rfl hE hR (r_store hE rfl rfl sz9 qu_9) (fun a w hE hR hh => ?_)
    replace H := M.at hh H; clear hh
    obtain ⟨u_10, qu_10, H⟩ := H
    refine t_sth rfl rfl hE hR (r_store hE rfl rfl sz24 qu_10) (fun a w hE hR hh => ?_)
    replace H := M.at hh H; clear hh
    refine t_nil ?_
    refine hK_8 _ _ ?_
    refine w_ret ?_
    refine hret _ _ _ _ _ hE hR (M.unbind H) (fun w hR H => ?_)
    obtain ⟨r2_11, qr2_11, H⟩ := H
    obtain ⟨r3_12, qr3_12, H⟩ := H
    exact ⟨(r2_11, r3_12), _, res_run hE rfl (RV.cell rfl sc9 qr2_11 (RV.cell rfl sc24 qr3_12 RV.nil)), rfl, H⟩
  · replace H := M.ite_f hb H
    refine w_skip ?_
    refine hK_4 _ _ ?_
    refine w_seq (fun K hK_13 => ?_)
    refine t_region ?_
    obtain ⟨x5_14, qx5_14, H⟩ := H
    refine t_valh (v := .pointer (some x5_14)) rfl rfl hE rfl hR (r_alloc zr22 qx5_14) (fun a w hE hR hh => ?_)
    replace H := M.at hh H; clear hh
    refine t_nil ?_
    refine hK_13 _ _ ?_
    refine w_seq (fun K hK_15 => ?_)
    refine w_seq (fun K hK_16 => ?_)
    refine t_region ?_
    refine t_val (v := (x0 : Sl).v) rfl rfl hE rfl (r_move hE rfl) (fun a hE => ?_)
    refine t_val (v := .int .i64 (x0.len : Int)) rfl rfl hE rfl (r_len hE rfl 42 un22) (fun a hE => ?_)
    refine t_val (v := .int .i64 0) rfl rfl hE rfl (r_move hE rfl) (fun a hE => ?_)
    refine t_nil ?_
    refine hK_16 _ _ ?_
    refine w_block ?_
    refine l_loop (fun (s : List Nat × Int) => (⟨63, s.1⟩ : Frm)) (fun (s : List Nat × Int) => [(0, (x0 : Sl).v), (2, .pointer (some x2_2)), (3, .pointer (some x3_3)), (5, .pointer (some x5_14)), (18, (x0 : Sl).v), (19, .int .i64 (x0.len : Int)), (20, .int .i64 s.2)]) H (hE.cut (.cons rfl (.cons rfl (.cons rfl (.cons rfl (.cons rfl (.cons rfl (.cons rfl Subs.nil)))))))) hR (fun Y self1 hY_25 s a w hE hR H => ?_)
    rcases s with ⟨xm_17, x20_18⟩
    replace hE : Env (⟨63, xm_17⟩ : Frm) a [(0, (x0 : Sl).v), (2, .pointer (some x2_2)), (3, .pointer (some x3_3)), (5, .pointer (some x5_14)), (18, (x0 : Sl).v), (19, .int .i64 (x0.len : Int)), (20, .int .i64 x20_18)] := hE
    replace H : (result_Table_l1 x0 x2_2 x3_3 x5_14 x0 (x0.len : Int) self1 (xm_17, x20_18)).wp w.heap Q := H
    unfold result_Table_l1 at H
    refine w_seq (fun K hK_26 => ?_)
    refine t_region ?_
    refine t_val (v := .bool (decide (x20_18 < (x0.len : Int)))) rfl rfl hE rfl (r_bin hE rfl rfl g_int b_lss) (fun a hE => ?_)
    refine t_nil ?_
    refine hK_26 _ _ ?_
    refine w_seq (fun K hK_27 => ?_)
    refine w_cond (decide (x20_18 < (x0.len : Int))) hE rfl (fun hb => ?_) (fun hb => ?_)
    · replace H := M.ite_t hb H
      refine w_skip ?_
      refine hK_27 _ _ ?_
      refine w_seq (fun K hK_28 => ?_)
      refine w_block ?_
      refine w_seq (fun K hK_29 => ?_)
      refine t_region ?_
      obtain ⟨x22_30, qx22_30, H⟩ := H
      refine t_val (v := .pointer (some x22_30)) rfl rfl hE rfl (r_indexAddrL hE rfl rfl un22 sz42 qx22_30) (fun a hE => ?_)
      obtain ⟨x23_31, qx23_31, H⟩ := H
      refine t_val (v := .agg x23_31) rfl rfl hE rfl (r_loadG hE rfl ag42 qx23_31) (fun a hE => ?_)
      obtain ⟨x7_32, qx7_32, H⟩ := H
      refine t_valh (v := .pointer (some x7_32)) rfl rfl hE rfl hR (r_alloc zr42 qx7_32) (fun a w hE hR hh => ?_)
      replace H := M.at hh H; clear hh
      obtain ⟨qz, H⟩ := H
      obtain ⟨u_33, qu_33, H⟩ := H
      refine t_sth rfl rfl hE hR (r_storeG hE rfl rfl sz42 qz qu_33) (fun a w hE hR hh => ?_)
      replace H := M.at hh H; clear hh
      refine t_nil ?_
      refine hK_29 _ _ ?_
      refine w_seq (fun K hK_34 => ?_)
      refine w_seq (fun K hK_35 => ?_)
      refine t_region ?_
      refine t_val (v := .pointer (some ((x7_32).add 0))) rfl rfl hE rfl (r_fieldAddr hE rfl fd42_0) (fun a hE => ?_)
      obtain ⟨x25_36, qx25_36, H⟩ := H
      refine t_val (v := .int .i64 x25_36) rfl rfl hE rfl (r_load hE rfl sc3 qx25_36) (fun a hE => ?_)
      refine t_val (v := .bool (x25_36 != 5)) rfl rfl hE rfl (r_bin hE rfl rfl g_int b_neq) (fun a hE => ?_)
      refine t_nil ?_
      refine hK_35 _ _ ?_
      refine w_cond (x25_36 != 5) hE rfl (fun hb => ?_) (fun hb => ?_)
      · replace H := M.ite_t hb H
        refine w_seq (fun K hK_37 => ?_)
        refine t_region ?_
        obtain ⟨u_38, qu_38, H⟩ := H
        refine t_sth rfl rfl hE hR (r_store hE rfl rfl sz9 qu_38) (fun a w hE hR hh => ?_)
        replace H := M.at hh H; clear hh
        obtain ⟨u_39, qu_39, H⟩ := H
        refine t_sth rfl rfl hE hR (r_store hE rfl rfl sz24 qu_39) (fun a w hE hR hh => ?_)
        replace H := M.at hh H; clear hh
        refine t_nil ?_
        refine hK_37 _ _ ?_
        refine w_ret ?_
        refine hret _ _ _ _ _ hE hR (M.unbind H) (fun w hR H => ?_)
        obtain ⟨r2_40, qr2_40, H⟩ := H
        obtain ⟨r3_41, qr3_41, H⟩ := H
        exact ⟨(r2_40, r3_41), _, res_run hE rfl (RV.cell rfl sc9 qr2_40 (RV.cell rfl sc24 qr3_41 RV.nil)), rfl, H⟩
      · replace H := M.ite_f hb H
        refine w_skip ?_
        refine hK_34 _ _ ?_
        refine w_seq (fun K hK_42 => ?_)
        refine t_region ?_
        refine t_val (v := .pointer (some ((x7_32).add 3))) rfl rfl hE rfl (r_fieldAddr hE rfl fd42_3) (fun a hE => ?_)
        obtain ⟨x28_43, qx28_43, H⟩ := H
        refine t_val (v := (x28_43 : Sl).v) rfl rfl hE rfl (r_load hE rfl sc22 qx28_43) (fun a hE => ?_)
        refine t_call hE hR cl_slices_Chunk_slapi_Value_api_Value rfl (S_slices_Chunk_slapi_Value_api_Value x28_43 2) (M.unbind H) (fun x29_44 a w ea hR H => ?_)
        have hE := Env.put_some hE rfl ea; clear ea
        refine t_nil ?_
        refine hK_42 _ _ ?_
        refine w_block ?_
        refine w_rangeF (js := [.ret]) (enc := (fun x : Sl => [(x : Sl).v])) (Y := (result_Table_y2 x2_2 x3_3 x5_14)) hE hR rfl (fun x => rfl) rfl (M.unbind H) (fun lp2 x30_48 Q w0 Rr hfin a w hE hR H => ?_) (fun j_68 a w hE hR H => ?_)
        · skip
          replace hE : Env (⟨63, []⟩ : Frm) a [(2, .pointer (some x2_2)), (3, .pointer (some x3_3)), (5, .pointer (some x5_14)), (30, (x30_48 : Sl).v)] := Env.cut hE (.cons rfl (.cons rfl (.cons rfl (.cons rfl Subs.nil))))
          replace H : (result_Table_y2 x2_2 x3_3 x5_14 lp2 x30_48).wp w.heap Q := H
          unfold result_Table_y2 at H
          refine t_region ?_
          refine t_val (v := (x30_48 : Sl).v) rfl rfl hE rfl (r_assign hE rfl) (fun a hE => ?_)
          refine t_nil ?_
          refine beg_w hR H (fun w hR H => ?_)
          refine w_block ?_
          refine w_seq (fun K hK_49 => ?_)
          refine w_seq (fun K hK_50 => ?_)
          refine t_region ?_
          refine t_val (v := (x30_48 : Sl).v) rfl rfl hE rfl (r_move hE rfl) (fun a hE => ?_)
          obtain ⟨x32_51, qx32_51, H⟩ := H
          refine t_val (v := .pointer (some x32_51)) rfl rfl hE rfl (r_indexAddrL hE rfl rfl un22 sz42 qx32_51) (fun a hE => ?_)
          refine t_val (v := .pointer (some ((x32_51).add 0))) rfl rfl hE rfl (r_fieldAddr hE rfl fd42_0) (fun a hE => ?_)
          obtain ⟨x34_52, qx34_52, H⟩ := H
          refine t_val (v := .int .i64 x34_52) rfl rfl hE rfl (r_load hE rfl sc3 qx34_52) (fun a hE => ?_)
          refine t_val (v := .bool (x34_52 != 2)) rfl rfl hE rfl (r_bin hE rfl rfl g_int b_neq) (fun a hE => ?_)
          refine t_nil ?_
          refine hK_50 _ _ ?_
          refine w_cond (x34_52 != 2) hE rfl (fun hb => ?_) (fun hb => ?_)
          · replace H := M.ite_t hb H
            refine w_seq (fun K hK_53 => ?_)
            refine t_region ?_
            obtain ⟨u_54, qu_54, H⟩ := H
            refine t_sth rfl rfl hE hR (r_store hE rfl rfl sz9 qu_54) (fun a w hE hR hh => ?_)
            replace H := M.at hh H; clear hh
            obtain ⟨u_55, qu_55, H⟩ := H
            refine t_sth rfl rfl hE hR (r_store hE rfl rfl sz24 qu_55) (fun a w hE hR hh => ?_)
            replace H := M.at hh H; clear hh
            refine t_nil ?_
            refine hK_53 _ _ ?_
            refine w_ret ?_
            exact ⟨0, rfl, hfin 1 _ _ hR H⟩
          · replace H := M.ite_f hb H
            refine w_skip ?_
            refine hK_49 _ _ ?_
            obtain ⟨x38_56, qx38_56, H⟩ := H
            obtain ⟨x36_57, qx36_57, H⟩ := H
            obtain ⟨x39_58, qx39_58, H⟩ := H
            have hT := tab_of tb6_14 rfl rfl
            refine d_start (fun w : World => (fun h : Heap => (hcell h x5_14 = some ((x36_57 : Sl).v)) ∧ (x39_58.size = 4 ∧ ∀ i, i < 4 → hcell h (Addr.add x38_56 i) = x39_58[i]?)) w.heap) [6, 7, 8, 9] #[false, false, false, false, false, false, false, false, false, false] mo hR rfl rfl (fun w' e => by rw [e]; exact ⟨qx36_57, qx39_58⟩) (fun w hh hR hs => ?_)
            replace H := M.at hh H; clear hh
            refine d_pureg (i := 1) (v := (x30_48 : Sl).v) #[false, true, false, false, false, false, false, false, false, false] rfl rfl hT (by kernel_rfl) hE rfl (wanted_none rfl) (fun w => r_move hE rfl) (fun a hE => ?_)
            refine d_pureg (i := 2) (v := .pointer (some x38_56)) #[false, true, true, false, false, false, false, false, false, false] rfl rfl hT (by kernel_rfl) hE rfl (wanted_none rfl) (fun w => r_indexAddrL hE rfl rfl un22 sz42 qx38_56) (fun a hE => ?_)
            refine d_read (i := 0) (v := (x36_57 : Sl).v) #[true, true, true, false, false, false, false, false, false, false] rfl rfl hT (by kernel_rfl) hE rfl (wanted_none rfl) hs (fun w s => r_load hE rfl sc22 s.1) (fun a hE => ?_)
            refine d_pureg (i := 4) (v := .int .i64 (x36_57.len : Int)) #[true, true, true, false, true, false, false, false, false, false] rfl rfl hT (by kernel_rfl) hE rfl (wanted_none rfl) (fun w => r_len hE rfl 42 un22) (fun a hE => ?_)
            refine d_read (i := 3) (v := .agg x39_58) #[true, true, true, true, true, false, false, false, false, false] rfl rfl hT (by kernel_rfl) hE rfl (wanted_none rfl) hs (fun w s => r_loadG hE rfl ag42 s.2) (fun a hE => ?_)
            obtain ⟨y_60, qy_60, H⟩ := H
            obtain ⟨x41_59, qx41_59, H⟩ := H
            obtain ⟨_, sA, H⟩ := H
            refine d_oneh (i := 5) (v := (x41_59 : Sl).v) #[true, true, true, true, true, true, false, false, false, false] rfl rfl hT (by kernel_rfl) rfl hE hR rfl (wanted_none rfl) (r_buildL hE rfl un22 sz42 zr42 rfl qy_60 qx41_59)  (fun w' e => by rw [e]; exact sA) (fun a w hE hR hh hs => ?_)
            replace H := M.at hh H; clear hh
            refine d_exl (i := 6) (fun x42_61 => (x42_61 : Sl).v) #[true, true, true, true, true, true, true, false, false, false] rfl rfl hT (by kernel_rfl) rfl hR (wanted_none rfl) (M.unbind H) (fun Q H => ap_run hE rfl rfl ap22 H) (fun x42_61 a w ea hR H => ?_)
            have hE := Env.put_some hE rfl ea; clear ea
            obtain ⟨x43_62, qx43_62, H⟩ := H
            refine d_pureg (i := 7) (v := .pointer (some x43_62)) #[true, true, true, true, true, true, true, true, false, false] rfl rfl hT (by kernel_rfl) hE rfl (wanted_none rfl) (fun w => r_indexAddrL hE rfl rfl un22 sz42 qx43_62) (fun a hE => ?_)
            refine d_switch (fun w : World => (fun h : Heap => True) w.heap) [8, 9] (by kernel_rfl) ?_
            have hs : (fun h : Heap => True) w.heap := trivial
            refine d_join (n := (⟨63, []⟩ : Frm)) (w0 := w0) (fun y_67 : Unit => [(2, .pointer (some x2_2)), (3, .pointer (some x3_3)), (5, .pointer (some x5_14)), (30, (x30_48 : Sl).v), (8, (x30_48 : Sl).v), (31, (x30_48 : Sl).v), (32, .pointer (some x32_51)), (33, .pointer (some ((x32_51).add 0))), (34, .int .i64 x34_52), (35, .bool (x34_52 != 2)), (37, (x30_48 : Sl).v), (38, .pointer (some x38_56)), (36, (x36_57 : Sl).v), (40, .int .i64 (x36_57.len : Int)), (39, .agg x39_58), (41, (x41_59 : Sl).v), (42, (x42_61 : Sl).v), (43, .pointer (some x43_62))]) 0 #[true, true, true, true, true, true, true, true, true, true] (M.unbind H) ?_ ?_
            · intro y_67 a w hE hR H
              refine d_done hT (by kernel_rfl) ?_
              exact hfin 0 _ _ hR H
            · intro hj H
              refine d_pick [8, 9] hT (by kernel_rfl) rfl (fun i hi => ?_)
              simp only [List.mem_cons, List.not_mem_nil, or_false] at hi
              rcases hi with rfl | rfl
              · replace H := H.1
                obtain ⟨qz, H⟩ := H
                obtain ⟨u_63, qu_63, H⟩ := H
                refine p_sth (S := fun w : World => (fun h : Heap => True) w.heap) (i := 8) #[true, true, true, true, true, true, true, true, true, false] rfl rfl (by kernel_rfl) hE hR (wanted_none rfl) (r_storeG hE rfl rfl sz42 qz qu_63)  (fun _ _ => trivial) (fun a w hE hR hh hs => ?_)
                replace H := M.at hh H; clear hh
                obtain ⟨u_64, qu_64, H⟩ := H
                refine d_stlh (i := 9) #[true, true, true, true, true, true, true, true, true, true] rfl rfl hT (by kernel_rfl) rfl hE hR (wanted_none rfl) (r_store hE rfl rfl sz22 qu_64)  (fun a w hE hR hh => ?_)
                replace H := M.at hh H; clear hh
                exact hj () _ _ (hE.cut (.cons rfl (.cons rfl (.cons rfl (.cons rfl (.cons rfl (.cons rfl (.cons rfl (.cons rfl (.cons rfl (.cons rfl (.cons rfl (.cons rfl (.cons rfl (.cons rfl (.cons rfl (.cons rfl (.cons rfl (.cons rfl Subs.nil))))))))))))))))))) hR H
              · replace H := H.2
                obtain ⟨u_65, qu_65, H⟩ := H
                refine p_sth (S := fun w : World => (fun h : Heap => True) w.heap) (i := 9) #[true, true, true, true, true, true, true, true, false, true] rfl rfl (by kernel_rfl) hE hR (wanted_none rfl) (r_store hE rfl rfl sz22 qu_65)  (fun _ _ => trivial) (fun a w hE hR hh hs => ?_)
                replace H := M.at hh H; clear hh
                obtain ⟨qz, H⟩ := H
                obtain ⟨u_66, qu_66, H⟩ := H
                refine d_stlh (i := 8) #[true, true, true, true, true, true, true, true, true, true] rfl rfl hT (by kernel_rfl) rfl hE hR (wanted_none rfl) (r_storeG hE rfl rfl sz42 qz qu_66)  (fun a w hE hR hh => ?_)
                replace H := M.at hh H; clear hh
                exact hj () _ _ (hE.cut (.cons rfl (.cons rfl (.cons rfl (.cons rfl (.cons rfl (.cons rfl (.cons rfl (.cons rfl (.cons rfl (.cons rfl (.cons rfl (.cons rfl (.cons rfl (.cons rfl (.cons rfl (.cons rfl (.cons rfl (.cons rfl Subs.nil))))))))))))))))))) hR H
        · skip
          replace hE : Env (⟨63, (j_68.2 :: xm_17)⟩ : Frm) a [(0, (x0 : Sl).v), (2, .pointer (some x2_2)), (3, .pointer (some x3_3)), (5, .pointer (some x5_14)), (18, (x0 : Sl).v), (19, .int .i64 (x0.len : Int)), (20, .int .i64 x20_18)] := Env.cut hE (.cons rfl (.cons rfl (.cons rfl (.cons rfl (.cons rfl (.cons rfl (.cons rfl Subs.nil)))))))
          refine jgo_cons (fun hj => ?_) (fun hj => ?_)
          · replace H := M.ite_t (decide_eq_true hj) H
            refine w_ret ?_
            refine hret _ _ _ _ _ hE hR (M.unbind H) (fun w hR H => ?_)
            obtain ⟨r2_69, qr2_69, H⟩ := H
            obtain ⟨r3_70, qr3_70, H⟩ := H
            exact ⟨(r2_69, r3_70), _, res_run hE rfl (RV.cell rfl sc9 qr2_69 (RV.cell rfl sc24 qr3_70 RV.nil)), rfl, H⟩
          · replace H := M.ite_f (decide_eq_false hj) H
            refine jgo_nil ?_
            refine hK_28 _ _ ?_
            refine t_region ?_
            refine t_val (v := .int .i64 (IntKind.wrap .i64 (x20_18 + 1))) rfl rfl hE rfl (r_bin hE rfl rfl g_int b_add) (fun a hE => ?_)
            refine t_val (v := .int .i64 (IntKind.wrap .i64 (x20_18 + 1))) rfl rfl hE rfl (r_move hE rfl) (fun a hE => ?_)
            refine t_nil ?_
            exact hY_25 ((j_68.2 :: xm_17), IntKind.wrap .i64 (x20_18 + 1)) _ _ (hE.cut (.cons rfl (.cons rfl (.cons rfl (.cons rfl (.cons rfl (.cons rfl (.cons rfl Subs.nil)))))))) hR H
    · replace H := M.ite_f hb H
      refine w_exit ?_
      refine Xu.same ?_
      refine hK_15 _ _ ?_
      refine w_seq (fun K hK_71 => ?_)
      refine t_region ?_
      obtain ⟨x45_72, qx45_72, H⟩ := H
      refine t_val (v := (x45_72 : Sl).v) rfl rfl hE rfl (r_load hE rfl sc22 qx45_72) (fun a hE => ?_)
      refine t_call hE hR cl_slices_SortFunc_slapi_Value_api_Value rfl (sound_callF) (M.unbind H) (fun x46_73 a w ea hR H => ?_)
      have hE := Env.put_some hE rfl ea; clear ea
      refine t_nil ?_
      refine hK_71 _ _ ?_
      refine w_seq (fun K hK_74 => ?_)
      refine t_region ?_
      obtain ⟨x47_75, qx47_75, H⟩ := H
      refine t_val (v := (x47_75 : Sl).v) rfl rfl hE rfl (r_load hE rfl sc22 qx47_75) (fun a hE => ?_)
      refine t_call hE hR cl_slices_CompactFunc_slapi_Value_api_Value rfl (S_slices_CompactFunc_slapi_Value_api_Value x47_75 (Value.func (.func fn_value_Same) #[] #[])) (M.unbind H) (fun x48_76 a w ea hR H => ?_)
      have hE := Env.put_some hE rfl ea; clear ea
      obtain ⟨u_77, qu_77, H⟩ := H
      refine t_sth rfl rfl hE hR (r_store hE rfl rfl sz22 qu_77) (fun a w hE hR hh => ?_)
      replace H := M.at hh H; clear hh
      refine t_nil ?_
      refine hK_74 _ _ ?_
      refine w_seq (fun K hK_78 => ?_)
      refine t_region ?_
      obtain ⟨x9_79, qx9_79, H⟩ := H
      refine t_valh (v := .pointer (some x9_79)) rfl rfl hE rfl hR (r_alloc zr53 qx9_79) (fun a w hE hR hh => ?_)
      replace H := M.at hh H; clear hh
      refine t_nil ?_
      refine hK_78 _ _ ?_
      refine w_seq (fun K hK_80 => ?_)
      refine t_region ?_
      refine t_val (v := (Value.func (.func fn_result_Table_1) #[] #[.pointer (some x5_14), .pointer (some x9_79)])) rfl rfl hE rfl (r_makeFunc hE rfl) (fun a hE => ?_)
      refine t_val (v := (Value.func (.func fn_result_Table_1) #[] #[.pointer (some x5_14), .pointer (some x9_79)])) rfl rfl hE rfl (r_assign hE rfl) (fun a hE => ?_)
      refine t_nil ?_
      refine hK_80 _ _ ?_
      refine w_seq (fun K hK_81 => ?_)
      refine t_region ?_
      refine t_val (v := (Value.func (.func fn_result_Table_1) #[] #[.pointer (some x5_14), .pointer (some x9_79)])) rfl rfl hE rfl (r_move hE rfl) (fun a hE => ?_)
      refine t_callV hE hR rfl rfl (M.unbind H) (fun x51_82 a w ea hR H => ?_)
      have hE := Env.put_some hE rfl ea; clear ea
      refine t_nil ?_
      refine hK_81 _ _ ?_
      refine w_seq (fun K hK_83 => ?_)
      refine w_seq (fun K hK_84 => ?_)
      refine t_region ?_
      refine t_val (v := (x0 : Sl).v) rfl rfl hE rfl (r_move hE rfl) (fun a hE => ?_)
      refine t_val (v := .int .i64 (x0.len : Int)) rfl rfl hE rfl (r_len hE rfl 42 un22) (fun a hE => ?_)
      refine t_val (v := .int .i64 0) rfl rfl hE rfl (r_move hE rfl) (fun a hE => ?_)
      refine t_nil ?_
      refine hK_84 _ _ ?_
      refine w_block ?_
      refine l_loop (fun (s : Int) => (⟨63, xm_17⟩ : Frm)) (fun (s : Int) => [(2, .pointer (some x2_2)), (3, .pointer (some x3_3)), (9, .pointer (some x9_79)), (10, (Value.func (.func fn_result_Table_1) #[] #[.pointer (some x5_14), .pointer (some x9_79)])), (52, (x0 : Sl).v), (53, .int .i64 (x0.len : Int)), (54, .int .i64 s)]) H (hE.cut (.cons rfl (.cons rfl (.cons rfl (.cons rfl (.cons rfl (.cons rfl (.cons rfl Subs.nil)))))))) hR (fun Y self3 hY_93 x54_85 a w hE hR H => ?_)
      replace hE : Env (⟨63, xm_17⟩ : Frm) a [(2, .pointer (some x2_2)), (3, .pointer (some x3_3)), (9, .pointer (some x9_79)), (10, (Value.func (.func fn_result_Table_1) #[] #[.pointer (some x5_14), .pointer (some x9_79)])), (52, (x0 : Sl).v), (53, .int .i64 (x0.len : Int)), (54, .int .i64 x54_85)] := hE
      replace H : (result_Table_l3 xm_17 x2_2 x3_3 x9_79 (Value.func (.func fn_result_Table_1) #[] #[.pointer (some x5_14), .pointer (some x9_79)]) x0 (x0.len : Int) self3 x54_85).wp w.heap Q := H
      unfold result_Table_l3 at H
      refine w_seq (fun K hK_94 => ?_)
      refine t_region ?_
      refine t_val (v := .bool (decide (x54_85 < (x0.len : Int)))) rfl rfl hE rfl (r_bin hE rfl rfl g_int b_lss) (fun a hE => ?_)
      refine t_nil ?_
      refine hK_94 _ _ ?_
      refine w_seq (fun K hK_95 => ?_)
      refine w_cond (decide (x54_85 < (x0.len : Int))) hE rfl (fun hb => ?_) (fun hb => ?_)
      · replace H := M.ite_t hb H
        refine w_skip ?_
        refine hK_95 _ _ ?_
        refine w_seq (fun K hK_96 => ?_)
        refine w_block ?_
        refine w_seq (fun K hK_97 => ?_)
        refine t_region ?_
        obtain ⟨x56_98, qx56_98, H⟩ := H
        refine t_val (v := .pointer (some x56_98)) rfl rfl hE rfl (r_indexAddrL hE rfl rfl un22 sz42 qx56_98) (fun a hE => ?_)
        obtain ⟨x57_99, qx57_99, H⟩ := H
        refine t_val (v := .agg x57_99) rfl rfl hE rfl (r_loadG hE rfl ag42 qx57_99) (fun a hE => ?_)
        obtain ⟨x12_100, qx12_100, H⟩ := H
        refine t_valh (v := .pointer (some x12_100)) rfl rfl hE rfl hR (r_alloc zr42 qx12_100) (fun a w hE hR hh => ?_)
        replace H := M.at hh H; clear hh
        obtain ⟨qz, H⟩ := H
        obtain ⟨u_101, qu_101, H⟩ := H
        refine t_sth rfl rfl hE hR (r_storeG hE rfl rfl sz42 qz qu_101) (fun a w hE hR hh => ?_)
        replace H := M.at hh H; clear hh
        refine t_nil ?_
        refine hK_97 _ _ ?_
        refine t_region ?_
        refine t_val (v := (Value.func (.func fn_result_Table_1) #[] #[.pointer (some x5_14), .pointer (some x9_79)])) rfl rfl hE rfl (r_move hE rfl) (fun a hE => ?_)
        refine t_val (v := (Value.func (.func fn_result_Table_2) #[] #[.pointer (some x12_100)])) rfl rfl hE rfl (r_makeFunc hE rfl) (fun a hE => ?_)
        refine t_callV hE hR rfl rfl (M.unbind H) (fun x60_102 a w ea hR H => ?_)
        have hE := Env.put_some hE rfl ea; clear ea
        refine t_nil ?_
        refine hK_96 _ _ ?_
        refine t_region ?_
        refine t_val (v := .int .i64 (IntKind.wrap .i64 (x54_85 + 1))) rfl rfl hE rfl (r_bin hE rfl rfl g_int b_add) (fun a hE => ?_)
        refine t_val (v := .int .i64 (IntKind.wrap .i64 (x54_85 + 1))) rfl rfl hE rfl (r_move hE rfl) (fun a hE => ?_)
        refine t_nil ?_
        exact hY_93 (IntKind.wrap .i64 (x54_85 + 1)) _ _ (hE.cut (.cons rfl (.cons rfl (.cons rfl (.cons rfl (.cons rfl (.cons rfl (.cons rfl Subs.nil)))))))) hR H
      · replace H := M.ite_f hb H
        refine w_exit ?_
        refine Xu.same ?_
        refine hK_83 _ _ ?_
        refine w_seq (fun K hK_103 => ?_)
        refine t_region ?_
        refine t_call hE hR cl_strings_Builder_String rfl (S_strings_Builder_String (some x9_79)) (M.unbind H) (fun x62_104 a w ea hR H => ?_)
        have hE := Env.put_some hE rfl ea; clear ea
        obtain ⟨u_105, qu_105, H⟩ := H
        refine t_sth rfl rfl hE hR (r_store hE rfl rfl sz9 qu_105) (fun a w hE hR hh => ?_)
        replace H := M.at hh H; clear hh
        obtain ⟨u_106, qu_106, H⟩ := H
        refine t_sth rfl rfl hE hR (r_store hE rfl rfl sz24 qu_106) (fun a w hE hR hh => ?_)
        replace H := M.at hh H; clear hh
        refine t_nil ?_
        refine hK_103 _ _ ?_
        refine w_ret ?_
        refine hret _ _ _ _ _ hE hR (M.unbind H) (fun w hR H => ?_)
        obtain ⟨r2_107, qr2_107, H⟩ := H
        obtain ⟨r3_108, qr3_108, H⟩ := H
        exact ⟨(r2_107, r3_108), _, res_run hE rfl (RV.cell rfl sc9 qr2_107 (RV.cell rfl sc24 qr3_108 RV.nil)), rfl, H⟩

end Gx
namespace Gx
open Go
set_option linter.unusedVariables false
set_option maxRecDepth 100000
/-- ramble/rambleref02.num -/
def rambleref02_num (x0 : Int) (x1 : Int) : M (Int) := do
  M.ite (decide (x0 < x1)) (do
    M.pure (-1)
    ) (do
    M.ite (decide (x0 > x1)) (do
      M.pure 1
      ) (do
      M.pure 0
      )
    )
theorem S_rambleref02_num (x0 : Int) (x1 : Int) : Sound Go.Proofs.Tryd.prog 72 #[.int .i64 x0, .int .i64 x1] (fun (r : Int) => .int .i64 r) (rambleref02_num x0 x1) := by
  refine sound_of [(0, .int .i64 x0), (1, .int .i64 x1)] Go.Proofs.Tryd.func72 rfl rfl (Nat.le_of_ble_eq_true rfl) (args_of ⟨rfl, rfl, trivial⟩) (fun w0 w Q R a hret hE hR H => ?_)
  unfold rambleref02_num at H
  refine w_seq (fun K hK_1 => ?_)
  refine t_region ?_
  refine t_val (v := .int .i64 0) rfl rfl hE rfl (r_assign hE rfl) (fun a hE => ?_)
  refine t_nil ?_
  refine hK_1 _ _ ?_
  refine w_seq (fun K hK_2 => ?_)
  refine w_seq (fun K hK_3 => ?_)
  refine t_region ?_
  refine t_val (v := .int .i64 x0) rfl rfl hE rfl (r_move hE rfl) (fun a hE => ?_)
  refine t_val (v := .int .i64 x1) rfl rfl hE rfl (r_move hE rfl) (fun a hE => ?_)
  refine t_val (v := .bool (decide (x0 < x1))) rfl rfl hE rfl (r_bin hE rfl rfl g_int b_lss) (fun a hE => ?_)
  refine t_nil ?_
  refine hK_3 _ _ ?_
  refine w_cond (decide (x0 < x1)) hE rfl (fun hb => ?_) (fun hb => ?_)
  · replace H := M.ite_t hb H
    refine w_seq (fun K hK_4 => ?_)
    refine t_region ?_
    refine t_val (v := .int .i64 (-1)) rfl rfl hE rfl (r_assign hE rfl) (fun a hE => ?_)
    refine t_nil ?_
    refine hK_4 _ _ ?_
    refine w_ret ?_
    exact hret _ _ _ (-1) _ hE hR (res_run hE rfl (RV.tmp rfl RV.nil)) rfl H
  · replace H := M.ite_f hb H
    refine w_skip ?_
    refine hK_2 _ _ ?_
    refine w_seq (fun K hK_5 => ?_)
    refine w_seq (fun K hK_6 => ?_)
    refine t_region ?_
    refine t_val (v := .int .i64 x0) rfl rfl hE rfl (r_move hE rfl) (fun a hE => ?_)
    refine t_val (v := .int .i64 x1) rfl rfl hE rfl (r_move hE rfl) (fun a hE => ?_)
    refine t_val (v := .bool (decide (x0 > x1))) rfl rfl hE rfl (r_bin hE rfl rfl g_int b_gtr) (fun a hE => ?_)
    refine t_nil ?_
    refine hK_6 _ _ ?_
    refine w_cond (decide (x0 > x1)) hE rfl (fun hb => ?_) (fun hb => ?_)
    · replace H := M.ite_t hb H
      refine w_seq (fun K hK_7 => ?_)
      refine t_region ?_
      refine t_val (v := .int .i64 1) rfl rfl hE rfl (r_assign hE rfl) (fun a hE => ?_)
      refine t_nil ?_
      refine hK_7 _ _ ?_
      refine w_ret ?_
      exact hret _ _ _ 1 _ hE hR (res_run hE rfl (RV.tmp rfl RV.nil)) rfl H
    · replace H := M.ite_f hb H
      refine w_skip ?_
      refine hK_5 _ _ ?_
      refine w_seq (fun K hK_8 => ?_)
      refine t_region ?_
      refine t_val (v := .int .i64 0) rfl rfl hE rfl (r_assign hE rfl) (fun a hE => ?_)
      refine t_nil ?_
      refine hK_8 _ _ ?_
      refine w_ret ?_
      exact hret _ _ _ 0 _ hE hR (res_run hE rfl (RV.tmp rfl RV.nil)) rfl H

/-- ramble/rambleref02.text -/
theorem tb73_4 : tabAt Go.Proofs.Tryd.f73 4 [[], [], [0, 1], [], [], [3, 4], [2, 5]] [[], [], [0, 1], [], [], [3, 4], [2, 5]] [[], [], [0, 1], [], [], [3, 4], [0, 1, 2, 3, 4, 5]] = true := by kernel_rfl
theorem tb73_5 : tabAt Go.Proofs.Tryd.f73 5 [[], [], [0, 1], [2], [], [], [4, 5], [6], [3, 7], [8, 8, 0, 1, 2, 3, 4, 5, 6, 7, 8]] [[], [], [0, 1], [2], [], [], [4, 5], [6], [3, 7], [8]] [[], [], [0, 1], [0, 1, 2], [], [], [4, 5], [4, 5, 6], [0, 1, 2, 3, 4, 5, 6, 7], [0, 1, 2, 3, 4, 5, 6, 7, 8]] = true := by kernel_rfl
def rambleref02_text_l1 (c0_5 : ByteArray) (c1_6 : ByteArray) (self1 : (Int) → M (Int)) : (Int) → M (Int) := fun s => match s with
  | x5_4 => do
    let x15_10 ← M.ite (decide (x5_4 < (c0_5.size : Int))) (do
      M.pure (decide (x5_4 < (c1_6.size : Int)))
      ) (do
      M.pure false
      )
    M.ite x15_10 (do
      let x20_13 ← ixS c0_5 x5_4
      let x23_14 ← ixS c1_6 x5_4
      M.ite (x20_13 != x23_14) (do
        let x27_16 ← ixS c0_5 x5_4
        let x31_17 ← ixS c1_6 x5_4
        let x33_18 ← rambleref02_num (IntKind.wrap .i64 x27_16) (IntKind.wrap .i64 x31_17)
        M.pure x33_18
        ) (do
        self1 (IntKind.wrap .i64 (x5_4 + 1))
        )
      ) (do
      let x38_20 ← rambleref02_num (c0_5.size : Int) (c1_6.size : Int)
      M.pure x38_20
      )
def rambleref02_text (x0 : ByteArray) (x1 : ByteArray) : M (Int) := do
  M.loop (rambleref02_text_l1 x0 x1) 0
theorem S_rambleref02_text (x0 : ByteArray) (x1 : ByteArray) : Sound Go.Proofs.Tryd.prog 73 #[.string x0, .string x1] (fun (r : Int) => .int .i64 r) (rambleref02_text x0 x1) := by
  refine sound_of [(0, .string x0), (1, .string x1)] Go.Proofs.Tryd.func73 rfl rfl (Nat.le_of_ble_eq_true rfl) (args_of ⟨rfl, rfl, trivial⟩) (fun w0 w Q R a hret hE hR H => ?_)
  unfold rambleref02_text at H
  refine w_seq (fun K hK_1 => ?_)
  refine t_region ?_
  refine t_val (v := .int .i64 0) rfl rfl hE rfl (r_assign hE rfl) (fun a hE => ?_)
  refine t_nil ?_
  refine hK_1 _ _ ?_
  refine w_seq (fun K hK_2 => ?_)
  refine w_seq (fun K hK_3 => ?_)
  refine t_region ?_
  refine t_val (v := .int .i64 0) rfl rfl hE rfl (r_assign hE rfl) (fun a hE => ?_)
  refine t_nil ?_
  refine hK_3 _ _ ?_
  refine w_block ?_
  refine l_loop (fun (s : Int) => (⟨39, []⟩ : Frm)) (fun (s : Int) => [(0, .string x0), (1, .string x1), (5, .int .i64 s)]) H (hE.cut (.cons rfl (.cons rfl (.cons rfl Subs.nil)))) hR (fun Y self1 hY_7 x5_4 a w hE hR H => ?_)
  replace hE : Env (⟨39, []⟩ : Frm) a [(0, .string x0), (1, .string x1), (5, .int .i64 x5_4)] := hE
  replace H : (rambleref02_text_l1 x0 x1 self1 x5_4).wp w.heap Q := H
  unfold rambleref02_text_l1 at H
  refine w_seq (fun K hK_8 => ?_)
  refine w_seq (fun K hK_9 => ?_)
  refine t_region ?_
  refine t_val (v := .int .i64 x5_4) rfl rfl hE rfl (r_move hE rfl) (fun a hE => ?_)
  refine t_val (v := .string x0) rfl rfl hE rfl (r_move hE rfl) (fun a hE => ?_)
  refine t_val (v := .int .i64 (x0.size : Int)) rfl rfl hE rfl (r_lenS hE rfl un9) (fun a hE => ?_)
  refine t_val (v := .bool (decide (x5_4 < (x0.size : Int)))) rfl rfl hE rfl (r_bin hE rfl rfl g_int b_lss) (fun a hE => ?_)
  refine t_val (v := .bool (decide (x5_4 < (x0.size : Int)))) rfl rfl hE rfl (r_move hE rfl) (fun a hE => ?_)
  refine t_grp (n := (⟨39, []⟩ : Frm)) (w0 := w0) 5 (fun x15_10 : Bool => [(0, .string x0), (1, .string x1), (5, .int .i64 x5_4), (15, .bool x15_10)]) (M.unbind H) (fun Kr hKr H => ?_) ?_
  · rcases bool_em (decide (x5_4 < (x0.size : Int))) with hb | hb
    · replace H := M.ite_t hb H
      have hE := hE.reb 10 (decide (x5_4 < (x0.size : Int))) true hb rfl
      refine t_on rfl hE rfl rfl rfl ?_
      refine t_val (v := .int .i64 x5_4) rfl rfl hE rfl (r_move hE rfl) (fun a hE => ?_)
      refine t_on rfl hE rfl rfl rfl ?_
      refine t_val (v := .string x1) rfl rfl hE rfl (r_move hE rfl) (fun a hE => ?_)
      refine t_on rfl hE rfl rfl rfl ?_
      refine t_val (v := .int .i64 (x1.size : Int)) rfl rfl hE rfl (r_lenS hE rfl un9) (fun a hE => ?_)
      refine t_on rfl hE rfl rfl rfl ?_
      refine t_val (v := .bool (decide (x5_4 < (x1.size : Int)))) rfl rfl hE rfl (r_bin hE rfl rfl g_int b_lss) (fun a hE => ?_)
      refine t_val rfl rfl hE rfl (r_pick_t hE rfl rfl) (fun a hE => ?_)
      refine t_nil ?_
      exact hKr _ _ _ (hE.cut (.cons rfl (.cons rfl (.cons rfl (.cons rfl Subs.nil))))) hR H
    · replace H := M.ite_f hb H
      have hE := hE.reb 10 (decide (x5_4 < (x0.size : Int))) false hb rfl
      refine t_off rfl hE rfl rfl rfl (fun a ea => ?_)
      have hE := Env.put_some hE rfl ea; clear ea
      refine t_off rfl hE rfl rfl rfl (fun a ea => ?_)
      have hE := Env.put_some hE rfl ea; clear ea
      refine t_off rfl hE rfl rfl rfl (fun a ea => ?_)
      have hE := Env.put_some hE rfl ea; clear ea
      refine t_off rfl hE rfl rfl rfl (fun a ea => ?_)
      have hE := Env.put_some hE rfl ea; clear ea
      refine t_val rfl rfl hE rfl (r_pick_f hE rfl rfl) (fun a hE => ?_)
      refine t_nil ?_
      exact hKr _ _ _ (hE.cut (.cons rfl (.cons rfl (.cons rfl (.cons rfl Subs.nil))))) hR H
  · intro x15_10 a w hE hR H
    refine t_nil ?_
    refine hK_9 _ _ ?_
    refine w_cond x15_10 hE rfl (fun hb => ?_) (fun hb => ?_)
    · replace H := M.ite_t hb H
      refine w_skip ?_
      refine hK_8 _ _ ?_
      refine w_seq (fun K hK_11 => ?_)
      refine w_block ?_
      refine w_seq (fun K hK_12 => ?_)
      obtain ⟨x20_13, qx20_13, H⟩ := H
      obtain ⟨x23_14, qx23_14, H⟩ := H
      have hT := tab_of tb73_4 rfl rfl
      refine d_start (fun w : World => (fun h : Heap => True) w.heap) [0, 1, 2, 3, 4, 5, 6] #[false, false, false, false, false, false, false] mo hR rfl rfl (fun w' e => by rw [e]; exact trivial) (fun w hh hR hs => ?_)
      replace H := M.at hh H; clear hh
      refine d_pureg (i := 0) (v := .string x0) #[true, false, false, false, false, false, false] rfl rfl hT (by kernel_rfl) hE rfl (wanted_none rfl) (fun w => r_move hE rfl) (fun a hE => ?_)
      refine d_pureg (i := 1) (v := .int .i64 x5_4) #[true, true, false, false, false, false, false] rfl rfl hT (by kernel_rfl) hE rfl (wanted_none rfl) (fun w => r_move hE rfl) (fun a hE => ?_)
      refine d_pureg (i := 2) (v := .int .u8 x20_13) #[true, true, true, false, false, false, false] rfl rfl hT (by kernel_rfl) hE rfl (wanted_none rfl) (fun w => r_indexS hE rfl rfl un9 qx20_13) (fun a hE => ?_)
      refine d_pureg (i := 3) (v := .string x1) #[true, true, true, true, false, false, false] rfl rfl hT (by kernel_rfl) hE rfl (wanted_none rfl) (fun w => r_move hE rfl) (fun a hE => ?_)
      refine d_pureg (i := 4) (v := .int .i64 x5_4) #[true, true, true, true, true, false, false] rfl rfl hT (by kernel_rfl) hE rfl (wanted_none rfl) (fun w => r_move hE rfl) (fun a hE => ?_)
      refine d_pureg (i := 5) (v := .int .u8 x23_14) #[true, true, true, true, true, true, false] rfl rfl hT (by kernel_rfl) hE rfl (wanted_none rfl) (fun w => r_indexS hE rfl rfl un9 qx23_14) (fun a hE => ?_)
      refine d_pureg (i := 6) (v := .bool (x20_13 != x23_14)) #[true, true, true, true, true, true, true] rfl rfl hT (by kernel_rfl) hE rfl (wanted_none rfl) (fun w => r_bin hE rfl rfl g_int b_neq) (fun a hE => ?_)
      refine d_done hT (by kernel_rfl) ?_
      refine hK_12 _ _ ?_
      refine w_cond (x20_13 != x23_14) hE rfl (fun hb => ?_) (fun hb => ?_)
      · replace H := M.ite_t hb H
        refine w_seq (fun K hK_15 => ?_)
        obtain ⟨x27_16, qx27_16, H⟩ := H
        obtain ⟨x31_17, qx31_17, H⟩ := H
        have hT := tab_of tb73_5 rfl rfl
        refine d_start (fun w : World => (fun h : Heap => True) w.heap) [0, 1, 2, 3, 4, 5, 6, 7, 8, 9] #[false, false, false, false, false, false, false, false, false, false] mo hR rfl rfl (fun w' e => by rw [e]; exact trivial) (fun w hh hR hs => ?_)
        replace H := M.at hh H; clear hh
        refine d_pureg (i := 0) (v := .string x0) #[true, false, false, false, false, false, false, false, false, false] rfl rfl hT (by kernel_rfl) hE rfl (wanted_none rfl) (fun w => r_move hE rfl) (fun a hE => ?_)
        refine d_pureg (i := 1) (v := .int .i64 x5_4) #[true, true, false, false, false, false, false, false, false, false] rfl rfl hT (by kernel_rfl) hE rfl (wanted_none rfl) (fun w => r_move hE rfl) (fun a hE => ?_)
        refine d_pureg (i := 2) (v := .int .u8 x27_16) #[true, true, true, false, false, false, false, false, false, false] rfl rfl hT (by kernel_rfl) hE rfl (wanted_none rfl) (fun w => r_indexS hE rfl rfl un9 qx27_16) (fun a hE => ?_)
        refine d_pureg (i := 3) (v := .int .i64 (IntKind.wrap .i64 x27_16)) #[true, true, true, true, false, false, false, false, false, false] rfl rfl hT (by kernel_rfl) hE rfl (wanted_none rfl) (fun w => r_convI hE rfl un5 un2) (fun a hE => ?_)
        refine d_pureg (i := 4) (v := .string x1) #[true, true, true, true, true, false, false, false, false, false] rfl rfl hT (by kernel_rfl) hE rfl (wanted_none rfl) (fun w => r_move hE rfl) (fun a hE => ?_)
        refine d_pureg (i := 5) (v := .int .i64 x5_4) #[true, true, true, true, true, true, false, false, false, false] rfl rfl hT (by kernel_rfl) hE rfl (wanted_none rfl) (fun w => r_move hE rfl) (fun a hE => ?_)
        refine d_pureg (i := 6) (v := .int .u8 x31_17) #[true, true, true, true, true, true, true, false, false, false] rfl rfl hT (by kernel_rfl) hE rfl (wanted_none rfl) (fun w => r_indexS hE rfl rfl un9 qx31_17) (fun a hE => ?_)
        refine d_pureg (i := 7) (v := .int .i64 (IntKind.wrap .i64 x31_17)) #[true, true, true, true, true, true, true, true, false, false] rfl rfl hT (by kernel_rfl) hE rfl (wanted_none rfl) (fun w => r_convI hE rfl un5 un2) (fun a hE => ?_)
        refine d_calll (i := 8) #[true, true, true, true, true, true, true, true, true, false] rfl rfl rfl hT (by kernel_rfl) rfl hE hR (wanted_none rfl) cl_rambleref02_num rfl (S_rambleref02_num (IntKind.wrap .i64 x27_16) (IntKind.wrap .i64 x31_17)) (M.unbind H) (fun x33_18 a w ea hR H => ?_)
        have hE := Env.put_some hE rfl ea; clear ea
        refine d_pureg (i := 9) (v := .int .i64 x33_18) #[true, true, true, true, true, true, true, true, true, true] rfl rfl hT (by kernel_rfl) hE rfl (wanted_none rfl) (fun w => r_assign hE rfl) (fun a hE => ?_)
        refine d_done hT (by kernel_rfl) ?_
        refine hK_15 _ _ ?_
        refine w_ret ?_
        exact hret _ _ _ x33_18 _ hE hR (res_run hE rfl (RV.tmp rfl RV.nil)) rfl H
      · replace H := M.ite_f hb H
        refine w_skip ?_
        refine hK_11 _ _ ?_
        refine t_region ?_
        refine t_val (v := .int .i64 x5_4) rfl rfl hE rfl (r_move hE rfl) (fun a hE => ?_)
        refine t_val (v := .int .i64 (IntKind.wrap .i64 (x5_4 + 1))) rfl rfl hE rfl (r_bin hE rfl rfl g_int b_add) (fun a hE => ?_)
        refine t_val (v := .int .i64 (IntKind.wrap .i64 (x5_4 + 1))) rfl rfl hE rfl (r_assign hE rfl) (fun a hE => ?_)
        refine t_nil ?_
        exact hY_7 (IntKind.wrap .i64 (x5_4 + 1)) _ _ (hE.cut (.cons rfl (.cons rfl (.cons rfl Subs.nil)))) hR H
    · replace H := M.ite_f hb H
      refine w_exit ?_
      refine Xu.same ?_
      refine hK_2 _ _ ?_
      refine w_seq (fun K hK_19 => ?_)
      refine t_region ?_
      refine t_val (v := .string x0) rfl rfl hE rfl (r_move hE rfl) (fun a hE => ?_)
      refine t_val (v := .int .i64 (x0.size : Int)) rfl rfl hE rfl (r_lenS hE rfl un9) (fun a hE => ?_)
      refine t_val (v := .string x1) rfl rfl hE rfl (r_move hE rfl) (fun a hE => ?_)
      refine t_val (v := .int .i64 (x1.size : Int)) rfl rfl hE rfl (r_lenS hE rfl un9) (fun a hE => ?_)
      refine t_call hE hR cl_rambleref02_num rfl (S_rambleref02_num (x0.size : Int) (x1.size : Int)) (M.unbind H) (fun x38_20 a w ea hR H => ?_)
      have hE := Env.put_some hE rfl ea; clear ea
      refine t_val (v := .int .i64 x38_20) rfl rfl hE rfl (r_assign hE rfl) (fun a hE => ?_)
      refine t_nil ?_
      refine hK_19 _ _ ?_
      refine w_ret ?_
      exact hret _ _ _ x38_20 _ hE hR (res_run hE rfl (RV.tmp rfl RV.nil)) rfl H

/-- ramble/rambleref02.Compare -/
theorem tb48_13 : tabAt Go.Proofs.Tryd.f48 13 [[], [0], [], [1, 2], [3], [], [5], [], [6, 7], [8], [4, 9], [10, 10, 0, 1, 2, 3, 4, 5, 6, 7, 8, 9, 10]] [[], [0], [], [1, 2], [3], [], [5], [], [6, 7], [8], [4, 9], [10]] [[], [0], [], [0, 1, 2], [0, 1, 2, 3], [], [5], [], [5, 6, 7], [5, 6, 7, 8], [0, 1, 2, 3, 4, 5, 6, 7, 8, 9], [0, 1, 2, 3, 4, 5, 6, 7, 8, 9, 10]] = true := by kernel_rfl
def rambleref02_Compare_l1 (c2_28 : Addr) (c3_29 : Addr) (self1 : (Int) → M (Int)) : (Int) → M (Int) := fun s => match s with
  | x8_27 => do
    let x36_33 ← ldL ((c2_28).add 3)
    let x45_34 ← M.ite (decide (x8_27 < (x36_33.len : Int))) (do
      let x42_35 ← ldL ((c3_29).add 3)
      M.pure (decide (x8_27 < (x42_35.len : Int)))
      ) (do
      M.pure false
      )
    M.ite x45_34 (do
      let x49_38 ← ldL ((c2_28).add 3)
      let x51_39 ← ixL x49_38 x8_27 4
      let x52_40 ← ldG 4 x51_39
      let x54_41 ← ldL ((c3_29).add 3)
      let x56_42 ← ixL x54_41 x8_27 4
      let x57_43 ← ldG 4 x56_42
      let x58_44 ← callF Go.Proofs.Tryd.prog fn_rambleref02_Compare #[.agg x52_40, .agg x57_43] (fun r : Int => .int .i64 r)
      M.ite (x58_44 != 0) (do
        M.pure x58_44
        ) (do
        self1 (IntKind.wrap .i64 (x8_27 + 1))
        )
      ) (do
      let x63_48 ← ldL ((c2_28).add 3)
      let x66_49 ← ldL ((c3_29).add 3)
      let x68_50 ← rambleref02_num (x63_48.len : Int) (x66_49.len : Int)
      M.pure x68_50
      )
def rambleref02_Compare (x0 : Array Value) (x1 : Array Value) : M (Int) := do
  let x2_2 ← mkB ty_api_Value x0
  let x3_3 ← mkB ty_api_Value x1
  let x11_6 ← ldI .i64 ((x2_2).add 0)
  let x13_7 ← ldI .i64 ((x3_3).add 0)
  let x14_8 ← rambleref02_num x11_6 x13_7
  M.ite (x14_8 != 0) (do
    M.pure x14_8
    ) (do
    let x19_13 ← ldI .i64 ((x2_2).add 1)
    let x21_14 ← ldI .i64 ((x3_3).add 1)
    let x22_15 ← rambleref02_num x19_13 x21_14
    M.ite (x22_15 != 0) (do
      M.pure x22_15
      ) (do
      let x27_20 ← ldS ((x2_2).add 2)
      let x29_21 ← ldS ((x3_3).add 2)
      let x30_22 ← rambleref02_text x27_20 x29_21
      M.ite (x30_22 != 0) (do
        M.pure x30_22
        ) (do
        M.loop (rambleref02_Compare_l1 x2_2 x3_3) 0
        )
      )
    )
theorem S_rambleref02_Compare (x0 : Array Value) (x1 : Array Value) : Sound Go.Proofs.Tryd.prog 48 #[.agg x0, .agg x1] (fun (r : Int) => .int .i64 r) (rambleref02_Compare x0 x1) := by
  refine sound_of [(0, .agg x0), (1, .agg x1)] Go.Proofs.Tryd.func48 rfl rfl (Nat.le_of_ble_eq_true rfl) (args_of ⟨rfl, rfl, trivial⟩) (fun w0 w Q R a hret hE hR H => ?_)
  unfold rambleref02_Compare at H
  refine w_seq (fun K hK_1 => ?_)
  refine t_region ?_
  obtain ⟨x2_2, qx2_2, H⟩ := H
  refine t_valh (v := .pointer (some x2_2)) rfl rfl hE rfl hR (r_box hE rfl qx2_2) (fun a w hE hR hh => ?_)
  replace H := M.at hh H; clear hh
  obtain ⟨x3_3, qx3_3, H⟩ := H
  refine t_valh (v := .pointer (some x3_3)) rfl rfl hE rfl hR (r_box hE rfl qx3_3) (fun a w hE hR hh => ?_)
  replace H := M.at hh H; clear hh
  refine t_val (v := .int .i64 0) rfl rfl hE rfl (r_assign hE rfl) (fun a hE => ?_)
  refine t_nil ?_
  refine hK_1 _ _ ?_
  refine w_seq (fun K hK_4 => ?_)
  refine w_seq (fun K hK_5 => ?_)
  refine t_region ?_
  refine t_val (v := .pointer (some ((x2_2).add 0))) rfl rfl hE rfl (r_fieldAddr hE rfl fd42_0) (fun a hE => ?_)
  obtain ⟨x11_6, qx11_6, H⟩ := H
  refine t_val (v := .int .i64 x11_6) rfl rfl hE rfl (r_load hE rfl sc3 qx11_6) (fun a hE => ?_)
  refine t_val (v := .pointer (some ((x3_3).add 0))) rfl rfl hE rfl (r_fieldAddr hE rfl fd42_0) (fun a hE => ?_)
  obtain ⟨x13_7, qx13_7, H⟩ := H
  refine t_val (v := .int .i64 x13_7) rfl rfl hE rfl (r_load hE rfl sc3 qx13_7) (fun a hE => ?_)
  refine t_call hE hR cl_rambleref02_num rfl (S_rambleref02_num x11_6 x13_7) (M.unbind H) (fun x14_8 a w ea hR H => ?_)
  have hE := Env.put_some hE rfl ea; clear ea
  refine t_val (v := .int .i64 x14_8) rfl rfl hE rfl (r_assign hE rfl) (fun a hE => ?_)
  refine t_nil ?_
  refine hK_5 _ _ ?_
  refine w_seq (fun K hK_9 => ?_)
  refine t_region ?_
  refine t_val (v := .int .i64 x14_8) rfl rfl hE rfl (r_move hE rfl) (fun a hE => ?_)
  refine t_val (v := .bool (x14_8 != 0)) rfl rfl hE rfl (r_bin hE rfl rfl g_int b_neq) (fun a hE => ?_)
  refine t_nil ?_
  refine hK_9 _ _ ?_
  refine w_cond (x14_8 != 0) hE rfl (fun hb => ?_) (fun hb => ?_)
  · replace H := M.ite_t hb H
    refine w_seq (fun K hK_10 => ?_)
    refine t_region ?_
    refine t_val (v := .int .i64 x14_8) rfl rfl hE rfl (r_move hE rfl) (fun a hE => ?_)
    refine t_val (v := .int .i64 x14_8) rfl rfl hE rfl (r_assign hE rfl) (fun a hE => ?_)
    refine t_nil ?_
    refine hK_10 _ _ ?_
    refine w_ret ?_
    exact hret _ _ _ x14_8 _ hE hR (res_run hE rfl (RV.tmp rfl RV.nil)) rfl H
  · replace H := M.ite_f hb H
    refine w_skip ?_
    refine hK_4 _ _ ?_
    refine w_seq (fun K hK_11 => ?_)
    refine w_seq (fun K hK_12 => ?_)
    refine t_region ?_
    refine t_val (v := .pointer (some ((x2_2).add 1))) rfl rfl hE rfl (r_fieldAddr hE rfl fd42_1) (fun a hE => ?_)
    obtain ⟨x19_13, qx19_13, H⟩ := H
    refine t_val (v := .int .i64 x19_13) rfl rfl hE rfl (r_load hE rfl sc2 qx19_13) (fun a hE => ?_)
    refine t_val (v := .pointer (some ((x3_3).add 1))) rfl rfl hE rfl (r_fieldAddr hE rfl fd42_1) (fun a hE => ?_)
    obtain ⟨x21_14, qx21_14, H⟩ := H
    refine t_val (v := .int .i64 x21_14) rfl rfl hE rfl (r_load hE rfl sc2 qx21_14) (fun a hE => ?_)
    refine t_call hE hR cl_rambleref02_num rfl (S_rambleref02_num x19_13 x21_14) (M.unbind H) (fun x22_15 a w ea hR H => ?_)
    have hE := Env.put_some hE rfl ea; clear ea
    refine t_val (v := .int .i64 x22_15) rfl rfl hE rfl (r_assign hE rfl) (fun a hE => ?_)
    refine t_nil ?_
    refine hK_12 _ _ ?_
    refine w_seq (fun K hK_16 => ?_)
    refine t_region ?_
    refine t_val (v := .int .i64 x22_15) rfl rfl hE rfl (r_move hE rfl) (fun a hE => ?_)
    refine t_val (v := .bool (x22_15 != 0)) rfl rfl hE rfl (r_bin hE rfl rfl g_int b_neq) (fun a hE => ?_)
    refine t_nil ?_
    refine hK_16 _ _ ?_
    refine w_cond (x22_15 != 0) hE rfl (fun hb => ?_) (fun hb => ?_)
    · replace H := M.ite_t hb H
      refine w_seq (fun K hK_17 => ?_)
      refine t_region ?_
      refine t_val (v := .int .i64 x22_15) rfl rfl hE rfl (r_move hE rfl) (fun a hE => ?_)
      refine t_val (v := .int .i64 x22_15) rfl rfl hE rfl (r_assign hE rfl) (fun a hE => ?_)
      refine t_nil ?_
      refine hK_17 _ _ ?_
      refine w_ret ?_
      exact hret _ _ _ x22_15 _ hE hR (res_run hE rfl (RV.tmp rfl RV.nil)) rfl H
    · replace H := M.ite_f hb H
      refine w_skip ?_
      refine hK_11 _ _ ?_
      refine w_seq (fun K hK_18 => ?_)
      refine w_seq (fun K hK_19 => ?_)
      refine t_region ?_
      refine t_val (v := .pointer (some ((x2_2).add 2))) rfl rfl hE rfl (r_fieldAddr hE rfl fd42_2) (fun a hE => ?_)
      obtain ⟨x27_20, qx27_20, H⟩ := H
      refine t_val (v := .string x27_20) rfl rfl hE rfl (r_load hE rfl sc9 qx27_20) (fun a hE => ?_)
      refine t_val (v := .pointer (some ((x3_3).add 2))) rfl rfl hE rfl (r_fieldAddr hE rfl fd42_2) (fun a hE => ?_)
      obtain ⟨x29_21, qx29_21, H⟩ := H
      refine t_val (v := .string x29_21) rfl rfl hE rfl (r_load hE rfl sc9 qx29_21) (fun a hE => ?_)
      refine t_call hE hR cl_rambleref02_text rfl (S_rambleref02_text x27_20 x29_21) (M.unbind H) (fun x30_22 a w ea hR H => ?_)
      have hE := Env.put_some hE rfl ea; clear ea
      refine t_val (v := .int .i64 x30_22) rfl rfl hE rfl (r_assign hE rfl) (fun a hE => ?_)
      refine t_nil ?_
      refine hK_19 _ _ ?_
      refine w_seq (fun K hK_23 => ?_)
      refine t_region ?_
      refine t_val (v := .int .i64 x30_22) rfl rfl hE rfl (r_move hE rfl) (fun a hE => ?_)
      refine t_val (v := .bool (x30_22 != 0)) rfl rfl hE rfl (r_bin hE rfl rfl g_int b_neq) (fun a hE => ?_)
      refine t_nil ?_
      refine hK_23 _ _ ?_
      refine w_cond (x30_22 != 0) hE rfl (fun hb => ?_) (fun hb => ?_)
      · replace H := M.ite_t hb H
        refine w_seq (fun K hK_24 => ?_)
        refine t_region ?_
        refine t_val (v := .int .i64 x30_22) rfl rfl hE rfl (r_move hE rfl) (fun a hE => ?_)
        refine t_val (v := .int .i64 x30_22) rfl rfl hE rfl (r_assign hE rfl) (fun a hE => ?_)
        refine t_nil ?_
        refine hK_24 _ _ ?_
        refine w_ret ?_
        exact hret _ _ _ x30_22 _ hE hR (res_run hE rfl (RV.tmp rfl RV.nil)) rfl H
      · replace H := M.ite_f hb H
        refine w_skip ?_
        refine hK_18 _ _ ?_
        refine w_seq (fun K hK_25 => ?_)
        refine w_seq (fun K hK_26 => ?_)
        refine t_region ?_
        refine t_val (v := .int .i64 0) rfl rfl hE rfl (r_assign hE rfl) (fun a hE => ?_)
        refine t_nil ?_
        refine hK_26 _ _ ?_
        refine w_block ?_
        refine l_loop (fun (s : Int) => (⟨69, []⟩ : Frm)) (fun (s : Int) => [(2, .pointer (some x2_2)), (3, .pointer (some x3_3)), (8, .int .i64 s)]) H (hE.cut (.cons rfl (.cons rfl (.cons rfl Subs.nil)))) hR (fun Y self1 hY_30 x8_27 a w hE hR H => ?_)
        replace hE : Env (⟨69, []⟩ : Frm) a [(2, .pointer (some x2_2)), (3, .pointer (some x3_3)), (8, .int .i64 x8_27)] := hE
        replace H : (rambleref02_Compare_l1 x2_2 x3_3 self1 x8_27).wp w.heap Q := H
        unfold rambleref02_Compare_l1 at H
        refine w_seq (fun K hK_31 => ?_)
        refine w_seq (fun K hK_32 => ?_)
        refine t_region ?_
        refine t_val (v := .int .i64 x8_27) rfl rfl hE rfl (r_move hE rfl) (fun a hE => ?_)
        refine t_val (v := .pointer (some ((x2_2).add 3))) rfl rfl hE rfl (r_fieldAddr hE rfl fd42_3) (fun a hE => ?_)
        obtain ⟨x36_33, qx36_33, H⟩ := H
        refine t_val (v := (x36_33 : Sl).v) rfl rfl hE rfl (r_load hE rfl sc22 qx36_33) (fun a hE => ?_)
        refine t_val (v := .int .i64 (x36_33.len : Int)) rfl rfl hE rfl (r_len hE rfl 42 un22) (fun a hE => ?_)
        refine t_val (v := .bool (decide (x8_27 < (x36_33.len : Int)))) rfl rfl hE rfl (r_bin hE rfl rfl g_int b_lss) (fun a hE => ?_)
        refine t_val (v := .bool (decide (x8_27 < (x36_33.len : Int)))) rfl rfl hE rfl (r_move hE rfl) (fun a hE => ?_)
        refine t_grp (n := (⟨69, []⟩ : Frm)) (w0 := w0) 6 (fun x45_34 : Bool => [(2, .pointer (some x2_2)), (3, .pointer (some x3_3)), (8, .int .i64 x8_27), (45, .bool x45_34)]) (M.unbind H) (fun Kr hKr H => ?_) ?_
        · rcases bool_em (decide (x8_27 < (x36_33.len : Int))) with hb | hb
          · replace H := M.ite_t hb H
            have hE := hE.reb 39 (decide (x8_27 < (x36_33.len : Int))) true hb rfl
            refine t_on rfl hE rfl rfl rfl ?_
            refine t_val (v := .int .i64 x8_27) rfl rfl hE rfl (r_move hE rfl) (fun a hE => ?_)
            refine t_on rfl hE rfl rfl rfl ?_
            refine t_val (v := .pointer (some ((x3_3).add 3))) rfl rfl hE rfl (r_fieldAddr hE rfl fd42_3) (fun a hE => ?_)
            refine t_on rfl hE rfl rfl rfl ?_
            obtain ⟨x42_35, qx42_35, H⟩ := H
            refine t_val (v := (x42_35 : Sl).v) rfl rfl hE rfl (r_load hE rfl sc22 qx42_35) (fun a hE => ?_)
            refine t_on rfl hE rfl rfl rfl ?_
            refine t_val (v := .int .i64 (x42_35.len : Int)) rfl rfl hE rfl (r_len hE rfl 42 un22) (fun a hE => ?_)
            refine t_on rfl hE rfl rfl rfl ?_
            refine t_val (v := .bool (decide (x8_27 < (x42_35.len : Int)))) rfl rfl hE rfl (r_bin hE rfl rfl g_int b_lss) (fun a hE => ?_)
            refine t_val rfl rfl hE rfl (r_pick_t hE rfl rfl) (fun a hE => ?_)
            refine t_nil ?_
            exact hKr _ _ _ (hE.cut (.cons rfl (.cons rfl (.cons rfl (.cons rfl Subs.nil))))) hR H
          · replace H := M.ite_f hb H
            have hE := hE.reb 39 (decide (x8_27 < (x36_33.len : Int))) false hb rfl
            refine t_off rfl hE rfl rfl rfl (fun a ea => ?_)
            have hE := Env.put_some hE rfl ea; clear ea
            refine t_off rfl hE rfl rfl rfl (fun a ea => ?_)
            have hE := Env.put_some hE rfl ea; clear ea
            refine t_off rfl hE rfl rfl rfl (fun a ea => ?_)
            have hE := Env.put_some hE rfl ea; clear ea
            refine t_off rfl hE rfl rfl rfl (fun a ea => ?_)
            have hE := Env.put_some hE rfl ea; clear ea
            refine t_off rfl hE rfl rfl rfl (fun a ea => ?_)
            have hE := Env.put_some hE rfl ea; clear ea
            refine t_val rfl rfl hE rfl (r_pick_f hE rfl rfl) (fun a hE => ?_)
            refine t_nil ?_
            exact hKr _ _ _ (hE.cut (.cons rfl (.cons rfl (.cons rfl (.cons rfl Subs.nil))))) hR H
        · intro x45_34 a w hE hR H
          refine t_nil ?_
          refine hK_32 _ _ ?_
          refine w_cond x45_34 hE rfl (fun hb => ?_) (fun hb => ?_)
          · replace H := M.ite_t hb H
            refine w_skip ?_
            refine hK_31 _ _ ?_
            refine w_seq (fun K hK_36 => ?_)
            refine w_block ?_
            refine w_seq (fun K hK_37 => ?_)
            obtain ⟨x49_38, qx49_38, H⟩ := H
            obtain ⟨x51_39, qx51_39, H⟩ := H
            obtain ⟨x52_40, qx52_40, H⟩ := H
            obtain ⟨x54_41, qx54_41, H⟩ := H
            obtain ⟨x56_42, qx56_42, H⟩ := H
            obtain ⟨x57_43, qx57_43, H⟩ := H
            have hT := tab_of tb48_13 rfl rfl
            refine d_start (fun w : World => (fun h : Heap => (hcell h ((x2_2).add 3) = some ((x49_38 : Sl).v)) ∧ (x52_40.size = 4 ∧ ∀ i, i < 4 → hcell h (Addr.add x51_39 i) = x52_40[i]?) ∧ (hcell h ((x3_3).add 3) = some ((x54_41 : Sl).v)) ∧ (x57_43.size = 4 ∧ ∀ i, i < 4 → hcell h (Addr.add x56_42 i) = x57_43[i]?)) w.heap) [10, 11] #[false, false, false, false, false, false, false, false, false, false, false, false] mo hR rfl rfl (fun w' e => by rw [e]; exact ⟨qx49_38, qx52_40, qx54_41, qx57_43⟩) (fun w hh hR hs => ?_)
            replace H := M.at hh H; clear hh
            refine d_pureg (i := 0) (v := .pointer (some ((x2_2).add 3))) #[true, false, false, false, false, false, false, false, false, false, false, false] rfl rfl hT (by kernel_rfl) hE rfl (wanted_none rfl) (fun w => r_fieldAddr hE rfl fd42_3) (fun a hE => ?_)
            refine d_pureg (i := 2) (v := .int .i64 x8_27) #[true, false, true, false, false, false, false, false, false, false, false, false] rfl rfl hT (by kernel_rfl) hE rfl (wanted_none rfl) (fun w => r_move hE rfl) (fun a hE => ?_)
            refine d_pureg (i := 5) (v := .pointer (some ((x3_3).add 3))) #[true, false, true, false, false, true, false, false, false, false, false, false] rfl rfl hT (by kernel_rfl) hE rfl (wanted_none rfl) (fun w => r_fieldAddr hE rfl fd42_3) (fun a hE => ?_)
            refine d_pureg (i := 7) (v := .int .i64 x8_27) #[true, false, true, false, false, true, false, true, false, false, false, false] rfl rfl hT (by kernel_rfl) hE rfl (wanted_none rfl) (fun w => r_move hE rfl) (fun a hE => ?_)
            refine d_read (i := 1) (v := (x49_38 : Sl).v) #[true, true, true, false, false, true, false, true, false, false, false, false] rfl rfl hT (by kernel_rfl) hE rfl (wanted_none rfl) hs (fun w s => r_load hE rfl sc22 s.1) (fun a hE => ?_)
            refine d_pureg (i := 3) (v := .pointer (some x51_39)) #[true, true, true, true, false, true, false, true, false, false, false, false] rfl rfl hT (by kernel_rfl) hE rfl (wanted_none rfl) (fun w => r_indexAddrL hE rfl rfl un22 sz42 qx51_39) (fun a hE => ?_)
            refine d_read (i := 4) (v := .agg x52_40) #[true, true, true, true, true, true, false, true, false, false, false, false] rfl rfl hT (by kernel_rfl) hE rfl (wanted_none rfl) hs (fun w s => r_loadG hE rfl ag42 s.2.1) (fun a hE => ?_)
            refine d_read (i := 6) (v := (x54_41 : Sl).v) #[true, true, true, true, true, true, true, true, false, false, false, false] rfl rfl hT (by kernel_rfl) hE rfl (wanted_none rfl) hs (fun w s => r_load hE rfl sc22 s.2.2.1) (fun a hE => ?_)
            refine d_pureg (i := 8) (v := .pointer (some x56_42)) #[true, true, true, true, true, true, true, true, true, false, false, false] rfl rfl hT (by kernel_rfl) hE rfl (wanted_none rfl) (fun w => r_indexAddrL hE rfl rfl un22 sz42 qx56_42) (fun a hE => ?_)
            refine d_read (i := 9) (v := .agg x57_43) #[true, true, true, true, true, true, true, true, true, true, false, false] rfl rfl hT (by kernel_rfl) hE rfl (wanted_none rfl) hs (fun w s => r_loadG hE rfl ag42 s.2.2.2) (fun a hE => ?_)
            refine d_calll (i := 10) #[true, true, true, true, true, true, true, true, true, true, true, false] rfl rfl rfl hT (by kernel_rfl) rfl hE hR (wanted_none rfl) cl_rambleref02_Compare rfl (sound_callF) (M.unbind H) (fun x58_44 a w ea hR H => ?_)
            have hE := Env.put_some hE rfl ea; clear ea
            refine d_pureg (i := 11) (v := .int .i64 x58_44) #[true, true, true, true, true, true, true, true, true, true, true, true] rfl rfl hT (by kernel_rfl) hE rfl (wanted_none rfl) (fun w => r_assign hE rfl) (fun a hE => ?_)
            refine d_done hT (by kernel_rfl) ?_
            refine hK_37 _ _ ?_
            refine w_seq (fun K hK_45 => ?_)
            refine t_region ?_
            refine t_val (v := .int .i64 x58_44) rfl rfl hE rfl (r_move hE rfl) (fun a hE => ?_)
            refine t_val (v := .bool (x58_44 != 0)) rfl rfl hE rfl (r_bin hE rfl rfl g_int b_neq) (fun a hE => ?_)
            refine t_nil ?_
            refine hK_45 _ _ ?_
            refine w_cond (x58_44 != 0) hE rfl (fun hb => ?_) (fun hb => ?_)
            · replace H := M.ite_t hb H
              refine w_seq (fun K hK_46 => ?_)
              refine t_region ?_
              refine t_val (v := .int .i64 x58_44) rfl rfl hE rfl (r_move hE rfl) (fun a hE => ?_)
              refine t_val (v := .int .i64 x58_44) rfl rfl hE rfl (r_assign hE rfl) (fun a hE => ?_)
              refine t_nil ?_
              refine hK_46 _ _ ?_
              refine w_ret ?_
              exact hret _ _ _ x58_44 _ hE hR (res_run hE rfl (RV.tmp rfl RV.nil)) rfl H
            · replace H := M.ite_f hb H
              refine w_skip ?_
              refine hK_36 _ _ ?_
              refine t_region ?_
              refine t_val (v := .int .i64 x8_27) rfl rfl hE rfl (r_move hE rfl) (fun a hE => ?_)
              refine t_val (v := .int .i64 (IntKind.wrap .i64 (x8_27 + 1))) rfl rfl hE rfl (r_bin hE rfl rfl g_int b_add) (fun a hE => ?_)
              refine t_val (v := .int .i64 (IntKind.wrap .i64 (x8_27 + 1))) rfl rfl hE rfl (r_assign hE rfl) (fun a hE => ?_)
              refine t_nil ?_
              exact hY_30 (IntKind.wrap .i64 (x8_27 + 1)) _ _ (hE.cut (.cons rfl (.cons rfl (.cons rfl Subs.nil)))) hR H
          · replace H := M.ite_f hb H
            refine w_exit ?_
            refine Xu.same ?_
            refine hK_25 _ _ ?_
            refine w_seq (fun K hK_47 => ?_)
            refine t_region ?_
            refine t_val (v := .pointer (some ((x2_2).add 3))) rfl rfl hE rfl (r_fieldAddr hE rfl fd42_3) (fun a hE => ?_)
            obtain ⟨x63_48, qx63_48, H⟩ := H
            refine t_val (v := (x63_48 : Sl).v) rfl rfl hE rfl (r_load hE rfl sc22 qx63_48) (fun a hE => ?_)
            refine t_val (v := .int .i64 (x63_48.len : Int)) rfl rfl hE rfl (r_len hE rfl 42 un22) (fun a hE => ?_)
            refine t_val (v := .pointer (some ((x3_3).add 3))) rfl rfl hE rfl (r_fieldAddr hE rfl fd42_3) (fun a hE => ?_)
            obtain ⟨x66_49, qx66_49, H⟩ := H
            refine t_val (v := (x66_49 : Sl).v) rfl rfl hE rfl (r_load hE rfl sc22 qx66_49) (fun a hE => ?_)
            refine t_val (v := .int .i64 (x66_49.len : Int)) rfl rfl hE rfl (r_len hE rfl 42 un22) (fun a hE => ?_)
            refine t_call hE hR cl_rambleref02_num rfl (S_rambleref02_num (x63_48.len : Int) (x66_49.len : Int)) (M.unbind H) (fun x68_50 a w ea hR H => ?_)
            have hE := Env.put_some hE rfl ea; clear ea
            refine t_val (v := .int .i64 x68_50) rfl rfl hE rfl (r_assign hE rfl) (fun a hE => ?_)
            refine t_nil ?_
            refine hK_47 _ _ ?_
            refine w_ret ?_
            exact hret _ _ _ x68_50 _ hE hR (res_run hE rfl (RV.tmp rfl RV.nil)) rfl H

/-- ramble/rambleref02.rises -/
theorem tb89_4 : tabAt Go.Proofs.Tryd.f89 4 [[], [], [1], [0, 2], [3], [], [], [5, 6], [7], [4, 8], [9]] [[], [], [1], [0, 2], [3], [], [], [5, 6], [7], [4, 8], [9]] [[], [], [1], [0, 1, 2], [0, 1, 2, 3], [], [], [5, 6], [5, 6, 7], [0, 1, 2, 3, 4, 5, 6, 7, 8], [0, 1, 2, 3, 4, 5, 6, 7, 8, 9]] = true := by kernel_rfl
def rambleref02_rises_l1 (c0_5 : Sl) (self1 : (Int) → M (Bool)) : (Int) → M (Bool) := fun s => match s with
  | x3_4 => do
    M.ite (decide (x3_4 < (c0_5.len : Int))) (do
      let x13_11 ← ixL c0_5 (IntKind.wrap .i64 (x3_4 - 2)) 4
      let x17_12 ← ixL c0_5 x3_4 4
      let x14_13 ← ldG 4 x13_11
      let x18_14 ← ldG 4 x17_12
      let x19_15 ← rambleref02_Compare x14_13 x18_14
      M.ite (decide (x19_15 ≥ 0)) (do
        M.pure false
        ) (do
        self1 (IntKind.wrap .i64 (x3_4 + 2))
        )
      ) (do
      M.pure true
      )
def rambleref02_rises (x0 : Sl) : M (Bool) := do
  M.loop (rambleref02_rises_l1 x0) 2
theorem S_rambleref02_rises (x0 : Sl) : Sound Go.Proofs.Tryd.prog 89 #[(x0 : Sl).v] (fun (r : Bool) => .bool r) (rambleref02_rises x0) := by
  refine sound_of [(0, (x0 : Sl).v)] Go.Proofs.Tryd.func89 rfl rfl (Nat.le_of_ble_eq_true rfl) (args_of ⟨rfl, trivial⟩) (fun w0 w Q R a hret hE hR H => ?_)
  unfold rambleref02_rises at H
  refine w_seq (fun K hK_1 => ?_)
  refine t_region ?_
  refine t_val (v := .bool false) rfl rfl hE rfl (r_assign hE rfl) (fun a hE => ?_)
  refine t_nil ?_
  refine hK_1 _ _ ?_
  refine w_seq (fun K hK_2 => ?_)
  refine w_seq (fun K hK_3 => ?_)
  refine t_region ?_
  refine t_val (v := .int .i64 2) rfl rfl hE rfl (r_assign hE rfl) (fun a hE => ?_)
  refine t_nil ?_
  refine hK_3 _ _ ?_
  refine w_block ?_
  refine l_loop (fun (s : Int) => (⟨21, []⟩ : Frm)) (fun (s : Int) => [(0, (x0 : Sl).v), (3, .int .i64 s)]) H (hE.cut (.cons rfl (.cons rfl Subs.nil))) hR (fun Y self1 hY_6 x3_4 a w hE hR H => ?_)
  replace hE : Env (⟨21, []⟩ : Frm) a [(0, (x0 : Sl).v), (3, .int .i64 x3_4)] := hE
  replace H : (rambleref02_rises_l1 x0 self1 x3_4).wp w.heap Q := H
  unfold rambleref02_rises_l1 at H
  refine w_seq (fun K hK_7 => ?_)
  refine w_seq (fun K hK_8 => ?_)
  refine t_region ?_
  refine t_val (v := .int .i64 x3_4) rfl rfl hE rfl (r_move hE rfl) (fun a hE => ?_)
  refine t_val (v := (x0 : Sl).v) rfl rfl hE rfl (r_move hE rfl) (fun a hE => ?_)
  refine t_val (v := .int .i64 (x0.len : Int)) rfl rfl hE rfl (r_len hE rfl 42 un22) (fun a hE => ?_)
  refine t_val (v := .bool (decide (x3_4 < (x0.len : Int)))) rfl rfl hE rfl (r_bin hE rfl rfl g_int b_lss) (fun a hE => ?_)
  refine t_nil ?_
  refine hK_8 _ _ ?_
  refine w_cond (decide (x3_4 < (x0.len : Int))) hE rfl (fun hb => ?_) (fun hb => ?_)
  · replace H := M.ite_t hb H
    refine w_skip ?_
    refine hK_7 _ _ ?_
    refine w_seq (fun K hK_9 => ?_)
    refine w_block ?_
    refine w_seq (fun K hK_10 => ?_)
    obtain ⟨x13_11, qx13_11, H⟩ := H
    obtain ⟨x17_12, qx17_12, H⟩ := H
    obtain ⟨x14_13, qx14_13, H⟩ := H
    obtain ⟨x18_14, qx18_14, H⟩ := H
    have hT := tab_of tb89_4 rfl rfl
    refine d_start (fun w : World => (fun h : Heap => (x14_13.size = 4 ∧ ∀ i, i < 4 → hcell h (Addr.add x13_11 i) = x14_13[i]?) ∧ (x18_14.size = 4 ∧ ∀ i, i < 4 → hcell h (Addr.add x17_12 i) = x18_14[i]?)) w.heap) [9, 10] #[false, false, false, false, false, false, false, false, false, false, false] mo hR rfl rfl (fun w' e => by rw [e]; exact ⟨qx14_13, qx18_14⟩) (fun w hh hR hs => ?_)
    replace H := M.at hh H; clear hh
    refine d_pureg (i := 0) (v := (x0 : Sl).v) #[true, false, false, false, false, false, false, false, false, false, false] rfl rfl hT (by kernel_rfl) hE rfl (wanted_none rfl) (fun w => r_move hE rfl) (fun a hE => ?_)
    refine d_pureg (i := 1) (v := .int .i64 x3_4) #[true, true, false, false, false, false, false, false, false, false, false] rfl rfl hT (by kernel_rfl) hE rfl (wanted_none rfl) (fun w => r_move hE rfl) (fun a hE => ?_)
    refine d_pureg (i := 2) (v := .int .i64 (IntKind.wrap .i64 (x3_4 - 2))) #[true, true, true, false, false, false, false, false, false, false, false] rfl rfl hT (by kernel_rfl) hE rfl (wanted_none rfl) (fun w => r_bin hE rfl rfl g_int b_sub) (fun a hE => ?_)
    refine d_pureg (i := 3) (v := .pointer (some x13_11)) #[true, true, true, true, false, false, false, false, false, false, false] rfl rfl hT (by kernel_rfl) hE rfl (wanted_none rfl) (fun w => r_indexAddrL hE rfl rfl un22 sz42 qx13_11) (fun a hE => ?_)
    refine d_pureg (i := 5) (v := (x0 : Sl).v) #[true, true, true, true, false, true, false, false, false, false, false] rfl rfl hT (by kernel_rfl) hE rfl (wanted_none rfl) (fun w => r_move hE rfl) (fun a hE => ?_)
    refine d_pureg (i := 6) (v := .int .i64 x3_4) #[true, true, true, true, false, true, true, false, false, false, false] rfl rfl hT (by kernel_rfl) hE rfl (wanted_none rfl) (fun w => r_move hE rfl) (fun a hE => ?_)
    refine d_pureg (i := 7) (v := .pointer (some x17_12)) #[true, true, true, true, false, true, true, true, false, false, false] rfl rfl hT (by kernel_rfl) hE rfl (wanted_none rfl) (fun w => r_indexAddrL hE rfl rfl un22 sz42 qx17_12) (fun a hE => ?_)
    refine d_read (i := 4) (v := .agg x14_13) #[true, true, true, true, true, true, true, true, false, false, false] rfl rfl hT (by kernel_rfl) hE rfl (wanted_none rfl) hs (fun w s => r_loadG hE rfl ag42 s.1) (fun a hE => ?_)
    refine d_read (i := 8) (v := .agg x18_14) #[true, true, true, true, true, true, true, true, true, false, false] rfl rfl hT (by kernel_rfl) hE rfl (wanted_none rfl) hs (fun w s => r_loadG hE rfl ag42 s.2) (fun a hE => ?_)
    refine d_calll (i := 9) #[true, true, true, true, true, true, true, true, true, true, false] rfl rfl rfl hT (by kernel_rfl) rfl hE hR (wanted_none rfl) cl_rambleref02_Compare rfl (S_rambleref02_Compare x14_13 x18_14) (M.unbind H) (fun x19_15 a w ea hR H => ?_)
    have hE := Env.put_some hE rfl ea; clear ea
    refine d_pureg (i := 10) (v := .bool (decide (x19_15 ≥ 0))) #[true, true, true, true, true, true, true, true, true, true, true] rfl rfl hT (by kernel_rfl) hE rfl (wanted_none rfl) (fun w => r_bin hE rfl rfl g_int b_geq) (fun a hE => ?_)
    refine d_done hT (by kernel_rfl) ?_
    refine hK_10 _ _ ?_
    refine w_cond (decide (x19_15 ≥ 0)) hE rfl (fun hb => ?_) (fun hb => ?_)
    · replace H := M.ite_t hb H
      refine w_seq (fun K hK_16 => ?_)
      refine t_region ?_
      refine t_val (v := .bool false) rfl rfl hE rfl (r_assign hE rfl) (fun a hE => ?_)
      refine t_nil ?_
      refine hK_16 _ _ ?_
      refine w_ret ?_
      exact hret _ _ _ false _ hE hR (res_run hE rfl (RV.tmp rfl RV.nil)) rfl H
    · replace H := M.ite_f hb H
      refine w_skip ?_
      refine hK_9 _ _ ?_
      refine t_region ?_
      refine t_val (v := .int .i64 x3_4) rfl rfl hE rfl (r_move hE rfl) (fun a hE => ?_)
      refine t_val (v := .int .i64 (IntKind.wrap .i64 (x3_4 + 2))) rfl rfl hE rfl (r_bin hE rfl rfl g_int b_add) (fun a hE => ?_)
      refine t_val (v := .int .i64 (IntKind.wrap .i64 (x3_4 + 2))) rfl rfl hE rfl (r_assign hE rfl) (fun a hE => ?_)
      refine t_nil ?_
      exact hY_6 (IntKind.wrap .i64 (x3_4 + 2)) _ _ (hE.cut (.cons rfl (.cons rfl Subs.nil))) hR H
  · replace H := M.ite_f hb H
    refine w_exit ?_
    refine Xu.same ?_
    refine hK_2 _ _ ?_
    refine w_seq (fun K hK_17 => ?_)
    refine t_region ?_
    refine t_val (v := .bool true) rfl rfl hE rfl (r_assign hE rfl) (fun a hE => ?_)
    refine t_nil ?_
    refine hK_17 _ _ ?_
    refine w_ret ?_
    exact hret _ _ _ true _ hE hR (res_run hE rfl (RV.tmp rfl RV.nil)) rfl H

end Gx
namespace Gx
open Go
set_option linter.unusedVariables false
set_option maxRecDepth 100000
/-- ramble/rambleref02.may -/
def rambleref02_may_j1 (c1_24 : Int) (c2_25 : Addr) (c8_26 : Int) (x41_23 : Bool) : M (Bool) := do
  M.ite x41_23 (do
    let x45_28 ← ldS ((c2_25).add 2)
    let x52_29 ← M.ite (sEq x45_28 ByteArray.empty) (do
      let x49_30 ← ldL ((c2_25).add 3)
      M.pure ((x49_30.len : Int) == 0)
      ) (do
      M.pure false
      )
    let x57_31 ← M.ite x52_29 (do
      let x55_32 ← ldI .i64 ((c2_25).add 1)
      M.pure (decide (x55_32 ≥ 1))
      ) (do
      M.pure false
      )
    let x62_33 ← M.ite x57_31 (do
      let x60_34 ← ldI .i64 ((c2_25).add 1)
      M.pure (decide (x60_34 ≤ 281474976710656))
      ) (do
      M.pure false
      )
    M.pure x62_33
    ) (do
    M.ite (c8_26 == 2) (do
      let x66_37 ← ldI .i64 ((c2_25).add 1)
      let x73_38 ← M.ite (x66_37 == 0) (do
        let x70_39 ← ldL ((c2_25).add 3)
        M.pure ((x70_39.len : Int) == 0)
        ) (do
        M.pure false
        )
      let x79_40 ← M.ite x73_38 (do
        let x76_41 ← ldS ((c2_25).add 2)
        M.pure (decide ((x76_41.size : Int) ≤ 128))
        ) (do
        M.pure false
        )
      M.pure x79_40
      ) (do
      M.ite (c8_26 == 4) (do
        let x83_44 ← ldI .i64 ((c2_25).add 1)
        let x89_45 ← M.ite (x83_44 == 0) (do
          let x87_46 ← ldS ((c2_25).add 2)
          M.pure (sEq x87_46 ByteArray.empty)
          ) (do
          M.pure false
          )
        let x95_47 ← M.ite x89_45 (do
          let x92_48 ← ldL ((c2_25).add 3)
          M.pure (decide ((x92_48.len : Int) ≤ 256))
          ) (do
          M.pure false
          )
        let x101_49 ← M.ite x95_47 (do
          let x98_50 ← ldL ((c2_25).add 3)
          let x100_51 ← callF Go.Proofs.Tryd.prog fn_rambleref02_all #[(x98_50 : Sl).v, .int .i64 c1_24] (fun r : Bool => .bool r)
          M.pure x100_51
          ) (do
          M.pure false
          )
        M.pure x101_49
        ) (do
        M.ite (c8_26 == 5) (do
          let x105_54 ← ldI .i64 ((c2_25).add 1)
          let x111_55 ← M.ite (x105_54 == 0) (do
            let x109_56 ← ldS ((c2_25).add 2)
            M.pure (sEq x109_56 ByteArray.empty)
            ) (do
            M.pure false
            )
          let x117_57 ← M.ite x111_55 (do
            let x114_58 ← ldL ((c2_25).add 3)
            M.pure (decide ((x114_58.len : Int) ≤ 512))
            ) (do
            M.pure false
            )
          let x124_59 ← M.ite x117_57 (do
            let x120_60 ← ldL ((c2_25).add 3)
            M.pure ((Int.tmod (x120_60.len : Int) 2) == 0)
            ) (do
            M.pure false
            )
          let x130_61 ← M.ite x124_59 (do
            let x127_62 ← ldL ((c2_25).add 3)
            let x129_63 ← callF Go.Proofs.Tryd.prog fn_rambleref02_all #[(x127_62 : Sl).v, .int .i64 c1_24] (fun r : Bool => .bool r)
            M.pure x129_63
            ) (do
            M.pure false
            )
          let x135_64 ← M.ite x130_61 (do
            let x133_65 ← ldL ((c2_25).add 3)
            let x134_66 ← rambleref02_rises x133_65
            M.pure x134_66
            ) (do
            M.pure false
            )
          M.pure x135_64
          ) (do
          M.pure false
          )
        )
      )
    )
def rambleref02_may (x0 : Array Value) (x1 : Int) : M (Bool) := do
  let x2_2 ← mkB ty_api_Value x0
  M.ite (decide (x1 ≥ 8)) (do
    M.pure false
    ) (do
    let x8_8 ← ldI .i64 ((x2_2).add 0)
    M.ite (x8_8 == 1) (do
      let x12_11 ← ldS ((x2_2).add 2)
      let x19_12 ← M.ite (sEq x12_11 ByteArray.empty) (do
        let x16_13 ← ldL ((x2_2).add 3)
        M.pure ((x16_13.len : Int) == 0)
        ) (do
        M.pure false
        )
      M.pure x19_12
      ) (do
      M.ite (x8_8 == 3) (do
        let x23_16 ← ldS ((x2_2).add 2)
        let x30_17 ← M.ite (sEq x23_16 ByteArray.empty) (do
          let x27_18 ← ldL ((x2_2).add 3)
          M.pure ((x27_18.len : Int) == 0)
          ) (do
          M.pure false
          )
        let x40_19 ← M.ite x30_17 (do
          let x33_20 ← ldI .i64 ((x2_2).add 1)
          let x39_21 ← M.ite (x33_20 == 0) (do
            M.pure true
            ) (do
            let x37_22 ← ldI .i64 ((x2_2).add 1)
            M.pure (x37_22 == 1)
            )
          M.pure x39_21
          ) (do
          M.pure false
          )
        M.pure x40_19
        ) (do
        M.ite (x8_8 == 6) (do
          rambleref02_may_j1 x1 x2_2 x8_8 (x8_8 == 6)
          ) (do
          rambleref02_may_j1 x1 x2_2 x8_8 (x8_8 == 7)
          )
        )
      )
    )
theorem S_rambleref02_may (x0 : Array Value) (x1 : Int) : Sound Go.Proofs.Tryd.prog 71 #[.agg x0, .int .i64 x1] (fun (r : Bool) => .bool r) (rambleref02_may x0 x1) := by
  refine sound_of [(0, .agg x0), (1, .int .i64 x1)] Go.Proofs.Tryd.func71 rfl rfl (Nat.le_of_ble_eq_true rfl) (args_of ⟨rfl, rfl, trivial⟩) (fun w0 w Q R a hret hE hR H => ?_)
  unfold rambleref02_may at H
  refine w_seq (fun K hK_1 => ?_)
  refine t_region ?_
  obtain ⟨x2_2, qx2_2, H⟩ := H
  refine t_valh (v := .pointer (some x2_2)) rfl rfl hE rfl hR (r_box hE rfl qx2_2) (fun a w hE hR hh => ?_)
  replace H := M.at hh H; clear hh
  refine t_val (v := .bool false) rfl rfl hE rfl (r_assign hE rfl) (fun a hE => ?_)
  refine t_nil ?_
  refine hK_1 _ _ ?_
  refine w_seq (fun K hK_3 => ?_)
  refine w_seq (fun K hK_4 => ?_)
  refine t_region ?_
  refine t_val (v := .int .i64 x1) rfl rfl hE rfl (r_move hE rfl) (fun a hE => ?_)
  refine t_val (v := .bool (decide (x1 ≥ 8))) rfl rfl hE rfl (r_bin hE rfl rfl g_int b_geq) (fun a hE => ?_)
  refine t_nil ?_
  refine hK_4 _ _ ?_
  refine w_cond (decide (x1 ≥ 8)) hE rfl (fun hb => ?_) (fun hb => ?_)
  · replace H := M.ite_t hb H
    refine w_seq (fun K hK_5 => ?_)
    refine t_region ?_
    refine t_val (v := .bool false) rfl rfl hE rfl (r_assign hE rfl) (fun a hE => ?_)
    refine t_nil ?_
    refine hK_5 _ _ ?_
    refine w_ret ?_
    exact hret _ _ _ false _ hE hR (res_run hE rfl (RV.tmp rfl RV.nil)) rfl H
  · replace H := M.ite_f hb H
    refine w_skip ?_
    refine hK_3 _ _ ?_
    refine w_seq (fun K hK_6 => ?_)
    refine w_seq (fun K hK_7 => ?_)
    refine t_region ?_
    refine t_val (v := .pointer (some ((x2_2).add 0))) rfl rfl hE rfl (r_fieldAddr hE rfl fd42_0) (fun a hE => ?_)
    obtain ⟨x8_8, qx8_8, H⟩ := H
    refine t_val (v := .int .i64 x8_8) rfl rfl hE rfl (r_load hE rfl sc3 qx8_8) (fun a hE => ?_)
    refine t_nil ?_
    refine hK_7 _ _ ?_
    refine w_block ?_
    refine w_seq (fun K hK_9 => ?_)
    refine t_region ?_
    refine t_val (v := .bool (x8_8 == 1)) rfl rfl hE rfl (r_bin hE rfl rfl g_int b_eql) (fun a hE => ?_)
    refine t_val (v := .bool (x8_8 == 1)) rfl rfl hE rfl (r_assign hE rfl) (fun a hE => ?_)
    refine t_nil ?_
    refine hK_9 _ _ ?_
    refine w_cond (x8_8 == 1) hE rfl (fun hb => ?_) (fun hb => ?_)
    · replace H := M.ite_t hb H
      refine w_seq (fun K hK_10 => ?_)
      refine t_region ?_
      refine t_val (v := .pointer (some ((x2_2).add 2))) rfl rfl hE rfl (r_fieldAddr hE rfl fd42_2) (fun a hE => ?_)
      obtain ⟨x12_11, qx12_11, H⟩ := H
      refine t_val (v := .string x12_11) rfl rfl hE rfl (r_load hE rfl sc9 qx12_11) (fun a hE => ?_)
      refine t_val (v := .bool (sEq x12_11 ByteArray.empty)) rfl rfl hE rfl (r_bin hE rfl rfl g_str b_eqlS) (fun a hE => ?_)
      refine t_val (v := .bool (sEq x12_11 ByteArray.empty)) rfl rfl hE rfl (r_move hE rfl) (fun a hE => ?_)
      refine t_grp (n := (⟨136, []⟩ : Frm)) (w0 := w0) 5 (fun x19_12 : Bool => [(4, .bool false), (19, .bool x19_12)]) (M.unbind H) (fun Kr hKr H => ?_) ?_
      · rcases bool_em (sEq x12_11 ByteArray.empty) with hb | hb
        · replace H := M.ite_t hb H
          have hE := hE.reb 14 (sEq x12_11 ByteArray.empty) true hb rfl
          refine t_on rfl hE rfl rfl rfl ?_
          refine t_val (v := .pointer (some ((x2_2).add 3))) rfl rfl hE rfl (r_fieldAddr hE rfl fd42_3) (fun a hE => ?_)
          refine t_on rfl hE rfl rfl rfl ?_
          obtain ⟨x16_13, qx16_13, H⟩ := H
          refine t_val (v := (x16_13 : Sl).v) rfl rfl hE rfl (r_load hE rfl sc22 qx16_13) (fun a hE => ?_)
          refine t_on rfl hE rfl rfl rfl ?_
          refine t_val (v := .int .i64 (x16_13.len : Int)) rfl rfl hE rfl (r_len hE rfl 42 un22) (fun a hE => ?_)
          refine t_on rfl hE rfl rfl rfl ?_
          refine t_val (v := .bool ((x16_13.len : Int) == 0)) rfl rfl hE rfl (r_bin hE rfl rfl g_int b_eql) (fun a hE => ?_)
          refine t_val rfl rfl hE rfl (r_pick_t hE rfl rfl) (fun a hE => ?_)
          refine t_nil ?_
          exact hKr _ _ _ (hE.cut (.cons rfl (.cons rfl Subs.nil))) hR H
        · replace H := M.ite_f hb H
          have hE := hE.reb 14 (sEq x12_11 ByteArray.empty) false hb rfl
          refine t_off rfl hE rfl rfl rfl (fun a ea => ?_)
          have hE := Env.put_some hE rfl ea; clear ea
          refine t_off rfl hE rfl rfl rfl (fun a ea => ?_)
          have hE := Env.put_some hE rfl ea; clear ea
          refine t_off rfl hE rfl rfl rfl (fun a ea => ?_)
          have hE := Env.put_some hE rfl ea; clear ea
          refine t_off rfl hE rfl rfl rfl (fun a ea => ?_)
          have hE := Env.put_some hE rfl ea; clear ea
          refine t_val rfl rfl hE rfl (r_pick_f hE rfl rfl) (fun a hE => ?_)
          refine t_nil ?_
          exact hKr _ _ _ (hE.cut (.cons rfl (.cons rfl Subs.nil))) hR H
      · intro x19_12 a w hE hR H
        refine t_val (v := .bool x19_12) rfl rfl hE rfl (r_assign hE rfl) (fun a hE => ?_)
        refine t_nil ?_
        refine hK_10 _ _ ?_
        refine w_ret ?_
        exact hret _ _ _ x19_12 _ hE hR (res_run hE rfl (RV.tmp rfl RV.nil)) rfl H
    · replace H := M.ite_f hb H
      refine w_seq (fun K hK_14 => ?_)
      refine t_region ?_
      refine t_val (v := .bool (x8_8 == 3)) rfl rfl hE rfl (r_bin hE rfl rfl g_int b_eql) (fun a hE => ?_)
      refine t_val (v := .bool (x8_8 == 3)) rfl rfl hE rfl (r_assign hE rfl) (fun a hE => ?_)
      refine t_nil ?_
      refine hK_14 _ _ ?_
      refine w_cond (x8_8 == 3) hE rfl (fun hb => ?_) (fun hb => ?_)
      · replace H := M.ite_t hb H
        refine w_seq (fun K hK_15 => ?_)
        refine t_region ?_
        refine t_val (v := .pointer (some ((x2_2).add 2))) rfl rfl hE rfl (r_fieldAddr hE rfl fd42_2) (fun a hE => ?_)
        obtain ⟨x23_16, qx23_16, H⟩ := H
        refine t_val (v := .string x23_16) rfl rfl hE rfl (r_load hE rfl sc9 qx23_16) (fun a hE => ?_)
        refine t_val (v := .bool (sEq x23_16 ByteArray.empty)) rfl rfl hE rfl (r_bin hE rfl rfl g_str b_eqlS) (fun a hE => ?_)
        refine t_val (v := .bool (sEq x23_16 ByteArray.empty)) rfl rfl hE rfl (r_move hE rfl) (fun a hE => ?_)
        refine t_grp (n := (⟨136, []⟩ : Frm)) (w0 := w0) 5 (fun x30_17 : Bool => [(2, .pointer (some x2_2)), (4, .bool false), (30, .bool x30_17)]) (M.unbind H) (fun Kr hKr H => ?_) ?_
        · rcases bool_em (sEq x23_16 ByteArray.empty) with hb | hb
          · replace H := M.ite_t hb H
            have hE := hE.reb 25 (sEq x23_16 ByteArray.empty) true hb rfl
            refine t_on rfl hE rfl rfl rfl ?_
            refine t_val (v := .pointer (some ((x2_2).add 3))) rfl rfl hE rfl (r_fieldAddr hE rfl fd42_3) (fun a hE => ?_)
            refine t_on rfl hE rfl rfl rfl ?_
            obtain ⟨x27_18, qx27_18, H⟩ := H
            refine t_val (v := (x27_18 : Sl).v) rfl rfl hE rfl (r_load hE rfl sc22 qx27_18) (fun a hE => ?_)
            refine t_on rfl hE rfl rfl rfl ?_
            refine t_val (v := .int .i64 (x27_18.len : Int)) rfl rfl hE rfl (r_len hE rfl 42 un22) (fun a hE => ?_)
            refine t_on rfl hE rfl rfl rfl ?_
            refine t_val (v := .bool ((x27_18.len : Int) == 0)) rfl rfl hE rfl (r_bin hE rfl rfl g_int b_eql) (fun a hE => ?_)
            refine t_val rfl rfl hE rfl (r_pick_t hE rfl rfl) (fun a hE => ?_)
            refine t_nil ?_
            exact hKr _ _ _ (hE.cut (.cons rfl (.cons rfl (.cons rfl Subs.nil)))) hR H
          · replace H := M.ite_f hb H
            have hE := hE.reb 25 (sEq x23_16 ByteArray.empty) false hb rfl
            refine t_off rfl hE rfl rfl rfl (fun a ea => ?_)
            have hE := Env.put_some hE rfl ea; clear ea
            refine t_off rfl hE rfl rfl rfl (fun a ea => ?_)
            have hE := Env.put_some hE rfl ea; clear ea
            refine t_off rfl hE rfl rfl rfl (fun a ea => ?_)
            have hE := Env.put_some hE rfl ea; clear ea
            refine t_off rfl hE rfl rfl rfl (fun a ea => ?_)
            have hE := Env.put_some hE rfl ea; clear ea
            refine t_val rfl rfl hE rfl (r_pick_f hE rfl rfl) (fun a hE => ?_)
            refine t_nil ?_
            exact hKr _ _ _ (hE.cut (.cons rfl (.cons rfl (.cons rfl Subs.nil)))) hR H
        · intro x30_17 a w hE hR H
          refine t_val (v := .bool x30_17) rfl rfl hE rfl (r_move hE rfl) (fun a hE => ?_)
          refine t_grp (n := (⟨136, []⟩ : Frm)) (w0 := w0) 9 (fun x40_19 : Bool => [(4, .bool false), (40, .bool x40_19)]) (M.unbind H) (fun Kr hKr H => ?_) ?_
          · rcases bool_em x30_17 with hb | hb
            · replace H := M.ite_t hb H
              have hE := hE.reb 31 x30_17 true hb rfl
              refine t_on rfl hE rfl rfl rfl ?_
              refine t_val (v := .pointer (some ((x2_2).add 1))) rfl rfl hE rfl (r_fieldAddr hE rfl fd42_1) (fun a hE => ?_)
              refine t_on rfl hE rfl rfl rfl ?_
              obtain ⟨x33_20, qx33_20, H⟩ := H
              refine t_val (v := .int .i64 x33_20) rfl rfl hE rfl (r_load hE rfl sc2 qx33_20) (fun a hE => ?_)
              refine t_on rfl hE rfl rfl rfl ?_
              refine t_val (v := .bool (x33_20 == 0)) rfl rfl hE rfl (r_bin hE rfl rfl g_int b_eql) (fun a hE => ?_)
              refine t_on rfl hE rfl rfl rfl ?_
              refine t_val (v := .bool (x33_20 == 0)) rfl rfl hE rfl (r_move hE rfl) (fun a hE => ?_)
              refine t_grp (n := (⟨136, []⟩ : Frm)) (w0 := w0) 4 (fun x39_21 : Bool => [(4, .bool false), (31, .bool true), (39, .bool x39_21)]) (M.unbind H) (fun Kr hKr H => ?_) ?_
              · rcases bool_em (x33_20 == 0) with hb | hb
                · replace H := M.ite_t hb H
                  have hE := hE.reb 35 (x33_20 == 0) true hb rfl
                  refine t_off rfl hE rfl rfl rfl (fun a ea => ?_)
                  have hE := Env.put_some hE rfl ea; clear ea
                  refine t_off rfl hE rfl rfl rfl (fun a ea => ?_)
                  have hE := Env.put_some hE rfl ea; clear ea
                  refine t_off rfl hE rfl rfl rfl (fun a ea => ?_)
                  have hE := Env.put_some hE rfl ea; clear ea
                  refine t_on rfl hE rfl rfl rfl ?_
                  refine t_val rfl rfl hE rfl (r_pick_t hE rfl rfl) (fun a hE => ?_)
                  refine t_nil ?_
                  exact hKr _ _ _ (hE.cut (.cons rfl (.cons rfl (.cons rfl Subs.nil)))) hR H
                · replace H := M.ite_f hb H
                  have hE := hE.reb 35 (x33_20 == 0) false hb rfl
                  refine t_on rfl hE rfl rfl rfl ?_
                  refine t_val (v := .pointer (some ((x2_2).add 1))) rfl rfl hE rfl (r_fieldAddr hE rfl fd42_1) (fun a hE => ?_)
                  refine t_on rfl hE rfl rfl rfl ?_
                  obtain ⟨x37_22, qx37_22, H⟩ := H
                  refine t_val (v := .int .i64 x37_22) rfl rfl hE rfl (r_load hE rfl sc2 qx37_22) (fun a hE => ?_)
                  refine t_on rfl hE rfl rfl rfl ?_
                  refine t_val (v := .bool (x37_22 == 1)) rfl rfl hE rfl (r_bin hE rfl rfl g_int b_eql) (fun a hE => ?_)
                  refine t_on rfl hE rfl rfl rfl ?_
                  refine t_val rfl rfl hE rfl (r_pick_f hE rfl rfl) (fun a hE => ?_)
                  refine t_nil ?_
                  exact hKr _ _ _ (hE.cut (.cons rfl (.cons rfl (.cons rfl Subs.nil)))) hR H
              · intro x39_21 a w hE hR H
                refine t_val rfl rfl hE rfl (r_pick_t hE rfl rfl) (fun a hE => ?_)
                refine t_nil ?_
                exact hKr _ _ _ (hE.cut (.cons rfl (.cons rfl Subs.nil))) hR H
            · replace H := M.ite_f hb H
              have hE := hE.reb 31 x30_17 false hb rfl
              refine t_off rfl hE rfl rfl rfl (fun a ea => ?_)
              have hE := Env.put_some hE rfl ea; clear ea
              refine t_off rfl hE rfl rfl rfl (fun a ea => ?_)
              have hE := Env.put_some hE rfl ea; clear ea
              refine t_off rfl hE rfl rfl rfl (fun a ea => ?_)
              have hE := Env.put_some hE rfl ea; clear ea
              refine t_off rfl hE rfl rfl rfl (fun a ea => ?_)
              have hE := Env.put_some hE rfl ea; clear ea
              refine t_off' rfl hE rfl rfl (fun b hb => by cases hb) (fun a ea => ?_)
              have hE := Env.put_some hE rfl ea; clear ea
              refine t_off' rfl hE rfl rfl (fun b hb => by cases hb) (fun a ea => ?_)
              have hE := Env.put_some hE rfl ea; clear ea
              refine t_off' rfl hE rfl rfl (fun b hb => by cases hb) (fun a ea => ?_)
              have hE := Env.put_some hE rfl ea; clear ea
              refine t_off rfl hE rfl rfl rfl (fun a ea => ?_)
              have hE := Env.put_some hE rfl ea; clear ea
              refine t_val rfl rfl hE rfl (r_pick_f hE rfl rfl) (fun a hE => ?_)
              refine t_nil ?_
              exact hKr _ _ _ (hE.cut (.cons rfl (.cons rfl Subs.nil))) hR H
          · intro x40_19 a w hE hR H
            refine t_val (v := .bool x40_19) rfl rfl hE rfl (r_assign hE rfl) (fun a hE => ?_)
            refine t_nil ?_
            refine hK_15 _ _ ?_
            refine w_ret ?_
            exact hret _ _ _ x40_19 _ hE hR (res_run hE rfl (RV.tmp rfl RV.nil)) rfl H
      · replace H := M.ite_f hb H
        refine w_seq_join (fun a w => ∃ (x41_23 : Bool), Env (⟨136, []⟩ : Frm) a [(1, .int .i64 x1), (2, .pointer (some x2_2)), (8, .int .i64 x8_8), (41, .bool x41_23)] ∧ Rest w0 w ∧ (rambleref02_may_j1 x1 x2_2 x8_8 x41_23).wp w.heap Q) ?_ ?_
        · rintro a w ⟨x41_23, hE, hR, H⟩
          unfold rambleref02_may_j1 at H
          refine w_cond x41_23 hE rfl (fun hb => ?_) (fun hb => ?_)
          · replace H := M.ite_t hb H
            refine w_seq (fun K hK_27 => ?_)
            refine t_region ?_
            refine t_val (v := .pointer (some ((x2_2).add 2))) rfl rfl hE rfl (r_fieldAddr hE rfl fd42_2) (fun a hE => ?_)
            obtain ⟨x45_28, qx45_28, H⟩ := H
            refine t_val (v := .string x45_28) rfl rfl hE rfl (r_load hE rfl sc9 qx45_28) (fun a hE => ?_)
            refine t_val (v := .bool (sEq x45_28 ByteArray.empty)) rfl rfl hE rfl (r_bin hE rfl rfl g_str b_eqlS) (fun a hE => ?_)
            refine t_val (v := .bool (sEq x45_28 ByteArray.empty)) rfl rfl hE rfl (r_move hE rfl) (fun a hE => ?_)
            refine t_grp (n := (⟨136, []⟩ : Frm)) (w0 := w0) 5 (fun x52_29 : Bool => [(2, .pointer (some x2_2)), (52, .bool x52_29)]) (M.unbind H) (fun Kr hKr H => ?_) ?_
            · rcases bool_em (sEq x45_28 ByteArray.empty) with hb | hb
              · replace H := M.ite_t hb H
                have hE := hE.reb 47 (sEq x45_28 ByteArray.empty) true hb rfl
                refine t_on rfl hE rfl rfl rfl ?_
                refine t_val (v := .pointer (some ((x2_2).add 3))) rfl rfl hE rfl (r_fieldAddr hE rfl fd42_3) (fun a hE => ?_)
                refine t_on rfl hE rfl rfl rfl ?_
                obtain ⟨x49_30, qx49_30, H⟩ := H
                refine t_val (v := (x49_30 : Sl).v) rfl rfl hE rfl (r_load hE rfl sc22 qx49_30) (fun a hE => ?_)
                refine t_on rfl hE rfl rfl rfl ?_
                refine t_val (v := .int .i64 (x49_30.len : Int)) rfl rfl hE rfl (r_len hE rfl 42 un22) (fun a hE => ?_)
                refine t_on rfl hE rfl rfl rfl ?_
                refine t_val (v := .bool ((x49_30.len : Int) == 0)) rfl rfl hE rfl (r_bin hE rfl rfl g_int b_eql) (fun a hE => ?_)
                refine t_val rfl rfl hE rfl (r_pick_t hE rfl rfl) (fun a hE => ?_)
                refine t_nil ?_
                exact hKr _ _ _ (hE.cut (.cons rfl (.cons rfl Subs.nil))) hR H
              · replace H := M.ite_f hb H
                have hE := hE.reb 47 (sEq x45_28 ByteArray.empty) false hb rfl
                refine t_off rfl hE rfl rfl rfl (fun a ea => ?_)
                have hE := Env.put_some hE rfl ea; clear ea
                refine t_off rfl hE rfl rfl rfl (fun a ea => ?_)
                have hE := Env.put_some hE rfl ea; clear ea
                refine t_off rfl hE rfl rfl rfl (fun a ea => ?_)
                have hE := Env.put_some hE rfl ea; clear ea
                refine t_off rfl hE rfl rfl rfl (fun a ea => ?_)
                have hE := Env.put_some hE rfl ea; clear ea
                refine t_val rfl rfl hE rfl (r_pick_f hE rfl rfl) (fun a hE => ?_)
                refine t_nil ?_
                exact hKr _ _ _ (hE.cut (.cons rfl (.cons rfl Subs.nil))) hR H
            · intro x52_29 a w hE hR H
              refine t_val (v := .bool x52_29) rfl rfl hE rfl (r_move hE rfl) (fun a hE => ?_)
              refine t_grp (n := (⟨136, []⟩ : Frm)) (w0 := w0) 4 (fun x57_31 : Bool => [(2, .pointer (some x2_2)), (57, .bool x57_31)]) (M.unbind H) (fun Kr hKr H => ?_) ?_
              · rcases bool_em x52_29 with hb | hb
                · replace H := M.ite_t hb H
                  have hE := hE.reb 53 x52_29 true hb rfl
                  refine t_on rfl hE rfl rfl rfl ?_
                  refine t_val (v := .pointer (some ((x2_2).add 1))) rfl rfl hE rfl (r_fieldAddr hE rfl fd42_1) (fun a hE => ?_)
                  refine t_on rfl hE rfl rfl rfl ?_
                  obtain ⟨x55_32, qx55_32, H⟩ := H
                  refine t_val (v := .int .i64 x55_32) rfl rfl hE rfl (r_load hE rfl sc2 qx55_32) (fun a hE => ?_)
                  refine t_on rfl hE rfl rfl rfl ?_
                  refine t_val (v := .bool (decide (x55_32 ≥ 1))) rfl rfl hE rfl (r_bin hE rfl rfl g_int b_geq) (fun a hE => ?_)
                  refine t_val rfl rfl hE rfl (r_pick_t hE rfl rfl) (fun a hE => ?_)
                  refine t_nil ?_
                  exact hKr _ _ _ (hE.cut (.cons rfl (.cons rfl Subs.nil))) hR H
                · replace H := M.ite_f hb H
                  have hE := hE.reb 53 x52_29 false hb rfl
                  refine t_off rfl hE rfl rfl rfl (fun a ea => ?_)
                  have hE := Env.put_some hE rfl ea; clear ea
                  refine t_off rfl hE rfl rfl rfl (fun a ea => ?_)
                  have hE := Env.put_some hE rfl ea; clear ea
                  refine t_off rfl hE rfl rfl rfl (fun a ea => ?_)
                  have hE := Env.put_some hE rfl ea; clear ea
                  refine t_val rfl rfl hE rfl (r_pick_f hE rfl rfl) (fun a hE => ?_)
                  refine t_nil ?_
                  exact hKr _ _ _ (hE.cut (.cons rfl (.cons rfl Subs.nil))) hR H
              · intro x57_31 a w hE hR H
                refine t_val (v := .bool x57_31) rfl rfl hE rfl (r_move hE rfl) (fun a hE => ?_)
                refine t_grp (n := (⟨136, []⟩ : Frm)) (w0 := w0) 4 (fun x62_33 : Bool => [(62, .bool x62_33)]) (M.unbind H) (fun Kr hKr H => ?_) ?_
                · rcases bool_em x57_31 with hb | hb
                  · replace H := M.ite_t hb H
                    have hE := hE.reb 58 x57_31 true hb rfl
                    refine t_on rfl hE rfl rfl rfl ?_
                    refine t_val (v := .pointer (some ((x2_2).add 1))) rfl rfl hE rfl (r_fieldAddr hE rfl fd42_1) (fun a hE => ?_)
                    refine t_on rfl hE rfl rfl rfl ?_
                    obtain ⟨x60_34, qx60_34, H⟩ := H
                    refine t_val (v := .int .i64 x60_34) rfl rfl hE rfl (r_load hE rfl sc2 qx60_34) (fun a hE => ?_)
                    refine t_on rfl hE rfl rfl rfl ?_
                    refine t_val (v := .bool (decide (x60_34 ≤ 281474976710656))) rfl rfl hE rfl (r_bin hE rfl rfl g_int b_leq) (fun a hE => ?_)
                    refine t_val rfl rfl hE rfl (r_pick_t hE rfl rfl) (fun a hE => ?_)
                    refine t_nil ?_
                    exact hKr _ _ _ (hE.cut (.cons rfl Subs.nil)) hR H
                  · replace H := M.ite_f hb H
                    have hE := hE.reb 58 x57_31 false hb rfl
                    refine t_off rfl hE rfl rfl rfl (fun a ea => ?_)
                    have hE := Env.put_some hE rfl ea; clear ea
                    refine t_off rfl hE rfl rfl rfl (fun a ea => ?_)
                    have hE := Env.put_some hE rfl ea; clear ea
                    refine t_off rfl hE rfl rfl rfl (fun a ea => ?_)
                    have hE := Env.put_some hE rfl ea; clear ea
                    refine t_val rfl rfl hE rfl (r_pick_f hE rfl rfl) (fun a hE => ?_)
                    refine t_nil ?_
                    exact hKr _ _ _ (hE.cut (.cons rfl Subs.nil)) hR H
                · intro x62_33 a w hE hR H
                  refine t_val (v := .bool x62_33) rfl rfl hE rfl (r_assign hE rfl) (fun a hE => ?_)
                  refine t_nil ?_
                  refine hK_27 _ _ ?_
                  refine w_ret ?_
                  exact hret _ _ _ x62_33 _ hE hR (res_run hE rfl (RV.tmp rfl RV.nil)) rfl H
          · replace H := M.ite_f hb H
            refine w_seq (fun K hK_35 => ?_)
            refine t_region ?_
            refine t_val (v := .bool (x8_8 == 2)) rfl rfl hE rfl (r_bin hE rfl rfl g_int b_eql) (fun a hE => ?_)
            refine t_val (v := .bool (x8_8 == 2)) rfl rfl hE rfl (r_assign hE rfl) (fun a hE => ?_)
            refine t_nil ?_
            refine hK_35 _ _ ?_
            refine w_cond (x8_8 == 2) hE rfl (fun hb => ?_) (fun hb => ?_)
            · replace H := M.ite_t hb H
              refine w_seq (fun K hK_36 => ?_)
              refine t_region ?_
              refine t_val (v := .pointer (some ((x2_2).add 1))) rfl rfl hE rfl (r_fieldAddr hE rfl fd42_1) (fun a hE => ?_)
              obtain ⟨x66_37, qx66_37, H⟩ := H
              refine t_val (v := .int .i64 x66_37) rfl rfl hE rfl (r_load hE rfl sc2 qx66_37) (fun a hE => ?_)
              refine t_val (v := .bool (x66_37 == 0)) rfl rfl hE rfl (r_bin hE rfl rfl g_int b_eql) (fun a hE => ?_)
              refine t_val (v := .bool (x66_37 == 0)) rfl rfl hE rfl (r_move hE rfl) (fun a hE => ?_)
              refine t_grp (n := (⟨136, []⟩ : Frm)) (w0 := w0) 5 (fun x73_38 : Bool => [(2, .pointer (some x2_2)), (73, .bool x73_38)]) (M.unbind H) (fun Kr hKr H => ?_) ?_
              · rcases bool_em (x66_37 == 0) with hb | hb
                · replace H := M.ite_t hb H
                  have hE := hE.reb 68 (x66_37 == 0) true hb rfl
                  refine t_on rfl hE rfl rfl rfl ?_
                  refine t_val (v := .pointer (some ((x2_2).add 3))) rfl rfl hE rfl (r_fieldAddr hE rfl fd42_3) (fun a hE => ?_)
                  refine t_on rfl hE rfl rfl rfl ?_
                  obtain ⟨x70_39, qx70_39, H⟩ := H
                  refine t_val (v := (x70_39 : Sl).v) rfl rfl hE rfl (r_load hE rfl sc22 qx70_39) (fun a hE => ?_)
                  refine t_on rfl hE rfl rfl rfl ?_
                  refine t_val (v := .int .i64 (x70_39.len : Int)) rfl rfl hE rfl (r_len hE rfl 42 un22) (fun a hE => ?_)
                  refine t_on rfl hE rfl rfl rfl ?_
                  refine t_val (v := .bool ((x70_39.len : Int) == 0)) rfl rfl hE rfl (r_bin hE rfl rfl g_int b_eql) (fun a hE => ?_)
                  refine t_val rfl rfl hE rfl (r_pick_t hE rfl rfl) (fun a hE => ?_)
                  refine t_nil ?_
                  exact hKr _ _ _ (hE.cut (.cons rfl (.cons rfl Subs.nil))) hR H
                · replace H := M.ite_f hb H
                  have hE := hE.reb 68 (x66_37 == 0) false hb rfl
                  refine t_off rfl hE rfl rfl rfl (fun a ea => ?_)
                  have hE := Env.put_some hE rfl ea; clear ea
                  refine t_off rfl hE rfl rfl rfl (fun a ea => ?_)
                  have hE := Env.put_some hE rfl ea; clear ea
                  refine t_off rfl hE rfl rfl rfl (fun a ea => ?_)
                  have hE := Env.put_some hE rfl ea; clear ea
                  refine t_off rfl hE rfl rfl rfl (fun a ea => ?_)
                  have hE := Env.put_some hE rfl ea; clear ea
                  refine t_val rfl rfl hE rfl (r_pick_f hE rfl rfl) (fun a hE => ?_)
                  refine t_nil ?_
                  exact hKr _ _ _ (hE.cut (.cons rfl (.cons rfl Subs.nil))) hR H
              · intro x73_38 a w hE hR H
                refine t_val (v := .bool x73_38) rfl rfl hE rfl (r_move hE rfl) (fun a hE => ?_)
                refine t_grp (n := (⟨136, []⟩ : Frm)) (w0 := w0) 5 (fun x79_40 : Bool => [(79, .bool x79_40)]) (M.unbind H) (fun Kr hKr H => ?_) ?_
                · rcases bool_em x73_38 with hb | hb
                  · replace H := M.ite_t hb H
                    have hE := hE.reb 74 x73_38 true hb rfl
                    refine t_on rfl hE rfl rfl rfl ?_
                    refine t_val (v := .pointer (some ((x2_2).add 2))) rfl rfl hE rfl (r_fieldAddr hE rfl fd42_2) (fun a hE => ?_)
                    refine t_on rfl hE rfl rfl rfl ?_
                    obtain ⟨x76_41, qx76_41, H⟩ := H
                    refine t_val (v := .string x76_41) rfl rfl hE rfl (r_load hE rfl sc9 qx76_41) (fun a hE => ?_)
                    refine t_on rfl hE rfl rfl rfl ?_
                    refine t_val (v := .int .i64 (x76_41.size : Int)) rfl rfl hE rfl (r_lenS hE rfl un9) (fun a hE => ?_)
                    refine t_on rfl hE rfl rfl rfl ?_
                    refine t_val (v := .bool (decide ((x76_41.size : Int) ≤ 128))) rfl rfl hE rfl (r_bin hE rfl rfl g_int b_leq) (fun a hE => ?_)
                    refine t_val rfl rfl hE rfl (r_pick_t hE rfl rfl) (fun a hE => ?_)
                    refine t_nil ?_
                    exact hKr _ _ _ (hE.cut (.cons rfl Subs.nil)) hR H
                  · replace H := M.ite_f hb H
                    have hE := hE.reb 74 x73_38 false hb rfl
                    refine t_off rfl hE rfl rfl rfl (fun a ea => ?_)
                    have hE := Env.put_some hE rfl ea; clear ea
                    refine t_off rfl hE rfl rfl rfl (fun a ea => ?_)
                    have hE := Env.put_some hE rfl ea; clear ea
                    refine t_off rfl hE rfl rfl rfl (fun a ea => ?_)
                    have hE := Env.put_some hE rfl ea; clear ea
                    refine t_off rfl hE rfl rfl rfl (fun a ea => ?_)
                    have hE := Env.put_some hE rfl ea; clear ea
                    refine t_val rfl rfl hE rfl (r_pick_f hE rfl rfl) (fun a hE => ?_)
                    refine t_nil ?_
                    exact hKr _ _ _ (hE.cut (.cons rfl Subs.nil)) hR H
                · intro x79_40 a w hE hR H
                  refine t_val (v := .bool x79_40) rfl rfl hE rfl (r_assign hE rfl) (fun a hE => ?_)
                  refine t_nil ?_
                  refine hK_36 _ _ ?_
                  refine w_ret ?_
                  exact hret _ _ _ x79_40 _ hE hR (res_run hE rfl (RV.tmp rfl RV.nil)) rfl H
            · replace H := M.ite_f hb H
              refine w_seq (fun K hK_42 => ?_)
              refine t_region ?_
              refine t_val (v := .bool (x8_8 == 4)) rfl rfl hE rfl (r_bin hE rfl rfl g_int b_eql) (fun a hE => ?_)
              refine t_val (v := .bool (x8_8 == 4)) rfl rfl hE rfl (r_assign hE rfl) (fun a hE => ?_)
              refine t_nil ?_
              refine hK_42 _ _ ?_
              refine w_cond (x8_8 == 4) hE rfl (fun hb => ?_) (fun hb => ?_)
              · replace H := M.ite_t hb H
                refine w_seq (fun K hK_43 => ?_)
                refine t_region ?_
                refine t_val (v := .pointer (some ((x2_2).add 1))) rfl rfl hE rfl (r_fieldAddr hE rfl fd42_1) (fun a hE => ?_)
                obtain ⟨x83_44, qx83_44, H⟩ := H
                refine t_val (v := .int .i64 x83_44) rfl rfl hE rfl (r_load hE rfl sc2 qx83_44) (fun a hE => ?_)
                refine t_val (v := .bool (x83_44 == 0)) rfl rfl hE rfl (r_bin hE rfl rfl g_int b_eql) (fun a hE => ?_)
                refine t_val (v := .bool (x83_44 == 0)) rfl rfl hE rfl (r_move hE rfl) (fun a hE => ?_)
                refine t_grp (n := (⟨136, []⟩ : Frm)) (w0 := w0) 4 (fun x89_45 : Bool => [(1, .int .i64 x1), (2, .pointer (some x2_2)), (89, .bool x89_45)]) (M.unbind H) (fun Kr hKr H => ?_) ?_
                · rcases bool_em (x83_44 == 0) with hb | hb
                  · replace H := M.ite_t hb H
                    have hE := hE.reb 85 (x83_44 == 0) true hb rfl
                    refine t_on rfl hE rfl rfl rfl ?_
                    refine t_val (v := .pointer (some ((x2_2).add 2))) rfl rfl hE rfl (r_fieldAddr hE rfl fd42_2) (fun a hE => ?_)
                    refine t_on rfl hE rfl rfl rfl ?_
                    obtain ⟨x87_46, qx87_46, H⟩ := H
                    refine t_val (v := .string x87_46) rfl rfl hE rfl (r_load hE rfl sc9 qx87_46) (fun a hE => ?_)
                    refine t_on rfl hE rfl rfl rfl ?_
                    refine t_val (v := .bool (sEq x87_46 ByteArray.empty)) rfl rfl hE rfl (r_bin hE rfl rfl g_str b_eqlS) (fun a hE => ?_)
                    refine t_val rfl rfl hE rfl (r_pick_t hE rfl rfl) (fun a hE => ?_)
                    refine t_nil ?_
                    exact hKr _ _ _ (hE.cut (.cons rfl (.cons rfl (.cons rfl Subs.nil)))) hR H
                  · replace H := M.ite_f hb H
                    have hE := hE.reb 85 (x83_44 == 0) false hb rfl
                    refine t_off rfl hE rfl rfl rfl (fun a ea => ?_)
                    have hE := Env.put_some hE rfl ea; clear ea
                    refine t_off rfl hE rfl rfl rfl (fun a ea => ?_)
                    have hE := Env.put_some hE rfl ea; clear ea
                    refine t_off rfl hE rfl rfl rfl (fun a ea => ?_)
                    have hE := Env.put_some hE rfl ea; clear ea
                    refine t_val rfl rfl hE rfl (r_pick_f hE rfl rfl) (fun a hE => ?_)
                    refine t_nil ?_
                    exact hKr _ _ _ (hE.cut (.cons rfl (.cons rfl (.cons rfl Subs.nil)))) hR H
                · intro x89_45 a w hE hR H
                  refine t_val (v := .bool x89_45) rfl rfl hE rfl (r_move hE rfl) (fun a hE => ?_)
                  refine t_grp (n := (⟨136, []⟩ : Frm)) (w0 := w0) 5 (fun x95_47 : Bool => [(1, .int .i64 x1), (2, .pointer (some x2_2)), (95, .bool x95_47)]) (M.unbind H) (fun Kr hKr H => ?_) ?_
                  · rcases bool_em x89_45 with hb | hb
                    · replace H := M.ite_t hb H
                      have hE := hE.reb 90 x89_45 true hb rfl
                      refine t_on rfl hE rfl rfl rfl ?_
                      refine t_val (v := .pointer (some ((x2_2).add 3))) rfl rfl hE rfl (r_fieldAddr hE rfl fd42_3) (fun a hE => ?_)
                      refine t_on rfl hE rfl rfl rfl ?_
                      obtain ⟨x92_48, qx92_48, H⟩ := H
                      refine t_val (v := (x92_48 : Sl).v) rfl rfl hE rfl (r_load hE rfl sc22 qx92_48) (fun a hE => ?_)
                      refine t_on rfl hE rfl rfl rfl ?_
                      refine t_val (v := .int .i64 (x92_48.len : Int)) rfl rfl hE rfl (r_len hE rfl 42 un22) (fun a hE => ?_)
                      refine t_on rfl hE rfl rfl rfl ?_
                      refine t_val (v := .bool (decide ((x92_48.len : Int) ≤ 256))) rfl rfl hE rfl (r_bin hE rfl rfl g_int b_leq) (fun a hE => ?_)
                      refine t_val rfl rfl hE rfl (r_pick_t hE rfl rfl) (fun a hE => ?_)
                      refine t_nil ?_
                      exact hKr _ _ _ (hE.cut (.cons rfl (.cons rfl (.cons rfl Subs.nil)))) hR H
                    · replace H := M.ite_f hb H
                      have hE := hE.reb 90 x89_45 false hb rfl
                      refine t_off rfl hE rfl rfl rfl (fun a ea => ?_)
                      have hE := Env.put_some hE rfl ea; clear ea
                      refine t_off rfl hE rfl rfl rfl (fun a ea => ?_)
                      have hE := Env.put_some hE rfl ea; clear ea
                      refine t_off rfl hE rfl rfl rfl (fun a ea => ?_)
                      have hE := Env.put_some hE rfl ea; clear ea
                      refine t_off rfl hE rfl rfl rfl (fun a ea => ?_)
                      have hE := Env.put_some hE rfl ea; clear ea
                      refine t_val rfl rfl hE rfl (r_pick_f hE rfl rfl) (fun a hE => ?_)
                      refine t_nil ?_
                      exact hKr _ _ _ (hE.cut (.cons rfl (.cons rfl (.cons rfl Subs.nil)))) hR H
                  · intro x95_47 a w hE hR H
                    refine t_val (v := .bool x95_47) rfl rfl hE rfl (r_move hE rfl) (fun a hE => ?_)
                    refine t_grp (n := (⟨136, []⟩ : Frm)) (w0 := w0) 5 (fun x101_49 : Bool => [(101, .bool x101_49)]) (M.unbind H) (fun Kr hKr H => ?_) ?_
                    · rcases bool_em x95_47 with hb | hb
                      · replace H := M.ite_t hb H
                        have hE := hE.reb 96 x95_47 true hb rfl
                        refine t_on rfl hE rfl rfl rfl ?_
                        refine t_val (v := .pointer (some ((x2_2).add 3))) rfl rfl hE rfl (r_fieldAddr hE rfl fd42_3) (fun a hE => ?_)
                        refine t_on rfl hE rfl rfl rfl ?_
                        obtain ⟨x98_50, qx98_50, H⟩ := H
                        refine t_val (v := (x98_50 : Sl).v) rfl rfl hE rfl (r_load hE rfl sc22 qx98_50) (fun a hE => ?_)
                        refine t_on rfl hE rfl rfl rfl ?_
                        refine t_val (v := .int .i64 x1) rfl rfl hE rfl (r_move hE rfl) (fun a hE => ?_)
                        refine t_on rfl hE rfl rfl rfl ?_
                        refine t_call hE hR cl_rambleref02_all rfl (sound_callF) (M.unbind H) (fun x100_51 a w ea hR H => ?_)
                        have hE := Env.put_some hE rfl ea; clear ea
                        refine t_val rfl rfl hE rfl (r_pick_t hE rfl rfl) (fun a hE => ?_)
                        refine t_nil ?_
                        exact hKr _ _ _ (hE.cut (.cons rfl Subs.nil)) hR H
                      · replace H := M.ite_f hb H
                        have hE := hE.reb 96 x95_47 false hb rfl
                        refine t_off rfl hE rfl rfl rfl (fun a ea => ?_)
                        have hE := Env.put_some hE rfl ea; clear ea
                        refine t_off rfl hE rfl rfl rfl (fun a ea => ?_)
                        have hE := Env.put_some hE rfl ea; clear ea
                        refine t_off rfl hE rfl rfl rfl (fun a ea => ?_)
                        have hE := Env.put_some hE rfl ea; clear ea
                        refine t_off rfl hE rfl rfl rfl (fun a ea => ?_)
                        have hE := Env.put_some hE rfl ea; clear ea
                        refine t_val rfl rfl hE rfl (r_pick_f hE rfl rfl) (fun a hE => ?_)
                        refine t_nil ?_
                        exact hKr _ _ _ (hE.cut (.cons rfl Subs.nil)) hR H
                    · intro x101_49 a w hE hR H
                      refine t_val (v := .bool x101_49) rfl rfl hE rfl (r_assign hE rfl) (fun a hE => ?_)
                      refine t_nil ?_
                      refine hK_43 _ _ ?_
                      refine w_ret ?_
                      exact hret _ _ _ x101_49 _ hE hR (res_run hE rfl (RV.tmp rfl RV.nil)) rfl H
              · replace H := M.ite_f hb H
                refine w_seq (fun K hK_52 => ?_)
                refine t_region ?_
                refine t_val (v := .bool (x8_8 == 5)) rfl rfl hE rfl (r_bin hE rfl rfl g_int b_eql) (fun a hE => ?_)
                refine t_val (v := .bool (x8_8 == 5)) rfl rfl hE rfl (r_assign hE rfl) (fun a hE => ?_)
                refine t_nil ?_
                refine hK_52 _ _ ?_
                refine w_cond (x8_8 == 5) hE rfl (fun hb => ?_) (fun hb => ?_)
                · replace H := M.ite_t hb H
                  refine w_seq (fun K hK_53 => ?_)
                  refine t_region ?_
                  refine t_val (v := .pointer (some ((x2_2).add 1))) rfl rfl hE rfl (r_fieldAddr hE rfl fd42_1) (fun a hE => ?_)
                  obtain ⟨x105_54, qx105_54, H⟩ := H
                  refine t_val (v := .int .i64 x105_54) rfl rfl hE rfl (r_load hE rfl sc2 qx105_54) (fun a hE => ?_)
                  refine t_val (v := .bool (x105_54 == 0)) rfl rfl hE rfl (r_bin hE rfl rfl g_int b_eql) (fun a hE => ?_)
                  refine t_val (v := .bool (x105_54 == 0)) rfl rfl hE rfl (r_move hE rfl) (fun a hE => ?_)
                  refine t_grp (n := (⟨136, []⟩ : Frm)) (w0 := w0) 4 (fun x111_55 : Bool => [(1, .int .i64 x1), (2, .pointer (some x2_2)), (111, .bool x111_55)]) (M.unbind H) (fun Kr hKr H => ?_) ?_
                  · rcases bool_em (x105_54 == 0) with hb | hb
                    · replace H := M.ite_t hb H
                      have hE := hE.reb 107 (x105_54 == 0) true hb rfl
                      refine t_on rfl hE rfl rfl rfl ?_
                      refine t_val (v := .pointer (some ((x2_2).add 2))) rfl rfl hE rfl (r_fieldAddr hE rfl fd42_2) (fun a hE => ?_)
                      refine t_on rfl hE rfl rfl rfl ?_
                      obtain ⟨x109_56, qx109_56, H⟩ := H
                      refine t_val (v := .string x109_56) rfl rfl hE rfl (r_load hE rfl sc9 qx109_56) (fun a hE => ?_)
                      refine t_on rfl hE rfl rfl rfl ?_
                      refine t_val (v := .bool (sEq x109_56 ByteArray.empty)) rfl rfl hE rfl (r_bin hE rfl rfl g_str b_eqlS) (fun a hE => ?_)
                      refine t_val rfl rfl hE rfl (r_pick_t hE rfl rfl) (fun a hE => ?_)
                      refine t_nil ?_
                      exact hKr _ _ _ (hE.cut (.cons rfl (.cons rfl (.cons rfl Subs.nil)))) hR H
                    · replace H := M.ite_f hb H
                      have hE := hE.reb 107 (x105_54 == 0) false hb rfl
                      refine t_off rfl hE rfl rfl rfl (fun a ea => ?_)
                      have hE := Env.put_some hE rfl ea; clear ea
                      refine t_off rfl hE rfl rfl rfl (fun a ea => ?_)
                      have hE := Env.put_some hE rfl ea; clear ea
                      refine t_off rfl hE rfl rfl rfl (fun a ea => ?_)
                      have hE := Env.put_some hE rfl ea; clear ea
                      refine t_val rfl rfl hE rfl (r_pick_f hE rfl rfl) (fun a hE => ?_)
                      refine t_nil ?_
                      exact hKr _ _ _ (hE.cut (.cons rfl (.cons rfl (.cons rfl Subs.nil)))) hR H
                  · intro x111_55 a w hE hR H
                    refine t_val (v := .bool x111_55) rfl rfl hE rfl (r_move hE rfl) (fun a hE => ?_)
                    refine t_grp (n := (⟨136, []⟩ : Frm)) (w0 := w0) 5 (fun x117_57 : Bool => [(1, .int .i64 x1), (2, .pointer (some x2_2)), (117, .bool x117_57)]) (M.unbind H) (fun Kr hKr H => ?_) ?_
                    · rcases bool_em x111_55 with hb | hb
                      · replace H := M.ite_t hb H
                        have hE := hE.reb 112 x111_55 true hb rfl
                        refine t_on rfl hE rfl rfl rfl ?_
                        refine t_val (v := .pointer (some ((x2_2).add 3))) rfl rfl hE rfl (r_fieldAddr hE rfl fd42_3) (fun a hE => ?_)
                        refine t_on rfl hE rfl rfl rfl ?_
                        obtain ⟨x114_58, qx114_58, H⟩ := H
                        refine t_val (v := (x114_58 : Sl).v) rfl rfl hE rfl (r_load hE rfl sc22 qx114_58) (fun a hE => ?_)
                        refine t_on rfl hE rfl rfl rfl ?_
                        refine t_val (v := .int .i64 (x114_58.len : Int)) rfl rfl hE rfl (r_len hE rfl 42 un22) (fun a hE => ?_)
                        refine t_on rfl hE rfl rfl rfl ?_
                        refine t_val (v := .bool (decide ((x114_58.len : Int) ≤ 512))) rfl rfl hE rfl (r_bin hE rfl rfl g_int b_leq) (fun a hE => ?_)
                        refine t_val rfl rfl hE rfl (r_pick_t hE rfl rfl) (fun a hE => ?_)
                        refine t_nil ?_
                        exact hKr _ _ _ (hE.cut (.cons rfl (.cons rfl (.cons rfl Subs.nil)))) hR H
                      · replace H := M.ite_f hb H
                        have hE := hE.reb 112 x111_55 false hb rfl
                        refine t_off rfl hE rfl rfl rfl (fun a ea => ?_)
                        have hE := Env.put_some hE rfl ea; clear ea
                        refine t_off rfl hE rfl rfl rfl (fun a ea => ?_)
                        have hE := Env.put_some hE rfl ea; clear ea
                        refine t_off rfl hE rfl rfl rfl (fun a ea => ?_)
                        have hE := Env.put_some hE rfl ea; clear ea
                        refine t_off rfl hE rfl rfl rfl (fun a ea => ?_)
                        have hE := Env.put_some hE rfl ea; clear ea
                        refine t_val rfl rfl hE rfl (r_pick_f hE rfl rfl) (fun a hE => ?_)
                        refine t_nil ?_
                        exact hKr _ _ _ (hE.cut (.cons rfl (.cons rfl (.cons rfl Subs.nil)))) hR H
                    · intro x117_57 a w hE hR H
                      refine t_val (v := .bool x117_57) rfl rfl hE rfl (r_move hE rfl) (fun a hE => ?_)
                      refine t_grp (n := (⟨136, []⟩ : Frm)) (w0 := w0) 6 (fun x124_59 : Bool => [(1, .int .i64 x1), (2, .pointer (some x2_2)), (124, .bool x124_59)]) (M.unbind H) (fun Kr hKr H => ?_) ?_
                      · rcases bool_em x117_57 with hb | hb
                        · replace H := M.ite_t hb H
                          have hE := hE.reb 118 x117_57 true hb rfl
                          refine t_on rfl hE rfl rfl rfl ?_
                          refine t_val (v := .pointer (some ((x2_2).add 3))) rfl rfl hE rfl (r_fieldAddr hE rfl fd42_3) (fun a hE => ?_)
                          refine t_on rfl hE rfl rfl rfl ?_
                          obtain ⟨x120_60, qx120_60, H⟩ := H
                          refine t_val (v := (x120_60 : Sl).v) rfl rfl hE rfl (r_load hE rfl sc22 qx120_60) (fun a hE => ?_)
                          refine t_on rfl hE rfl rfl rfl ?_
                          refine t_val (v := .int .i64 (x120_60.len : Int)) rfl rfl hE rfl (r_len hE rfl 42 un22) (fun a hE => ?_)
                          refine t_on rfl hE rfl rfl rfl ?_
                          refine t_val (v := .int .i64 (Int.tmod (x120_60.len : Int) 2)) rfl rfl hE rfl (r_bin hE rfl rfl g_int (b_rem ⟨by decide, rfl⟩)) (fun a hE => ?_)
                          refine t_on rfl hE rfl rfl rfl ?_
                          refine t_val (v := .bool ((Int.tmod (x120_60.len : Int) 2) == 0)) rfl rfl hE rfl (r_bin hE rfl rfl g_int b_eql) (fun a hE => ?_)
                          refine t_val rfl rfl hE rfl (r_pick_t hE rfl rfl) (fun a hE => ?_)
                          refine t_nil ?_
                          exact hKr _ _ _ (hE.cut (.cons rfl (.cons rfl (.cons rfl Subs.nil)))) hR H
                        · replace H := M.ite_f hb H
                          have hE := hE.reb 118 x117_57 false hb rfl
                          refine t_off rfl hE rfl rfl rfl (fun a ea => ?_)
                          have hE := Env.put_some hE rfl ea; clear ea
                          refine t_off rfl hE rfl rfl rfl (fun a ea => ?_)
                          have hE := Env.put_some hE rfl ea; clear ea
                          refine t_off rfl hE rfl rfl rfl (fun a ea => ?_)
                          have hE := Env.put_some hE rfl ea; clear ea
                          refine t_off rfl hE rfl rfl rfl (fun a ea => ?_)
                          have hE := Env.put_some hE rfl ea; clear ea
                          refine t_off rfl hE rfl rfl rfl (fun a ea => ?_)
                          have hE := Env.put_some hE rfl ea; clear ea
                          refine t_val rfl rfl hE rfl (r_pick_f hE rfl rfl) (fun a hE => ?_)
                          refine t_nil ?_
                          exact hKr _ _ _ (hE.cut (.cons rfl (.cons rfl (.cons rfl Subs.nil)))) hR H
                      · intro x124_59 a w hE hR H
                        refine t_val (v := .bool x124_59) rfl rfl hE rfl (r_move hE rfl) (fun a hE => ?_)
                        refine t_grp (n := (⟨136, []⟩ : Frm)) (w0 := w0) 5 (fun x130_61 : Bool => [(2, .pointer (some x2_2)), (130, .bool x130_61)]) (M.unbind H) (fun Kr hKr H => ?_) ?_
                        · rcases bool_em x124_59 with hb | hb
                          · replace H := M.ite_t hb H
                            have hE := hE.reb 125 x124_59 true hb rfl
                            refine t_on rfl hE rfl rfl rfl ?_
                            refine t_val (v := .pointer (some ((x2_2).add 3))) rfl rfl hE rfl (r_fieldAddr hE rfl fd42_3) (fun a hE => ?_)
                            refine t_on rfl hE rfl rfl rfl ?_
                            obtain ⟨x127_62, qx127_62, H⟩ := H
                            refine t_val (v := (x127_62 : Sl).v) rfl rfl hE rfl (r_load hE rfl sc22 qx127_62) (fun a hE => ?_)
                            refine t_on rfl hE rfl rfl rfl ?_
                            refine t_val (v := .int .i64 x1) rfl rfl hE rfl (r_move hE rfl) (fun a hE => ?_)
                            refine t_on rfl hE rfl rfl rfl ?_
                            refine t_call hE hR cl_rambleref02_all rfl (sound_callF) (M.unbind H) (fun x129_63 a w ea hR H => ?_)
                            have hE := Env.put_some hE rfl ea; clear ea
                            refine t_val rfl rfl hE rfl (r_pick_t hE rfl rfl) (fun a hE => ?_)
                            refine t_nil ?_
                            exact hKr _ _ _ (hE.cut (.cons rfl (.cons rfl Subs.nil))) hR H
                          · replace H := M.ite_f hb H
                            have hE := hE.reb 125 x124_59 false hb rfl
                            refine t_off rfl hE rfl rfl rfl (fun a ea => ?_)
                            have hE := Env.put_some hE rfl ea; clear ea
                            refine t_off rfl hE rfl rfl rfl (fun a ea => ?_)
                            have hE := Env.put_some hE rfl ea; clear ea
                            refine t_off rfl hE rfl rfl rfl (fun a ea => ?_)
                            have hE := Env.put_some hE rfl ea; clear ea
                            refine t_off rfl hE rfl rfl rfl (fun a ea => ?_)
                            have hE := Env.put_some hE rfl ea; clear ea
                            refine t_val rfl rfl hE rfl (r_pick_f hE rfl rfl) (fun a hE => ?_)
                            refine t_nil ?_
                            exact hKr _ _ _ (hE.cut (.cons rfl (.cons rfl Subs.nil))) hR H
                        · intro x130_61 a w hE hR H
                          refine t_val (v := .bool x130_61) rfl rfl hE rfl (r_move hE rfl) (fun a hE => ?_)
                          refine t_grp (n := (⟨136, []⟩ : Frm)) (w0 := w0) 4 (fun x135_64 : Bool => [(135, .bool x135_64)]) (M.unbind H) (fun Kr hKr H => ?_) ?_
                          · rcases bool_em x130_61 with hb | hb
                            · replace H := M.ite_t hb H
                              have hE := hE.reb 131 x130_61 true hb rfl
                              refine t_on rfl hE rfl rfl rfl ?_
                              refine t_val (v := .pointer (some ((x2_2).add 3))) rfl rfl hE rfl (r_fieldAddr hE rfl fd42_3) (fun a hE => ?_)
                              refine t_on rfl hE rfl rfl rfl ?_
                              obtain ⟨x133_65, qx133_65, H⟩ := H
                              refine t_val (v := (x133_65 : Sl).v) rfl rfl hE rfl (r_load hE rfl sc22 qx133_65) (fun a hE => ?_)
                              refine t_on rfl hE rfl rfl rfl ?_
                              refine t_call hE hR cl_rambleref02_rises rfl (S_rambleref02_rises x133_65) (M.unbind H) (fun x134_66 a w ea hR H => ?_)
                              have hE := Env.put_some hE rfl ea; clear ea
                              refine t_val rfl rfl hE rfl (r_pick_t hE rfl rfl) (fun a hE => ?_)
                              refine t_nil ?_
                              exact hKr _ _ _ (hE.cut (.cons rfl Subs.nil)) hR H
                            · replace H := M.ite_f hb H
                              have hE := hE.reb 131 x130_61 false hb rfl
                              refine t_off rfl hE rfl rfl rfl (fun a ea => ?_)
                              have hE := Env.put_some hE rfl ea; clear ea
                              refine t_off rfl hE rfl rfl rfl (fun a ea => ?_)
                              have hE := Env.put_some hE rfl ea; clear ea
                              refine t_off rfl hE rfl rfl rfl (fun a ea => ?_)
                              have hE := Env.put_some hE rfl ea; clear ea
                              refine t_val rfl rfl hE rfl (r_pick_f hE rfl rfl) (fun a hE => ?_)
                              refine t_nil ?_
                              exact hKr _ _ _ (hE.cut (.cons rfl Subs.nil)) hR H
                          · intro x135_64 a w hE hR H
                            refine t_val (v := .bool x135_64) rfl rfl hE rfl (r_assign hE rfl) (fun a hE => ?_)
                            refine t_nil ?_
                            refine hK_53 _ _ ?_
                            refine w_ret ?_
                            exact hret _ _ _ x135_64 _ hE hR (res_run hE rfl (RV.tmp rfl RV.nil)) rfl H
                · replace H := M.ite_f hb H
                  refine w_skip ?_
                  refine hK_6 _ _ ?_
                  refine w_seq (fun K hK_67 => ?_)
                  refine t_region ?_
                  refine t_val (v := .bool false) rfl rfl hE rfl (r_assign hE rfl) (fun a hE => ?_)
                  refine t_nil ?_
                  refine hK_67 _ _ ?_
                  refine w_ret ?_
                  exact hret _ _ _ false _ hE hR (res_run hE rfl (RV.tmp rfl RV.nil)) rfl H
        · skip
          refine w_seq (fun K hK_68 => ?_)
          refine t_region ?_
          refine t_val (v := .bool (x8_8 == 6)) rfl rfl hE rfl (r_bin hE rfl rfl g_int b_eql) (fun a hE => ?_)
          refine t_val (v := .bool (x8_8 == 6)) rfl rfl hE rfl (r_assign hE rfl) (fun a hE => ?_)
          refine t_nil ?_
          refine hK_68 _ _ ?_
          refine w_cond (x8_8 == 6) hE rfl (fun hb => ?_) (fun hb => ?_)
          · replace H := M.ite_t hb H
            refine w_skip ?_
            exact ⟨x8_8 == 6, hE.cut (.cons rfl (.cons rfl (.cons rfl (.cons rfl Subs.nil)))), hR, H⟩
          · replace H := M.ite_f hb H
            refine t_region ?_
            refine t_val (v := .bool (x8_8 == 7)) rfl rfl hE rfl (r_bin hE rfl rfl g_int b_eql) (fun a hE => ?_)
            refine t_val (v := .bool (x8_8 == 7)) rfl rfl hE rfl (r_assign hE rfl) (fun a hE => ?_)
            refine t_nil ?_
            exact ⟨x8_8 == 7, hE.cut (.cons rfl (.cons rfl (.cons rfl (.cons rfl Subs.nil)))), hR, H⟩

/-- ramble/rambleref02.Check -/
def rambleref02_Check (x0 : Array Value) : M (Int) := do
  let x1_2 ← mkB ty_api_Value x0
  let x3_5 ← ldG 4 x1_2
  let x4_6 ← rambleref02_may x3_5 0
  M.ite (!x4_6) (do
    M.pure 20
    ) (do
    M.pure 0
    )
theorem S_rambleref02_Check (x0 : Array Value) : Sound Go.Proofs.Tryd.prog 47 #[.agg x0] (fun (r : Int) => .int .i64 r) (rambleref02_Check x0) := by
  refine sound_of [(0, .agg x0)] Go.Proofs.Tryd.func47 rfl rfl (Nat.le_of_ble_eq_true rfl) (args_of ⟨rfl, trivial⟩) (fun w0 w Q R a hret hE hR H => ?_)
  unfold rambleref02_Check at H
  refine w_seq (fun K hK_1 => ?_)
  refine t_region ?_
  obtain ⟨x1_2, qx1_2, H⟩ := H
  refine t_valh (v := .pointer (some x1_2)) rfl rfl hE rfl hR (r_box hE rfl qx1_2) (fun a w hE hR hh => ?_)
  replace H := M.at hh H; clear hh
  refine t_val (v := .int .i64 0) rfl rfl hE rfl (r_assign hE rfl) (fun a hE => ?_)
  refine t_nil ?_
  refine hK_1 _ _ ?_
  refine w_seq (fun K hK_3 => ?_)
  refine w_seq (fun K hK_4 => ?_)
  refine t_region ?_
  obtain ⟨x3_5, qx3_5, H⟩ := H
  refine t_val (v := .agg x3_5) rfl rfl hE rfl (r_loadG hE rfl ag42 qx3_5) (fun a hE => ?_)
  refine t_call hE hR cl_rambleref02_may rfl (S_rambleref02_may x3_5 0) (M.unbind H) (fun x4_6 a w ea hR H => ?_)
  have hE := Env.put_some hE rfl ea; clear ea
  refine t_val (v := .bool (!x4_6)) rfl rfl hE rfl (r_un hE rfl u_not) (fun a hE => ?_)
  refine t_nil ?_
  refine hK_4 _ _ ?_
  refine w_cond (!x4_6) hE rfl (fun hb => ?_) (fun hb => ?_)
  · replace H := M.ite_t hb H
    refine w_seq (fun K hK_7 => ?_)
    refine t_region ?_
    refine t_val (v := .int .i64 20) rfl rfl hE rfl (r_assign hE rfl) (fun a hE => ?_)
    refine t_nil ?_
    refine hK_7 _ _ ?_
    refine w_ret ?_
    exact hret _ _ _ 20 _ hE hR (res_run hE rfl (RV.tmp rfl RV.nil)) rfl H
  · replace H := M.ite_f hb H
    refine w_skip ?_
    refine hK_3 _ _ ?_
    refine w_seq (fun K hK_8 => ?_)
    refine t_region ?_
    refine t_val (v := .int .i64 0) rfl rfl hE rfl (r_assign hE rfl) (fun a hE => ?_)
    refine t_nil ?_
    refine hK_8 _ _ ?_
    refine w_ret ?_
    exact hret _ _ _ 0 _ hE hR (res_run hE rfl (RV.tmp rfl RV.nil)) rfl H

end Gx
