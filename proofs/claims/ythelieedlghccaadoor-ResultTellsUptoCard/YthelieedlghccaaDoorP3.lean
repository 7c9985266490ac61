/- Printed by program: Go functions as Lean programs, each tied to its code. No condition. -/
import Derived.Test.YthelieedlghccaaDoorP0
import Derived.Test.YthelieedlghccaaDoorP1
import Derived.Test.YthelieedlghccaaDoorP2
set_option linter.unusedVariables false
set_option linter.unusedSimpArgs false
namespace Gx
open Go
set_option linter.unusedVariables false
set_option maxRecDepth 100000
/-- slices.Chunk[[]ramble/api.Value,ramble/api.Value] -/
def slices_Chunk_slapi_Value_api_Value (x0 : Sl) (x1 : Int) : M (Value) := do
  let x2_2 ← mkB ty_sl_api_Value #[(x0 : Sl).v]
  let x3_3 ← mkB ty_int #[.int .i64 x1]
  let x5_6 ← ldI .i64 x3_3
  M.ite (decide (x5_6 < 1)) (do
    M.fail
    ) (do
    M.pure (Value.func (.func fn_slices_Chunk_slapi_Value_api_Value_1) #[] #[.pointer (some x2_2), .pointer (some x3_3)])
    )
theorem S_slices_Chunk_slapi_Value_api_Value (x0 : Sl) (x1 : Int) : Sound Go.Proofs.Tryd.prog 14 #[(x0 : Sl).v, .int .i64 x1] (fun (r : Value) => r) (slices_Chunk_slapi_Value_api_Value x0 x1) := by
  refine sound_of [(0, (x0 : Sl).v), (1, .int .i64 x1)] Go.Proofs.Tryd.func14 rfl rfl (Nat.le_of_ble_eq_true rfl) (args_of ⟨rfl, rfl, trivial⟩) (fun w0 w Q R a hret hE hR H => ?_)
  unfold slices_Chunk_slapi_Value_api_Value at H
  refine w_seq (fun K hK_1 => ?_)
  refine t_region ?_
  obtain ⟨x2_2, qx2_2, H⟩ := H
  refine t_valh (v := .pointer (some x2_2)) rfl rfl hE rfl hR (r_box hE rfl qx2_2) (fun a w hE hR hh => ?_)
  replace H := M.at hh H; clear hh
  obtain ⟨x3_3, qx3_3, H⟩ := H
  refine t_valh (v := .pointer (some x3_3)) rfl rfl hE rfl hR (r_box hE rfl qx3_3) (fun a w hE hR hh => ?_)
  replace H := M.at hh H; clear hh
  refine t_val (v := Value.nilFunc) rfl rfl hE rfl (r_assign hE rfl) (fun a hE => ?_)
  refine t_nil ?_
  refine hK_1 _ _ ?_
  refine w_seq (fun K hK_4 => ?_)
  refine w_seq (fun K hK_5 => ?_)
  refine t_region ?_
  obtain ⟨x5_6, qx5_6, H⟩ := H
  refine t_val (v := .int .i64 x5_6) rfl rfl hE rfl (r_load hE rfl sc3 qx5_6) (fun a hE => ?_)
  refine t_val (v := .bool (decide (x5_6 < 1))) rfl rfl hE rfl (r_bin hE rfl rfl g_int b_lss) (fun a hE => ?_)
  refine t_nil ?_
  refine hK_5 _ _ ?_
  refine w_cond (decide (x5_6 < 1)) hE rfl (fun hb => ?_) (fun hb => ?_)
  · replace H := M.ite_t hb H
    exact False.elim H
  · replace H := M.ite_f hb H
    refine w_skip ?_
    refine hK_4 _ _ ?_
    refine w_seq (fun K hK_7 => ?_)
    refine t_region ?_
    refine t_val (v := (Value.func (.func fn_slices_Chunk_slapi_Value_api_Value_1) #[] #[.pointer (some x2_2), .pointer (some x3_3)])) rfl rfl hE rfl (r_makeFunc hE rfl) (fun a hE => ?_)
    refine t_val (v := (Value.func (.func fn_slices_Chunk_slapi_Value_api_Value_1) #[] #[.pointer (some x2_2), .pointer (some x3_3)])) rfl rfl hE rfl (r_assign hE rfl) (fun a hE => ?_)
    refine t_nil ?_
    refine hK_7 _ _ ?_
    refine w_ret ?_
    exact hret _ _ _ (Value.func (.func fn_slices_Chunk_slapi_Value_api_Value_1) #[] #[.pointer (some x2_2), .pointer (some x3_3)]) _ hE hR (res_run hE rfl (RV.tmp rfl RV.nil)) rfl H

/-- slices.CompactFunc[[]ramble/api.Value,ramble/api.Value] -/
theorem tb17_6 : tabAt Go.Proofs.Tryd.f17 6 [[], [], [], [1, 2], [3], [], [], [6], [5, 7], [8], [0, 4, 9]] [[], [], [], [1, 2], [3], [], [], [6], [5, 7], [8], [0, 4, 9]] [[], [], [], [1, 2], [1, 2, 3], [], [], [6], [5, 6, 7], [5, 6, 7, 8], [0, 1, 2, 3, 4, 5, 6, 7, 8, 9]] = true := by kernel_rfl
def slices_CompactFunc_slapi_Value_api_Value_j1 (self2 : (Int × Int) → M (Sl)) (c7_36 : Int) (x5_32 : Int) : M (Sl) := do
  self2 (x5_32, IntKind.wrap .i64 (c7_36 + 1))
theorem tb17_11 : tabAt Go.Proofs.Tryd.f17 11 [[], [], [], [1, 2], [3], [], [], [6], [5, 7], [8], [0, 4, 9], [10]] [[], [], [], [1, 2], [3], [], [], [6], [5, 7], [8], [0, 4, 9], [10]] [[], [], [], [1, 2], [1, 2, 3], [], [], [6], [5, 6, 7], [5, 6, 7, 8], [0, 1, 2, 3, 4, 5, 6, 7, 8, 9], [0, 1, 2, 3, 4, 5, 6, 7, 8, 9, 10]] = true := by kernel_rfl
def slices_CompactFunc_slapi_Value_api_Value_l2 (c0_26 : Sl) (c1_27 : Value) (c6_28 : Sl) (self2 : (Int × Int) → M (Sl)) : (Int × Int) → M (Sl) := fun s => match s with
  | (x5_24, x7_25) => do
    M.ite (decide (x7_25 < (c6_28.len : Int))) (do
      let x41_38 ← ixL c6_28 x7_25 4
      let x46_39 ← ixL c6_28 (IntKind.wrap .i64 (x7_25 - 1)) 4
      let x42_40 ← ldG 4 x41_38
      let x47_41 ← ldG 4 x46_39
      let x48_42 ← callW Go.Proofs.Tryd.prog (fun r : Bool => .bool r) c1_27 [.agg x42_40, .agg x47_41]
      M.ite (!x48_42) (do
        let x54_44 ← ixL c6_28 x7_25 4
        let x55_45 ← ldG 4 x54_44
        let x56_46 ← ixL c0_26 x5_24 4
        M.need (x55_45.size = 4)
        stG x56_46 x55_45
        slices_CompactFunc_slapi_Value_api_Value_j1 self2 x7_25 (IntKind.wrap .i64 (x5_24 + 1))
        ) (do
        slices_CompactFunc_slapi_Value_api_Value_j1 self2 x7_25 x5_24
        )
      ) (do
      let x61_49 ← slL c0_26 x5_24 c0_26.len 4
      let u_50 ← clL (#[.int .i64 0, .int .i64 0, .string ByteArray.empty, .slice none 0 0] : Array Value) x61_49
      let x64_52 ← slL c0_26 0 x5_24 4
      M.pure x64_52
      )
def slices_CompactFunc_slapi_Value_api_Value_l1 (c0_8 : Sl) (c1_9 : Value) (self1 : (Int) → M (Sl)) : (Int) → M (Sl) := fun s => match s with
  | x5_7 => do
    M.ite (decide (x5_7 < (c0_8.len : Int))) (do
      let x21_15 ← ixL c0_8 x5_7 4
      let x26_16 ← ixL c0_8 (IntKind.wrap .i64 (x5_7 - 1)) 4
      let x22_17 ← ldG 4 x21_15
      let x27_18 ← ldG 4 x26_16
      let x28_19 ← callW Go.Proofs.Tryd.prog (fun r : Bool => .bool r) c1_9 [.agg x22_17, .agg x27_18]
      M.ite x28_19 (do
        let x31_21 ← slL c0_8 x5_7 c0_8.len 4
        M.loop (slices_CompactFunc_slapi_Value_api_Value_l2 c0_8 c1_9 x31_21) (x5_7, 1)
        ) (do
        self1 (IntKind.wrap .i64 (x5_7 + 1))
        )
      ) (do
      M.pure c0_8
      )
def slices_CompactFunc_slapi_Value_api_Value (x0 : Sl) (x1 : Value) : M (Sl) := do
  M.ite (decide ((x0.len : Int) < 2)) (do
    M.pure x0
    ) (do
    M.loop (slices_CompactFunc_slapi_Value_api_Value_l1 x0 x1) 1
    )
theorem S_slices_CompactFunc_slapi_Value_api_Value (x0 : Sl) (x1 : Value) : Sound Go.Proofs.Tryd.prog 17 #[(x0 : Sl).v, x1] (fun (r : Sl) => (r : Sl).v) (slices_CompactFunc_slapi_Value_api_Value x0 x1) := by
  refine sound_of [(0, (x0 : Sl).v), (1, x1)] Go.Proofs.Tryd.func17 rfl rfl (Nat.le_of_ble_eq_true rfl) (args_of ⟨rfl, rfl, trivial⟩) (fun w0 w Q R a hret hE hR H => ?_)
  unfold slices_CompactFunc_slapi_Value_api_Value at H
  refine w_seq (fun K hK_1 => ?_)
  refine t_region ?_
  refine t_val (v := (Sl.nil : Sl).v) rfl rfl hE rfl (r_assign hE rfl) (fun a hE => ?_)
  refine t_nil ?_
  refine hK_1 _ _ ?_
  refine w_seq (fun K hK_2 => ?_)
  refine w_seq (fun K hK_3 => ?_)
  refine t_region ?_
  refine t_val (v := (x0 : Sl).v) rfl rfl hE rfl (r_move hE rfl) (fun a hE => ?_)
  refine t_val (v := .int .i64 (x0.len : Int)) rfl rfl hE rfl (r_len hE rfl 42 un22) (fun a hE => ?_)
  refine t_val (v := .bool (decide ((x0.len : Int) < 2))) rfl rfl hE rfl (r_bin hE rfl rfl g_int b_lss) (fun a hE => ?_)
  refine t_nil ?_
  refine hK_3 _ _ ?_
  refine w_cond (decide ((x0.len : Int) < 2)) hE rfl (fun hb => ?_) (fun hb => ?_)
  · replace H := M.ite_t hb H
    refine w_seq (fun K hK_4 => ?_)
    refine t_region ?_
    refine t_val (v := (x0 : Sl).v) rfl rfl hE rfl (r_move hE rfl) (fun a hE => ?_)
    refine t_val (v := (x0 : Sl).v) rfl rfl hE rfl (r_assign hE rfl) (fun a hE => ?_)
    refine t_nil ?_
    refine hK_4 _ _ ?_
    refine w_ret ?_
    exact hret _ _ _ x0 _ hE hR (res_run hE rfl (RV.tmp rfl RV.nil)) rfl H
  · replace H := M.ite_f hb H
    refine w_skip ?_
    refine hK_2 _ _ ?_
    refine w_seq (fun K hK_5 => ?_)
    refine w_seq (fun K hK_6 => ?_)
    refine t_region ?_
    refine t_val (v := .int .i64 1) rfl rfl hE rfl (r_assign hE rfl) (fun a hE => ?_)
    refine t_nil ?_
    refine hK_6 _ _ ?_
    refine w_block ?_
    refine l_loop (fun (s : Int) => (⟨66, []⟩ : Frm)) (fun (s : Int) => [(0, (x0 : Sl).v), (1, x1), (5, .int .i64 s)]) H (hE.cut (.cons rfl (.cons rfl (.cons rfl Subs.nil)))) hR (fun Y self1 hY_10 x5_7 a w hE hR H => ?_)
    replace hE : Env (⟨66, []⟩ : Frm) a [(0, (x0 : Sl).v), (1, x1), (5, .int .i64 x5_7)] := hE
    replace H : (slices_CompactFunc_slapi_Value_api_Value_l1 x0 x1 self1 x5_7).wp w.heap Q := H
    unfold slices_CompactFunc_slapi_Value_api_Value_l1 at H
    refine w_seq (fun K hK_11 => ?_)
    refine w_seq (fun K hK_12 => ?_)
    refine t_region ?_
    refine t_val (v := .int .i64 x5_7) rfl rfl hE rfl (r_move hE rfl) (fun a hE => ?_)
    refine t_val (v := (x0 : Sl).v) rfl rfl hE rfl (r_move hE rfl) (fun a hE => ?_)
    refine t_val (v := .int .i64 (x0.len : Int)) rfl rfl hE rfl (r_len hE rfl 42 un22) (fun a hE => ?_)
    refine t_val (v := .bool (decide (x5_7 < (x0.len : Int)))) rfl rfl hE rfl (r_bin hE rfl rfl g_int b_lss) (fun a hE => ?_)
    refine t_nil ?_
    refine hK_12 _ _ ?_
    refine w_cond (decide (x5_7 < (x0.len : Int))) hE rfl (fun hb => ?_) (fun hb => ?_)
    · replace H := M.ite_t hb H
      refine w_skip ?_
      refine hK_11 _ _ ?_
      refine w_seq (fun K hK_13 => ?_)
      refine w_block ?_
      refine w_seq (fun K hK_14 => ?_)
      obtain ⟨x21_15, qx21_15, H⟩ := H
      obtain ⟨x26_16, qx26_16, H⟩ := H
      obtain ⟨x22_17, qx22_17, H⟩ := H
      obtain ⟨x27_18, qx27_18, H⟩ := H
      have hT := tab_of tb17_6 rfl rfl
      refine d_start (fun w : World => (fun h : Heap => (x22_17.size = 4 ∧ ∀ i, i < 4 → hcell h (Addr.add x21_15 i) = x22_17[i]?) ∧ (x27_18.size = 4 ∧ ∀ i, i < 4 → hcell h (Addr.add x26_16 i) = x27_18[i]?)) w.heap) [10] #[false, false, false, false, false, false, false, false, false, false, false] mo hR rfl rfl (fun w' e => by rw [e]; exact ⟨qx22_17, qx27_18⟩) (fun w hh hR hs => ?_)
      replace H := M.at hh H; clear hh
      refine d_pureg (i := 0) (v := x1) #[true, false, false, false, false, false, false, false, false, false, false] rfl rfl hT (by kernel_rfl) hE rfl (wanted_none rfl) (fun w => r_move hE rfl) (fun a hE => ?_)
      refine d_pureg (i := 1) (v := (x0 : Sl).v) #[true, true, false, false, false, false, false, false, false, false, false] rfl rfl hT (by kernel_rfl) hE rfl (wanted_none rfl) (fun w => r_move hE rfl) (fun a hE => ?_)
      refine d_pureg (i := 2) (v := .int .i64 x5_7) #[true, true, true, false, false, false, false, false, false, false, false] rfl rfl hT (by kernel_rfl) hE rfl (wanted_none rfl) (fun w => r_move hE rfl) (fun a hE => ?_)
      refine d_pureg (i := 3) (v := .pointer (some x21_15)) #[true, true, true, true, false, false, false, false, false, false, false] rfl rfl hT (by kernel_rfl) hE rfl (wanted_none rfl) (fun w => r_indexAddrL hE rfl rfl un22 sz42 qx21_15) (fun a hE => ?_)
      refine d_pureg (i := 5) (v := (x0 : Sl).v) #[true, true, true, true, false, true, false, false, false, false, false] rfl rfl hT (by kernel_rfl) hE rfl (wanted_none rfl) (fun w => r_move hE rfl) (fun a hE => ?_)
      refine d_pureg (i := 6) (v := .int .i64 x5_7) #[true, true, true, true, false, true, true, false, false, false, false] rfl rfl hT (by kernel_rfl) hE rfl (wanted_none rfl) (fun w => r_move hE rfl) (fun a hE => ?_)
      refine d_pureg (i := 7) (v := .int .i64 (IntKind.wrap .i64 (x5_7 - 1))) #[true, true, true, true, false, true, true, true, false, false, false] rfl rfl hT (by kernel_rfl) hE rfl (wanted_none rfl) (fun w => r_bin hE rfl rfl g_int b_sub) (fun a hE => ?_)
      refine d_pureg (i := 8) (v := .pointer (some x26_16)) #[true, true, true, true, false, true, true, true, true, false, false] rfl rfl hT (by kernel_rfl) hE rfl (wanted_none rfl) (fun w => r_indexAddrL hE rfl rfl un22 sz42 qx26_16) (fun a hE => ?_)
      refine d_read (i := 4) (v := .agg x22_17) #[true, true, true, true, true, true, true, true, true, false, false] rfl rfl hT (by kernel_rfl) hE rfl (wanted_none rfl) hs (fun w s => r_loadG hE rfl ag42 s.1) (fun a hE => ?_)
      refine d_read (i := 9) (v := .agg x27_18) #[true, true, true, true, true, true, true, true, true, true, false] rfl rfl hT (by kernel_rfl) hE rfl (wanted_none rfl) hs (fun w s => r_loadG hE rfl ag42 s.2) (fun a hE => ?_)
      refine d_calllW (i := 10) #[true, true, true, true, true, true, true, true, true, true, true] rfl rfl rfl hT (by kernel_rfl) rfl hE hR (wanted_none rfl) rfl rfl (M.unbind H) (fun x28_19 a w ea hR H => ?_)
      have hE := Env.put_some hE rfl ea; clear ea
      refine d_done hT (by kernel_rfl) ?_
      refine hK_14 _ _ ?_
      refine w_cond x28_19 hE rfl (fun hb => ?_) (fun hb => ?_)
      · replace H := M.ite_t hb H
        refine w_seq (fun K hK_20 => ?_)
        refine t_region ?_
        refine t_val (v := (x0 : Sl).v) rfl rfl hE rfl (r_move hE rfl) (fun a hE => ?_)
        refine t_val (v := .int .i64 x5_7) rfl rfl hE rfl (r_move hE rfl) (fun a hE => ?_)
        obtain ⟨x31_21, qx31_21, H⟩ := H
        refine t_val (v := (x31_21 : Sl).v) rfl rfl hE rfl (r_sliceL_l hE rfl rfl un22 sz42 qx31_21) (fun a hE => ?_)
        refine t_val (v := (x31_21 : Sl).v) rfl rfl hE rfl (r_assign hE rfl) (fun a hE => ?_)
        refine t_nil ?_
        refine hK_20 _ _ ?_
        refine w_seq (fun K hK_22 => ?_)
        refine w_seq (fun K hK_23 => ?_)
        refine t_region ?_
        refine t_val (v := .int .i64 1) rfl rfl hE rfl (r_assign hE rfl) (fun a hE => ?_)
        refine t_nil ?_
        refine hK_23 _ _ ?_
        refine w_block ?_
        refine l_loop (fun (s : Int × Int) => (⟨66, []⟩ : Frm)) (fun (s : Int × Int) => [(0, (x0 : Sl).v), (1, x1), (5, .int .i64 s.1), (6, (x31_21 : Sl).v), (7, .int .i64 s.2)]) H (hE.cut (.cons rfl (.cons rfl (.cons rfl (.cons rfl (.cons rfl Subs.nil)))))) hR (fun Y self2 hY_29 s a w hE hR H => ?_)
        rcases s with ⟨x5_24, x7_25⟩
        replace hE : Env (⟨66, []⟩ : Frm) a [(0, (x0 : Sl).v), (1, x1), (5, .int .i64 x5_24), (6, (x31_21 : Sl).v), (7, .int .i64 x7_25)] := hE
        replace H : (slices_CompactFunc_slapi_Value_api_Value_l2 x0 x1 x31_21 self2 (x5_24, x7_25)).wp w.heap Q := H
        unfold slices_CompactFunc_slapi_Value_api_Value_l2 at H
        refine w_seq (fun K hK_30 => ?_)
        refine w_seq (fun K hK_31 => ?_)
        refine t_region ?_
        refine t_val (v := .int .i64 x7_25) rfl rfl hE rfl (r_move hE rfl) (fun a hE => ?_)
        refine t_val (v := (x31_21 : Sl).v) rfl rfl hE rfl (r_move hE rfl) (fun a hE => ?_)
        refine t_val (v := .int .i64 (x31_21.len : Int)) rfl rfl hE rfl (r_len hE rfl 42 un22) (fun a hE => ?_)
        refine t_val (v := .bool (decide (x7_25 < (x31_21.len : Int)))) rfl rfl hE rfl (r_bin hE rfl rfl g_int b_lss) (fun a hE => ?_)
        refine t_nil ?_
        refine hK_31 _ _ ?_
        refine w_cond (decide (x7_25 < (x31_21.len : Int))) hE rfl (fun hb => ?_) (fun hb => ?_)
        · replace H := M.ite_t hb H
          refine w_skip ?_
          refine hK_30 _ _ ?_
          refine w_seq_join (fun a w => ∃ (x5_32 : Int), Env (⟨66, []⟩ : Frm) a [(0, (x0 : Sl).v), (1, x1), (6, (x31_21 : Sl).v), (7, .int .i64 x7_25), (5, .int .i64 x5_32)] ∧ Rest w0 w ∧ (slices_CompactFunc_slapi_Value_api_Value_j1 self2 x7_25 x5_32).wp w.heap Q) ?_ ?_
          · rintro a w ⟨x5_32, hE, hR, H⟩
            unfold slices_CompactFunc_slapi_Value_api_Value_j1 at H
            refine t_region ?_
            refine t_val (v := .int .i64 x7_25) rfl rfl hE rfl (r_move hE rfl) (fun a hE => ?_)
            refine t_val (v := .int .i64 (IntKind.wrap .i64 (x7_25 + 1))) rfl rfl hE rfl (r_bin hE rfl rfl g_int b_add) (fun a hE => ?_)
            refine t_val (v := .int .i64 (IntKind.wrap .i64 (x7_25 + 1))) rfl rfl hE rfl (r_assign hE rfl) (fun a hE => ?_)
            refine t_nil ?_
            exact hY_29 (x5_32, IntKind.wrap .i64 (x7_25 + 1)) _ _ (hE.cut (.cons rfl (.cons rfl (.cons rfl (.cons rfl (.cons rfl Subs.nil)))))) hR H
          · skip
            refine w_block ?_
            refine w_seq (fun K hK_37 => ?_)
            obtain ⟨x41_38, qx41_38, H⟩ := H
            obtain ⟨x46_39, qx46_39, H⟩ := H
            obtain ⟨x42_40, qx42_40, H⟩ := H
            obtain ⟨x47_41, qx47_41, H⟩ := H
            have hT := tab_of tb17_11 rfl rfl
            refine d_start (fun w : World => (fun h : Heap => (x42_40.size = 4 ∧ ∀ i, i < 4 → hcell h (Addr.add x41_38 i) = x42_40[i]?) ∧ (x47_41.size = 4 ∧ ∀ i, i < 4 → hcell h (Addr.add x46_39 i) = x47_41[i]?)) w.heap) [10, 11] #[false, false, false, false, false, false, false, false, false, false, false, false] mo hR rfl rfl (fun w' e => by rw [e]; exact ⟨qx42_40, qx47_41⟩) (fun w hh hR hs => ?_)
            replace H := M.at hh H; clear hh
            refine d_pureg (i := 0) (v := x1) #[true, false, false, false, false, false, false, false, false, false, false, false] rfl rfl hT (by kernel_rfl) hE rfl (wanted_none rfl) (fun w => r_move hE rfl) (fun a hE => ?_)
            refine d_pureg (i := 1) (v := (x31_21 : Sl).v) #[true, true, false, false, false, false, false, false, false, false, false, false] rfl rfl hT (by kernel_rfl) hE rfl (wanted_none rfl) (fun w => r_move hE rfl) (fun a hE => ?_)
            refine d_pureg (i := 2) (v := .int .i64 x7_25) #[true, true, true, false, false, false, false, false, false, false, false, false] rfl rfl hT (by kernel_rfl) hE rfl (wanted_none rfl) (fun w => r_move hE rfl) (fun a hE => ?_)
            refine d_pureg (i := 3) (v := .pointer (some x41_38)) #[true, true, true, true, false, false, false, false, false, false, false, false] rfl rfl hT (by kernel_rfl) hE rfl (wanted_none rfl) (fun w => r_indexAddrL hE rfl rfl un22 sz42 qx41_38) (fun a hE => ?_)
            refine d_pureg (i := 5) (v := (x31_21 : Sl).v) #[true, true, true, true, false, true, false, false, false, false, false, false] rfl rfl hT (by kernel_rfl) hE rfl (wanted_none rfl) (fun w => r_move hE rfl) (fun a hE => ?_)
            refine d_pureg (i := 6) (v := .int .i64 x7_25) #[true, true, true, true, false, true, true, false, false, false, false, false] rfl rfl hT (by kernel_rfl) hE rfl (wanted_none rfl) (fun w => r_move hE rfl) (fun a hE => ?_)
            refine d_pureg (i := 7) (v := .int .i64 (IntKind.wrap .i64 (x7_25 - 1))) #[true, true, true, true, false, true, true, true, false, false, false, false] rfl rfl hT (by kernel_rfl) hE rfl (wanted_none rfl) (fun w => r_bin hE rfl rfl g_int b_sub) (fun a hE => ?_)
            refine d_pureg (i := 8) (v := .pointer (some x46_39)) #[true, true, true, true, false, true, true, true, true, false, false, false] rfl rfl hT (by kernel_rfl) hE rfl (wanted_none rfl) (fun w => r_indexAddrL hE rfl rfl un22 sz42 qx46_39) (fun a hE => ?_)
            refine d_read (i := 4) (v := .agg x42_40) #[true, true, true, true, true, true, true, true, true, false, false, false] rfl rfl hT (by kernel_rfl) hE rfl (wanted_none rfl) hs (fun w s => r_loadG hE rfl ag42 s.1) (fun a hE => ?_)
            refine d_read (i := 9) (v := .agg x47_41) #[true, true, true, true, true, true, true, true, true, true, false, false] rfl rfl hT (by kernel_rfl) hE rfl (wanted_none rfl) hs (fun w s => r_loadG hE rfl ag42 s.2) (fun a hE => ?_)
            refine d_calllW (i := 10) #[true, true, true, true, true, true, true, true, true, true, true, false] rfl rfl rfl hT (by kernel_rfl) rfl hE hR (wanted_none rfl) rfl rfl (M.unbind H) (fun x48_42 a w ea hR H => ?_)
            have hE := Env.put_some hE rfl ea; clear ea
            refine d_pureg (i := 11) (v := .bool (!x48_42)) #[true, true, true, true, true, true, true, true, true, true, true, true] rfl rfl hT (by kernel_rfl) hE rfl (wanted_none rfl) (fun w => r_un hE rfl u_not) (fun a hE => ?_)
            refine d_done hT (by kernel_rfl) ?_
            refine hK_37 _ _ ?_
            refine w_cond (!x48_42) hE rfl (fun hb => ?_) (fun hb => ?_)
            · replace H := M.ite_t hb H
              refine w_seq (fun K hK_43 => ?_)
              refine t_region ?_
              refine t_val (v := (x0 : Sl).v) rfl rfl hE rfl (r_move hE rfl) (fun a hE => ?_)
              refine t_val (v := .int .i64 x5_24) rfl rfl hE rfl (r_move hE rfl) (fun a hE => ?_)
              refine t_val (v := (x31_21 : Sl).v) rfl rfl hE rfl (r_move hE rfl) (fun a hE => ?_)
              refine t_val (v := .int .i64 x7_25) rfl rfl hE rfl (r_move hE rfl) (fun a hE => ?_)
              obtain ⟨x54_44, qx54_44, H⟩ := H
              refine t_val (v := .pointer (some x54_44)) rfl rfl hE rfl (r_indexAddrL hE rfl rfl un22 sz42 qx54_44) (fun a hE => ?_)
              obtain ⟨x55_45, qx55_45, H⟩ := H
              refine t_val (v := .agg x55_45) rfl rfl hE rfl (r_loadG hE rfl ag42 qx55_45) (fun a hE => ?_)
              obtain ⟨x56_46, qx56_46, H⟩ := H
              refine t_val (v := .pointer (some x56_46)) rfl rfl hE rfl (r_indexAddrL hE rfl rfl un22 sz42 qx56_46) (fun a hE => ?_)
              obtain ⟨qz, H⟩ := H
              obtain ⟨u_47, qu_47, H⟩ := H
              refine t_sth rfl rfl hE hR (r_storeG hE rfl rfl sz42 qz qu_47) (fun a w hE hR hh => ?_)
              replace H := M.at hh H; clear hh
              refine t_nil ?_
              refine hK_43 _ _ ?_
              refine t_region ?_
              refine t_val (v := .int .i64 x5_24) rfl rfl hE rfl (r_move hE rfl) (fun a hE => ?_)
              refine t_val (v := .int .i64 (IntKind.wrap .i64 (x5_24 + 1))) rfl rfl hE rfl (r_bin hE rfl rfl g_int b_add) (fun a hE => ?_)
              refine t_val (v := .int .i64 (IntKind.wrap .i64 (x5_24 + 1))) rfl rfl hE rfl (r_assign hE rfl) (fun a hE => ?_)
              refine t_nil ?_
              exact ⟨IntKind.wrap .i64 (x5_24 + 1), hE.cut (.cons rfl (.cons rfl (.cons rfl (.cons rfl (.cons rfl Subs.nil))))), hR, H⟩
            · replace H := M.ite_f hb H
              refine w_skip ?_
              exact ⟨x5_24, hE.cut (.cons rfl (.cons rfl (.cons rfl (.cons rfl (.cons rfl Subs.nil))))), hR, H⟩
        · replace H := M.ite_f hb H
          refine w_exit ?_
          refine Xu.same ?_
          refine hK_22 _ _ ?_
          refine w_seq (fun K hK_48 => ?_)
          refine t_region ?_
          refine t_val (v := (x0 : Sl).v) rfl rfl hE rfl (r_move hE rfl) (fun a hE => ?_)
          refine t_val (v := .int .i64 x5_24) rfl rfl hE rfl (r_move hE rfl) (fun a hE => ?_)
          obtain ⟨x61_49, qx61_49, H⟩ := H
          refine t_val (v := (x61_49 : Sl).v) rfl rfl hE rfl (r_sliceL_l hE rfl rfl un22 sz42 qx61_49) (fun a hE => ?_)
          refine t_ex (fun u_50 => .tuple #[]) rfl rfl hR (M.unbind H) (fun Q H => clL_run hE rfl ap22 H) (fun u_50 a w ea hR H => ?_)
          have hE := Env.put_none hE ea; clear ea
          refine t_nil ?_
          refine hK_48 _ _ ?_
          refine w_seq (fun K hK_51 => ?_)
          refine t_region ?_
          refine t_val (v := (x0 : Sl).v) rfl rfl hE rfl (r_move hE rfl) (fun a hE => ?_)
          refine t_val (v := .int .i64 x5_24) rfl rfl hE rfl (r_move hE rfl) (fun a hE => ?_)
          obtain ⟨x64_52, qx64_52, H⟩ := H
          refine t_val (v := (x64_52 : Sl).v) rfl rfl hE rfl (r_sliceL_h hE rfl rfl un22 sz42 qx64_52) (fun a hE => ?_)
          refine t_val (v := (x64_52 : Sl).v) rfl rfl hE rfl (r_assign hE rfl) (fun a hE => ?_)
          refine t_nil ?_
          refine hK_51 _ _ ?_
          refine w_ret ?_
          exact hret _ _ _ x64_52 _ hE hR (res_run hE rfl (RV.tmp rfl RV.nil)) rfl H
      · replace H := M.ite_f hb H
        refine w_skip ?_
        refine hK_13 _ _ ?_
        refine t_region ?_
        refine t_val (v := .int .i64 x5_7) rfl rfl hE rfl (r_move hE rfl) (fun a hE => ?_)
        refine t_val (v := .int .i64 (IntKind.wrap .i64 (x5_7 + 1))) rfl rfl hE rfl (r_bin hE rfl rfl g_int b_add) (fun a hE => ?_)
        refine t_val (v := .int .i64 (IntKind.wrap .i64 (x5_7 + 1))) rfl rfl hE rfl (r_assign hE rfl) (fun a hE => ?_)
        refine t_nil ?_
        exact hY_10 (IntKind.wrap .i64 (x5_7 + 1)) _ _ (hE.cut (.cons rfl (.cons rfl (.cons rfl Subs.nil)))) hR H
    · replace H := M.ite_f hb H
      refine w_exit ?_
      refine Xu.same ?_
      refine hK_5 _ _ ?_
      refine w_seq (fun K hK_53 => ?_)
      refine t_region ?_
      refine t_val (v := (x0 : Sl).v) rfl rfl hE rfl (r_move hE rfl) (fun a hE => ?_)
      refine t_val (v := (x0 : Sl).v) rfl rfl hE rfl (r_assign hE rfl) (fun a hE => ?_)
      refine t_nil ?_
      refine hK_53 _ _ ?_
      refine w_ret ?_
      exact hret _ _ _ x0 _ hE hR (res_run hE rfl (RV.tmp rfl RV.nil)) rfl H

/-- (*strings.Builder).String -/
theorem tb25_1 : tabAt Go.Proofs.Tryd.f25 1 [[], [0], [1], [2], [3], [], [5], [6], [7], [8], [4, 9], [10, 0, 1, 2, 3, 4, 5, 6, 7, 8, 9, 10]] [[], [0], [1], [2], [3], [], [5], [6], [7], [8], [4, 9], [10]] [[], [0], [0, 1], [0, 1, 2], [0, 1, 2, 3], [], [5], [5, 6], [5, 6, 7], [5, 6, 7, 8], [0, 1, 2, 3, 4, 5, 6, 7, 8, 9], [0, 1, 2, 3, 4, 5, 6, 7, 8, 9, 10]] = true := by kernel_rfl
def strings_Builder_String (x0 : Option Addr) : M (ByteArray) := do
  let x4_3 ← nilP x0
  let x9_4 ← nilP x0
  let x6_5 ← ldL ((x4_3).add 1)
  let x11_6 ← ldL ((x9_4).add 1)
  let x7_7 ← uSD x6_5
  let x13_8 ← uStr ty_uint8 x7_7 (x11_6.len : Int)
  M.pure x13_8
theorem S_strings_Builder_String (x0 : Option Addr) : Sound Go.Proofs.Tryd.prog 25 #[.pointer x0] (fun (r : ByteArray) => .string r) (strings_Builder_String x0) := by
  refine sound_of [(0, .pointer x0)] Go.Proofs.Tryd.func25 rfl rfl (Nat.le_of_ble_eq_true rfl) (args_of ⟨rfl, trivial⟩) (fun w0 w Q R a hret hE hR H => ?_)
  unfold strings_Builder_String at H
  refine w_seq (fun K hK_1 => ?_)
  refine t_region ?_
  refine t_val (v := .string ByteArray.empty) rfl rfl hE rfl (r_assign hE rfl) (fun a hE => ?_)
  refine t_nil ?_
  refine hK_1 _ _ ?_
  refine w_seq (fun K hK_2 => ?_)
  obtain ⟨x4_3, qx4_3, H⟩ := H
  obtain ⟨x9_4, qx9_4, H⟩ := H
  obtain ⟨x6_5, qx6_5, H⟩ := H
  obtain ⟨x11_6, qx11_6, H⟩ := H
  have hT := tab_of tb25_1 rfl rfl
  refine d_start (fun w : World => (fun h : Heap => (hcell h ((x4_3).add 1) = some ((x6_5 : Sl).v)) ∧ (hcell h ((x9_4).add 1) = some ((x11_6 : Sl).v))) w.heap) [10, 11] #[false, false, false, false, false, false, false, false, false, false, false, false] mo hR rfl rfl (fun w' e => by rw [e]; exact ⟨qx6_5, qx11_6⟩) (fun w hh hR hs => ?_)
  replace H := M.at hh H; clear hh
  refine d_pureg (i := 0) (v := .pointer x0) #[true, false, false, false, false, false, false, false, false, false, false, false] rfl rfl hT (by kernel_rfl) hE rfl (wanted_none rfl) (fun w => r_move hE rfl) (fun a hE => ?_)
  refine d_pureg (i := 1) (v := .pointer (some x4_3)) #[true, true, false, false, false, false, false, false, false, false, false, false] rfl rfl hT (by kernel_rfl) hE rfl (wanted_none rfl) (fun w => r_nilCheck hE (hx_eq rfl (congrArg Value.pointer qx4_3))) (fun a hE => ?_)
  refine d_pureg (i := 2) (v := .pointer (some ((x4_3).add 1))) #[true, true, true, false, false, false, false, false, false, false, false, false] rfl rfl hT (by kernel_rfl) hE rfl (wanted_none rfl) (fun w => r_fieldAddr hE rfl fd53_1) (fun a hE => ?_)
  refine d_pureg (i := 5) (v := .pointer x0) #[true, true, true, false, false, true, false, false, false, false, false, false] rfl rfl hT (by kernel_rfl) hE rfl (wanted_none rfl) (fun w => r_move hE rfl) (fun a hE => ?_)
  refine d_pureg (i := 6) (v := .pointer (some x9_4)) #[true, true, true, false, false, true, true, false, false, false, false, false] rfl rfl hT (by kernel_rfl) hE rfl (wanted_none rfl) (fun w => r_nilCheck hE (hx_eq rfl (congrArg Value.pointer qx9_4))) (fun a hE => ?_)
  refine d_pureg (i := 7) (v := .pointer (some ((x9_4).add 1))) #[true, true, true, false, false, true, true, true, false, false, false, false] rfl rfl hT (by kernel_rfl) hE rfl (wanted_none rfl) (fun w => r_fieldAddr hE rfl fd53_1) (fun a hE => ?_)
  refine d_read (i := 3) (v := (x6_5 : Sl).v) #[true, true, true, true, false, true, true, true, false, false, false, false] rfl rfl hT (by kernel_rfl) hE rfl (wanted_none rfl) hs (fun w s => r_load hE rfl sc51 s.1) (fun a hE => ?_)
  refine d_read (i := 8) (v := (x11_6 : Sl).v) #[true, true, true, true, false, true, true, true, true, false, false, false] rfl rfl hT (by kernel_rfl) hE rfl (wanted_none rfl) hs (fun w s => r_load hE rfl sc51 s.2) (fun a hE => ?_)
  refine d_pureg (i := 9) (v := .int .i64 (x11_6.len : Int)) #[true, true, true, true, false, true, true, true, true, true, false, false] rfl rfl hT (by kernel_rfl) hE rfl (wanted_none rfl) (fun w => r_len hE rfl 5 un51) (fun a hE => ?_)
  obtain ⟨x7_7, qx7_7, H⟩ := H
  refine d_one (i := 4) (v := .pointer x7_7) #[true, true, true, true, true, true, true, true, true, true, false, false] rfl rfl hT (by kernel_rfl) rfl hE hR rfl (wanted_none rfl) (r_uSD hE rfl qx7_7) ⟨rfl, rfl, rfl, Nat.le_refl _⟩ (fun w' e => by rw [e]; exact hs) (fun a w hE hR hh hs => ?_)
  replace H := M.at hh H; clear hh
  refine d_exl (i := 10) (fun x13_8 => .string x13_8) #[true, true, true, true, true, true, true, true, true, true, true, false] rfl rfl hT (by kernel_rfl) rfl hR (wanted_none rfl) (M.unbind H) (fun Q H => uStr_run hE rfl rfl un82 co5 H) (fun x13_8 a w ea hR H => ?_)
  have hE := Env.put_some hE rfl ea; clear ea
  refine d_pureg (i := 11) (v := .string x13_8) #[true, true, true, true, true, true, true, true, true, true, true, true] rfl rfl hT (by kernel_rfl) hE rfl (wanted_none rfl) (fun w => r_assign hE rfl) (fun a hE => ?_)
  refine d_done hT (by kernel_rfl) ?_
  refine hK_2 _ _ ?_
  refine w_ret ?_
  exact hret _ _ _ x13_8 _ hE hR (res_run hE rfl (RV.tmp rfl RV.nil)) rfl H

/-- ramble/result.Table -/
theorem tb6_14 : tabAt Go.Proofs.Tryd.f6 14 [[], [], [1], [2], [0], [], [0, 5, 0, 1, 2, 3, 4, 5], [6, 4, 0, 1, 2, 3, 4, 5, 6], [7, 3, 6, 0, 1, 2, 3, 4, 5, 6], [6, 6, 0, 1, 2, 3, 4, 5, 6]] [[], [], [1], [2], [0], [], [0, 5], [4, 6], [3, 7], [6]] [[], [], [1], [1, 2], [0], [], [0, 1, 2, 3, 4, 5], [0, 1, 2, 3, 4, 5, 6], [0, 1, 2, 3, 4, 5, 6, 7], [0, 1, 2, 3, 4, 5, 6]] = true := by kernel_rfl
def result_Table_y2 (c2_45 : Addr) (c3_46 : Addr) (c5_47 : Addr) (lp2 : Nat) : (Sl) → M Nat := fun x => match x with
  | x30_48 => do
    let _ ← beg lp2
    let x32_51 ← ixL x30_48 0 4
    let x34_52 ← ldI .i64 ((x32_51).add 0)
    M.ite (x34_52 != 2) (do
      stV c2_45 (.string ByteArray.empty)
      stV c3_46 (.int .i64 21)
      M.pure 1
      ) (do
      let x38_56 ← ixL x30_48 0 4
      let x36_57 ← ldL c5_47
      let x39_58 ← ldG 4 x38_56
      let y_60 ← fillL 4 1 (#[.int .i64 0, .int .i64 0, .string ByteArray.empty, .slice none 0 0] : Array Value) [(0, .agg (#[.int .i64 0, .int .i64 0, .string ByteArray.empty, .slice none 0 0] : Array Value))]
      let x41_59 ← bdL ty_api_Value 1 y_60
      chk (fun h : Heap => (hcell h c5_47 = some ((x36_57 : Sl).v)) ∧ (x39_58.size = 4 ∧ ∀ i, i < 4 → hcell h (Addr.add x38_56 i) = x39_58[i]?))
      let x42_61 ← apL ty_api_Value 4 56 (#[.int .i64 0, .int .i64 0, .string ByteArray.empty, .slice none 0 0] : Array Value) x36_57 x41_59
      let x43_62 ← ixL x42_61 (x36_57.len : Int) 4
      let y_67 ← do
        M.both (do
          M.need (x39_58.size = 4)
          stG x43_62 x39_58
          stV c5_47 ((x42_61 : Sl).v)
          M.pure ()
          ) (do
          stV c5_47 ((x42_61 : Sl).v)
          M.need (x39_58.size = 4)
          stG x43_62 x39_58
          M.pure ()
          )
      M.pure 0
      )
def result_Table_l3 (cm_86 : List Nat) (c2_87 : Addr) (c3_88 : Addr) (c9_89 : Addr) (c10_90 : Value) (c52_91 : Sl) (c53_92 : Int) (self3 : (Int) → M (ByteArray × Int)) : (Int) → M (ByteArray × Int) := fun s => match s with
  | x54_85 => do
    M.ite (decide (x54_85 < c53_92)) (do
      let x56_98 ← ixL c52_91 x54_85 4
      let x57_99 ← ldG 4 x56_98
      let x12_100 ← mkB ty_api_Value (#[.int .i64 0, .int .i64 0, .string ByteArray.empty, .slice none 0 0] : Array Value)
      M.need (x57_99.size = 4)
      stG x12_100 x57_99
      let x60_102 ← callV Go.Proofs.Tryd.prog (fun r : Unit => .tuple #[]) c10_90 [(Value.func (.func fn_result_Table_2) #[] #[.pointer (some x12_100)])]
      self3 (IntKind.wrap .i64 (x54_85 + 1))
      ) (do
      let x62_104 ← strings_Builder_String (some c9_89)
      stV c2_87 (.string x62_104)
      stV c3_88 (.int .i64 0)
      let _ ← shut cm_86
      let r2_107 ← ldS c2_87
      let r3_108 ← ldI .i64 c3_88
      M.pure (r2_107, r3_108)
      )
def result_Table_l1 (c0_19 : Sl) (c2_20 : Addr) (c3_21 : Addr) (c5_22 : Addr) (c18_23 : Sl) (c19_24 : Int) (self1 : (List Nat × Int) → M (ByteArray × Int)) : (List Nat × Int) → M (ByteArray × Int) := fun s => match s with
  | (xm_17, x20_18) => do
    M.ite (decide (x20_18 < c19_24)) (do
      let x22_30 ← ixL c18_23 x20_18 4
      let x23_31 ← ldG 4 x22_30
      let x7_32 ← mkB ty_api_Value (#[.int .i64 0, .int .i64 0, .string ByteArray.empty, .slice none 0 0] : Array Value)
      M.need (x23_31.size = 4)
      stG x7_32 x23_31
      let x25_36 ← ldI .i64 ((x7_32).add 0)
      M.ite (x25_36 != 5) (do
        stV c2_20 (.string ByteArray.empty)
        stV c3_21 (.int .i64 21)
        let _ ← shut xm_17
        let r2_40 ← ldS c2_20
        let r3_41 ← ldI .i64 c3_21
        M.pure (r2_40, r3_41)
        ) (do
        let x28_43 ← ldL ((x7_32).add 3)
        let x29_44 ← slices_Chunk_slapi_Value_api_Value x28_43 2
        let j_68 ← rgF Go.Proofs.Tryd.prog (fun x : Sl => [(x : Sl).v]) [.ret] (result_Table_y2 c2_20 c3_21 c5_22) x29_44
        M.ite (decide (j_68.1 = 1)) (do
          let _ ← shut (j_68.2 :: xm_17)
          let r2_69 ← ldS c2_20
          let r3_70 ← ldI .i64 c3_21
          M.pure (r2_69, r3_70)
          ) (do
          self1 ((j_68.2 :: xm_17), IntKind.wrap .i64 (x20_18 + 1))
          )
        )
      ) (do
      let x45_72 ← ldL c5_22
      let x46_73 ← callF Go.Proofs.Tryd.prog fn_slices_SortFunc_slapi_Value_api_Value #[(x45_72 : Sl).v, (Value.func (.func fn_value_Compare) #[] #[])] (fun r : Unit => .tuple #[])
      let x47_75 ← ldL c5_22
      let x48_76 ← slices_CompactFunc_slapi_Value_api_Value x47_75 (Value.func (.func fn_value_Same) #[] #[])
      stV c5_22 ((x48_76 : Sl).v)
      let x9_79 ← mkB ty_strings_Builder (#[.pointer none, .slice none 0 0] : Array Value)
      let x51_82 ← callV Go.Proofs.Tryd.prog (fun r : Unit => .tuple #[]) (Value.func (.func fn_result_Table_1) #[] #[.pointer (some c5_22), .pointer (some x9_79)]) [(Value.func (.func fn_value_Text) #[] #[])]
      M.loop (result_Table_l3 xm_17 c2_20 c3_21 x9_79 (Value.func (.func fn_result_Table_1) #[] #[.pointer (some c5_22), .pointer (some x9_79)]) c0_19 (c0_19.len : Int)) 0
      )
def result_Table (x0 : Sl) : M (ByteArray × Int) := do
  let x2_2 ← mkB ty_string (#[.string ByteArray.empty] : Array Value)
  let x3_3 ← mkB ty_api_Errno (#[.int .i64 0] : Array Value)
  let x14_6 ← result_first x0
  M.ite (x14_6 != 0) (do
    stV x2_2 (.string ByteArray.empty)
    stV x3_3 (.int .i64 x14_6)
    let _ ← shut ([])
    let r2_11 ← ldS x2_2
    let r3_12 ← ldI .i64 x3_3
    M.pure (r2_11, r3_12)
    ) (do
    let x5_14 ← mkB ty_sl_api_Value (#[.slice none 0 0] : Array Value)
    M.loop (result_Table_l1 x0 x2_2 x3_3 x5_14 x0 (x0.len : Int)) ([], 0)
    )
theorem S_result_Table (x0 : Sl) : Sound Go.Proofs.Tryd.prog 6 #[(x0 : Sl).v] (fun (r : ByteArray × Int) => .tuple #[.string r.1, .int .i64 r.2]) (result_Table x0) := by
  refine sound_ofM [(0, (x0 : Sl).v)] Go.Proofs.Tryd.func6 rfl rfl (Nat.le_of_ble_eq_true rfl) (args_of ⟨rfl, trivial⟩) (fun w0 w Q R a hret hE hR H => ?_)
  unfold result_Table at H
  refine w_seq (fun K hK_1 => ?_)
  refine t_region ?_
  obtain ⟨x2_2, qx2_2, H⟩ := H
  refine t_valh (v := .pointer (some x2_2)) rfl rfl hE rfl hR (r_alloc zr9 qx2_2) (fun a w hE hR hh => ?_)
  replace H := M.at hh H; clear hh
  obtain ⟨x3_3, qx3_3, H⟩ := H
  refine t_valh (v := .pointer (some x3_3)) rfl rfl hE rfl hR (r_alloc zr24 qx3_3) (fun a w hE hR hh => ?_)
  replace H := M.at hh H; clear hh
  refine t_nil ?_
  refine hK_1 _ _ ?_
  refine w_seq (fun K hK_4 => ?_)
  refine w_seq (fun K hK_5 => ?_)
  refine t_region ?_
  refine t_val (v := (x0 : Sl).v) rfl rfl hE rfl (r_move hE rfl) (fun a hE => ?_)
  refine t_call hE hR cl_result_first rfl (S_result_first x0) (M.unbind H) (fun x14_6 a w ea hR H => ?_)
  have hE := Env.put_some hE rfl ea; clear ea
  refine t_val (v := .int .i64 x14_6) rfl rfl hE rfl (r_assign hE rfl) (fun a hE => ?_)
  refine t_nil ?_
  refine hK_5 _ _ ?_
  refine w_seq (fun K hK_7 => ?_)
  refine t_region ?_
  refine t_val (v := .int .i64 x14_6) rfl rfl hE rfl (r_move hE rfl) (fun a hE => ?_)
  refine t_val (v := .bool (x14_6 != 0)) rfl rfl hE rfl (r_bin hE rfl rfl g_int b_neq) (fun a hE => ?_)
  refine t_nil ?_
  refine hK_7 _ _ ?_
  refine w_cond (x14_6 != 0) hE rfl (fun hb => ?_) (fun hb => ?_)
  · replace H := M.ite_t hb H
    refine w_seq (fun K hK_8 => ?_)
    refine t_region ?_
    refine t_val (v := .int .i64 x14_6) rfl rfl hE rfl (r_move hE rfl) (fun a hE => ?_)
    obtain ⟨u_9, qu_9, H⟩ := H
    refine t_sth rfl rfl hE hR (r_store hE rfl rfl sz9 qu_9) (fun a w hE hR hh => ?_)
    replace H := M.at hh H; clear hh
    obtain ⟨u_10, qu_10, H⟩ := H
    refine t_sth rfl rfl hE hR (r_store hE rfl rfl sz24 qu_10) (fun a w hE hR hh => ?_)
    replace H := M.at hh H; clear hh
    refine t_nil ?_
    refine hK_8 _ _ ?_
    refine w_ret ?_
    refine hret _ _ _ _ _ hE hR (M.unbind H) (fun w hR H => ?_)
    obtain ⟨r2_11, qr2_11, H⟩ := H
    obtain ⟨r3_12, qr3_12, H⟩ := H
    exact ⟨(r2_11, r3_12), _, res_run hE rfl (RV.cell rfl sc9 qr2_11 (RV.cell rfl sc24 qr3_12 RV.nil)), rfl, H⟩
  · replace H := M.ite_f hb H
    refine w_skip ?_
    refine hK_4 _ _ ?_
    refine w_seq (fun K hK_13 => ?_)
    refine t_region ?_
    obtain ⟨x5_14, qx5_14, H⟩ := H
    refine t_valh (v := .pointer (some x5_14)) rfl rfl hE rfl hR (r_alloc zr22 qx5_14) (fun a w hE hR hh => ?_)
    replace H := M.at hh H; clear hh
    refine t_nil ?_
    refine hK_13 _ _ ?_
    refine w_seq (fun K hK_15 => ?_)
    refine w_seq (fun K hK_16 => ?_)
    refine t_region ?_
    refine t_val (v := (x0 : Sl).v) rfl rfl hE rfl (r_move hE rfl) (fun a hE => ?_)
    refine t_val (v := .int .i64 (x0.len : Int)) rfl rfl hE rfl (r_len hE rfl 42 un22) (fun a hE => ?_)
    refine t_val (v := .int .i64 0) rfl rfl hE rfl (r_move hE rfl) (fun a hE => ?_)
    refine t_nil ?_
    refine hK_16 _ _ ?_
    refine w_block ?_
    refine l_loop (fun (s : List Nat × Int) => (⟨63, s.1⟩ : Frm)) (fun (s : List Nat × Int) => [(0, (x0 : Sl).v), (2, .pointer (some x2_2)), (3, .pointer (some x3_3)), (5, .pointer (some x5_14)), (18, (x0 : Sl).v), (19, .int .i64 (x0.len : Int)), (20, .int .i64 s.2)]) H (hE.cut (.cons rfl (.cons rfl (.cons rfl (.cons rfl (.cons rfl (.cons rfl (.cons rfl Subs.nil)))))))) hR (fun Y self1 hY_25 s a w hE hR H => ?_)
    rcases s with ⟨xm_17, x20_18⟩
    replace hE : Env (⟨63, xm_17⟩ : Frm) a [(0, (x0 : Sl).v), (2, .pointer (some x2_2)), (3, .pointer (some x3_3)), (5, .pointer (some x5_14)), (18, (x0 : Sl).v), (19, .int .i64 (x0.len : Int)), (20, .int .i64 x20_18)] := hE
    replace H : (result_Table_l1 x0 x2_2 x3_3 x5_14 x0 (x0.len : Int) self1 (xm_17, x20_18)).wp w.heap Q := H
    unfold result_Table_l1 at H
    refine w_seq (fun K hK_26 => ?_)
    refine t_region ?_
    refine t_val (v := .bool (decide (x20_18 < (x0.len : Int)))) rfl rfl hE rfl (r_bin hE rfl rfl g_int b_lss) (fun a hE => ?_)
    refine t_nil ?_
    refine hK_26 _ _ ?_
    refine w_seq (fun K hK_27 => ?_)
    refine w_cond (decide (x20_18 < (x0.len : Int))) hE rfl (fun hb => ?_) (fun hb => ?_)
    · replace H := M.ite_t hb H
      refine w_skip ?_
      refine hK_27 _ _ ?_
      refine w_seq (fun K hK_28 => ?_)
      refine w_block ?_
      refine w_seq (fun K hK_29 => ?_)
      refine t_region ?_
      obtain ⟨x22_30, qx22_30, H⟩ := H
      refine t_val (v := .pointer (some x22_30)) rfl rfl hE rfl (r_indexAddrL hE rfl rfl un22 sz42 qx22_30) (fun a hE => ?_)
      obtain ⟨x23_31, qx23_31, H⟩ := H
      refine t_val (v := .agg x23_31) rfl rfl hE rfl (r_loadG hE rfl ag42 qx23_31) (fun a hE => ?_)
      obtain ⟨x7_32, qx7_32, H⟩ := H
      refine t_valh (v := .pointer (some x7_32)) rfl rfl hE rfl hR (r_alloc zr42 qx7_32) (fun a w hE hR hh => ?_)
      replace H := M.at hh H; clear hh
      obtain ⟨qz, H⟩ := H
      obtain ⟨u_33, qu_33, H⟩ := H
      refine t_sth rfl rfl hE hR (r_storeG hE rfl rfl sz42 qz qu_33) (fun a w hE hR hh => ?_)
      replace H := M.at hh H; clear hh
      refine t_nil ?_
      refine hK_29 _ _ ?_
      refine w_seq (fun K hK_34 => ?_)
      refine w_seq (fun K hK_35 => ?_)
      refine t_region ?_
      refine t_val (v := .pointer (some ((x7_32).add 0))) rfl rfl hE rfl (r_fieldAddr hE rfl fd42_0) (fun a hE => ?_)
      obtain ⟨x25_36, qx25_36, H⟩ := H
      refine t_val (v := .int .i64 x25_36) rfl rfl hE rfl (r_load hE rfl sc3 qx25_36) (fun a hE => ?_)
      refine t_val (v := .bool (x25_36 != 5)) rfl rfl hE rfl (r_bin hE rfl rfl g_int b_neq) (fun a hE => ?_)
      refine t_nil ?_
      refine hK_35 _ _ ?_
      refine w_cond (x25_36 != 5) hE rfl (fun hb => ?_) (fun hb => ?_)
      · replace H := M.ite_t hb H
        refine w_seq (fun K hK_37 => ?_)
        refine t_region ?_
        obtain ⟨u_38, qu_38, H⟩ := H
        refine t_sth rfl rfl hE hR (r_store hE rfl rfl sz9 qu_38) (fun a w hE hR hh => ?_)
        replace H := M.at hh H; clear hh
        obtain ⟨u_39, qu_39, H⟩ := H
        refine t_sth rfl rfl hE hR (r_store hE rfl rfl sz24 qu_39) (fun a w hE hR hh => ?_)
        replace H := M.at hh H; clear hh
        refine t_nil ?_
        refine hK_37 _ _ ?_
        refine w_ret ?_
        refine hret _ _ _ _ _ hE hR (M.unbind H) (fun w hR H => ?_)
        obtain ⟨r2_40, qr2_40, H⟩ := H
        obtain ⟨r3_41, qr3_41, H⟩ := H
        exact ⟨(r2_40, r3_41), _, res_run hE rfl (RV.cell rfl sc9 qr2_40 (RV.cell rfl sc24 qr3_41 RV.nil)), rfl, H⟩
      · replace H := M.ite_f hb H
        refine w_skip ?_
        refine hK_34 _ _ ?_
        refine w_seq (fun K hK_42 => ?_)
        refine t_region ?_
        refine t_val (v := .pointer (some ((x7_32).add 3))) rfl rfl hE rfl (r_fieldAddr hE rfl fd42_3) (fun a hE => ?_)
        obtain ⟨x28_43, qx28_43, H⟩ := H
        refine t_val (v := (x28_43 : Sl).v) rfl rfl hE rfl (r_load hE rfl sc22 qx28_43) (fun a hE => ?_)
        refine t_call hE hR cl_slices_Chunk_slapi_Value_api_Value rfl (S_slices_Chunk_slapi_Value_api_Value x28_43 2) (M.unbind H) (fun x29_44 a w ea hR H => ?_)
        have hE := Env.put_some hE rfl ea; clear ea
        refine t_nil ?_
        refine hK_42 _ _ ?_
        refine w_block ?_
        refine w_rangeF (js := [.ret]) (enc := (fun x : Sl => [(x : Sl).v])) (Y := (result_Table_y2 x2_2 x3_3 x5_14)) hE hR rfl (fun x => rfl) rfl (M.unbind H) (fun lp2 x30_48 Q w0 Rr hfin a w hE hR H => ?_) (fun j_68 a w hE hR H => ?_)
        · skip
          replace hE : Env (⟨63, []⟩ : Frm) a [(2, .pointer (some x2_2)), (3, .pointer (some x3_3)), (5, .pointer (some x5_14)), (30, (x30_48 : Sl).v)] := Env.cut hE (.cons rfl (.cons rfl (.cons rfl (.cons rfl Subs.nil))))
          replace H : (result_Table_y2 x2_2 x3_3 x5_14 lp2 x30_48).wp w.heap Q := H
          unfold result_Table_y2 at H
          refine t_region ?_
          refine t_val (v := (x30_48 : Sl).v) rfl rfl hE rfl (r_assign hE rfl) (fun a hE => ?_)
          refine t_nil ?_
          refine beg_w hR H (fun w hR H => ?_)
          refine w_block ?_
          refine w_seq (fun K hK_49 => ?_)
          refine w_seq (fun K hK_50 => ?_)
          refine t_region ?_
          refine t_val (v := (x30_48 : Sl).v) rfl rfl hE rfl (r_move hE rfl) (fun a hE => ?_)
          obtain ⟨x32_51, qx32_51, H⟩ := H
          refine t_val (v := .pointer (some x32_51)) rfl rfl hE rfl (r_indexAddrL hE rfl rfl un22 sz42 qx32_51) (fun a hE => ?_)
          refine t_val (v := .pointer (some ((x32_51).add 0))) rfl rfl hE rfl (r_fieldAddr hE rfl fd42_0) (fun a hE => ?_)
          obtain ⟨x34_52, qx34_52, H⟩ := H
          refine t_val (v := .int .i64 x34_52) rfl rfl hE rfl (r_load hE rfl sc3 qx34_52) (fun a hE => ?_)
          refine t_val (v := .bool (x34_52 != 2)) rfl rfl hE rfl (r_bin hE rfl rfl g_int b_neq) (fun a hE => ?_)
          refine t_nil ?_
          refine hK_50 _ _ ?_
          refine w_cond (x34_52 != 2) hE rfl (fun hb => ?_) (fun hb => ?_)
          · replace H := M.ite_t hb H
            refine w_seq (fun K hK_53 => ?_)
            refine t_region ?_
            obtain ⟨u_54, qu_54, H⟩ := H
            refine t_sth rfl rfl hE hR (r_store hE rfl rfl sz9 qu_54) (fun a w hE hR hh => ?_)
            replace H := M.at hh H; clear hh
            obtain ⟨u_55, qu_55, H⟩ := H
            refine t_sth rfl rfl hE hR (r_store hE rfl rfl sz24 qu_55) (fun a w hE hR hh => ?_)
            replace H := M.at hh H; clear hh
            refine t_nil ?_
            refine hK_53 _ _ ?_
            refine w_ret ?_
            exact ⟨0, rfl, hfin 1 _ _ hR H⟩
          · replace H := M.ite_f hb H
            refine w_skip ?_
            refine hK_49 _ _ ?_
            obtain ⟨x38_56, qx38_56, H⟩ := H
            obtain ⟨x36_57, qx36_57, H⟩ := H
            obtain ⟨x39_58, qx39_58, H⟩ := H
            have hT := tab_of tb6_14 rfl rfl
            refine d_start (fun w : World => (fun h : Heap => (hcell h x5_14 = some ((x36_57 : Sl).v)) ∧ (x39_58.size = 4 ∧ ∀ i, i < 4 → hcell h (Addr.add x38_56 i) = x39_58[i]?)) w.heap) [6, 7, 8, 9] #[false, false, false, false, false, false, false, false, false, false] mo hR rfl rfl (fun w' e => by rw [e]; exact ⟨qx36_57, qx39_58⟩) (fun w hh hR hs => ?_)
            replace H := M.at hh H; clear hh
            refine d_pureg (i := 1) (v := (x30_48 : Sl).v) #[false, true, false, false, false, false, false, false, false, false] rfl rfl hT (by kernel_rfl) hE rfl (wanted_none rfl) (fun w => r_move hE rfl) (fun a hE => ?_)
            refine d_pureg (i := 2) (v := .pointer (some x38_56)) #[false, true, true, false, false, false, false, false, false, false] rfl rfl hT (by kernel_rfl) hE rfl (wanted_none rfl) (fun w => r_indexAddrL hE rfl rfl un22 sz42 qx38_56) (fun a hE => ?_)
            refine d_read (i := 0) (v := (x36_57 : Sl).v) #[true, true, true, false, false, false, false, false, false, false] rfl rfl hT (by kernel_rfl) hE rfl (wanted_none rfl) hs (fun w s => r_load hE rfl sc22 s.1) (fun a hE => ?_)
            refine d_pureg (i := 4) (v := .int .i64 (x36_57.len : Int)) #[true, true, true, false, true, false, false, false, false, false] rfl rfl hT (by kernel_rfl) hE rfl (wanted_none rfl) (fun w => r_len hE rfl 42 un22) (fun a hE => ?_)
            refine d_read (i := 3) (v := .agg x39_58) #[true, true, true, true, true, false, false, false, false, false] rfl rfl hT (by kernel_rfl) hE rfl (wanted_none rfl) hs (fun w s => r_loadG hE rfl ag42 s.2) (fun a hE => ?_)
            obtain ⟨y_60, qy_60, H⟩ := H
            obtain ⟨x41_59, qx41_59, H⟩ := H
            obtain ⟨_, sA, H⟩ := H
            refine d_oneh (i := 5) (v := (x41_59 : Sl).v) #[true, true, true, true, true, true, false, false, false, false] rfl rfl hT (by kernel_rfl) rfl hE hR rfl (wanted_none rfl) (r_buildL hE rfl un22 sz42 zr42 rfl qy_60 qx41_59)  (fun w' e => by rw [e]; exact sA) (fun a w hE hR hh hs => ?_)
            replace H := M.at hh H; clear hh
            refine d_exl (i := 6) (fun x42_61 => (x42_61 : Sl).v) #[true, true, true, true, true, true, true, false, false, false] rfl rfl hT (by kernel_rfl) rfl hR (wanted_none rfl) (M.unbind H) (fun Q H => ap_run hE rfl rfl ap22 H) (fun x42_61 a w ea hR H => ?_)
            have hE := Env.put_some hE rfl ea; clear ea
            obtain ⟨x43_62, qx43_62, H⟩ := H
            refine d_pureg (i := 7) (v := .pointer (some x43_62)) #[true, true, true, true, true, true, true, true, false, false] rfl rfl hT (by kernel_rfl) hE rfl (wanted_none rfl) (fun w => r_indexAddrL hE rfl rfl un22 sz42 qx43_62) (fun a hE => ?_)
            refine d_switch (fun w : World => (fun h : Heap => True) w.heap) [8, 9] (by kernel_rfl) ?_
            have hs : (fun h : Heap => True) w.heap := trivial
            refine d_join (n := (⟨63, []⟩ : Frm)) (w0 := w0) (fun y_67 : Unit => [(2, .pointer (some x2_2)), (3, .pointer (some x3_3)), (5, .pointer (some x5_14)), (30, (x30_48 : Sl).v), (8, (x30_48 : Sl).v), (31, (x30_48 : Sl).v), (32, .pointer (some x32_51)), (33, .pointer (some ((x32_51).add 0))), (34, .int .i64 x34_52), (35, .bool (x34_52 != 2)), (37, (x30_48 : Sl).v), (38, .pointer (some x38_56)), (36, (x36_57 : Sl).v), (40, .int .i64 (x36_57.len : Int)), (39, .agg x39_58), (41, (x41_59 : Sl).v), (42, (x42_61 : Sl).v), (43, .pointer (some x43_62))]) 0 #[true, true, true, true, true, true, true, true, true, true] (M.unbind H) ?_ ?_
            · intro y_67 a w hE hR H
              refine d_done hT (by kernel_rfl) ?_
              exact hfin 0 _ _ hR H
            · intro hj H
              refine d_pick [8, 9] hT (by kernel_rfl) rfl (fun i hi => ?_)
              simp only [List.mem_cons, List.not_mem_nil, or_false] at hi
              rcases hi with rfl | rfl
              · replace H := H.1
                obtain ⟨qz, H⟩ := H
                obtain ⟨u_63, qu_63, H⟩ := H
                refine p_sth (S := fun w : World => (fun h : Heap => True) w.heap) (i := 8) #[true, true, true, true, true, true, true, true, true, false] rfl rfl (by kernel_rfl) hE hR (wanted_none rfl) (r_storeG hE rfl rfl sz42 qz qu_63)  (fun _ _ => trivial) (fun a w hE hR hh hs => ?_)
                replace H := M.at hh H; clear hh
                obtain ⟨u_64, qu_64, H⟩ := H
                refine d_stlh (i := 9) #[true, true, true, true, true, true, true, true, true, true] rfl rfl hT (by kernel_rfl) rfl hE hR (wanted_none rfl) (r_store hE rfl rfl sz22 qu_64)  (fun a w hE hR hh => ?_)
                replace H := M.at hh H; clear hh
                exact hj () _ _ (hE.cut (.cons rfl (.cons rfl (.cons rfl (.cons rfl (.cons rfl (.cons rfl (.cons rfl (.cons rfl (.cons rfl (.cons rfl (.cons rfl (.cons rfl (.cons rfl (.cons rfl (.cons rfl (.cons rfl (.cons rfl (.cons rfl Subs.nil))))))))))))))))))) hR H
              · replace H := H.2
                obtain ⟨u_65, qu_65, H⟩ := H
                refine p_sth (S := fun w : World => (fun h : Heap => True) w.heap) (i := 9) #[true, true, true, true, true, true, true, true, false, true] rfl rfl (by kernel_rfl) hE hR (wanted_none rfl) (r_store hE rfl rfl sz22 qu_65)  (fun _ _ => trivial) (fun a w hE hR hh hs => ?_)
                replace H := M.at hh H; clear hh
                obtain ⟨qz, H⟩ := H
                obtain ⟨u_66, qu_66, H⟩ := H
                refine d_stlh (i := 8) #[true, true, true, true, true, true, true, true, true, true] rfl rfl hT (by kernel_rfl) rfl hE hR (wanted_none rfl) (r_storeG hE rfl rfl sz42 qz qu_66)  (fun a w hE hR hh => ?_)
                replace H := M.at hh H; clear hh
                exact hj () _ _ (hE.cut (.cons rfl (.cons rfl (.cons rfl (.cons rfl (.cons rfl (.cons rfl (.cons rfl (.cons rfl (.cons rfl (.cons rfl (.cons rfl (.cons rfl (.cons rfl (.cons rfl (.cons rfl (.cons rfl (.cons rfl (.cons rfl Subs.nil))))))))))))))))))) hR H
        · skip
          replace hE : Env (⟨63, (j_68.2 :: xm_17)⟩ : Frm) a [(0, (x0 : Sl).v), (2, .pointer (some x2_2)), (3, .pointer (some x3_3)), (5, .pointer (some x5_14)), (18, (x0 : Sl).v), (19, .int .i64 (x0.len : Int)), (20, .int .i64 x20_18)] := Env.cut hE (.cons rfl (.cons rfl (.cons rfl (.cons rfl (.cons rfl (.cons rfl (.cons rfl Subs.nil)))))))
          refine jgo_cons (fun hj => ?_) (fun hj => ?_)
          · replace H := M.ite_t (decide_eq_true hj) H
            refine w_ret ?_
            refine hret _ _ _ _ _ hE hR (M.unbind H) (fun w hR H => ?_)
            obtain ⟨r2_69, qr2_69, H⟩ := H
            obtain ⟨r3_70, qr3_70, H⟩ := H
            exact ⟨(r2_69, r3_70), _, res_run hE rfl (RV.cell rfl sc9 qr2_69 (RV.cell rfl sc24 qr3_70 RV.nil)), rfl, H⟩
          · replace H := M.ite_f (decide_eq_false hj) H
            refine jgo_nil ?_
            refine hK_28 _ _ ?_
            refine t_region ?_
            refine t_val (v := .int .i64 (IntKind.wrap .i64 (x20_18 + 1))) rfl rfl hE rfl (r_bin hE rfl rfl g_int b_add) (fun a hE => ?_)
            refine t_val (v := .int .i64 (IntKind.wrap .i64 (x20_18 + 1))) rfl rfl hE rfl (r_move hE rfl) (fun a hE => ?_)
            refine t_nil ?_
            exact hY_25 ((j_68.2 :: xm_17), IntKind.wrap .i64 (x20_18 + 1)) _ _ (hE.cut (.cons rfl (.cons rfl (.cons rfl (.cons rfl (.cons rfl (.cons rfl (.cons rfl Subs.nil)))))))) hR H
    · replace H := M.ite_f hb H
      refine w_exit ?_
      refine Xu.same ?_
      refine hK_15 _ _ ?_
      refine w_seq (fun K hK_71 => ?_)
      refine t_region ?_
      obtain ⟨x45_72, qx45_72, H⟩ := H
      refine t_val (v := (x45_72 : Sl).v) rfl rfl hE rfl (r_load hE rfl sc22 qx45_72) (fun a hE => ?_)
      refine t_call hE hR cl_slices_SortFunc_slapi_Value_api_Value rfl (sound_callF) (M.unbind H) (fun x46_73 a w ea hR H => ?_)
      have hE := Env.put_some hE rfl ea; clear ea
      refine t_nil ?_
      refine hK_71 _ _ ?_
      refine w_seq (fun K hK_74 => ?_)
      refine t_region ?_
      obtain ⟨x47_75, qx47_75, H⟩ := H
      refine t_val (v := (x47_75 : Sl).v) rfl rfl hE rfl (r_load hE rfl sc22 qx47_75) (fun a hE => ?_)
      refine t_call hE hR cl_slices_CompactFunc_slapi_Value_api_Value rfl (S_slices_CompactFunc_slapi_Value_api_Value x47_75 (Value.func (.func fn_value_Same) #[] #[])) (M.unbind H) (fun x48_76 a w ea hR H => ?_)
      have hE := Env.put_some hE rfl ea; clear ea
      obtain ⟨u_77, qu_77, H⟩ := H
      refine t_sth rfl rfl hE hR (r_store hE rfl rfl sz22 qu_77) (fun a w hE hR hh => ?_)
      replace H := M.at hh H; clear hh
      refine t_nil ?_
      refine hK_74 _ _ ?_
      refine w_seq (fun K hK_78 => ?_)
      refine t_region ?_
      obtain ⟨x9_79, qx9_79, H⟩ := H
      refine t_valh (v := .pointer (some x9_79)) rfl rfl hE rfl hR (r_alloc zr53 qx9_79) (fun a w hE hR hh => ?_)
      replace H := M.at hh H; clear hh
      refine t_nil ?_
      refine hK_78 _ _ ?_
      refine w_seq (fun K hK_80 => ?_)
      refine t_region ?_
      refine t_val (v := (Value.func (.func fn_result_Table_1) #[] #[.pointer (some x5_14), .pointer (some x9_79)])) rfl rfl hE rfl (r_makeFunc hE rfl) (fun a hE => ?_)
      refine t_val (v := (Value.func (.func fn_result_Table_1) #[] #[.pointer (some x5_14), .pointer (some x9_79)])) rfl rfl hE rfl (r_assign hE rfl) (fun a hE => ?_)
      refine t_nil ?_
      refine hK_80 _ _ ?_
      refine w_seq (fun K hK_81 => ?_)
      refine t_region ?_
      refine t_val (v := (Value.func (.func fn_result_Table_1) #[] #[.pointer (some x5_14), .pointer (some x9_79)])) rfl rfl hE rfl (r_move hE rfl) (fun a hE => ?_)
      refine t_callV hE hR rfl rfl (M.unbind H) (fun x51_82 a w ea hR H => ?_)
      have hE := Env.put_some hE rfl ea; clear ea
      refine t_nil ?_
      refine hK_81 _ _ ?_
      refine w_seq (fun K hK_83 => ?_)
      refine w_seq (fun K hK_84 => ?_)
      refine t_region ?_
      refine t_val (v := (x0 : Sl).v) rfl rfl hE rfl (r_move hE rfl) (fun a hE => ?_)
      refine t_val (v := .int .i64 (x0.len : Int)) rfl rfl hE rfl (r_len hE rfl 42 un22) (fun a hE => ?_)
      refine t_val (v := .int .i64 0) rfl rfl hE rfl (r_move hE rfl) (fun a hE => ?_)
      refine t_nil ?_
      refine hK_84 _ _ ?_
      refine w_block ?_
      refine l_loop (fun (s : Int) => (⟨63, xm_17⟩ : Frm)) (fun (s : Int) => [(2, .pointer (some x2_2)), (3, .pointer (some x3_3)), (9, .pointer (some x9_79)), (10, (Value.func (.func fn_result_Table_1) #[] #[.pointer (some x5_14), .pointer (some x9_79)])), (52, (x0 : Sl).v), (53, .int .i64 (x0.len : Int)), (54, .int .i64 s)]) H (hE.cut (.cons rfl (.cons rfl (.cons rfl (.cons rfl (.cons rfl (.cons rfl (.cons rfl Subs.nil)))))))) hR (fun Y self3 hY_93 x54_85 a w hE hR H => ?_)
      replace hE : Env (⟨63, xm_17⟩ : Frm) a [(2, .pointer (some x2_2)), (3, .pointer (some x3_3)), (9, .pointer (some x9_79)), (10, (Value.func (.func fn_result_Table_1) #[] #[.pointer (some x5_14), .pointer (some x9_79)])), (52, (x0 : Sl).v), (53, .int .i64 (x0.len : Int)), (54, .int .i64 x54_85)] := hE
      replace H : (result_Table_l3 xm_17 x2_2 x3_3 x9_79 (Value.func (.func fn_result_Table_1) #[] #[.pointer (some x5_14), .pointer (some x9_79)]) x0 (x0.len : Int) self3 x54_85).wp w.heap Q := H
      unfold result_Table_l3 at H
      refine w_seq (fun K hK_94 => ?_)
      refine t_region ?_
      refine t_val (v := .bool (decide (x54_85 < (x0.len : Int)))) rfl rfl hE rfl (r_bin hE rfl rfl g_int b_lss) (fun a hE => ?_)
      refine t_nil ?_
      refine hK_94 _ _ ?_
      refine w_seq (fun K hK_95 => ?_)
      refine w_cond (decide (x54_85 < (x0.len : Int))) hE rfl (fun hb => ?_) (fun hb => ?_)
      · replace H := M.ite_t hb H
        refine w_skip ?_
        refine hK_95 _ _ ?_
        refine w_seq (fun K hK_96 => ?_)
        refine w_block ?_
        refine w_seq (fun K hK_97 => ?_)
        refine t_region ?_
        obtain ⟨x56_98, qx56_98, H⟩ := H
        refine t_val (v := .pointer (some x56_98)) rfl rfl hE rfl (r_indexAddrL hE rfl rfl un22 sz42 qx56_98) (fun a hE => ?_)
        obtain ⟨x57_99, qx57_99, H⟩ := H
        refine t_val (v := .agg x57_99) rfl rfl hE rfl (r_loadG hE rfl ag42 qx57_99) (fun a hE => ?_)
        obtain ⟨x12_100, qx12_100, H⟩ := H
        refine t_valh (v := .pointer (some x12_100)) rfl rfl hE rfl hR (r_alloc zr42 qx12_100) (fun a w hE hR hh => ?_)
        replace H := M.at hh H; clear hh
        obtain ⟨qz, H⟩ := H
        obtain ⟨u_101, qu_101, H⟩ := H
        refine t_sth rfl rfl hE hR (r_storeG hE rfl rfl sz42 qz qu_101) (fun a w hE hR hh => ?_)
        replace H := M.at hh H; clear hh
        refine t_nil ?_
        refine hK_97 _ _ ?_
        refine t_region ?_
        refine t_val (v := (Value.func (.func fn_result_Table_1) #[] #[.pointer (some x5_14), .pointer (some x9_79)])) rfl rfl hE rfl (r_move hE rfl) (fun a hE => ?_)
        refine t_val (v := (Value.func (.func fn_result_Table_2) #[] #[.pointer (some x12_100)])) rfl rfl hE rfl (r_makeFunc hE rfl) (fun a hE => ?_)
        refine t_callV hE hR rfl rfl (M.unbind H) (fun x60_102 a w ea hR H => ?_)
        have hE := Env.put_some hE rfl ea; clear ea
        refine t_nil ?_
        refine hK_96 _ _ ?_
        refine t_region ?_
        refine t_val (v := .int .i64 (IntKind.wrap .i64 (x54_85 + 1))) rfl rfl hE rfl (r_bin hE rfl rfl g_int b_add) (fun a hE => ?_)
        refine t_val (v := .int .i64 (IntKind.wrap .i64 (x54_85 + 1))) rfl rfl hE rfl (r_move hE rfl) (fun a hE => ?_)
        refine t_nil ?_
        exact hY_93 (IntKind.wrap .i64 (x54_85 + 1)) _ _ (hE.cut (.cons rfl (.cons rfl (.cons rfl (.cons rfl (.cons rfl (.cons rfl (.cons rfl Subs.nil)))))))) hR H
      · replace H := M.ite_f hb H
        refine w_exit ?_
        refine Xu.same ?_
        refine hK_83 _ _ ?_
        refine w_seq (fun K hK_103 => ?_)
        refine t_region ?_
        refine t_call hE hR cl_strings_Builder_String rfl (S_strings_Builder_String (some x9_79)) (M.unbind H) (fun x62_104 a w ea hR H => ?_)
        have hE := Env.put_some hE rfl ea; clear ea
        obtain ⟨u_105, qu_105, H⟩ := H
        refine t_sth rfl rfl hE hR (r_store hE rfl rfl sz9 qu_105) (fun a w hE hR hh => ?_)
        replace H := M.at hh H; clear hh
        obtain ⟨u_106, qu_106, H⟩ := H
        refine t_sth rfl rfl hE hR (r_store hE rfl rfl sz24 qu_106) (fun a w hE hR hh => ?_)
        replace H := M.at hh H; clear hh
        refine t_nil ?_
        refine hK_103 _ _ ?_
        refine w_ret ?_
        refine hret _ _ _ _ _ hE hR (M.unbind H) (fun w hR H => ?_)
        obtain ⟨r2_107, qr2_107, H⟩ := H
        obtain ⟨r3_108, qr3_108, H⟩ := H
        exact ⟨(r2_107, r3_108), _, res_run hE rfl (RV.cell rfl sc9 qr2_107 (RV.cell rfl sc24 qr3_108 RV.nil)), rfl, H⟩

end Gx
namespace Gx
open Go
set_option linter.unusedVariables false
set_option maxRecDepth 100000
/-- ramble/rambleref02.Str -/
def rambleref02_Str (x0 : ByteArray) : M (Array Value) := do
  let x2_2 ← mkB ty_api_Value (#[.int .i64 0, .int .i64 0, .string ByteArray.empty, .slice none 0 0] : Array Value)
  M.need ((#[.int .i64 2, .int .i64 0, .string x0, .slice none 0 0] : Array Value).size = 4)
  stG x2_2 (#[.int .i64 2, .int .i64 0, .string x0, .slice none 0 0] : Array Value)
  let r2_5 ← ldG 4 x2_2
  M.pure r2_5
theorem S_rambleref02_Str (x0 : ByteArray) : Sound Go.Proofs.Tryd.prog 30 #[.string x0] (fun (r : Array Value) => .agg r) (rambleref02_Str x0) := by
  refine sound_of [(0, .string x0)] Go.Proofs.Tryd.func30 rfl rfl (Nat.le_of_ble_eq_true rfl) (args_of ⟨rfl, trivial⟩) (fun w0 w Q R a hret hE hR H => ?_)
  unfold rambleref02_Str at H
  refine w_seq (fun K hK_1 => ?_)
  refine t_region ?_
  obtain ⟨x2_2, qx2_2, H⟩ := H
  refine t_valh (v := .pointer (some x2_2)) rfl rfl hE rfl hR (r_alloc zr42 qx2_2) (fun a w hE hR hh => ?_)
  replace H := M.at hh H; clear hh
  refine t_nil ?_
  refine hK_1 _ _ ?_
  refine w_seq (fun K hK_3 => ?_)
  refine t_region ?_
  refine t_val (v := .string x0) rfl rfl hE rfl (r_move hE rfl) (fun a hE => ?_)
  refine t_val (v := .agg (#[.int .i64 2, .int .i64 0, .string x0, .slice none 0 0] : Array Value)) rfl rfl hE rfl (r_build hE rfl zr42 pl42 (by rfl)) (fun a hE => ?_)
  obtain ⟨qz, H⟩ := H
  obtain ⟨u_4, qu_4, H⟩ := H
  refine t_sth rfl rfl hE hR (r_storeG hE rfl rfl sz42 qz qu_4) (fun a w hE hR hh => ?_)
  replace H := M.at hh H; clear hh
  refine t_nil ?_
  refine hK_3 _ _ ?_
  refine w_ret ?_
  obtain ⟨r2_5, qr2_5, H⟩ := H
  exact hret _ _ _ r2_5 _ hE hR (res_run hE rfl (RV.cellG rfl ag42 qr2_5 RV.nil)) rfl H

/-- ramble/rambleref02.Int -/
def rambleref02_Int (x0 : Int) : M (Array Value) := do
  let x2_2 ← mkB ty_api_Value (#[.int .i64 0, .int .i64 0, .string ByteArray.empty, .slice none 0 0] : Array Value)
  M.need ((#[.int .i64 1, .int .i64 x0, .string ByteArray.empty, .slice none 0 0] : Array Value).size = 4)
  stG x2_2 (#[.int .i64 1, .int .i64 x0, .string ByteArray.empty, .slice none 0 0] : Array Value)
  let r2_5 ← ldG 4 x2_2
  M.pure r2_5
theorem S_rambleref02_Int (x0 : Int) : Sound Go.Proofs.Tryd.prog 31 #[.int .i64 x0] (fun (r : Array Value) => .agg r) (rambleref02_Int x0) := by
  refine sound_of [(0, .int .i64 x0)] Go.Proofs.Tryd.func31 rfl rfl (Nat.le_of_ble_eq_true rfl) (args_of ⟨rfl, trivial⟩) (fun w0 w Q R a hret hE hR H => ?_)
  unfold rambleref02_Int at H
  refine w_seq (fun K hK_1 => ?_)
  refine t_region ?_
  obtain ⟨x2_2, qx2_2, H⟩ := H
  refine t_valh (v := .pointer (some x2_2)) rfl rfl hE rfl hR (r_alloc zr42 qx2_2) (fun a w hE hR hh => ?_)
  replace H := M.at hh H; clear hh
  refine t_nil ?_
  refine hK_1 _ _ ?_
  refine w_seq (fun K hK_3 => ?_)
  refine t_region ?_
  refine t_val (v := .int .i64 x0) rfl rfl hE rfl (r_move hE rfl) (fun a hE => ?_)
  refine t_val (v := .agg (#[.int .i64 1, .int .i64 x0, .string ByteArray.empty, .slice none 0 0] : Array Value)) rfl rfl hE rfl (r_build hE rfl zr42 pl42 (by rfl)) (fun a hE => ?_)
  obtain ⟨qz, H⟩ := H
  obtain ⟨u_4, qu_4, H⟩ := H
  refine t_sth rfl rfl hE hR (r_storeG hE rfl rfl sz42 qz qu_4) (fun a w hE hR hh => ?_)
  replace H := M.at hh H; clear hh
  refine t_nil ?_
  refine hK_3 _ _ ?_
  refine w_ret ?_
  obtain ⟨r2_5, qr2_5, H⟩ := H
  exact hret _ _ _ r2_5 _ hE hR (res_run hE rfl (RV.cellG rfl ag42 qr2_5 RV.nil)) rfl H

/-- (*strings.Builder).WriteString -/
def strings_Builder_WriteString (x0 : Option Addr) (x1 : ByteArray) : M (Int × Value) := do
  let x7_3 ← strings_Builder_copyCheck x0
  let x10_5 ← nilP x0
  let x12_6 ← ldL ((x10_5).add 1)
  let x14_7 ← apS ty_uint8 x12_6 x1
  let x15_8 ← nilP x0
  stV ((x15_8).add 1) ((x14_7 : Sl).v)
  M.pure ((x1.size : Int), Value.nilIface)
theorem S_strings_Builder_WriteString (x0 : Option Addr) (x1 : ByteArray) : Sound Go.Proofs.Tryd.prog 20 #[.pointer x0, .string x1] (fun (r : Int × Value) => .tuple #[.int .i64 r.1, r.2]) (strings_Builder_WriteString x0 x1) := by
  refine sound_of [(0, .pointer x0), (1, .string x1)] Go.Proofs.Tryd.func20 rfl rfl (Nat.le_of_ble_eq_true rfl) (args_of ⟨rfl, rfl, trivial⟩) (fun w0 w Q R a hret hE hR H => ?_)
  unfold strings_Builder_WriteString at H
  refine w_seq (fun K hK_1 => ?_)
  refine t_region ?_
  refine t_val (v := .int .i64 0) rfl rfl hE rfl (r_assign hE rfl) (fun a hE => ?_)
  refine t_val (v := Value.nilIface) rfl rfl hE rfl (r_assign hE rfl) (fun a hE => ?_)
  refine t_nil ?_
  refine hK_1 _ _ ?_
  refine w_seq (fun K hK_2 => ?_)
  refine t_region ?_
  refine t_val (v := .pointer x0) rfl rfl hE rfl (r_move hE rfl) (fun a hE => ?_)
  refine t_call hE hR cl_strings_Builder_copyCheck rfl (S_strings_Builder_copyCheck x0) (M.unbind H) (fun x7_3 a w ea hR H => ?_)
  have hE := Env.put_some hE rfl ea; clear ea
  refine t_nil ?_
  refine hK_2 _ _ ?_
  refine w_seq (fun K hK_4 => ?_)
  refine t_region ?_
  refine t_val (v := .pointer x0) rfl rfl hE rfl (r_move hE rfl) (fun a hE => ?_)
  refine t_val (v := .pointer x0) rfl rfl hE rfl (r_move hE rfl) (fun a hE => ?_)
  obtain ⟨x10_5, qx10_5, H⟩ := H
  refine t_val (v := .pointer (some x10_5)) rfl rfl hE rfl (r_nilCheck hE (hx_eq rfl (congrArg Value.pointer qx10_5))) (fun a hE => ?_)
  refine t_val (v := .pointer (some ((x10_5).add 1))) rfl rfl hE rfl (r_fieldAddr hE rfl fd53_1) (fun a hE => ?_)
  obtain ⟨x12_6, qx12_6, H⟩ := H
  refine t_val (v := (x12_6 : Sl).v) rfl rfl hE rfl (r_load hE rfl sc51 qx12_6) (fun a hE => ?_)
  refine t_val (v := .string x1) rfl rfl hE rfl (r_move hE rfl) (fun a hE => ?_)
  refine t_ex (fun x14_7 => (x14_7 : Sl).v) rfl rfl hR (M.unbind H) (fun Q H => apS_run hE rfl rfl ap51 un9 H) (fun x14_7 a w ea hR H => ?_)
  have hE := Env.put_some hE rfl ea; clear ea
  obtain ⟨x15_8, qx15_8, H⟩ := H
  refine t_val (v := .pointer (some x15_8)) rfl rfl hE rfl (r_nilCheck hE (hx_eq rfl (congrArg Value.pointer qx15_8))) (fun a hE => ?_)
  refine t_val (v := .pointer (some ((x15_8).add 1))) rfl rfl hE rfl (r_fieldAddr hE rfl fd53_1) (fun a hE => ?_)
  obtain ⟨u_9, qu_9, H⟩ := H
  refine t_sth rfl rfl hE hR (r_store hE rfl rfl sz51 qu_9) (fun a w hE hR hh => ?_)
  replace H := M.at hh H; clear hh
  refine t_nil ?_
  refine hK_4 _ _ ?_
  refine w_seq (fun K hK_10 => ?_)
  refine t_region ?_
  refine t_val (v := .string x1) rfl rfl hE rfl (r_move hE rfl) (fun a hE => ?_)
  refine t_val (v := .int .i64 (x1.size : Int)) rfl rfl hE rfl (r_lenS hE rfl un9) (fun a hE => ?_)
  refine t_val (v := .int .i64 (x1.size : Int)) rfl rfl hE rfl (r_assign hE rfl) (fun a hE => ?_)
  refine t_val (v := Value.nilIface) rfl rfl hE rfl (r_assign hE rfl) (fun a hE => ?_)
  refine t_nil ?_
  refine hK_10 _ _ ?_
  refine w_ret ?_
  exact hret _ _ _ ((x1.size : Int), Value.nilIface) _ hE hR (res_run hE rfl (RV.tmp rfl (RV.tmp rfl RV.nil))) rfl H

/-- (*strings.Builder).WriteByte -/
def strings_Builder_WriteByte (x0 : Option Addr) (x1 : Int) : M (Value) := do
  let x6_3 ← strings_Builder_copyCheck x0
  let x9_5 ← nilP x0
  let x11_6 ← ldL ((x9_5).add 1)
  let x13_7 ← bdL ty_uint8 1 #[.int .u8 x1]
  let x14_8 ← apL ty_uint8 1 1 (#[.int .u8 0] : Array Value) x11_6 x13_7
  let x15_9 ← nilP x0
  stV ((x15_9).add 1) ((x14_8 : Sl).v)
  M.pure Value.nilIface
theorem S_strings_Builder_WriteByte (x0 : Option Addr) (x1 : Int) : Sound Go.Proofs.Tryd.prog 21 #[.pointer x0, .int .u8 x1] (fun (r : Value) => r) (strings_Builder_WriteByte x0 x1) := by
  refine sound_of [(0, .pointer x0), (1, .int .u8 x1)] Go.Proofs.Tryd.func21 rfl rfl (Nat.le_of_ble_eq_true rfl) (args_of ⟨rfl, rfl, trivial⟩) (fun w0 w Q R a hret hE hR H => ?_)
  unfold strings_Builder_WriteByte at H
  refine w_seq (fun K hK_1 => ?_)
  refine t_region ?_
  refine t_val (v := Value.nilIface) rfl rfl hE rfl (r_assign hE rfl) (fun a hE => ?_)
  refine t_nil ?_
  refine hK_1 _ _ ?_
  refine w_seq (fun K hK_2 => ?_)
  refine t_region ?_
  refine t_val (v := .pointer x0) rfl rfl hE rfl (r_move hE rfl) (fun a hE => ?_)
  refine t_call hE hR cl_strings_Builder_copyCheck rfl (S_strings_Builder_copyCheck x0) (M.unbind H) (fun x6_3 a w ea hR H => ?_)
  have hE := Env.put_some hE rfl ea; clear ea
  refine t_nil ?_
  refine hK_2 _ _ ?_
  refine w_seq (fun K hK_4 => ?_)
  refine t_region ?_
  refine t_val (v := .pointer x0) rfl rfl hE rfl (r_move hE rfl) (fun a hE => ?_)
  refine t_val (v := .pointer x0) rfl rfl hE rfl (r_move hE rfl) (fun a hE => ?_)
  obtain ⟨x9_5, qx9_5, H⟩ := H
  refine t_val (v := .pointer (some x9_5)) rfl rfl hE rfl (r_nilCheck hE (hx_eq rfl (congrArg Value.pointer qx9_5))) (fun a hE => ?_)
  refine t_val (v := .pointer (some ((x9_5).add 1))) rfl rfl hE rfl (r_fieldAddr hE rfl fd53_1) (fun a hE => ?_)
  obtain ⟨x11_6, qx11_6, H⟩ := H
  refine t_val (v := (x11_6 : Sl).v) rfl rfl hE rfl (r_load hE rfl sc51 qx11_6) (fun a hE => ?_)
  refine t_val (v := .int .u8 x1) rfl rfl hE rfl (r_move hE rfl) (fun a hE => ?_)
  obtain ⟨x13_7, qx13_7, H⟩ := H
  refine t_valh (v := (x13_7 : Sl).v) rfl rfl hE rfl hR (r_buildL (cells := #[.int .u8 x1]) hE rfl un51 sz5 zr5 rfl rfl qx13_7) (fun a w hE hR hh => ?_)
  replace H := M.at hh H; clear hh
  refine t_ex (fun x14_8 => (x14_8 : Sl).v) rfl rfl hR (M.unbind H) (fun Q H => ap_run hE rfl rfl ap51 H) (fun x14_8 a w ea hR H => ?_)
  have hE := Env.put_some hE rfl ea; clear ea
  obtain ⟨x15_9, qx15_9, H⟩ := H
  refine t_val (v := .pointer (some x15_9)) rfl rfl hE rfl (r_nilCheck hE (hx_eq rfl (congrArg Value.pointer qx15_9))) (fun a hE => ?_)
  refine t_val (v := .pointer (some ((x15_9).add 1))) rfl rfl hE rfl (r_fieldAddr hE rfl fd53_1) (fun a hE => ?_)
  obtain ⟨u_10, qu_10, H⟩ := H
  refine t_sth rfl rfl hE hR (r_store hE rfl rfl sz51 qu_10) (fun a w hE hR hh => ?_)
  replace H := M.at hh H; clear hh
  refine t_nil ?_
  refine hK_4 _ _ ?_
  refine w_seq (fun K hK_11 => ?_)
  refine t_region ?_
  refine t_val (v := Value.nilIface) rfl rfl hE rfl (r_assign hE rfl) (fun a hE => ?_)
  refine t_nil ?_
  refine hK_11 _ _ ?_
  refine w_ret ?_
  exact hret _ _ _ Value.nilIface _ hE hR (res_run hE rfl (RV.tmp rfl RV.nil)) rfl H

/-- strconv.FormatInt -/
def strconv_FormatInt (x0 : Int) (x1 : Int) : M (ByteArray) := do
  let x7_3 ← callF Go.Proofs.Tryd.prog fn_internal_strconv_FormatInt #[.int .i64 x0, .int .i64 x1] (fun r : ByteArray => .string r)
  M.pure x7_3
theorem S_strconv_FormatInt (x0 : Int) (x1 : Int) : Sound Go.Proofs.Tryd.prog 86 #[.int .i64 x0, .int .i64 x1] (fun (r : ByteArray) => .string r) (strconv_FormatInt x0 x1) := by
  refine sound_of [(0, .int .i64 x0), (1, .int .i64 x1)] Go.Proofs.Tryd.func86 rfl rfl (Nat.le_of_ble_eq_true rfl) (args_of ⟨rfl, rfl, trivial⟩) (fun w0 w Q R a hret hE hR H => ?_)
  unfold strconv_FormatInt at H
  refine w_seq (fun K hK_1 => ?_)
  refine t_region ?_
  refine t_val (v := .string ByteArray.empty) rfl rfl hE rfl (r_assign hE rfl) (fun a hE => ?_)
  refine t_nil ?_
  refine hK_1 _ _ ?_
  refine w_seq (fun K hK_2 => ?_)
  refine t_region ?_
  refine t_val (v := .int .i64 x0) rfl rfl hE rfl (r_move hE rfl) (fun a hE => ?_)
  refine t_val (v := .int .i64 x1) rfl rfl hE rfl (r_move hE rfl) (fun a hE => ?_)
  refine t_call hE hR cl_internal_strconv_FormatInt rfl (sound_callF) (M.unbind H) (fun x7_3 a w ea hR H => ?_)
  have hE := Env.put_some hE rfl ea; clear ea
  refine t_val (v := .string x7_3) rfl rfl hE rfl (r_assign hE rfl) (fun a hE => ?_)
  refine t_nil ?_
  refine hK_2 _ _ ?_
  refine w_ret ?_
  exact hret _ _ _ x7_3 _ hE hR (res_run hE rfl (RV.tmp rfl RV.nil)) rfl H

/-- ramble/num.Text -/
def num_Text (x0 : Int) : M (ByteArray) := do
  let x4_3 ← strconv_FormatInt x0 10
  M.pure x4_3
theorem S_num_Text (x0 : Int) : Sound Go.Proofs.Tryd.prog 67 #[.int .i64 x0] (fun (r : ByteArray) => .string r) (num_Text x0) := by
  refine sound_of [(0, .int .i64 x0)] Go.Proofs.Tryd.func67 rfl rfl (Nat.le_of_ble_eq_true rfl) (args_of ⟨rfl, trivial⟩) (fun w0 w Q R a hret hE hR H => ?_)
  unfold num_Text at H
  refine w_seq (fun K hK_1 => ?_)
  refine t_region ?_
  refine t_val (v := .string ByteArray.empty) rfl rfl hE rfl (r_assign hE rfl) (fun a hE => ?_)
  refine t_nil ?_
  refine hK_1 _ _ ?_
  refine w_seq (fun K hK_2 => ?_)
  refine t_region ?_
  refine t_val (v := .int .i64 x0) rfl rfl hE rfl (r_move hE rfl) (fun a hE => ?_)
  refine t_call hE hR cl_strconv_FormatInt rfl (S_strconv_FormatInt x0 10) (M.unbind H) (fun x4_3 a w ea hR H => ?_)
  have hE := Env.put_some hE rfl ea; clear ea
  refine t_val (v := .string x4_3) rfl rfl hE rfl (r_assign hE rfl) (fun a hE => ?_)
  refine t_nil ?_
  refine hK_2 _ _ ?_
  refine w_ret ?_
  exact hret _ _ _ x4_3 _ hE hR (res_run hE rfl (RV.tmp rfl RV.nil)) rfl H

/-- ramble/value.quote -/
def value_quote_j1 (self1 : (Int) → M (ByteArray)) (c10_19 : Int) : M (ByteArray) := do
  self1 (IntKind.wrap .i64 (c10_19 + 1))
def value_quote_l1 (c3_10 : Addr) (c8_11 : Sl) (c9_12 : Int) (self1 : (Int) → M (ByteArray)) : (Int) → M (ByteArray) := fun s => match s with
  | x10_9 => do
    M.ite (decide (x10_9 < c9_12)) (do
      let x12_21 ← ixL c8_11 x10_9 1
      let x13_22 ← ldI .u8 x12_21
      let x22_24 ← M.ite (decide (x13_22 < 32)) (do
        M.pure true
        ) (do
        M.pure (decide (x13_22 > 126))
        )
      M.ite x22_24 (do
        let x23_26 ← strings_Builder_WriteString (some c3_10) (⟨#[92, 120]⟩ : ByteArray)
        let x27_28 ← strconv_FormatInt (IntKind.wrap .i64 (iShr .u8 x13_22 4)) 16
        let x28_29 ← strings_Builder_WriteString (some c3_10) x27_28
        let x32_30 ← strconv_FormatInt (IntKind.wrap .i64 (iAnd .u8 x13_22 15)) 16
        let x33_31 ← strings_Builder_WriteString (some c3_10) x32_30
        value_quote_j1 self1 x10_9
        ) (do
        let x40_33 ← M.ite (x13_22 == 39) (do
          M.pure true
          ) (do
          M.pure (x13_22 == 92)
          )
        M.ite x40_33 (do
          let x41_35 ← strings_Builder_WriteByte (some c3_10) 92
          let x43_36 ← strings_Builder_WriteByte (some c3_10) x13_22
          value_quote_j1 self1 x10_9
          ) (do
          let x15_37 ← strings_Builder_WriteByte (some c3_10) x13_22
          value_quote_j1 self1 x10_9
          )
        )
      ) (do
      let x45_39 ← strings_Builder_WriteByte (some c3_10) 39
      let x46_41 ← strings_Builder_String (some c3_10)
      M.pure x46_41
      )
def value_quote (x0 : ByteArray) : M (ByteArray) := do
  let x3_3 ← mkB ty_strings_Builder (#[.pointer none, .slice none 0 0] : Array Value)
  let x6_5 ← strings_Builder_WriteByte (some x3_3) 39
  let x8_8 ← s2b ty_uint8 x0
  M.loop (value_quote_l1 x3_3 x8_8 (x8_8.len : Int)) 0
theorem S_value_quote (x0 : ByteArray) : Sound Go.Proofs.Tryd.prog 68 #[.string x0] (fun (r : ByteArray) => .string r) (value_quote x0) := by
  refine sound_of [(0, .string x0)] Go.Proofs.Tryd.func68 rfl rfl (Nat.le_of_ble_eq_true rfl) (args_of ⟨rfl, trivial⟩) (fun w0 w Q R a hret hE hR H => ?_)
  unfold value_quote at H
  refine w_seq (fun K hK_1 => ?_)
  refine t_region ?_
  refine t_val (v := .string ByteArray.empty) rfl rfl hE rfl (r_assign hE rfl) (fun a hE => ?_)
  refine t_nil ?_
  refine hK_1 _ _ ?_
  refine w_seq (fun K hK_2 => ?_)
  refine t_region ?_
  obtain ⟨x3_3, qx3_3, H⟩ := H
  refine t_valh (v := .pointer (some x3_3)) rfl rfl hE rfl hR (r_alloc zr53 qx3_3) (fun a w hE hR hh => ?_)
  replace H := M.at hh H; clear hh
  refine t_nil ?_
  refine hK_2 _ _ ?_
  refine w_seq (fun K hK_4 => ?_)
  refine t_region ?_
  refine t_call hE hR cl_strings_Builder_WriteByte rfl (S_strings_Builder_WriteByte (some x3_3) 39) (M.unbind H) (fun x6_5 a w ea hR H => ?_)
  have hE := Env.put_some hE rfl ea; clear ea
  refine t_nil ?_
  refine hK_4 _ _ ?_
  refine w_seq (fun K hK_6 => ?_)
  refine w_seq (fun K hK_7 => ?_)
  refine t_region ?_
  refine t_val (v := .string x0) rfl rfl hE rfl (r_move hE rfl) (fun a hE => ?_)
  refine t_ex (fun x8_8 => (x8_8 : Sl).v) rfl rfl hR (M.unbind H) (fun Q H => s2b_run hE rfl un9 un51 un5 H) (fun x8_8 a w ea hR H => ?_)
  have hE := Env.put_some hE rfl ea; clear ea
  refine t_val (v := .int .i64 (x8_8.len : Int)) rfl rfl hE rfl (r_len hE rfl 5 un51) (fun a hE => ?_)
  refine t_val (v := .int .i64 0) rfl rfl hE rfl (r_move hE rfl) (fun a hE => ?_)
  refine t_nil ?_
  refine hK_7 _ _ ?_
  refine w_block ?_
  refine l_loop (fun (s : Int) => (⟨47, []⟩ : Frm)) (fun (s : Int) => [(3, .pointer (some x3_3)), (8, (x8_8 : Sl).v), (9, .int .i64 (x8_8.len : Int)), (10, .int .i64 s)]) H (hE.cut (.cons rfl (.cons rfl (.cons rfl (.cons rfl Subs.nil))))) hR (fun Y self1 hY_13 x10_9 a w hE hR H => ?_)
  replace hE : Env (⟨47, []⟩ : Frm) a [(3, .pointer (some x3_3)), (8, (x8_8 : Sl).v), (9, .int .i64 (x8_8.len : Int)), (10, .int .i64 x10_9)] := hE
  replace H : (value_quote_l1 x3_3 x8_8 (x8_8.len : Int) self1 x10_9).wp w.heap Q := H
  unfold value_quote_l1 at H
  refine w_seq (fun K hK_14 => ?_)
  refine t_region ?_
  refine t_val (v := .bool (decide (x10_9 < (x8_8.len : Int)))) rfl rfl hE rfl (r_bin hE rfl rfl g_int b_lss) (fun a hE => ?_)
  refine t_nil ?_
  refine hK_14 _ _ ?_
  refine w_seq (fun K hK_15 => ?_)
  refine w_cond (decide (x10_9 < (x8_8.len : Int))) hE rfl (fun hb => ?_) (fun hb => ?_)
  · replace H := M.ite_t hb H
    refine w_skip ?_
    refine hK_15 _ _ ?_
    refine w_seq_join (fun a w => Env (⟨47, []⟩ : Frm) a [(3, .pointer (some x3_3)), (8, (x8_8 : Sl).v), (9, .int .i64 (x8_8.len : Int)), (10, .int .i64 x10_9)] ∧ Rest w0 w ∧ (value_quote_j1 self1 x10_9).wp w.heap Q) ?_ ?_
    · rintro a w ⟨hE, hR, H⟩
      unfold value_quote_j1 at H
      refine t_region ?_
      refine t_val (v := .int .i64 (IntKind.wrap .i64 (x10_9 + 1))) rfl rfl hE rfl (r_bin hE rfl rfl g_int b_add) (fun a hE => ?_)
      refine t_val (v := .int .i64 (IntKind.wrap .i64 (x10_9 + 1))) rfl rfl hE rfl (r_move hE rfl) (fun a hE => ?_)
      refine t_nil ?_
      exact hY_13 (IntKind.wrap .i64 (x10_9 + 1)) _ _ (hE.cut (.cons rfl (.cons rfl (.cons rfl (.cons rfl Subs.nil))))) hR H
    · skip
      refine w_block ?_
      refine w_seq (fun K hK_20 => ?_)
      refine t_region ?_
      obtain ⟨x12_21, qx12_21, H⟩ := H
      refine t_val (v := .pointer (some x12_21)) rfl rfl hE rfl (r_indexAddrL hE rfl rfl un51 sz5 qx12_21) (fun a hE => ?_)
      obtain ⟨x13_22, qx13_22, H⟩ := H
      refine t_val (v := .int .u8 x13_22) rfl rfl hE rfl (r_load hE rfl sc5 qx13_22) (fun a hE => ?_)
      refine t_val (v := .int .u8 x13_22) rfl rfl hE rfl (r_assign hE rfl) (fun a hE => ?_)
      refine t_nil ?_
      refine hK_20 _ _ ?_
      refine w_block ?_
      refine w_seq (fun K hK_23 => ?_)
      refine t_region ?_
      refine t_val (v := .int .u8 x13_22) rfl rfl hE rfl (r_move hE rfl) (fun a hE => ?_)
      refine t_val (v := .bool (decide (x13_22 < 32))) rfl rfl hE rfl (r_bin hE rfl rfl g_int b_lss) (fun a hE => ?_)
      refine t_val (v := .bool (decide (x13_22 < 32))) rfl rfl hE rfl (r_move hE rfl) (fun a hE => ?_)
      refine t_grp (n := (⟨47, []⟩ : Frm)) (w0 := w0) 3 (fun x22_24 : Bool => [(3, .pointer (some x3_3)), (8, (x8_8 : Sl).v), (9, .int .i64 (x8_8.len : Int)), (10, .int .i64 x10_9), (5, .int .u8 x13_22), (22, .bool x22_24)]) (M.unbind H) (fun Kr hKr H => ?_) ?_
      · rcases bool_em (decide (x13_22 < 32)) with hb | hb
        · replace H := M.ite_t hb H
          have hE := hE.reb 19 (decide (x13_22 < 32)) true hb rfl
          refine t_off rfl hE rfl rfl rfl (fun a ea => ?_)
          have hE := Env.put_some hE rfl ea; clear ea
          refine t_off rfl hE rfl rfl rfl (fun a ea => ?_)
          have hE := Env.put_some hE rfl ea; clear ea
          refine t_val rfl rfl hE rfl (r_pick_t hE rfl rfl) (fun a hE => ?_)
          refine t_nil ?_
          exact hKr _ _ _ (hE.cut (.cons rfl (.cons rfl (.cons rfl (.cons rfl (.cons rfl (.cons rfl Subs.nil))))))) hR H
        · replace H := M.ite_f hb H
          have hE := hE.reb 19 (decide (x13_22 < 32)) false hb rfl
          refine t_on rfl hE rfl rfl rfl ?_
          refine t_val (v := .int .u8 x13_22) rfl rfl hE rfl (r_move hE rfl) (fun a hE => ?_)
          refine t_on rfl hE rfl rfl rfl ?_
          refine t_val (v := .bool (decide (x13_22 > 126))) rfl rfl hE rfl (r_bin hE rfl rfl g_int b_gtr) (fun a hE => ?_)
          refine t_val rfl rfl hE rfl (r_pick_f hE rfl rfl) (fun a hE => ?_)
          refine t_nil ?_
          exact hKr _ _ _ (hE.cut (.cons rfl (.cons rfl (.cons rfl (.cons rfl (.cons rfl (.cons rfl Subs.nil))))))) hR H
      · intro x22_24 a w hE hR H
        refine t_val (v := .bool x22_24) rfl rfl hE rfl (r_assign hE rfl) (fun a hE => ?_)
        refine t_nil ?_
        refine hK_23 _ _ ?_
        refine w_cond x22_24 hE rfl (fun hb => ?_) (fun hb => ?_)
        · replace H := M.ite_t hb H
          refine w_seq (fun K hK_25 => ?_)
          refine t_region ?_
          refine t_call hE hR cl_strings_Builder_WriteString rfl (S_strings_Builder_WriteString (some x3_3) (⟨#[92, 120]⟩ : ByteArray)) (M.unbind H) (fun x23_26 a w ea hR H => ?_)
          have hE := Env.put_some hE rfl ea; clear ea
          refine t_nil ?_
          refine hK_25 _ _ ?_
          refine w_seq (fun K hK_27 => ?_)
          refine t_region ?_
          refine t_val (v := .int .u8 x13_22) rfl rfl hE rfl (r_move hE rfl) (fun a hE => ?_)
          refine t_val (v := .int .u8 (iShr .u8 x13_22 4)) rfl rfl hE rfl (r_bin hE rfl rfl g_int (b_shr ⟨by decide, rfl⟩)) (fun a hE => ?_)
          refine t_val (v := .int .i64 (IntKind.wrap .i64 (iShr .u8 x13_22 4))) rfl rfl hE rfl (r_convI hE rfl un5 un2) (fun a hE => ?_)
          refine t_call hE hR cl_strconv_FormatInt rfl (S_strconv_FormatInt (IntKind.wrap .i64 (iShr .u8 x13_22 4)) 16) (M.unbind H) (fun x27_28 a w ea hR H => ?_)
          have hE := Env.put_some hE rfl ea; clear ea
          refine t_call hE hR cl_strings_Builder_WriteString rfl (S_strings_Builder_WriteString (some x3_3) x27_28) (M.unbind H) (fun x28_29 a w ea hR H => ?_)
          have hE := Env.put_some hE rfl ea; clear ea
          refine t_nil ?_
          refine hK_27 _ _ ?_
          refine t_region ?_
          refine t_val (v := .int .u8 x13_22) rfl rfl hE rfl (r_move hE rfl) (fun a hE => ?_)
          refine t_val (v := .int .u8 (iAnd .u8 x13_22 15)) rfl rfl hE rfl (r_bin hE rfl rfl g_int b_and) (fun a hE => ?_)
          refine t_val (v := .int .i64 (IntKind.wrap .i64 (iAnd .u8 x13_22 15))) rfl rfl hE rfl (r_convI hE rfl un5 un2) (fun a hE => ?_)
          refine t_call hE hR cl_strconv_FormatInt rfl (S_strconv_FormatInt (IntKind.wrap .i64 (iAnd .u8 x13_22 15)) 16) (M.unbind H) (fun x32_30 a w ea hR H => ?_)
          have hE := Env.put_some hE rfl ea; clear ea
          refine t_call hE hR cl_strings_Builder_WriteString rfl (S_strings_Builder_WriteString (some x3_3) x32_30) (M.unbind H) (fun x33_31 a w ea hR H => ?_)
          have hE := Env.put_some hE rfl ea; clear ea
          refine t_nil ?_
          exact ⟨hE.cut (.cons rfl (.cons rfl (.cons rfl (.cons rfl Subs.nil)))), hR, H⟩
        · replace H := M.ite_f hb H
          refine w_seq (fun K hK_32 => ?_)
          refine t_region ?_
          refine t_val (v := .int .u8 x13_22) rfl rfl hE rfl (r_move hE rfl) (fun a hE => ?_)
          refine t_val (v := .bool (x13_22 == 39)) rfl rfl hE rfl (r_bin hE rfl rfl g_int b_eql) (fun a hE => ?_)
          refine t_val (v := .bool (x13_22 == 39)) rfl rfl hE rfl (r_move hE rfl) (fun a hE => ?_)
          refine t_grp (n := (⟨47, []⟩ : Frm)) (w0 := w0) 3 (fun x40_33 : Bool => [(3, .pointer (some x3_3)), (8, (x8_8 : Sl).v), (9, .int .i64 (x8_8.len : Int)), (10, .int .i64 x10_9), (5, .int .u8 x13_22), (40, .bool x40_33)]) (M.unbind H) (fun Kr hKr H => ?_) ?_
          · rcases bool_em (x13_22 == 39) with hb | hb
            · replace H := M.ite_t hb H
              have hE := hE.reb 37 (x13_22 == 39) true hb rfl
              refine t_off rfl hE rfl rfl rfl (fun a ea => ?_)
              have hE := Env.put_some hE rfl ea; clear ea
              refine t_off rfl hE rfl rfl rfl (fun a ea => ?_)
              have hE := Env.put_some hE rfl ea; clear ea
              refine t_val rfl rfl hE rfl (r_pick_t hE rfl rfl) (fun a hE => ?_)
              refine t_nil ?_
              exact hKr _ _ _ (hE.cut (.cons rfl (.cons rfl (.cons rfl (.cons rfl (.cons rfl (.cons rfl Subs.nil))))))) hR H
            · replace H := M.ite_f hb H
              have hE := hE.reb 37 (x13_22 == 39) false hb rfl
              refine t_on rfl hE rfl rfl rfl ?_
              refine t_val (v := .int .u8 x13_22) rfl rfl hE rfl (r_move hE rfl) (fun a hE => ?_)
              refine t_on rfl hE rfl rfl rfl ?_
              refine t_val (v := .bool (x13_22 == 92)) rfl rfl hE rfl (r_bin hE rfl rfl g_int b_eql) (fun a hE => ?_)
              refine t_val rfl rfl hE rfl (r_pick_f hE rfl rfl) (fun a hE => ?_)
              refine t_nil ?_
              exact hKr _ _ _ (hE.cut (.cons rfl (.cons rfl (.cons rfl (.cons rfl (.cons rfl (.cons rfl Subs.nil))))))) hR H
          · intro x40_33 a w hE hR H
            refine t_val (v := .bool x40_33) rfl rfl hE rfl (r_assign hE rfl) (fun a hE => ?_)
            refine t_nil ?_
            refine hK_32 _ _ ?_
            refine w_cond x40_33 hE rfl (fun hb => ?_) (fun hb => ?_)
            · replace H := M.ite_t hb H
              refine w_seq (fun K hK_34 => ?_)
              refine t_region ?_
              refine t_call hE hR cl_strings_Builder_WriteByte rfl (S_strings_Builder_WriteByte (some x3_3) 92) (M.unbind H) (fun x41_35 a w ea hR H => ?_)
              have hE := Env.put_some hE rfl ea; clear ea
              refine t_nil ?_
              refine hK_34 _ _ ?_
              refine t_region ?_
              refine t_val (v := .int .u8 x13_22) rfl rfl hE rfl (r_move hE rfl) (fun a hE => ?_)
              refine t_call hE hR cl_strings_Builder_WriteByte rfl (S_strings_Builder_WriteByte (some x3_3) x13_22) (M.unbind H) (fun x43_36 a w ea hR H => ?_)
              have hE := Env.put_some hE rfl ea; clear ea
              refine t_nil ?_
              exact ⟨hE.cut (.cons rfl (.cons rfl (.cons rfl (.cons rfl Subs.nil)))), hR, H⟩
            · replace H := M.ite_f hb H
              refine t_region ?_
              refine t_val (v := .int .u8 x13_22) rfl rfl hE rfl (r_move hE rfl) (fun a hE => ?_)
              refine t_call hE hR cl_strings_Builder_WriteByte rfl (S_strings_Builder_WriteByte (some x3_3) x13_22) (M.unbind H) (fun x15_37 a w ea hR H => ?_)
              have hE := Env.put_some hE rfl ea; clear ea
              refine t_nil ?_
              exact ⟨hE.cut (.cons rfl (.cons rfl (.cons rfl (.cons rfl Subs.nil)))), hR, H⟩
  · replace H := M.ite_f hb H
    refine w_exit ?_
    refine Xu.same ?_
    refine hK_6 _ _ ?_
    refine w_seq (fun K hK_38 => ?_)
    refine t_region ?_
    refine t_call hE hR cl_strings_Builder_WriteByte rfl (S_strings_Builder_WriteByte (some x3_3) 39) (M.unbind H) (fun x45_39 a w ea hR H => ?_)
    have hE := Env.put_some hE rfl ea; clear ea
    refine t_nil ?_
    refine hK_38 _ _ ?_
    refine w_seq (fun K hK_40 => ?_)
    refine t_region ?_
    refine t_call hE hR cl_strings_Builder_String rfl (S_strings_Builder_String (some x3_3)) (M.unbind H) (fun x46_41 a w ea hR H => ?_)
    have hE := Env.put_some hE rfl ea; clear ea
    refine t_val (v := .string x46_41) rfl rfl hE rfl (r_assign hE rfl) (fun a hE => ?_)
    refine t_nil ?_
    refine hK_40 _ _ ?_
    refine w_ret ?_
    exact hret _ _ _ x46_41 _ hE hR (res_run hE rfl (RV.tmp rfl RV.nil)) rfl H

/-- (*strings.Builder).grow -/
noncomputable def ro98_0 : Array Oper := opsOf Go.Proofs.Tryd.f98 0
def tE98_0 : List (List Nat) := [[], [0], [1], [2], [3], [4], [], [5, 6], [7], [], [9], [10], [11], [12], [8, 13], [14, 8, 0, 1, 2, 3, 4, 5, 6, 7, 8, 9, 10, 11, 12, 13, 14]]
def tC98_0 : List (List Nat) := [[], [0], [1], [2], [3], [4], [], [5, 6], [7], [], [9], [10], [11], [12], [8, 13], [14]]
def tW98_0 : List (List Nat) := [[], [0], [0, 1], [0, 1, 2], [0, 1, 2, 3], [0, 1, 2, 3, 4], [], [0, 1, 2, 3, 4, 5, 6], [0, 1, 2, 3, 4, 5, 6, 7], [], [9], [9, 10], [9, 10, 11], [9, 10, 11, 12], [0, 1, 2, 3, 4, 5, 6, 7, 8, 9, 10, 11, 12, 13], [0, 1, 2, 3, 4, 5, 6, 7, 8, 9, 10, 11, 12, 13, 14]]
theorem tb98_0 : tabAt Go.Proofs.Tryd.f98 0 tE98_0 tC98_0 tW98_0 = true := by kernel_rfl
theorem tb98_0m : tabMB 16 tE98_0 tC98_0 tW98_0 [0, 1, 2, 4, 8, 16, 0, 96, 128, 0, 512, 1024, 2048, 4096, 8448, 32767] [0, 1, 2, 4, 8, 16, 0, 96, 128, 0, 512, 1024, 2048, 4096, 8448, 16384] [0, 1, 3, 7, 15, 31, 0, 127, 255, 0, 512, 1536, 3584, 7680, 16383, 32767] = true := by kernel_rfl
def strings_Builder_grow (x0 : Option Addr) (x1 : Int) : M (Unit) := do
  let x6_2 ← nilP x0
  let x15_3 ← nilP x0
  let x8_4 ← ldL ((x6_2).add 1)
  let x17_5 ← ldL ((x15_3).add 1)
  let x13_6 ← mnz ty_uint8 (IntKind.wrap .i64 ((IntKind.wrap .i64 (2 * (x8_4.cap : Int))) + x1))
  chk (fun h : Heap => (hcell h ((x6_2).add 1) = some ((x8_4 : Sl).v)) ∧ (hcell h ((x15_3).add 1) = some ((x17_5 : Sl).v)))
  let x19_7 ← slL x13_6 0 (x17_5.len : Int) 1
  let x22_9 ← nilP x0
  let x24_10 ← ldL ((x22_9).add 1)
  let x25_11 ← cpL 1 x19_7 x24_10
  let x28_12 ← nilP x0
  stV ((x28_12).add 1) ((x19_7 : Sl).v)
  M.pure ()
theorem S_strings_Builder_grow (x0 : Option Addr) (x1 : Int) : Sound Go.Proofs.Tryd.prog 98 #[.pointer x0, .int .i64 x1] (fun (r : Unit) => .tuple #[]) (strings_Builder_grow x0 x1) := by
  refine sound_of [(0, .pointer x0), (1, .int .i64 x1)] Go.Proofs.Tryd.func98 rfl rfl (Nat.le_of_ble_eq_true rfl) (args_of ⟨rfl, rfl, trivial⟩) (fun w0 w Q R a hret hE hR H => ?_)
  unfold strings_Builder_grow at H
  refine w_seq (fun K hK_1 => ?_)
  obtain ⟨x6_2, qx6_2, H⟩ := H
  obtain ⟨x15_3, qx15_3, H⟩ := H
  obtain ⟨x8_4, qx8_4, H⟩ := H
  obtain ⟨x17_5, qx17_5, H⟩ := H
  refine reg_eq (rops := ro98_0) (by kernel_rfl) ?_
  have hT : Tab ro98_0 _ _ _ := tab_of tb98_0 rfl (by kernel_rfl)
  have hM := TabM.of tb98_0m
  refine d_start (m := 16) (fun w : World => (fun h : Heap => (hcell h ((x6_2).add 1) = some ((x8_4 : Sl).v)) ∧ (hcell h ((x15_3).add 1) = some ((x17_5 : Sl).v))) w.heap) [14, 15] (unb 16 0) mo hR (by kernel_rfl) (by kernel_rfl) (fun w' e => by rw [e]; exact ⟨qx8_4, qx17_5⟩) (fun w hh hR hs => ?_)
  replace H := M.at hh H; clear hh
  refine d_pureg (i := 0) (v := .pointer x0) (unb 16 1) rfl rfl hT (anyM hM (by kernel_rfl)) hE rfl (wanted_none rfl) (fun w => r_move hE rfl) (fun a hE => ?_)
  refine d_pureg (i := 1) (v := .pointer (some x6_2)) (unb 16 3) rfl rfl hT (anyM hM (by kernel_rfl)) hE rfl (wanted_none rfl) (fun w => r_nilCheck hE (hx_eq rfl (congrArg Value.pointer qx6_2))) (fun a hE => ?_)
  refine d_pureg (i := 2) (v := .pointer (some ((x6_2).add 1))) (unb 16 7) rfl rfl hT (anyM hM (by kernel_rfl)) hE rfl (wanted_none rfl) (fun w => r_fieldAddr hE rfl fd53_1) (fun a hE => ?_)
  refine d_pureg (i := 6) (v := .int .i64 x1) (unb 16 71) rfl rfl hT (anyM hM (by kernel_rfl)) hE rfl (wanted_none rfl) (fun w => r_move hE rfl) (fun a hE => ?_)
  refine d_pureg (i := 9) (v := .pointer x0) (unb 16 583) rfl rfl hT (anyM hM (by kernel_rfl)) hE rfl (wanted_none rfl) (fun w => r_move hE rfl) (fun a hE => ?_)
  refine d_pureg (i := 10) (v := .pointer (some x15_3)) (unb 16 1607) rfl rfl hT (anyM hM (by kernel_rfl)) hE rfl (wanted_none rfl) (fun w => r_nilCheck hE (hx_eq rfl (congrArg Value.pointer qx15_3))) (fun a hE => ?_)
  refine d_pureg (i := 11) (v := .pointer (some ((x15_3).add 1))) (unb 16 3655) rfl rfl hT (anyM hM (by kernel_rfl)) hE rfl (wanted_none rfl) (fun w => r_fieldAddr hE rfl fd53_1) (fun a hE => ?_)
  refine d_read (i := 3) (v := (x8_4 : Sl).v) (unb 16 3663) rfl rfl hT (takeM hM (by kernel_rfl)) hE rfl (wanted_none rfl) hs (fun w s => r_load hE rfl sc51 s.1) (fun a hE => ?_)
  refine d_pureg (i := 4) (v := .int .i64 (x8_4.cap : Int)) (unb 16 3679) rfl rfl hT (anyM hM (by kernel_rfl)) hE rfl (wanted_none rfl) (fun w => r_cap hE rfl 5 un51) (fun a hE => ?_)
  refine d_pureg (i := 5) (v := .int .i64 (IntKind.wrap .i64 (2 * (x8_4.cap : Int)))) (unb 16 3711) rfl rfl hT (anyM hM (by kernel_rfl)) hE rfl (wanted_none rfl) (fun w => r_bin hE rfl rfl g_int b_mul) (fun a hE => ?_)
  refine d_pureg (i := 7) (v := .int .i64 (IntKind.wrap .i64 ((IntKind.wrap .i64 (2 * (x8_4.cap : Int))) + x1))) (unb 16 3839) rfl rfl hT (anyM hM (by kernel_rfl)) hE rfl (wanted_none rfl) (fun w => r_bin hE rfl rfl g_int b_add) (fun a hE => ?_)
  refine d_read (i := 12) (v := (x17_5 : Sl).v) (unb 16 7935) rfl rfl hT (takeM hM (by kernel_rfl)) hE rfl (wanted_none rfl) hs (fun w s => r_load hE rfl sc51 s.2) (fun a hE => ?_)
  refine d_pureg (i := 13) (v := .int .i64 (x17_5.len : Int)) (unb 16 16127) rfl rfl hT (anyM hM (by kernel_rfl)) hE rfl (wanted_none rfl) (fun w => r_len hE rfl 5 un51) (fun a hE => ?_)
  refine d_ex (i := 8) (fun x13_6 => (x13_6 : Sl).v) (unb 16 16383) rfl rfl hT (oneM hM (by kernel_rfl)) rfl hR (wanted_none rfl) (M.unbind H) (fun Q H => mnz_run (ps := #[3]) hE rfl Go.Proofs.Tryd.func106 (by kernel_rfl) (by kernel_rfl) (by kernel_rfl) (by kernel_rfl) un51 H) (fun r h H w' e => by obtain ⟨_, sA, H⟩ := H; rw [e]; exact sA) (fun x13_6 a w ea hR H hs => ?_)
  obtain ⟨_, sA, H⟩ := H; clear sA
  have hE := Env.put_some hE rfl ea; clear ea
  obtain ⟨x19_7, qx19_7, H⟩ := H
  refine d_pureg (i := 14) (v := (x19_7 : Sl).v) (unb 16 32767) rfl rfl hT (anyM hM (by kernel_rfl)) hE rfl (wanted_none rfl) (fun w => r_sliceL_h hE rfl rfl un51 sz5 qx19_7) (fun a hE => ?_)
  refine d_pureg (i := 15) (v := (x19_7 : Sl).v) (unb 16 65535) rfl rfl hT (anyM hM (by kernel_rfl)) hE rfl (wanted_none rfl) (fun w => r_assign hE rfl) (fun a hE => ?_)
  refine d_done hT (doneM hM (by kernel_rfl)) ?_
  refine hK_1 _ _ ?_
  refine w_seq (fun K hK_8 => ?_)
  refine t_region ?_
  refine t_val (v := (x19_7 : Sl).v) rfl rfl hE rfl (r_move hE rfl) (fun a hE => ?_)
  refine t_val (v := .pointer x0) rfl rfl hE rfl (r_move hE rfl) (fun a hE => ?_)
  obtain ⟨x22_9, qx22_9, H⟩ := H
  refine t_val (v := .pointer (some x22_9)) rfl rfl hE rfl (r_nilCheck hE (hx_eq rfl (congrArg Value.pointer qx22_9))) (fun a hE => ?_)
  refine t_val (v := .pointer (some ((x22_9).add 1))) rfl rfl hE rfl (r_fieldAddr hE rfl fd53_1) (fun a hE => ?_)
  obtain ⟨x24_10, qx24_10, H⟩ := H
  refine t_val (v := (x24_10 : Sl).v) rfl rfl hE rfl (r_load hE rfl sc51 qx24_10) (fun a hE => ?_)
  refine t_ex (fun x25_11 => .int .i64 x25_11) rfl rfl hR (M.unbind H) (fun Q H => cp_run hE rfl rfl un51 sz5 H) (fun x25_11 a w ea hR H => ?_)
  have hE := Env.put_some hE rfl ea; clear ea
  refine t_nil ?_
  refine hK_8 _ _ ?_
  refine t_region ?_
  refine t_val (v := .pointer x0) rfl rfl hE rfl (r_move hE rfl) (fun a hE => ?_)
  refine t_val (v := (x19_7 : Sl).v) rfl rfl hE rfl (r_move hE rfl) (fun a hE => ?_)
  obtain ⟨x28_12, qx28_12, H⟩ := H
  refine t_val (v := .pointer (some x28_12)) rfl rfl hE rfl (r_nilCheck hE (hx_eq rfl (congrArg Value.pointer qx28_12))) (fun a hE => ?_)
  refine t_val (v := .pointer (some ((x28_12).add 1))) rfl rfl hE rfl (r_fieldAddr hE rfl fd53_1) (fun a hE => ?_)
  obtain ⟨u_13, qu_13, H⟩ := H
  refine t_sth rfl rfl hE hR (r_store hE rfl rfl sz51 qu_13) (fun a w hE hR hh => ?_)
  replace H := M.at hh H; clear hh
  refine t_nil ?_
  exact hret _ _ _ () _ hE hR (res_run hE rfl RV.nil) rfl H

/-- (*strings.Builder).Grow -/
theorem tb87_3 : tabAt Go.Proofs.Tryd.f87 3 [[], [0], [1], [2], [3], [], [5], [6], [7], [8], [4, 9], [], [10, 11]] [[], [0], [1], [2], [3], [], [5], [6], [7], [8], [4, 9], [], [10, 11]] [[], [0], [0, 1], [0, 1, 2], [0, 1, 2, 3], [], [5], [5, 6], [5, 6, 7], [5, 6, 7, 8], [0, 1, 2, 3, 4, 5, 6, 7, 8, 9], [], [0, 1, 2, 3, 4, 5, 6, 7, 8, 9, 10, 11]] = true := by kernel_rfl
def strings_Builder_Grow (x0 : Option Addr) (x1 : Int) : M (Unit) := do
  let x5_2 ← strings_Builder_copyCheck x0
  M.ite (decide (x1 < 0)) (do
    M.fail
    ) (do
    let x10_6 ← nilP x0
    let x15_7 ← nilP x0
    let x12_8 ← ldL ((x10_6).add 1)
    let x17_9 ← ldL ((x15_7).add 1)
    M.ite (decide ((IntKind.wrap .i64 ((x12_8.cap : Int) - (x17_9.len : Int))) < x1)) (do
      let x24_10 ← strings_Builder_grow x0 x1
      M.pure ()
      ) (do
      M.pure ()
      )
    )
theorem S_strings_Builder_Grow (x0 : Option Addr) (x1 : Int) : Sound Go.Proofs.Tryd.prog 87 #[.pointer x0, .int .i64 x1] (fun (r : Unit) => .tuple #[]) (strings_Builder_Grow x0 x1) := by
  refine sound_of [(0, .pointer x0), (1, .int .i64 x1)] Go.Proofs.Tryd.func87 rfl rfl (Nat.le_of_ble_eq_true rfl) (args_of ⟨rfl, rfl, trivial⟩) (fun w0 w Q R a hret hE hR H => ?_)
  unfold strings_Builder_Grow at H
  refine w_seq (fun K hK_1 => ?_)
  refine t_region ?_
  refine t_val (v := .pointer x0) rfl rfl hE rfl (r_move hE rfl) (fun a hE => ?_)
  refine t_call hE hR cl_strings_Builder_copyCheck rfl (S_strings_Builder_copyCheck x0) (M.unbind H) (fun x5_2 a w ea hR H => ?_)
  have hE := Env.put_some hE rfl ea; clear ea
  refine t_nil ?_
  refine hK_1 _ _ ?_
  refine w_seq (fun K hK_3 => ?_)
  refine w_seq (fun K hK_4 => ?_)
  refine t_region ?_
  refine t_val (v := .int .i64 x1) rfl rfl hE rfl (r_move hE rfl) (fun a hE => ?_)
  refine t_val (v := .bool (decide (x1 < 0))) rfl rfl hE rfl (r_bin hE rfl rfl g_int b_lss) (fun a hE => ?_)
  refine t_nil ?_
  refine hK_4 _ _ ?_
  refine w_cond (decide (x1 < 0)) hE rfl (fun hb => ?_) (fun hb => ?_)
  · replace H := M.ite_t hb H
    exact False.elim H
  · replace H := M.ite_f hb H
    refine w_skip ?_
    refine hK_3 _ _ ?_
    refine w_seq (fun K hK_5 => ?_)
    obtain ⟨x10_6, qx10_6, H⟩ := H
    obtain ⟨x15_7, qx15_7, H⟩ := H
    obtain ⟨x12_8, qx12_8, H⟩ := H
    obtain ⟨x17_9, qx17_9, H⟩ := H
    have hT := tab_of tb87_3 rfl rfl
    refine d_start (fun w : World => (fun h : Heap => (hcell h ((x10_6).add 1) = some ((x12_8 : Sl).v)) ∧ (hcell h ((x15_7).add 1) = some ((x17_9 : Sl).v))) w.heap) [10, 12] #[false, false, false, false, false, false, false, false, false, false, false, false, false] mo hR rfl rfl (fun w' e => by rw [e]; exact ⟨qx12_8, qx17_9⟩) (fun w hh hR hs => ?_)
    replace H := M.at hh H; clear hh
    refine d_pureg (i := 0) (v := .pointer x0) #[true, false, false, false, false, false, false, false, false, false, false, false, false] rfl rfl hT (by kernel_rfl) hE rfl (wanted_none rfl) (fun w => r_move hE rfl) (fun a hE => ?_)
    refine d_pureg (i := 1) (v := .pointer (some x10_6)) #[true, true, false, false, false, false, false, false, false, false, false, false, false] rfl rfl hT (by kernel_rfl) hE rfl (wanted_none rfl) (fun w => r_nilCheck hE (hx_eq rfl (congrArg Value.pointer qx10_6))) (fun a hE => ?_)
    refine d_pureg (i := 2) (v := .pointer (some ((x10_6).add 1))) #[true, true, true, false, false, false, false, false, false, false, false, false, false] rfl rfl hT (by kernel_rfl) hE rfl (wanted_none rfl) (fun w => r_fieldAddr hE rfl fd53_1) (fun a hE => ?_)
    refine d_pureg (i := 5) (v := .pointer x0) #[true, true, true, false, false, true, false, false, false, false, false, false, false] rfl rfl hT (by kernel_rfl) hE rfl (wanted_none rfl) (fun w => r_move hE rfl) (fun a hE => ?_)
    refine d_pureg (i := 6) (v := .pointer (some x15_7)) #[true, true, true, false, false, true, true, false, false, false, false, false, false] rfl rfl hT (by kernel_rfl) hE rfl (wanted_none rfl) (fun w => r_nilCheck hE (hx_eq rfl (congrArg Value.pointer qx15_7))) (fun a hE => ?_)
    refine d_pureg (i := 7) (v := .pointer (some ((x15_7).add 1))) #[true, true, true, false, false, true, true, true, false, false, false, false, false] rfl rfl hT (by kernel_rfl) hE rfl (wanted_none rfl) (fun w => r_fieldAddr hE rfl fd53_1) (fun a hE => ?_)
    refine d_pureg (i := 11) (v := .int .i64 x1) #[true, true, true, false, false, true, true, true, false, false, false, true, false] rfl rfl hT (by kernel_rfl) hE rfl (wanted_none rfl) (fun w => r_move hE rfl) (fun a hE => ?_)
    refine d_read (i := 3) (v := (x12_8 : Sl).v) #[true, true, true, true, false, true, true, true, false, false, false, true, false] rfl rfl hT (by kernel_rfl) hE rfl (wanted_none rfl) hs (fun w s => r_load hE rfl sc51 s.1) (fun a hE => ?_)
    refine d_pureg (i := 4) (v := .int .i64 (x12_8.cap : Int)) #[true, true, true, true, true, true, true, true, false, false, false, true, false] rfl rfl hT (by kernel_rfl) hE rfl (wanted_none rfl) (fun w => r_cap hE rfl 5 un51) (fun a hE => ?_)
    refine d_read (i := 8) (v := (x17_9 : Sl).v) #[true, true, true, true, true, true, true, true, true, false, false, true, false] rfl rfl hT (by kernel_rfl) hE rfl (wanted_none rfl) hs (fun w s => r_load hE rfl sc51 s.2) (fun a hE => ?_)
    refine d_pureg (i := 9) (v := .int .i64 (x17_9.len : Int)) #[true, true, true, true, true, true, true, true, true, true, false, true, false] rfl rfl hT (by kernel_rfl) hE rfl (wanted_none rfl) (fun w => r_len hE rfl 5 un51) (fun a hE => ?_)
    refine d_pureg (i := 10) (v := .int .i64 (IntKind.wrap .i64 ((x12_8.cap : Int) - (x17_9.len : Int)))) #[true, true, true, true, true, true, true, true, true, true, true, true, false] rfl rfl hT (by kernel_rfl) hE rfl (wanted_none rfl) (fun w => r_bin hE rfl rfl g_int b_sub) (fun a hE => ?_)
    refine d_pureg (i := 12) (v := .bool (decide ((IntKind.wrap .i64 ((x12_8.cap : Int) - (x17_9.len : Int))) < x1))) #[true, true, true, true, true, true, true, true, true, true, true, true, true] rfl rfl hT (by kernel_rfl) hE rfl (wanted_none rfl) (fun w => r_bin hE rfl rfl g_int b_lss) (fun a hE => ?_)
    refine d_done hT (by kernel_rfl) ?_
    refine hK_5 _ _ ?_
    refine w_cond (decide ((IntKind.wrap .i64 ((x12_8.cap : Int) - (x17_9.len : Int))) < x1)) hE rfl (fun hb => ?_) (fun hb => ?_)
    · replace H := M.ite_t hb H
      refine t_region ?_
      refine t_val (v := .pointer x0) rfl rfl hE rfl (r_move hE rfl) (fun a hE => ?_)
      refine t_val (v := .int .i64 x1) rfl rfl hE rfl (r_move hE rfl) (fun a hE => ?_)
      refine t_call hE hR cl_strings_Builder_grow rfl (S_strings_Builder_grow x0 x1) (M.unbind H) (fun x24_10 a w ea hR H => ?_)
      have hE := Env.put_some hE rfl ea; clear ea
      refine t_nil ?_
      exact hret _ _ _ () _ hE hR (res_run hE rfl RV.nil) rfl H
    · replace H := M.ite_f hb H
      refine w_skip ?_
      exact hret _ _ _ () _ hE hR (res_run hE rfl RV.nil) rfl H

end Gx
namespace Gx
open Go
set_option linter.unusedVariables false
set_option maxRecDepth 100000
/-- strings.Join -/
def strings_Join_l2 (c1_43 : ByteArray) (c8_44 : Addr) (c63_45 : Sl) (c64_46 : Int) (self2 : (Int) → M (ByteArray)) : (Int) → M (ByteArray) := fun s => match s with
  | x65_42 => do
    M.ite (decide (x65_42 < c64_46)) (do
      let x67_52 ← ixL c63_45 x65_42 1
      let x68_53 ← ldS x67_52
      let x70_55 ← strings_Builder_WriteString (some c8_44) c1_43
      let x72_56 ← strings_Builder_WriteString (some c8_44) x68_53
      self2 (IntKind.wrap .i64 (x65_42 + 1))
      ) (do
      let x74_58 ← strings_Builder_String (some c8_44)
      M.pure x74_58
      )
def strings_Join_l1 (c0_18 : Sl) (c1_19 : ByteArray) (c39_20 : Sl) (c40_21 : Int) (self1 : (Int × Int) → M (ByteArray)) : (Int × Int) → M (ByteArray) := fun s => match s with
  | (x5_16, x41_17) => do
    M.ite (decide (x41_17 < c40_21)) (do
      let x43_27 ← ixL c39_20 x41_17 1
      let x44_28 ← ldS x43_27
      M.ite (decide ((x44_28.size : Int) > (IntKind.wrap .i64 (9223372036854775807 - x5_16)))) (do
        M.fail
        ) (do
        self1 (IntKind.wrap .i64 (x5_16 + (x44_28.size : Int)), IntKind.wrap .i64 (x41_17 + 1))
        )
      ) (do
      let x8_32 ← mkB ty_strings_Builder (#[.pointer none, .slice none 0 0] : Array Value)
      let x57_34 ← strings_Builder_Grow (some x8_32) x5_16
      let x59_36 ← ixL c0_18 0 1
      let x60_37 ← ldS x59_36
      let x61_38 ← strings_Builder_WriteString (some x8_32) x60_37
      let x63_41 ← slL c0_18 1 c0_18.len 1
      M.loop (strings_Join_l2 c1_19 x8_32 x63_41 (x63_41.len : Int)) 0
      )
def strings_Join_j1 (c0_12 : Sl) (c1_13 : ByteArray) (x5_11 : Int) : M (ByteArray) := do
  M.loop (strings_Join_l1 c0_12 c1_13 c0_12 (c0_12.len : Int)) (x5_11, 0)
def strings_Join (x0 : Sl) (x1 : ByteArray) : M (ByteArray) := do
  M.ite ((x0.len : Int) == 0) (do
    M.pure ByteArray.empty
    ) (do
    M.ite ((x0.len : Int) == 1) (do
      let x18_8 ← ixL x0 0 1
      let x19_9 ← ldS x18_8
      M.pure x19_9
      ) (do
      M.ite (decide ((x1.size : Int) > 0)) (do
        let x28_62 ← pQuo .i64 9223372036854775807 (IntKind.wrap .i64 ((x0.len : Int) - 1))
        M.ite (decide ((x1.size : Int) ≥ x28_62)) (do
          M.fail
          ) (do
          strings_Join_j1 x0 x1 (IntKind.wrap .i64 (0 + (IntKind.wrap .i64 ((x1.size : Int) * (IntKind.wrap .i64 ((x0.len : Int) - 1))))))
          )
        ) (do
        strings_Join_j1 x0 x1 0
        )
      )
    )
theorem S_strings_Join (x0 : Sl) (x1 : ByteArray) : Sound Go.Proofs.Tryd.prog 69 #[(x0 : Sl).v, .string x1] (fun (r : ByteArray) => .string r) (strings_Join x0 x1) := by
  refine sound_of [(0, (x0 : Sl).v), (1, .string x1)] Go.Proofs.Tryd.func69 rfl rfl (Nat.le_of_ble_eq_true rfl) (args_of ⟨rfl, rfl, trivial⟩) (fun w0 w Q R a hret hE hR H => ?_)
  unfold strings_Join at H
  refine w_seq (fun K hK_1 => ?_)
  refine t_region ?_
  refine t_val (v := .string ByteArray.empty) rfl rfl hE rfl (r_assign hE rfl) (fun a hE => ?_)
  refine t_nil ?_
  refine hK_1 _ _ ?_
  refine w_seq (fun K hK_2 => ?_)
  refine w_seq (fun K hK_3 => ?_)
  refine t_region ?_
  refine t_val (v := (x0 : Sl).v) rfl rfl hE rfl (r_move hE rfl) (fun a hE => ?_)
  refine t_val (v := .int .i64 (x0.len : Int)) rfl rfl hE rfl (r_len hE rfl 9 un30) (fun a hE => ?_)
  refine t_nil ?_
  refine hK_3 _ _ ?_
  refine w_block ?_
  refine w_seq (fun K hK_4 => ?_)
  refine t_region ?_
  refine t_val (v := .bool ((x0.len : Int) == 0)) rfl rfl hE rfl (r_bin hE rfl rfl g_int b_eql) (fun a hE => ?_)
  refine t_val (v := .bool ((x0.len : Int) == 0)) rfl rfl hE rfl (r_assign hE rfl) (fun a hE => ?_)
  refine t_nil ?_
  refine hK_4 _ _ ?_
  refine w_cond ((x0.len : Int) == 0) hE rfl (fun hb => ?_) (fun hb => ?_)
  · replace H := M.ite_t hb H
    refine w_seq (fun K hK_5 => ?_)
    refine t_region ?_
    refine t_val (v := .string ByteArray.empty) rfl rfl hE rfl (r_assign hE rfl) (fun a hE => ?_)
    refine t_nil ?_
    refine hK_5 _ _ ?_
    refine w_ret ?_
    exact hret _ _ _ ByteArray.empty _ hE hR (res_run hE rfl (RV.tmp rfl RV.nil)) rfl H
  · replace H := M.ite_f hb H
    refine w_seq (fun K hK_6 => ?_)
    refine t_region ?_
    refine t_val (v := .bool ((x0.len : Int) == 1)) rfl rfl hE rfl (r_bin hE rfl rfl g_int b_eql) (fun a hE => ?_)
    refine t_val (v := .bool ((x0.len : Int) == 1)) rfl rfl hE rfl (r_assign hE rfl) (fun a hE => ?_)
    refine t_nil ?_
    refine hK_6 _ _ ?_
    refine w_cond ((x0.len : Int) == 1) hE rfl (fun hb => ?_) (fun hb => ?_)
    · replace H := M.ite_t hb H
      refine w_seq (fun K hK_7 => ?_)
      refine t_region ?_
      refine t_val (v := (x0 : Sl).v) rfl rfl hE rfl (r_move hE rfl) (fun a hE => ?_)
      obtain ⟨x18_8, qx18_8, H⟩ := H
      refine t_val (v := .pointer (some x18_8)) rfl rfl hE rfl (r_indexAddrL hE rfl rfl un30 sz9 qx18_8) (fun a hE => ?_)
      obtain ⟨x19_9, qx19_9, H⟩ := H
      refine t_val (v := .string x19_9) rfl rfl hE rfl (r_load hE rfl sc9 qx19_9) (fun a hE => ?_)
      refine t_val (v := .string x19_9) rfl rfl hE rfl (r_assign hE rfl) (fun a hE => ?_)
      refine t_nil ?_
      refine hK_7 _ _ ?_
      refine w_ret ?_
      exact hret _ _ _ x19_9 _ hE hR (res_run hE rfl (RV.tmp rfl RV.nil)) rfl H
    · replace H := M.ite_f hb H
      refine w_skip ?_
      refine hK_2 _ _ ?_
      refine w_seq (fun K hK_10 => ?_)
      refine t_region ?_
      refine t_val (v := .int .i64 0) rfl rfl hE rfl (r_assign hE rfl) (fun a hE => ?_)
      refine t_nil ?_
      refine hK_10 _ _ ?_
      refine w_seq_join (fun a w => ∃ (x5_11 : Int), Env (⟨75, []⟩ : Frm) a [(0, (x0 : Sl).v), (1, .string x1), (5, .int .i64 x5_11)] ∧ Rest w0 w ∧ (strings_Join_j1 x0 x1 x5_11).wp w.heap Q) ?_ ?_
      · rintro a w ⟨x5_11, hE, hR, H⟩
        unfold strings_Join_j1 at H
        refine w_seq (fun K hK_14 => ?_)
        refine w_seq (fun K hK_15 => ?_)
        refine t_region ?_
        refine t_val (v := (x0 : Sl).v) rfl rfl hE rfl (r_move hE rfl) (fun a hE => ?_)
        refine t_val (v := .int .i64 (x0.len : Int)) rfl rfl hE rfl (r_len hE rfl 9 un30) (fun a hE => ?_)
        refine t_val (v := .int .i64 0) rfl rfl hE rfl (r_move hE rfl) (fun a hE => ?_)
        refine t_nil ?_
        refine hK_15 _ _ ?_
        refine w_block ?_
        refine l_loop (fun (s : Int × Int) => (⟨75, []⟩ : Frm)) (fun (s : Int × Int) => [(0, (x0 : Sl).v), (1, .string x1), (5, .int .i64 s.1), (39, (x0 : Sl).v), (40, .int .i64 (x0.len : Int)), (41, .int .i64 s.2)]) H (hE.cut (.cons rfl (.cons rfl (.cons rfl (.cons rfl (.cons rfl (.cons rfl Subs.nil))))))) hR (fun Y self1 hY_22 s a w hE hR H => ?_)
        rcases s with ⟨x5_16, x41_17⟩
        replace hE : Env (⟨75, []⟩ : Frm) a [(0, (x0 : Sl).v), (1, .string x1), (5, .int .i64 x5_16), (39, (x0 : Sl).v), (40, .int .i64 (x0.len : Int)), (41, .int .i64 x41_17)] := hE
        replace H : (strings_Join_l1 x0 x1 x0 (x0.len : Int) self1 (x5_16, x41_17)).wp w.heap Q := H
        unfold strings_Join_l1 at H
        refine w_seq (fun K hK_23 => ?_)
        refine t_region ?_
        refine t_val (v := .bool (decide (x41_17 < (x0.len : Int)))) rfl rfl hE rfl (r_bin hE rfl rfl g_int b_lss) (fun a hE => ?_)
        refine t_nil ?_
        refine hK_23 _ _ ?_
        refine w_seq (fun K hK_24 => ?_)
        refine w_cond (decide (x41_17 < (x0.len : Int))) hE rfl (fun hb => ?_) (fun hb => ?_)
        · replace H := M.ite_t hb H
          refine w_skip ?_
          refine hK_24 _ _ ?_
          refine w_seq (fun K hK_25 => ?_)
          refine w_block ?_
          refine w_seq (fun K hK_26 => ?_)
          refine t_region ?_
          obtain ⟨x43_27, qx43_27, H⟩ := H
          refine t_val (v := .pointer (some x43_27)) rfl rfl hE rfl (r_indexAddrL hE rfl rfl un30 sz9 qx43_27) (fun a hE => ?_)
          obtain ⟨x44_28, qx44_28, H⟩ := H
          refine t_val (v := .string x44_28) rfl rfl hE rfl (r_load hE rfl sc9 qx44_28) (fun a hE => ?_)
          refine t_val (v := .string x44_28) rfl rfl hE rfl (r_assign hE rfl) (fun a hE => ?_)
          refine t_nil ?_
          refine hK_26 _ _ ?_
          refine w_seq (fun K hK_29 => ?_)
          refine w_seq (fun K hK_30 => ?_)
          refine t_region ?_
          refine t_val (v := .string x44_28) rfl rfl hE rfl (r_move hE rfl) (fun a hE => ?_)
          refine t_val (v := .int .i64 (x44_28.size : Int)) rfl rfl hE rfl (r_lenS hE rfl un9) (fun a hE => ?_)
          refine t_val (v := .int .i64 x5_16) rfl rfl hE rfl (r_move hE rfl) (fun a hE => ?_)
          refine t_val (v := .int .i64 (IntKind.wrap .i64 (9223372036854775807 - x5_16))) rfl rfl hE rfl (r_bin hE rfl rfl g_int b_sub) (fun a hE => ?_)
          refine t_val (v := .bool (decide ((x44_28.size : Int) > (IntKind.wrap .i64 (9223372036854775807 - x5_16))))) rfl rfl hE rfl (r_bin hE rfl rfl g_int b_gtr) (fun a hE => ?_)
          refine t_nil ?_
          refine hK_30 _ _ ?_
          refine w_cond (decide ((x44_28.size : Int) > (IntKind.wrap .i64 (9223372036854775807 - x5_16)))) hE rfl (fun hb => ?_) (fun hb => ?_)
          · replace H := M.ite_t hb H
            exact False.elim H
          · replace H := M.ite_f hb H
            refine w_skip ?_
            refine hK_29 _ _ ?_
            refine t_region ?_
            refine t_val (v := .int .i64 x5_16) rfl rfl hE rfl (r_move hE rfl) (fun a hE => ?_)
            refine t_val (v := .string x44_28) rfl rfl hE rfl (r_move hE rfl) (fun a hE => ?_)
            refine t_val (v := .int .i64 (x44_28.size : Int)) rfl rfl hE rfl (r_lenS hE rfl un9) (fun a hE => ?_)
            refine t_val (v := .int .i64 (IntKind.wrap .i64 (x5_16 + (x44_28.size : Int)))) rfl rfl hE rfl (r_bin hE rfl rfl g_int b_add) (fun a hE => ?_)
            refine t_val (v := .int .i64 (IntKind.wrap .i64 (x5_16 + (x44_28.size : Int)))) rfl rfl hE rfl (r_assign hE rfl) (fun a hE => ?_)
            refine t_nil ?_
            refine hK_25 _ _ ?_
            refine t_region ?_
            refine t_val (v := .int .i64 (IntKind.wrap .i64 (x41_17 + 1))) rfl rfl hE rfl (r_bin hE rfl rfl g_int b_add) (fun a hE => ?_)
            refine t_val (v := .int .i64 (IntKind.wrap .i64 (x41_17 + 1))) rfl rfl hE rfl (r_move hE rfl) (fun a hE => ?_)
            refine t_nil ?_
            exact hY_22 (IntKind.wrap .i64 (x5_16 + (x44_28.size : Int)), IntKind.wrap .i64 (x41_17 + 1)) _ _ (hE.cut (.cons rfl (.cons rfl (.cons rfl (.cons rfl (.cons rfl (.cons rfl Subs.nil))))))) hR H
        · replace H := M.ite_f hb H
          refine w_exit ?_
          refine Xu.same ?_
          refine hK_14 _ _ ?_
          refine w_seq (fun K hK_31 => ?_)
          refine t_region ?_
          obtain ⟨x8_32, qx8_32, H⟩ := H
          refine t_valh (v := .pointer (some x8_32)) rfl rfl hE rfl hR (r_alloc zr53 qx8_32) (fun a w hE hR hh => ?_)
          replace H := M.at hh H; clear hh
          refine t_nil ?_
          refine hK_31 _ _ ?_
          refine w_seq (fun K hK_33 => ?_)
          refine t_region ?_
          refine t_val (v := .int .i64 x5_16) rfl rfl hE rfl (r_move hE rfl) (fun a hE => ?_)
          refine t_call hE hR cl_strings_Builder_Grow rfl (S_strings_Builder_Grow (some x8_32) x5_16) (M.unbind H) (fun x57_34 a w ea hR H => ?_)
          have hE := Env.put_some hE rfl ea; clear ea
          refine t_nil ?_
          refine hK_33 _ _ ?_
          refine w_seq (fun K hK_35 => ?_)
          refine t_region ?_
          refine t_val (v := (x0 : Sl).v) rfl rfl hE rfl (r_move hE rfl) (fun a hE => ?_)
          obtain ⟨x59_36, qx59_36, H⟩ := H
          refine t_val (v := .pointer (some x59_36)) rfl rfl hE rfl (r_indexAddrL hE rfl rfl un30 sz9 qx59_36) (fun a hE => ?_)
          obtain ⟨x60_37, qx60_37, H⟩ := H
          refine t_val (v := .string x60_37) rfl rfl hE rfl (r_load hE rfl sc9 qx60_37) (fun a hE => ?_)
          refine t_call hE hR cl_strings_Builder_WriteString rfl (S_strings_Builder_WriteString (some x8_32) x60_37) (M.unbind H) (fun x61_38 a w ea hR H => ?_)
          have hE := Env.put_some hE rfl ea; clear ea
          refine t_nil ?_
          refine hK_35 _ _ ?_
          refine w_seq (fun K hK_39 => ?_)
          refine w_seq (fun K hK_40 => ?_)
          refine t_region ?_
          refine t_val (v := (x0 : Sl).v) rfl rfl hE rfl (r_move hE rfl) (fun a hE => ?_)
          obtain ⟨x63_41, qx63_41, H⟩ := H
          refine t_val (v := (x63_41 : Sl).v) rfl rfl hE rfl (r_sliceL_l hE rfl rfl un30 sz9 qx63_41) (fun a hE => ?_)
          refine t_val (v := .int .i64 (x63_41.len : Int)) rfl rfl hE rfl (r_len hE rfl 9 un30) (fun a hE => ?_)
          refine t_val (v := .int .i64 0) rfl rfl hE rfl (r_move hE rfl) (fun a hE => ?_)
          refine t_nil ?_
          refine hK_40 _ _ ?_
          refine w_block ?_
          refine l_loop (fun (s : Int) => (⟨75, []⟩ : Frm)) (fun (s : Int) => [(1, .string x1), (8, .pointer (some x8_32)), (63, (x63_41 : Sl).v), (64, .int .i64 (x63_41.len : Int)), (65, .int .i64 s)]) H (hE.cut (.cons rfl (.cons rfl (.cons rfl (.cons rfl (.cons rfl Subs.nil)))))) hR (fun Y self2 hY_47 x65_42 a w hE hR H => ?_)
          replace hE : Env (⟨75, []⟩ : Frm) a [(1, .string x1), (8, .pointer (some x8_32)), (63, (x63_41 : Sl).v), (64, .int .i64 (x63_41.len : Int)), (65, .int .i64 x65_42)] := hE
          replace H : (strings_Join_l2 x1 x8_32 x63_41 (x63_41.len : Int) self2 x65_42).wp w.heap Q := H
          unfold strings_Join_l2 at H
          refine w_seq (fun K hK_48 => ?_)
          refine t_region ?_
          refine t_val (v := .bool (decide (x65_42 < (x63_41.len : Int)))) rfl rfl hE rfl (r_bin hE rfl rfl g_int b_lss) (fun a hE => ?_)
          refine t_nil ?_
          refine hK_48 _ _ ?_
          refine w_seq (fun K hK_49 => ?_)
          refine w_cond (decide (x65_42 < (x63_41.len : Int))) hE rfl (fun hb => ?_) (fun hb => ?_)
          · replace H := M.ite_t hb H
            refine w_skip ?_
            refine hK_49 _ _ ?_
            refine w_seq (fun K hK_50 => ?_)
            refine w_block ?_
            refine w_seq (fun K hK_51 => ?_)
            refine t_region ?_
            obtain ⟨x67_52, qx67_52, H⟩ := H
            refine t_val (v := .pointer (some x67_52)) rfl rfl hE rfl (r_indexAddrL hE rfl rfl un30 sz9 qx67_52) (fun a hE => ?_)
            obtain ⟨x68_53, qx68_53, H⟩ := H
            refine t_val (v := .string x68_53) rfl rfl hE rfl (r_load hE rfl sc9 qx68_53) (fun a hE => ?_)
            refine t_val (v := .string x68_53) rfl rfl hE rfl (r_assign hE rfl) (fun a hE => ?_)
            refine t_nil ?_
            refine hK_51 _ _ ?_
            refine w_seq (fun K hK_54 => ?_)
            refine t_region ?_
            refine t_val (v := .string x1) rfl rfl hE rfl (r_move hE rfl) (fun a hE => ?_)
            refine t_call hE hR cl_strings_Builder_WriteString rfl (S_strings_Builder_WriteString (some x8_32) x1) (M.unbind H) (fun x70_55 a w ea hR H => ?_)
            have hE := Env.put_some hE rfl ea; clear ea
            refine t_nil ?_
            refine hK_54 _ _ ?_
            refine t_region ?_
            refine t_val (v := .string x68_53) rfl rfl hE rfl (r_move hE rfl) (fun a hE => ?_)
            refine t_call hE hR cl_strings_Builder_WriteString rfl (S_strings_Builder_WriteString (some x8_32) x68_53) (M.unbind H) (fun x72_56 a w ea hR H => ?_)
            have hE := Env.put_some hE rfl ea; clear ea
            refine t_nil ?_
            refine hK_50 _ _ ?_
            refine t_region ?_
            refine t_val (v := .int .i64 (IntKind.wrap .i64 (x65_42 + 1))) rfl rfl hE rfl (r_bin hE rfl rfl g_int b_add) (fun a hE => ?_)
            refine t_val (v := .int .i64 (IntKind.wrap .i64 (x65_42 + 1))) rfl rfl hE rfl (r_move hE rfl) (fun a hE => ?_)
            refine t_nil ?_
            exact hY_47 (IntKind.wrap .i64 (x65_42 + 1)) _ _ (hE.cut (.cons rfl (.cons rfl (.cons rfl (.cons rfl (.cons rfl Subs.nil)))))) hR H
          · replace H := M.ite_f hb H
            refine w_exit ?_
            refine Xu.same ?_
            refine hK_39 _ _ ?_
            refine w_seq (fun K hK_57 => ?_)
            refine t_region ?_
            refine t_call hE hR cl_strings_Builder_String rfl (S_strings_Builder_String (some x8_32)) (M.unbind H) (fun x74_58 a w ea hR H => ?_)
            have hE := Env.put_some hE rfl ea; clear ea
            refine t_val (v := .string x74_58) rfl rfl hE rfl (r_assign hE rfl) (fun a hE => ?_)
            refine t_nil ?_
            refine hK_57 _ _ ?_
            refine w_ret ?_
            exact hret _ _ _ x74_58 _ hE hR (res_run hE rfl (RV.tmp rfl RV.nil)) rfl H
      · skip
        refine w_seq (fun K hK_59 => ?_)
        refine t_region ?_
        refine t_val (v := .string x1) rfl rfl hE rfl (r_move hE rfl) (fun a hE => ?_)
        refine t_val (v := .int .i64 (x1.size : Int)) rfl rfl hE rfl (r_lenS hE rfl un9) (fun a hE => ?_)
        refine t_val (v := .bool (decide ((x1.size : Int) > 0))) rfl rfl hE rfl (r_bin hE rfl rfl g_int b_gtr) (fun a hE => ?_)
        refine t_nil ?_
        refine hK_59 _ _ ?_
        refine w_cond (decide ((x1.size : Int) > 0)) hE rfl (fun hb => ?_) (fun hb => ?_)
        · replace H := M.ite_t hb H
          refine w_seq (fun K hK_60 => ?_)
          refine w_seq (fun K hK_61 => ?_)
          refine t_region ?_
          refine t_val (v := .string x1) rfl rfl hE rfl (r_move hE rfl) (fun a hE => ?_)
          refine t_val (v := .int .i64 (x1.size : Int)) rfl rfl hE rfl (r_lenS hE rfl un9) (fun a hE => ?_)
          refine t_val (v := (x0 : Sl).v) rfl rfl hE rfl (r_move hE rfl) (fun a hE => ?_)
          refine t_val (v := .int .i64 (x0.len : Int)) rfl rfl hE rfl (r_len hE rfl 9 un30) (fun a hE => ?_)
          refine t_val (v := .int .i64 (IntKind.wrap .i64 ((x0.len : Int) - 1))) rfl rfl hE rfl (r_bin hE rfl rfl g_int b_sub) (fun a hE => ?_)
          obtain ⟨x28_62, qx28_62, H⟩ := H
          refine t_val (v := .int .i64 x28_62) rfl rfl hE rfl (r_bin hE rfl rfl g_int (b_quo qx28_62)) (fun a hE => ?_)
          refine t_val (v := .bool (decide ((x1.size : Int) ≥ x28_62))) rfl rfl hE rfl (r_bin hE rfl rfl g_int b_geq) (fun a hE => ?_)
          refine t_nil ?_
          refine hK_61 _ _ ?_
          refine w_cond (decide ((x1.size : Int) ≥ x28_62)) hE rfl (fun hb => ?_) (fun hb => ?_)
          · replace H := M.ite_t hb H
            exact False.elim H
          · replace H := M.ite_f hb H
            refine w_skip ?_
            refine hK_60 _ _ ?_
            refine t_region ?_
            refine t_val (v := .int .i64 0) rfl rfl hE rfl (r_move hE rfl) (fun a hE => ?_)
            refine t_val (v := .string x1) rfl rfl hE rfl (r_move hE rfl) (fun a hE => ?_)
            refine t_val (v := .int .i64 (x1.size : Int)) rfl rfl hE rfl (r_lenS hE rfl un9) (fun a hE => ?_)
            refine t_val (v := (x0 : Sl).v) rfl rfl hE rfl (r_move hE rfl) (fun a hE => ?_)
            refine t_val (v := .int .i64 (x0.len : Int)) rfl rfl hE rfl (r_len hE rfl 9 un30) (fun a hE => ?_)
            refine t_val (v := .int .i64 (IntKind.wrap .i64 ((x0.len : Int) - 1))) rfl rfl hE rfl (r_bin hE rfl rfl g_int b_sub) (fun a hE => ?_)
            refine t_val (v := .int .i64 (IntKind.wrap .i64 ((x1.size : Int) * (IntKind.wrap .i64 ((x0.len : Int) - 1))))) rfl rfl hE rfl (r_bin hE rfl rfl g_int b_mul) (fun a hE => ?_)
            refine t_val (v := .int .i64 (IntKind.wrap .i64 (0 + (IntKind.wrap .i64 ((x1.size : Int) * (IntKind.wrap .i64 ((x0.len : Int) - 1))))))) rfl rfl hE rfl (r_bin hE rfl rfl g_int b_add) (fun a hE => ?_)
            refine t_val (v := .int .i64 (IntKind.wrap .i64 (0 + (IntKind.wrap .i64 ((x1.size : Int) * (IntKind.wrap .i64 ((x0.len : Int) - 1))))))) rfl rfl hE rfl (r_assign hE rfl) (fun a hE => ?_)
            refine t_nil ?_
            exact ⟨IntKind.wrap .i64 (0 + (IntKind.wrap .i64 ((x1.size : Int) * (IntKind.wrap .i64 ((x0.len : Int) - 1))))), hE.cut (.cons rfl (.cons rfl (.cons rfl Subs.nil))), hR, H⟩
        · replace H := M.ite_f hb H
          refine w_skip ?_
          exact ⟨0, hE.cut (.cons rfl (.cons rfl (.cons rfl Subs.nil))), hR, H⟩

/-- ramble/value.text -/
def value_text_j2 (self1 : (Sl × Int) → M (ByteArray)) (c49_56 : Int) (x5_51 : Sl) : M (ByteArray) := do
  self1 (x5_51, IntKind.wrap .i64 (c49_56 + 1))
def value_text_l1 (c1_44 : Int) (c2_45 : Addr) (c47_46 : Sl) (c48_47 : Int) (self1 : (Sl × Int) → M (ByteArray)) : (Sl × Int) → M (ByteArray) := fun s => match s with
  | (x5_42, x49_43) => do
    M.ite (decide (x49_43 < c48_47)) (do
      let x52_58 ← ixL c47_46 x49_43 4
      let x53_59 ← ldG 4 x52_58
      let x7_60 ← mkB ty_api_Value (#[.int .i64 0, .int .i64 0, .string ByteArray.empty, .slice none 0 0] : Array Value)
      M.need (x53_59.size = 4)
      stG x7_60 x53_59
      let x54_63 ← ldG 4 x7_60
      let x57_64 ← callF Go.Proofs.Tryd.prog fn_value_text #[.agg x54_63, .int .i64 (IntKind.wrap .i64 (c1_44 + 1))] (fun r : ByteArray => .string r)
      let x59_66 ← ldI .i64 ((c2_45).add 0)
      let x65_67 ← M.ite (x59_66 == 5) (do
        M.pure ((Int.tmod x49_43 2) == 1)
        ) (do
        M.pure false
        )
      M.ite x65_67 (do
        let x70_68 ← ixL x5_42 (IntKind.wrap .i64 ((x5_42.len : Int) - 1)) 1
        let x71_69 ← ldS x70_68
        let x73_70 ← sCat (⟨#[58, 32]⟩ : ByteArray) x57_64
        let x74_71 ← sCat x71_69 x73_70
        let x75_72 ← ixL x5_42 (IntKind.wrap .i64 ((x5_42.len : Int) - 1)) 1
        stV x75_72 (.string x74_71)
        value_text_j2 self1 x49_43 x5_42
        ) (do
        let x78_74 ← bdL ty_string 1 #[.string x57_64]
        let x79_75 ← apL ty_string 1 16 (#[.string ByteArray.empty] : Array Value) x5_42 x78_74
        value_text_j2 self1 x49_43 x79_75
        )
      ) (do
      let x82_77 ← strings_Join x5_42 (⟨#[44, 32]⟩ : ByteArray)
      let x84_80 ← ldI .i64 ((c2_45).add 0)
      M.ite (x84_80 == 5) (do
        let x87_82 ← sCat (⟨#[123]⟩ : ByteArray) x82_77
        let x88_83 ← sCat x87_82 (⟨#[125]⟩ : ByteArray)
        M.pure x88_83
        ) (do
        let x90_85 ← sCat (⟨#[91]⟩ : ByteArray) x82_77
        let x91_86 ← sCat x90_85 (⟨#[93]⟩ : ByteArray)
        M.pure x91_86
        )
      )
def value_text_j1 (c1_36 : Int) (c2_37 : Addr) (x43_35 : Bool) : M (ByteArray) := do
  M.ite x43_35 (do
    let x47_41 ← ldL ((c2_37).add 3)
    M.loop (value_text_l1 c1_36 c2_37 x47_41 (x47_41.len : Int)) (Sl.nil, 0)
    ) (do
    M.pure (⟨#[63]⟩ : ByteArray)
    )
def value_text (x0 : Array Value) (x1 : Int) : M (ByteArray) := do
  let x2_2 ← mkB ty_api_Value x0
  M.ite (decide (x1 > 8)) (do
    M.pure (⟨#[63]⟩ : ByteArray)
    ) (do
    let x13_8 ← ldI .i64 ((x2_2).add 0)
    M.ite (x13_8 == 1) (do
      let x17_11 ← ldI .i64 ((x2_2).add 1)
      let x18_12 ← num_Text x17_11
      M.pure x18_12
      ) (do
      M.ite (x13_8 == 2) (do
        let x22_15 ← ldS ((x2_2).add 2)
        let x23_16 ← value_quote x22_15
        M.pure x23_16
        ) (do
        M.ite (x13_8 == 3) (do
          let x27_20 ← ldI .i64 ((x2_2).add 1)
          M.ite (x27_20 == 1) (do
            M.pure (⟨#[116, 114, 117, 101]⟩ : ByteArray)
            ) (do
            M.pure (⟨#[102, 97, 108, 115, 101]⟩ : ByteArray)
            )
          ) (do
          M.ite (x13_8 == 6) (do
            let x32_25 ← ldI .i64 ((x2_2).add 1)
            let x33_26 ← num_Text x32_25
            let x34_27 ← sCat (⟨#[118, 91]⟩ : ByteArray) x33_26
            let x35_28 ← sCat x34_27 (⟨#[93]⟩ : ByteArray)
            M.pure x35_28
            ) (do
            M.ite (x13_8 == 7) (do
              let x39_31 ← ldI .i64 ((x2_2).add 1)
              let x40_32 ← num_Text x39_31
              let x41_33 ← sCat (⟨#[101, 91]⟩ : ByteArray) x40_32
              let x42_34 ← sCat x41_33 (⟨#[93]⟩ : ByteArray)
              M.pure x42_34
              ) (do
              M.ite (x13_8 == 4) (do
                value_text_j1 x1 x2_2 (x13_8 == 4)
                ) (do
                value_text_j1 x1 x2_2 (x13_8 == 5)
                )
              )
            )
          )
        )
      )
    )
theorem S_value_text (x0 : Array Value) (x1 : Int) : Sound Go.Proofs.Tryd.prog 45 #[.agg x0, .int .i64 x1] (fun (r : ByteArray) => .string r) (value_text x0 x1) := by
  refine sound_of [(0, .agg x0), (1, .int .i64 x1)] Go.Proofs.Tryd.func45 rfl rfl (Nat.le_of_ble_eq_true rfl) (args_of ⟨rfl, rfl, trivial⟩) (fun w0 w Q R a hret hE hR H => ?_)
  unfold value_text at H
  refine w_seq (fun K hK_1 => ?_)
  refine t_region ?_
  obtain ⟨x2_2, qx2_2, H⟩ := H
  refine t_valh (v := .pointer (some x2_2)) rfl rfl hE rfl hR (r_box hE rfl qx2_2) (fun a w hE hR hh => ?_)
  replace H := M.at hh H; clear hh
  refine t_val (v := .string ByteArray.empty) rfl rfl hE rfl (r_assign hE rfl) (fun a hE => ?_)
  refine t_nil ?_
  refine hK_1 _ _ ?_
  refine w_seq (fun K hK_3 => ?_)
  refine w_seq (fun K hK_4 => ?_)
  refine t_region ?_
  refine t_val (v := .int .i64 x1) rfl rfl hE rfl (r_move hE rfl) (fun a hE => ?_)
  refine t_val (v := .bool (decide (x1 > 8))) rfl rfl hE rfl (r_bin hE rfl rfl g_int b_gtr) (fun a hE => ?_)
  refine t_nil ?_
  refine hK_4 _ _ ?_
  refine w_cond (decide (x1 > 8)) hE rfl (fun hb => ?_) (fun hb => ?_)
  · replace H := M.ite_t hb H
    refine w_seq (fun K hK_5 => ?_)
    refine t_region ?_
    refine t_val (v := .string (⟨#[63]⟩ : ByteArray)) rfl rfl hE rfl (r_assign hE rfl) (fun a hE => ?_)
    refine t_nil ?_
    refine hK_5 _ _ ?_
    refine w_ret ?_
    exact hret _ _ _ (⟨#[63]⟩ : ByteArray) _ hE hR (res_run hE rfl (RV.tmp rfl RV.nil)) rfl H
  · replace H := M.ite_f hb H
    refine w_skip ?_
    refine hK_3 _ _ ?_
    refine w_seq (fun K hK_6 => ?_)
    refine w_seq (fun K hK_7 => ?_)
    refine t_region ?_
    refine t_val (v := .pointer (some ((x2_2).add 0))) rfl rfl hE rfl (r_fieldAddr hE rfl fd42_0) (fun a hE => ?_)
    obtain ⟨x13_8, qx13_8, H⟩ := H
    refine t_val (v := .int .i64 x13_8) rfl rfl hE rfl (r_load hE rfl sc3 qx13_8) (fun a hE => ?_)
    refine t_nil ?_
    refine hK_7 _ _ ?_
    refine w_block ?_
    refine w_seq (fun K hK_9 => ?_)
    refine t_region ?_
    refine t_val (v := .bool (x13_8 == 1)) rfl rfl hE rfl (r_bin hE rfl rfl g_int b_eql) (fun a hE => ?_)
    refine t_val (v := .bool (x13_8 == 1)) rfl rfl hE rfl (r_assign hE rfl) (fun a hE => ?_)
    refine t_nil ?_
    refine hK_9 _ _ ?_
    refine w_cond (x13_8 == 1) hE rfl (fun hb => ?_) (fun hb => ?_)
    · replace H := M.ite_t hb H
      refine w_seq (fun K hK_10 => ?_)
      refine t_region ?_
      refine t_val (v := .pointer (some ((x2_2).add 1))) rfl rfl hE rfl (r_fieldAddr hE rfl fd42_1) (fun a hE => ?_)
      obtain ⟨x17_11, qx17_11, H⟩ := H
      refine t_val (v := .int .i64 x17_11) rfl rfl hE rfl (r_load hE rfl sc2 qx17_11) (fun a hE => ?_)
      refine t_call hE hR cl_num_Text rfl (S_num_Text x17_11) (M.unbind H) (fun x18_12 a w ea hR H => ?_)
      have hE := Env.put_some hE rfl ea; clear ea
      refine t_val (v := .string x18_12) rfl rfl hE rfl (r_assign hE rfl) (fun a hE => ?_)
      refine t_nil ?_
      refine hK_10 _ _ ?_
      refine w_ret ?_
      exact hret _ _ _ x18_12 _ hE hR (res_run hE rfl (RV.tmp rfl RV.nil)) rfl H
    · replace H := M.ite_f hb H
      refine w_seq (fun K hK_13 => ?_)
      refine t_region ?_
      refine t_val (v := .bool (x13_8 == 2)) rfl rfl hE rfl (r_bin hE rfl rfl g_int b_eql) (fun a hE => ?_)
      refine t_val (v := .bool (x13_8 == 2)) rfl rfl hE rfl (r_assign hE rfl) (fun a hE => ?_)
      refine t_nil ?_
      refine hK_13 _ _ ?_
      refine w_cond (x13_8 == 2) hE rfl (fun hb => ?_) (fun hb => ?_)
      · replace H := M.ite_t hb H
        refine w_seq (fun K hK_14 => ?_)
        refine t_region ?_
        refine t_val (v := .pointer (some ((x2_2).add 2))) rfl rfl hE rfl (r_fieldAddr hE rfl fd42_2) (fun a hE => ?_)
        obtain ⟨x22_15, qx22_15, H⟩ := H
        refine t_val (v := .string x22_15) rfl rfl hE rfl (r_load hE rfl sc9 qx22_15) (fun a hE => ?_)
        refine t_call hE hR cl_value_quote rfl (S_value_quote x22_15) (M.unbind H) (fun x23_16 a w ea hR H => ?_)
        have hE := Env.put_some hE rfl ea; clear ea
        refine t_val (v := .string x23_16) rfl rfl hE rfl (r_assign hE rfl) (fun a hE => ?_)
        refine t_nil ?_
        refine hK_14 _ _ ?_
        refine w_ret ?_
        exact hret _ _ _ x23_16 _ hE hR (res_run hE rfl (RV.tmp rfl RV.nil)) rfl H
      · replace H := M.ite_f hb H
        refine w_seq (fun K hK_17 => ?_)
        refine t_region ?_
        refine t_val (v := .bool (x13_8 == 3)) rfl rfl hE rfl (r_bin hE rfl rfl g_int b_eql) (fun a hE => ?_)
        refine t_val (v := .bool (x13_8 == 3)) rfl rfl hE rfl (r_assign hE rfl) (fun a hE => ?_)
        refine t_nil ?_
        refine hK_17 _ _ ?_
        refine w_cond (x13_8 == 3) hE rfl (fun hb => ?_) (fun hb => ?_)
        · replace H := M.ite_t hb H
          refine w_seq (fun K hK_18 => ?_)
          refine w_seq (fun K hK_19 => ?_)
          refine t_region ?_
          refine t_val (v := .pointer (some ((x2_2).add 1))) rfl rfl hE rfl (r_fieldAddr hE rfl fd42_1) (fun a hE => ?_)
          obtain ⟨x27_20, qx27_20, H⟩ := H
          refine t_val (v := .int .i64 x27_20) rfl rfl hE rfl (r_load hE rfl sc2 qx27_20) (fun a hE => ?_)
          refine t_val (v := .bool (x27_20 == 1)) rfl rfl hE rfl (r_bin hE rfl rfl g_int b_eql) (fun a hE => ?_)
          refine t_nil ?_
          refine hK_19 _ _ ?_
          refine w_cond (x27_20 == 1) hE rfl (fun hb => ?_) (fun hb => ?_)
          · replace H := M.ite_t hb H
            refine w_seq (fun K hK_21 => ?_)
            refine t_region ?_
            refine t_val (v := .string (⟨#[116, 114, 117, 101]⟩ : ByteArray)) rfl rfl hE rfl (r_assign hE rfl) (fun a hE => ?_)
            refine t_nil ?_
            refine hK_21 _ _ ?_
            refine w_ret ?_
            exact hret _ _ _ (⟨#[116, 114, 117, 101]⟩ : ByteArray) _ hE hR (res_run hE rfl (RV.tmp rfl RV.nil)) rfl H
          · replace H := M.ite_f hb H
            refine w_skip ?_
            refine hK_18 _ _ ?_
            refine w_seq (fun K hK_22 => ?_)
            refine t_region ?_
            refine t_val (v := .string (⟨#[102, 97, 108, 115, 101]⟩ : ByteArray)) rfl rfl hE rfl (r_assign hE rfl) (fun a hE => ?_)
            refine t_nil ?_
            refine hK_22 _ _ ?_
            refine w_ret ?_
            exact hret _ _ _ (⟨#[102, 97, 108, 115, 101]⟩ : ByteArray) _ hE hR (res_run hE rfl (RV.tmp rfl RV.nil)) rfl H
        · replace H := M.ite_f hb H
          refine w_seq (fun K hK_23 => ?_)
          refine t_region ?_
          refine t_val (v := .bool (x13_8 == 6)) rfl rfl hE rfl (r_bin hE rfl rfl g_int b_eql) (fun a hE => ?_)
          refine t_val (v := .bool (x13_8 == 6)) rfl rfl hE rfl (r_assign hE rfl) (fun a hE => ?_)
          refine t_nil ?_
          refine hK_23 _ _ ?_
          refine w_cond (x13_8 == 6) hE rfl (fun hb => ?_) (fun hb => ?_)
          · replace H := M.ite_t hb H
            refine w_seq (fun K hK_24 => ?_)
            refine t_region ?_
            refine t_val (v := .pointer (some ((x2_2).add 1))) rfl rfl hE rfl (r_fieldAddr hE rfl fd42_1) (fun a hE => ?_)
            obtain ⟨x32_25, qx32_25, H⟩ := H
            refine t_val (v := .int .i64 x32_25) rfl rfl hE rfl (r_load hE rfl sc2 qx32_25) (fun a hE => ?_)
            refine t_call hE hR cl_num_Text rfl (S_num_Text x32_25) (M.unbind H) (fun x33_26 a w ea hR H => ?_)
            have hE := Env.put_some hE rfl ea; clear ea
            obtain ⟨x34_27, qx34_27, H⟩ := H
            refine t_val (v := .string x34_27) rfl rfl hE rfl (r_bin hE rfl rfl g_str (b_addS qx34_27)) (fun a hE => ?_)
            obtain ⟨x35_28, qx35_28, H⟩ := H
            refine t_val (v := .string x35_28) rfl rfl hE rfl (r_bin hE rfl rfl g_str (b_addS qx35_28)) (fun a hE => ?_)
            refine t_val (v := .string x35_28) rfl rfl hE rfl (r_assign hE rfl) (fun a hE => ?_)
            refine t_nil ?_
            refine hK_24 _ _ ?_
            refine w_ret ?_
            exact hret _ _ _ x35_28 _ hE hR (res_run hE rfl (RV.tmp rfl RV.nil)) rfl H
          · replace H := M.ite_f hb H
            refine w_seq (fun K hK_29 => ?_)
            refine t_region ?_
            refine t_val (v := .bool (x13_8 == 7)) rfl rfl hE rfl (r_bin hE rfl rfl g_int b_eql) (fun a hE => ?_)
            refine t_val (v := .bool (x13_8 == 7)) rfl rfl hE rfl (r_assign hE rfl) (fun a hE => ?_)
            refine t_nil ?_
            refine hK_29 _ _ ?_
            refine w_cond (x13_8 == 7) hE rfl (fun hb => ?_) (fun hb => ?_)
            · replace H := M.ite_t hb H
              refine w_seq (fun K hK_30 => ?_)
              refine t_region ?_
              refine t_val (v := .pointer (some ((x2_2).add 1))) rfl rfl hE rfl (r_fieldAddr hE rfl fd42_1) (fun a hE => ?_)
              obtain ⟨x39_31, qx39_31, H⟩ := H
              refine t_val (v := .int .i64 x39_31) rfl rfl hE rfl (r_load hE rfl sc2 qx39_31) (fun a hE => ?_)
              refine t_call hE hR cl_num_Text rfl (S_num_Text x39_31) (M.unbind H) (fun x40_32 a w ea hR H => ?_)
              have hE := Env.put_some hE rfl ea; clear ea
              obtain ⟨x41_33, qx41_33, H⟩ := H
              refine t_val (v := .string x41_33) rfl rfl hE rfl (r_bin hE rfl rfl g_str (b_addS qx41_33)) (fun a hE => ?_)
              obtain ⟨x42_34, qx42_34, H⟩ := H
              refine t_val (v := .string x42_34) rfl rfl hE rfl (r_bin hE rfl rfl g_str (b_addS qx42_34)) (fun a hE => ?_)
              refine t_val (v := .string x42_34) rfl rfl hE rfl (r_assign hE rfl) (fun a hE => ?_)
              refine t_nil ?_
              refine hK_30 _ _ ?_
              refine w_ret ?_
              exact hret _ _ _ x42_34 _ hE hR (res_run hE rfl (RV.tmp rfl RV.nil)) rfl H
            · replace H := M.ite_f hb H
              refine w_seq_join (fun a w => ∃ (x43_35 : Bool), Env (⟨92, []⟩ : Frm) a [(1, .int .i64 x1), (2, .pointer (some x2_2)), (43, .bool x43_35)] ∧ Rest w0 w ∧ (value_text_j1 x1 x2_2 x43_35).wp w.heap Q) ?_ ?_
              · rintro a w ⟨x43_35, hE, hR, H⟩
                unfold value_text_j1 at H
                refine w_cond x43_35 hE rfl (fun hb => ?_) (fun hb => ?_)
                · replace H := M.ite_t hb H
                  refine w_skip ?_
                  refine hK_6 _ _ ?_
                  refine w_seq (fun K hK_38 => ?_)
                  refine t_region ?_
                  refine t_val (v := (Sl.nil : Sl).v) rfl rfl hE rfl (r_assign hE rfl) (fun a hE => ?_)
                  refine t_nil ?_
                  refine hK_38 _ _ ?_
                  refine w_seq (fun K hK_39 => ?_)
                  refine w_seq (fun K hK_40 => ?_)
                  refine t_region ?_
                  refine t_val (v := .pointer (some ((x2_2).add 3))) rfl rfl hE rfl (r_fieldAddr hE rfl fd42_3) (fun a hE => ?_)
                  obtain ⟨x47_41, qx47_41, H⟩ := H
                  refine t_val (v := (x47_41 : Sl).v) rfl rfl hE rfl (r_load hE rfl sc22 qx47_41) (fun a hE => ?_)
                  refine t_val (v := .int .i64 (x47_41.len : Int)) rfl rfl hE rfl (r_len hE rfl 42 un22) (fun a hE => ?_)
                  refine t_val (v := .int .i64 0) rfl rfl hE rfl (r_move hE rfl) (fun a hE => ?_)
                  refine t_nil ?_
                  refine hK_40 _ _ ?_
                  refine w_block ?_
                  refine l_loop (fun (s : Sl × Int) => (⟨92, []⟩ : Frm)) (fun (s : Sl × Int) => [(1, .int .i64 x1), (2, .pointer (some x2_2)), (5, (s.1 : Sl).v), (47, (x47_41 : Sl).v), (48, .int .i64 (x47_41.len : Int)), (49, .int .i64 s.2)]) H (hE.cut (.cons rfl (.cons rfl (.cons rfl (.cons rfl (.cons rfl (.cons rfl Subs.nil))))))) hR (fun Y self1 hY_48 s a w hE hR H => ?_)
                  rcases s with ⟨x5_42, x49_43⟩
                  replace hE : Env (⟨92, []⟩ : Frm) a [(1, .int .i64 x1), (2, .pointer (some x2_2)), (5, (x5_42 : Sl).v), (47, (x47_41 : Sl).v), (48, .int .i64 (x47_41.len : Int)), (49, .int .i64 x49_43)] := hE
                  replace H : (value_text_l1 x1 x2_2 x47_41 (x47_41.len : Int) self1 (x5_42, x49_43)).wp w.heap Q := H
                  unfold value_text_l1 at H
                  refine w_seq (fun K hK_49 => ?_)
                  refine t_region ?_
                  refine t_val (v := .bool (decide (x49_43 < (x47_41.len : Int)))) rfl rfl hE rfl (r_bin hE rfl rfl g_int b_lss) (fun a hE => ?_)
                  refine t_nil ?_
                  refine hK_49 _ _ ?_
                  refine w_seq (fun K hK_50 => ?_)
                  refine w_cond (decide (x49_43 < (x47_41.len : Int))) hE rfl (fun hb => ?_) (fun hb => ?_)
                  · replace H := M.ite_t hb H
                    refine w_skip ?_
                    refine hK_50 _ _ ?_
                    refine w_seq_join (fun a w => ∃ (x5_51 : Sl), Env (⟨92, []⟩ : Frm) a [(1, .int .i64 x1), (2, .pointer (some x2_2)), (47, (x47_41 : Sl).v), (48, .int .i64 (x47_41.len : Int)), (49, .int .i64 x49_43), (5, (x5_51 : Sl).v)] ∧ Rest w0 w ∧ (value_text_j2 self1 x49_43 x5_51).wp w.heap Q) ?_ ?_
                    · rintro a w ⟨x5_51, hE, hR, H⟩
                      unfold value_text_j2 at H
                      refine t_region ?_
                      refine t_val (v := .int .i64 (IntKind.wrap .i64 (x49_43 + 1))) rfl rfl hE rfl (r_bin hE rfl rfl g_int b_add) (fun a hE => ?_)
                      refine t_val (v := .int .i64 (IntKind.wrap .i64 (x49_43 + 1))) rfl rfl hE rfl (r_move hE rfl) (fun a hE => ?_)
                      refine t_nil ?_
                      exact hY_48 (x5_51, IntKind.wrap .i64 (x49_43 + 1)) _ _ (hE.cut (.cons rfl (.cons rfl (.cons rfl (.cons rfl (.cons rfl (.cons rfl Subs.nil))))))) hR H
                    · skip
                      refine w_block ?_
                      refine w_seq (fun K hK_57 => ?_)
                      refine t_region ?_
                      refine t_val (v := .int .i64 x49_43) rfl rfl hE rfl (r_move hE rfl) (fun a hE => ?_)
                      obtain ⟨x52_58, qx52_58, H⟩ := H
                      refine t_val (v := .pointer (some x52_58)) rfl rfl hE rfl (r_indexAddrL hE rfl rfl un22 sz42 qx52_58) (fun a hE => ?_)
                      obtain ⟨x53_59, qx53_59, H⟩ := H
                      refine t_val (v := .agg x53_59) rfl rfl hE rfl (r_loadG hE rfl ag42 qx53_59) (fun a hE => ?_)
                      obtain ⟨x7_60, qx7_60, H⟩ := H
                      refine t_valh (v := .pointer (some x7_60)) rfl rfl hE rfl hR (r_alloc zr42 qx7_60) (fun a w hE hR hh => ?_)
                      replace H := M.at hh H; clear hh
                      refine t_val (v := .int .i64 x49_43) rfl rfl hE rfl (r_assign hE rfl) (fun a hE => ?_)
                      obtain ⟨qz, H⟩ := H
                      obtain ⟨u_61, qu_61, H⟩ := H
                      refine t_sth rfl rfl hE hR (r_storeG hE rfl rfl sz42 qz qu_61) (fun a w hE hR hh => ?_)
                      replace H := M.at hh H; clear hh
                      refine t_nil ?_
                      refine hK_57 _ _ ?_
                      refine w_seq (fun K hK_62 => ?_)
                      refine t_region ?_
                      obtain ⟨x54_63, qx54_63, H⟩ := H
                      refine t_val (v := .agg x54_63) rfl rfl hE rfl (r_loadG hE rfl ag42 qx54_63) (fun a hE => ?_)
                      refine t_val (v := .int .i64 x1) rfl rfl hE rfl (r_move hE rfl) (fun a hE => ?_)
                      refine t_val (v := .int .i64 (IntKind.wrap .i64 (x1 + 1))) rfl rfl hE rfl (r_bin hE rfl rfl g_int b_add) (fun a hE => ?_)
                      refine t_call hE hR cl_value_text rfl (sound_callF) (M.unbind H) (fun x57_64 a w ea hR H => ?_)
                      have hE := Env.put_some hE rfl ea; clear ea
                      refine t_val (v := .string x57_64) rfl rfl hE rfl (r_assign hE rfl) (fun a hE => ?_)
                      refine t_nil ?_
                      refine hK_62 _ _ ?_
                      refine w_seq (fun K hK_65 => ?_)
                      refine t_region ?_
                      refine t_val (v := .pointer (some ((x2_2).add 0))) rfl rfl hE rfl (r_fieldAddr hE rfl fd42_0) (fun a hE => ?_)
                      obtain ⟨x59_66, qx59_66, H⟩ := H
                      refine t_val (v := .int .i64 x59_66) rfl rfl hE rfl (r_load hE rfl sc3 qx59_66) (fun a hE => ?_)
                      refine t_val (v := .bool (x59_66 == 5)) rfl rfl hE rfl (r_bin hE rfl rfl g_int b_eql) (fun a hE => ?_)
                      refine t_val (v := .bool (x59_66 == 5)) rfl rfl hE rfl (r_move hE rfl) (fun a hE => ?_)
                      refine t_grp (n := (⟨92, []⟩ : Frm)) (w0 := w0) 4 (fun x65_67 : Bool => [(1, .int .i64 x1), (2, .pointer (some x2_2)), (47, (x47_41 : Sl).v), (48, .int .i64 (x47_41.len : Int)), (5, (x5_42 : Sl).v), (49, .int .i64 x49_43), (8, .string x57_64), (65, .bool x65_67)]) (M.unbind H) (fun Kr hKr H => ?_) ?_
                      · rcases bool_em (x59_66 == 5) with hb | hb
                        · replace H := M.ite_t hb H
                          have hE := hE.reb 61 (x59_66 == 5) true hb rfl
                          refine t_on rfl hE rfl rfl rfl ?_
                          refine t_val (v := .int .i64 x49_43) rfl rfl hE rfl (r_move hE rfl) (fun a hE => ?_)
                          refine t_on rfl hE rfl rfl rfl ?_
                          refine t_val (v := .int .i64 (Int.tmod x49_43 2)) rfl rfl hE rfl (r_bin hE rfl rfl g_int (b_rem ⟨by decide, rfl⟩)) (fun a hE => ?_)
                          refine t_on rfl hE rfl rfl rfl ?_
                          refine t_val (v := .bool ((Int.tmod x49_43 2) == 1)) rfl rfl hE rfl (r_bin hE rfl rfl g_int b_eql) (fun a hE => ?_)
                          refine t_val rfl rfl hE rfl (r_pick_t hE rfl rfl) (fun a hE => ?_)
                          refine t_nil ?_
                          exact hKr _ _ _ (hE.cut (.cons rfl (.cons rfl (.cons rfl (.cons rfl (.cons rfl (.cons rfl (.cons rfl (.cons rfl Subs.nil))))))))) hR H
                        · replace H := M.ite_f hb H
                          have hE := hE.reb 61 (x59_66 == 5) false hb rfl
                          refine t_off rfl hE rfl rfl rfl (fun a ea => ?_)
                          have hE := Env.put_some hE rfl ea; clear ea
                          refine t_off rfl hE rfl rfl rfl (fun a ea => ?_)
                          have hE := Env.put_some hE rfl ea; clear ea
                          refine t_off rfl hE rfl rfl rfl (fun a ea => ?_)
                          have hE := Env.put_some hE rfl ea; clear ea
                          refine t_val rfl rfl hE rfl (r_pick_f hE rfl rfl) (fun a hE => ?_)
                          refine t_nil ?_
                          exact hKr _ _ _ (hE.cut (.cons rfl (.cons rfl (.cons rfl (.cons rfl (.cons rfl (.cons rfl (.cons rfl (.cons rfl Subs.nil))))))))) hR H
                      · intro x65_67 a w hE hR H
                        refine t_nil ?_
                        refine hK_65 _ _ ?_
                        refine w_cond x65_67 hE rfl (fun hb => ?_) (fun hb => ?_)
                        · replace H := M.ite_t hb H
                          refine t_region ?_
                          refine t_val (v := (x5_42 : Sl).v) rfl rfl hE rfl (r_move hE rfl) (fun a hE => ?_)
                          refine t_val (v := (x5_42 : Sl).v) rfl rfl hE rfl (r_move hE rfl) (fun a hE => ?_)
                          refine t_val (v := .int .i64 (x5_42.len : Int)) rfl rfl hE rfl (r_len hE rfl 9 un30) (fun a hE => ?_)
                          refine t_val (v := .int .i64 (IntKind.wrap .i64 ((x5_42.len : Int) - 1))) rfl rfl hE rfl (r_bin hE rfl rfl g_int b_sub) (fun a hE => ?_)
                          obtain ⟨x70_68, qx70_68, H⟩ := H
                          refine t_val (v := .pointer (some x70_68)) rfl rfl hE rfl (r_indexAddrL hE rfl rfl un30 sz9 qx70_68) (fun a hE => ?_)
                          obtain ⟨x71_69, qx71_69, H⟩ := H
                          refine t_val (v := .string x71_69) rfl rfl hE rfl (r_load hE rfl sc9 qx71_69) (fun a hE => ?_)
                          refine t_val (v := .string x57_64) rfl rfl hE rfl (r_move hE rfl) (fun a hE => ?_)
                          obtain ⟨x73_70, qx73_70, H⟩ := H
                          refine t_val (v := .string x73_70) rfl rfl hE rfl (r_bin hE rfl rfl g_str (b_addS qx73_70)) (fun a hE => ?_)
                          obtain ⟨x74_71, qx74_71, H⟩ := H
                          refine t_val (v := .string x74_71) rfl rfl hE rfl (r_bin hE rfl rfl g_str (b_addS qx74_71)) (fun a hE => ?_)
                          obtain ⟨x75_72, qx75_72, H⟩ := H
                          refine t_val (v := .pointer (some x75_72)) rfl rfl hE rfl (r_indexAddrL hE rfl rfl un30 sz9 qx75_72) (fun a hE => ?_)
                          obtain ⟨u_73, qu_73, H⟩ := H
                          refine t_sth rfl rfl hE hR (r_store hE rfl rfl sz9 qu_73) (fun a w hE hR hh => ?_)
                          replace H := M.at hh H; clear hh
                          refine t_nil ?_
                          exact ⟨x5_42, hE.cut (.cons rfl (.cons rfl (.cons rfl (.cons rfl (.cons rfl (.cons rfl Subs.nil)))))), hR, H⟩
                        · replace H := M.ite_f hb H
                          refine t_region ?_
                          refine t_val (v := (x5_42 : Sl).v) rfl rfl hE rfl (r_move hE rfl) (fun a hE => ?_)
                          refine t_val (v := .string x57_64) rfl rfl hE rfl (r_move hE rfl) (fun a hE => ?_)
                          obtain ⟨x78_74, qx78_74, H⟩ := H
                          refine t_valh (v := (x78_74 : Sl).v) rfl rfl hE rfl hR (r_buildL (cells := #[.string x57_64]) hE rfl un30 sz9 zr9 rfl rfl qx78_74) (fun a w hE hR hh => ?_)
                          replace H := M.at hh H; clear hh
                          refine t_ex (fun x79_75 => (x79_75 : Sl).v) rfl rfl hR (M.unbind H) (fun Q H => ap_run hE rfl rfl ap30 H) (fun x79_75 a w ea hR H => ?_)
                          have hE := Env.put_some hE rfl ea; clear ea
                          refine t_val (v := (x79_75 : Sl).v) rfl rfl hE rfl (r_assign hE rfl) (fun a hE => ?_)
                          refine t_nil ?_
                          exact ⟨x79_75, hE.cut (.cons rfl (.cons rfl (.cons rfl (.cons rfl (.cons rfl (.cons rfl Subs.nil)))))), hR, H⟩
                  · replace H := M.ite_f hb H
                    refine w_exit ?_
                    refine Xu.same ?_
                    refine hK_39 _ _ ?_
                    refine w_seq (fun K hK_76 => ?_)
                    refine t_region ?_
                    refine t_val (v := (x5_42 : Sl).v) rfl rfl hE rfl (r_move hE rfl) (fun a hE => ?_)
                    refine t_call hE hR cl_strings_Join rfl (S_strings_Join x5_42 (⟨#[44, 32]⟩ : ByteArray)) (M.unbind H) (fun x82_77 a w ea hR H => ?_)
                    have hE := Env.put_some hE rfl ea; clear ea
                    refine t_val (v := .string x82_77) rfl rfl hE rfl (r_assign hE rfl) (fun a hE => ?_)
                    refine t_nil ?_
                    refine hK_76 _ _ ?_
                    refine w_seq (fun K hK_78 => ?_)
                    refine w_seq (fun K hK_79 => ?_)
                    refine t_region ?_
                    refine t_val (v := .pointer (some ((x2_2).add 0))) rfl rfl hE rfl (r_fieldAddr hE rfl fd42_0) (fun a hE => ?_)
                    obtain ⟨x84_80, qx84_80, H⟩ := H
                    refine t_val (v := .int .i64 x84_80) rfl rfl hE rfl (r_load hE rfl sc3 qx84_80) (fun a hE => ?_)
                    refine t_val (v := .bool (x84_80 == 5)) rfl rfl hE rfl (r_bin hE rfl rfl g_int b_eql) (fun a hE => ?_)
                    refine t_nil ?_
                    refine hK_79 _ _ ?_
                    refine w_cond (x84_80 == 5) hE rfl (fun hb => ?_) (fun hb => ?_)
                    · replace H := M.ite_t hb H
                      refine w_seq (fun K hK_81 => ?_)
                      refine t_region ?_
                      refine t_val (v := .string x82_77) rfl rfl hE rfl (r_move hE rfl) (fun a hE => ?_)
                      obtain ⟨x87_82, qx87_82, H⟩ := H
                      refine t_val (v := .string x87_82) rfl rfl hE rfl (r_bin hE rfl rfl g_str (b_addS qx87_82)) (fun a hE => ?_)
                      obtain ⟨x88_83, qx88_83, H⟩ := H
                      refine t_val (v := .string x88_83) rfl rfl hE rfl (r_bin hE rfl rfl g_str (b_addS qx88_83)) (fun a hE => ?_)
                      refine t_val (v := .string x88_83) rfl rfl hE rfl (r_assign hE rfl) (fun a hE => ?_)
                      refine t_nil ?_
                      refine hK_81 _ _ ?_
                      refine w_ret ?_
                      exact hret _ _ _ x88_83 _ hE hR (res_run hE rfl (RV.tmp rfl RV.nil)) rfl H
                    · replace H := M.ite_f hb H
                      refine w_skip ?_
                      refine hK_78 _ _ ?_
                      refine w_seq (fun K hK_84 => ?_)
                      refine t_region ?_
                      refine t_val (v := .string x82_77) rfl rfl hE rfl (r_move hE rfl) (fun a hE => ?_)
                      obtain ⟨x90_85, qx90_85, H⟩ := H
                      refine t_val (v := .string x90_85) rfl rfl hE rfl (r_bin hE rfl rfl g_str (b_addS qx90_85)) (fun a hE => ?_)
                      obtain ⟨x91_86, qx91_86, H⟩ := H
                      refine t_val (v := .string x91_86) rfl rfl hE rfl (r_bin hE rfl rfl g_str (b_addS qx91_86)) (fun a hE => ?_)
                      refine t_val (v := .string x91_86) rfl rfl hE rfl (r_assign hE rfl) (fun a hE => ?_)
                      refine t_nil ?_
                      refine hK_84 _ _ ?_
                      refine w_ret ?_
                      exact hret _ _ _ x91_86 _ hE hR (res_run hE rfl (RV.tmp rfl RV.nil)) rfl H
                · replace H := M.ite_f hb H
                  refine w_seq (fun K hK_87 => ?_)
                  refine t_region ?_
                  refine t_val (v := .string (⟨#[63]⟩ : ByteArray)) rfl rfl hE rfl (r_assign hE rfl) (fun a hE => ?_)
                  refine t_nil ?_
                  refine hK_87 _ _ ?_
                  refine w_ret ?_
                  exact hret _ _ _ (⟨#[63]⟩ : ByteArray) _ hE hR (res_run hE rfl (RV.tmp rfl RV.nil)) rfl H
              · skip
                refine w_seq (fun K hK_88 => ?_)
                refine t_region ?_
                refine t_val (v := .bool (x13_8 == 4)) rfl rfl hE rfl (r_bin hE rfl rfl g_int b_eql) (fun a hE => ?_)
                refine t_val (v := .bool (x13_8 == 4)) rfl rfl hE rfl (r_assign hE rfl) (fun a hE => ?_)
                refine t_nil ?_
                refine hK_88 _ _ ?_
                refine w_cond (x13_8 == 4) hE rfl (fun hb => ?_) (fun hb => ?_)
                · replace H := M.ite_t hb H
                  refine w_skip ?_
                  exact ⟨x13_8 == 4, hE.cut (.cons rfl (.cons rfl (.cons rfl Subs.nil))), hR, H⟩
                · replace H := M.ite_f hb H
                  refine t_region ?_
                  refine t_val (v := .bool (x13_8 == 5)) rfl rfl hE rfl (r_bin hE rfl rfl g_int b_eql) (fun a hE => ?_)
                  refine t_val (v := .bool (x13_8 == 5)) rfl rfl hE rfl (r_assign hE rfl) (fun a hE => ?_)
                  refine t_nil ?_
                  exact ⟨x13_8 == 5, hE.cut (.cons rfl (.cons rfl (.cons rfl Subs.nil))), hR, H⟩

/-- ramble/value.Text -/
def value_Text (x0 : Array Value) : M (ByteArray) := do
  let x1_2 ← mkB ty_api_Value x0
  let x3_4 ← ldG 4 x1_2
  let x4_5 ← value_text x3_4 1
  M.pure x4_5
theorem S_value_Text (x0 : Array Value) : Sound Go.Proofs.Tryd.prog 22 #[.agg x0] (fun (r : ByteArray) => .string r) (value_Text x0) := by
  refine sound_of [(0, .agg x0)] Go.Proofs.Tryd.func22 rfl rfl (Nat.le_of_ble_eq_true rfl) (args_of ⟨rfl, trivial⟩) (fun w0 w Q R a hret hE hR H => ?_)
  unfold value_Text at H
  refine w_seq (fun K hK_1 => ?_)
  refine t_region ?_
  obtain ⟨x1_2, qx1_2, H⟩ := H
  refine t_valh (v := .pointer (some x1_2)) rfl rfl hE rfl hR (r_box hE rfl qx1_2) (fun a w hE hR hh => ?_)
  replace H := M.at hh H; clear hh
  refine t_val (v := .string ByteArray.empty) rfl rfl hE rfl (r_assign hE rfl) (fun a hE => ?_)
  refine t_nil ?_
  refine hK_1 _ _ ?_
  refine w_seq (fun K hK_3 => ?_)
  refine t_region ?_
  obtain ⟨x3_4, qx3_4, H⟩ := H
  refine t_val (v := .agg x3_4) rfl rfl hE rfl (r_loadG hE rfl ag42 qx3_4) (fun a hE => ?_)
  refine t_call hE hR cl_value_text rfl (S_value_text x3_4 1) (M.unbind H) (fun x4_5 a w ea hR H => ?_)
  have hE := Env.put_some hE rfl ea; clear ea
  refine t_val (v := .string x4_5) rfl rfl hE rfl (r_assign hE rfl) (fun a hE => ?_)
  refine t_nil ?_
  refine hK_3 _ _ ?_
  refine w_ret ?_
  exact hret _ _ _ x4_5 _ hE hR (res_run hE rfl (RV.tmp rfl RV.nil)) rfl H

end Gx
