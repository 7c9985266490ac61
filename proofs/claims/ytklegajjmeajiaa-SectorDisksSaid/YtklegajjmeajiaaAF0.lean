/- Printed by program: Go functions as Lean programs, each tied to its code. No condition. -/
import Derived.Test.YtklegajjmeajiaaAT
namespace Gx
open Go
set_option linter.unusedVariables false
set_option maxRecDepth 100000
/-- ramble/sector.Sum -/
def sector_Sum_j1 (self2 : (Int × Int) → M (Int)) (c17_30 : Int) (x3_26 : Int) : M (Int) := do
  self2 (x3_26, IntKind.wrap .i64 (c17_30 + 1))
def sector_Sum_l2 (self1 : (Int × Int) → M (Int)) (c9_22 : Int) (self2 : (Int × Int) → M (Int)) : (Int × Int) → M (Int) := fun s => match s with
  | (x3_18, x17_19) => do
    M.ite (decide (x17_19 < 8)) (do
      M.ite ((iAnd .u32 x3_18 1) == 1) (do
        sector_Sum_j1 self2 x17_19 (iXor .u32 (iShr .u32 x3_18 1) 3988292384)
        ) (do
        sector_Sum_j1 self2 x17_19 (iShr .u32 x3_18 1)
        )
      ) (do
      self1 (x3_18, IntKind.wrap .i64 (c9_22 + 1))
      )
def sector_Sum_l1 (c7_7 : Sl) (c8_8 : Int) (self1 : (Int × Int) → M (Int)) : (Int × Int) → M (Int) := fun s => match s with
  | (x3_5, x9_6) => do
    M.ite (decide (x9_6 < c8_8)) (do
      let x11_14 ← ixL c7_7 x9_6 1
      let x12_15 ← ldI .u8 x11_14
      M.loop (sector_Sum_l2 self1 x9_6) (iXor .u32 x3_5 (IntKind.wrap .u32 x12_15), 0)
      ) (do
      M.pure (iNot .u32 x3_5)
      )
def sector_Sum (x0 : Sl) : M (Int) := do
  M.loop (sector_Sum_l1 x0 (x0.len : Int)) (4294967295, 0)
theorem S_sector_Sum (x0 : Sl) : Sound Go.Proofs.Try.prog 14 #[(x0 : Sl).v] (fun (r : Int) => .int .u32 r) (sector_Sum x0) := by
  refine sound_of [(0, (x0 : Sl).v)] Go.Proofs.Try.func14 rfl rfl (Nat.le_of_ble_eq_true rfl) (args_of ⟨rfl, trivial⟩) (fun w0 w Q R a hret hE hR H => ?_)
  unfold sector_Sum at H
  refine w_seq (fun K hK_1 => ?_)
  refine t_region ?_
  refine t_val (v := .int .u32 0) rfl rfl hE rfl (r_assign hE rfl) (fun a hE => ?_)
  refine t_nil ?_
  refine hK_1 _ _ ?_
  refine w_seq (fun K hK_2 => ?_)
  refine t_region ?_
  refine t_val (v := .int .u32 4294967295) rfl rfl hE rfl (r_assign hE rfl) (fun a hE => ?_)
  refine t_nil ?_
  refine hK_2 _ _ ?_
  refine w_seq (fun K hK_3 => ?_)
  refine w_seq (fun K hK_4 => ?_)
  refine t_region ?_
  refine t_val (v := (x0 : Sl).v) rfl rfl hE rfl (r_move hE rfl) (fun a hE => ?_)
  refine t_val (v := .int .i64 (x0.len : Int)) rfl rfl hE rfl (r_len hE rfl 5 un22) (fun a hE => ?_)
  refine t_val (v := .int .i64 0) rfl rfl hE rfl (r_move hE rfl) (fun a hE => ?_)
  refine t_nil ?_
  refine hK_4 _ _ ?_
  refine w_block ?_
  refine l_loop (fun (s : Int × Int) => [(3, .int .u32 s.1), (7, (x0 : Sl).v), (8, .int .i64 (x0.len : Int)), (9, .int .i64 s.2)]) H (hE.cut (.cons rfl (.cons rfl (.cons rfl (.cons rfl Subs.nil))))) hR (fun Y self1 hY_9 s a w hE hR H => ?_)
  rcases s with ⟨x3_5, x9_6⟩
  replace hE : Env 31 a [(3, .int .u32 x3_5), (7, (x0 : Sl).v), (8, .int .i64 (x0.len : Int)), (9, .int .i64 x9_6)] := hE
  replace H : (sector_Sum_l1 x0 (x0.len : Int) self1 (x3_5, x9_6)).wp w.heap Q := H
  unfold sector_Sum_l1 at H
  refine w_seq (fun K hK_10 => ?_)
  refine t_region ?_
  refine t_val (v := .bool (decide (x9_6 < (x0.len : Int)))) rfl rfl hE rfl (r_bin hE rfl rfl g_int b_lss) (fun a hE => ?_)
  refine t_nil ?_
  refine hK_10 _ _ ?_
  refine w_seq (fun K hK_11 => ?_)
  refine w_cond (decide (x9_6 < (x0.len : Int))) hE rfl (fun hb => ?_) (fun hb => ?_)
  · replace H := M.ite_t hb H
    refine w_skip ?_
    refine hK_11 _ _ ?_
    refine w_seq (fun K hK_12 => ?_)
    refine w_block ?_
    refine w_seq (fun K hK_13 => ?_)
    refine t_region ?_
    obtain ⟨x11_14, qx11_14, H⟩ := H
    refine t_val (v := .pointer (some x11_14)) rfl rfl hE rfl (r_indexAddrL hE rfl rfl un22 sz5 qx11_14) (fun a hE => ?_)
    obtain ⟨x12_15, qx12_15, H⟩ := H
    refine t_val (v := .int .u8 x12_15) rfl rfl hE rfl (r_load hE rfl sc5 qx12_15) (fun a hE => ?_)
    refine t_val (v := .int .u8 x12_15) rfl rfl hE rfl (r_assign hE rfl) (fun a hE => ?_)
    refine t_nil ?_
    refine hK_13 _ _ ?_
    refine w_seq (fun K hK_16 => ?_)
    refine t_region ?_
    refine t_val (v := .int .u32 x3_5) rfl rfl hE rfl (r_move hE rfl) (fun a hE => ?_)
    refine t_val (v := .int .u8 x12_15) rfl rfl hE rfl (r_move hE rfl) (fun a hE => ?_)
    refine t_val (v := .int .u32 (IntKind.wrap .u32 x12_15)) rfl rfl hE rfl (r_convI hE rfl un5 un34) (fun a hE => ?_)
    refine t_val (v := .int .u32 (iXor .u32 x3_5 (IntKind.wrap .u32 x12_15))) rfl rfl hE rfl (r_bin hE rfl rfl g_int b_xor) (fun a hE => ?_)
    refine t_val (v := .int .u32 (iXor .u32 x3_5 (IntKind.wrap .u32 x12_15))) rfl rfl hE rfl (r_assign hE rfl) (fun a hE => ?_)
    refine t_nil ?_
    refine hK_16 _ _ ?_
    refine w_seq (fun K hK_17 => ?_)
    refine t_region ?_
    refine t_val (v := .int .i64 0) rfl rfl hE rfl (r_move hE rfl) (fun a hE => ?_)
    refine t_nil ?_
    refine hK_17 _ _ ?_
    refine w_block ?_
    refine l_loop (fun (s : Int × Int) => [(3, .int .u32 s.1), (7, (x0 : Sl).v), (8, .int .i64 (x0.len : Int)), (9, .int .i64 x9_6), (17, .int .i64 s.2)]) H (hE.cut (.cons rfl (.cons rfl (.cons rfl (.cons rfl (.cons rfl Subs.nil)))))) hR (fun Y self2 hY_23 s a w hE hR H => ?_)
    rcases s with ⟨x3_18, x17_19⟩
    replace hE : Env 31 a [(3, .int .u32 x3_18), (7, (x0 : Sl).v), (8, .int .i64 (x0.len : Int)), (9, .int .i64 x9_6), (17, .int .i64 x17_19)] := hE
    replace H : (sector_Sum_l2 self1 x9_6 self2 (x3_18, x17_19)).wp w.heap Q := H
    unfold sector_Sum_l2 at H
    refine w_seq (fun K hK_24 => ?_)
    refine t_region ?_
    refine t_val (v := .bool (decide (x17_19 < 8))) rfl rfl hE rfl (r_bin hE rfl rfl g_int b_lss) (fun a hE => ?_)
    refine t_nil ?_
    refine hK_24 _ _ ?_
    refine w_seq (fun K hK_25 => ?_)
    refine w_cond (decide (x17_19 < 8)) hE rfl (fun hb => ?_) (fun hb => ?_)
    · replace H := M.ite_t hb H
      refine w_skip ?_
      refine hK_25 _ _ ?_
      refine w_seq_join (fun a w => ∃ (x3_26 : Int), Env 31 a [(7, (x0 : Sl).v), (8, .int .i64 (x0.len : Int)), (9, .int .i64 x9_6), (17, .int .i64 x17_19), (3, .int .u32 x3_26)] ∧ Rest w0 w ∧ (sector_Sum_j1 self2 x17_19 x3_26).wp w.heap Q) ?_ ?_
      · rintro a w ⟨x3_26, hE, hR, H⟩
        unfold sector_Sum_j1 at H
        refine t_region ?_
        refine t_val (v := .int .i64 (IntKind.wrap .i64 (x17_19 + 1))) rfl rfl hE rfl (r_bin hE rfl rfl g_int b_add) (fun a hE => ?_)
        refine t_val (v := .int .i64 (IntKind.wrap .i64 (x17_19 + 1))) rfl rfl hE rfl (r_move hE rfl) (fun a hE => ?_)
        refine t_nil ?_
        exact hY_23 (x3_26, IntKind.wrap .i64 (x17_19 + 1)) _ _ (hE.cut (.cons rfl (.cons rfl (.cons rfl (.cons rfl (.cons rfl Subs.nil)))))) hR H
      · skip
        refine w_block ?_
        refine w_seq (fun K hK_31 => ?_)
        refine t_region ?_
        refine t_val (v := .int .u32 x3_18) rfl rfl hE rfl (r_move hE rfl) (fun a hE => ?_)
        refine t_val (v := .int .u32 (iAnd .u32 x3_18 1)) rfl rfl hE rfl (r_bin hE rfl rfl g_int b_and) (fun a hE => ?_)
        refine t_val (v := .int .u32 (iAnd .u32 x3_18 1)) rfl rfl hE rfl (r_assign hE rfl) (fun a hE => ?_)
        refine t_nil ?_
        refine hK_31 _ _ ?_
        refine w_seq (fun K hK_32 => ?_)
        refine t_region ?_
        refine t_val (v := .int .u32 x3_18) rfl rfl hE rfl (r_move hE rfl) (fun a hE => ?_)
        refine t_val (v := .int .u32 (iShr .u32 x3_18 1)) rfl rfl hE rfl (r_bin hE rfl rfl g_int (b_shr ⟨by decide, rfl⟩)) (fun a hE => ?_)
        refine t_val (v := .int .u32 (iShr .u32 x3_18 1)) rfl rfl hE rfl (r_assign hE rfl) (fun a hE => ?_)
        refine t_nil ?_
        refine hK_32 _ _ ?_
        refine w_seq (fun K hK_33 => ?_)
        refine t_region ?_
        refine t_val (v := .int .u32 (iAnd .u32 x3_18 1)) rfl rfl hE rfl (r_move hE rfl) (fun a hE => ?_)
        refine t_val (v := .bool ((iAnd .u32 x3_18 1) == 1)) rfl rfl hE rfl (r_bin hE rfl rfl g_int b_eql) (fun a hE => ?_)
        refine t_nil ?_
        refine hK_33 _ _ ?_
        refine w_cond ((iAnd .u32 x3_18 1) == 1) hE rfl (fun hb => ?_) (fun hb => ?_)
        · replace H := M.ite_t hb H
          refine t_region ?_
          refine t_val (v := .int .u32 (iShr .u32 x3_18 1)) rfl rfl hE rfl (r_move hE rfl) (fun a hE => ?_)
          refine t_val (v := .int .u32 (iXor .u32 (iShr .u32 x3_18 1) 3988292384)) rfl rfl hE rfl (r_bin hE rfl rfl g_int b_xor) (fun a hE => ?_)
          refine t_val (v := .int .u32 (iXor .u32 (iShr .u32 x3_18 1) 3988292384)) rfl rfl hE rfl (r_assign hE rfl) (fun a hE => ?_)
          refine t_nil ?_
          exact ⟨iXor .u32 (iShr .u32 x3_18 1) 3988292384, hE.cut (.cons rfl (.cons rfl (.cons rfl (.cons rfl (.cons rfl Subs.nil))))), hR, H⟩
        · replace H := M.ite_f hb H
          refine w_skip ?_
          exact ⟨iShr .u32 x3_18 1, hE.cut (.cons rfl (.cons rfl (.cons rfl (.cons rfl (.cons rfl Subs.nil))))), hR, H⟩
    · replace H := M.ite_f hb H
      refine w_exit ?_
      refine Xu.same ?_
      refine hK_12 _ _ ?_
      refine t_region ?_
      refine t_val (v := .int .i64 (IntKind.wrap .i64 (x9_6 + 1))) rfl rfl hE rfl (r_bin hE rfl rfl g_int b_add) (fun a hE => ?_)
      refine t_val (v := .int .i64 (IntKind.wrap .i64 (x9_6 + 1))) rfl rfl hE rfl (r_move hE rfl) (fun a hE => ?_)
      refine t_nil ?_
      exact hY_9 (x3_18, IntKind.wrap .i64 (x9_6 + 1)) _ _ (hE.cut (.cons rfl (.cons rfl (.cons rfl (.cons rfl Subs.nil))))) hR H
  · replace H := M.ite_f hb H
    refine w_exit ?_
    refine Xu.same ?_
    refine hK_3 _ _ ?_
    refine w_seq (fun K hK_34 => ?_)
    refine t_region ?_
    refine t_val (v := .int .u32 x3_5) rfl rfl hE rfl (r_move hE rfl) (fun a hE => ?_)
    refine t_val (v := .int .u32 (iNot .u32 x3_5)) rfl rfl hE rfl (r_un hE rfl u_xor) (fun a hE => ?_)
    refine t_val (v := .int .u32 (iNot .u32 x3_5)) rfl rfl hE rfl (r_assign hE rfl) (fun a hE => ?_)
    refine t_nil ?_
    refine hK_34 _ _ ?_
    refine w_ret ?_
    exact hret _ _ _ (iNot .u32 x3_5) _ hE hR (res_run hE rfl (RV.tmp rfl RV.nil)) rfl H

/-- ramble/sector.big -/
def sector_big_l1 (c0_3 : Int) (c1_4 : Sl) (c6_5 : Int) (self1 : (Int) → M (Unit)) : (Int) → M (Unit) := fun s => match s with
  | x7_2 => do
    M.ite (decide (x7_2 < c6_5)) (do
      let x19_11 ← pShr .u64 c0_3 (IntKind.wrap .i64 (8 * (IntKind.wrap .i64 ((IntKind.wrap .i64 ((c1_4.len : Int) - 1)) - x7_2))))
      let x21_12 ← ixL c1_4 x7_2 1
      stV x21_12 (.int .u8 (IntKind.wrap .u8 x19_11))
      self1 (IntKind.wrap .i64 (x7_2 + 1))
      ) (do
      M.pure ()
      )
def sector_big (x0 : Int) (x1 : Sl) : M (Unit) := do
  M.loop (sector_big_l1 x0 x1 (x1.len : Int)) 0
theorem S_sector_big (x0 : Int) (x1 : Sl) : Sound Go.Proofs.Try.prog 34 #[.int .u64 x0, (x1 : Sl).v] (fun (r : Unit) => .tuple #[]) (sector_big x0 x1) := by
  refine sound_of [(0, .int .u64 x0), (1, (x1 : Sl).v)] Go.Proofs.Try.func34 rfl rfl (Nat.le_of_ble_eq_true rfl) (args_of ⟨rfl, rfl, trivial⟩) (fun w0 w Q R a hret hE hR H => ?_)
  unfold sector_big at H
  refine w_seq (fun K hK_1 => ?_)
  refine t_region ?_
  refine t_val (v := (x1 : Sl).v) rfl rfl hE rfl (r_move hE rfl) (fun a hE => ?_)
  refine t_val (v := .int .i64 (x1.len : Int)) rfl rfl hE rfl (r_len hE rfl 5 un22) (fun a hE => ?_)
  refine t_val (v := .int .i64 0) rfl rfl hE rfl (r_move hE rfl) (fun a hE => ?_)
  refine t_nil ?_
  refine hK_1 _ _ ?_
  refine w_block ?_
  refine l_loop (fun (s : Int) => [(0, .int .u64 x0), (1, (x1 : Sl).v), (6, .int .i64 (x1.len : Int)), (7, .int .i64 s)]) H (hE.cut (.cons rfl (.cons rfl (.cons rfl (.cons rfl Subs.nil))))) hR (fun Y self1 hY_6 x7_2 a w hE hR H => ?_)
  replace hE : Env 23 a [(0, .int .u64 x0), (1, (x1 : Sl).v), (6, .int .i64 (x1.len : Int)), (7, .int .i64 x7_2)] := hE
  replace H : (sector_big_l1 x0 x1 (x1.len : Int) self1 x7_2).wp w.heap Q := H
  unfold sector_big_l1 at H
  refine w_seq (fun K hK_7 => ?_)
  refine t_region ?_
  refine t_val (v := .bool (decide (x7_2 < (x1.len : Int)))) rfl rfl hE rfl (r_bin hE rfl rfl g_int b_lss) (fun a hE => ?_)
  refine t_nil ?_
  refine hK_7 _ _ ?_
  refine w_seq (fun K hK_8 => ?_)
  refine w_cond (decide (x7_2 < (x1.len : Int))) hE rfl (fun hb => ?_) (fun hb => ?_)
  · replace H := M.ite_t hb H
    refine w_skip ?_
    refine hK_8 _ _ ?_
    refine w_seq (fun K hK_9 => ?_)
    refine w_block ?_
    refine w_seq (fun K hK_10 => ?_)
    refine t_region ?_
    refine t_val (v := .int .i64 x7_2) rfl rfl hE rfl (r_move hE rfl) (fun a hE => ?_)
    refine t_val (v := .int .i64 x7_2) rfl rfl hE rfl (r_assign hE rfl) (fun a hE => ?_)
    refine t_nil ?_
    refine hK_10 _ _ ?_
    refine t_region ?_
    refine t_val (v := (x1 : Sl).v) rfl rfl hE rfl (r_move hE rfl) (fun a hE => ?_)
    refine t_val (v := .int .i64 x7_2) rfl rfl hE rfl (r_move hE rfl) (fun a hE => ?_)
    refine t_val (v := .int .u64 x0) rfl rfl hE rfl (r_move hE rfl) (fun a hE => ?_)
    refine t_val (v := (x1 : Sl).v) rfl rfl hE rfl (r_move hE rfl) (fun a hE => ?_)
    refine t_val (v := .int .i64 (x1.len : Int)) rfl rfl hE rfl (r_len hE rfl 5 un22) (fun a hE => ?_)
    refine t_val (v := .int .i64 (IntKind.wrap .i64 ((x1.len : Int) - 1))) rfl rfl hE rfl (r_bin hE rfl rfl g_int b_sub) (fun a hE => ?_)
    refine t_val (v := .int .i64 x7_2) rfl rfl hE rfl (r_move hE rfl) (fun a hE => ?_)
    refine t_val (v := .int .i64 (IntKind.wrap .i64 ((IntKind.wrap .i64 ((x1.len : Int) - 1)) - x7_2))) rfl rfl hE rfl (r_bin hE rfl rfl g_int b_sub) (fun a hE => ?_)
    refine t_val (v := .int .i64 (IntKind.wrap .i64 (8 * (IntKind.wrap .i64 ((IntKind.wrap .i64 ((x1.len : Int) - 1)) - x7_2))))) rfl rfl hE rfl (r_bin hE rfl rfl g_int b_mul) (fun a hE => ?_)
    obtain ⟨x19_11, qx19_11, H⟩ := H
    refine t_val (v := .int .u64 x19_11) rfl rfl hE rfl (r_bin hE rfl rfl g_int (b_shr qx19_11)) (fun a hE => ?_)
    refine t_val (v := .int .u8 (IntKind.wrap .u8 x19_11)) rfl rfl hE rfl (r_convI hE rfl un67 un5) (fun a hE => ?_)
    obtain ⟨x21_12, qx21_12, H⟩ := H
    refine t_val (v := .pointer (some x21_12)) rfl rfl hE rfl (r_indexAddrL hE rfl rfl un22 sz5 qx21_12) (fun a hE => ?_)
    obtain ⟨u_13, qu_13, H⟩ := H
    refine t_sth rfl rfl hE hR (r_store hE rfl rfl sz5 qu_13) (fun a w hE hR hh => ?_)
    replace H := M.at hh H; clear hh
    refine t_nil ?_
    refine hK_9 _ _ ?_
    refine t_region ?_
    refine t_val (v := .int .i64 (IntKind.wrap .i64 (x7_2 + 1))) rfl rfl hE rfl (r_bin hE rfl rfl g_int b_add) (fun a hE => ?_)
    refine t_val (v := .int .i64 (IntKind.wrap .i64 (x7_2 + 1))) rfl rfl hE rfl (r_move hE rfl) (fun a hE => ?_)
    refine t_nil ?_
    exact hY_6 (IntKind.wrap .i64 (x7_2 + 1)) _ _ (hE.cut (.cons rfl (.cons rfl (.cons rfl (.cons rfl Subs.nil))))) hR H
  · replace H := M.ite_f hb H
    refine w_exit ?_
    refine Xu.same ?_
    exact hret _ _ _ () _ hE hR (res_run hE rfl RV.nil) rfl H

/-- ramble/sector.Seal -/
theorem tb8_4 : tabAt Go.Proofs.Try.f8 4 [[], [0], [1], [], [3], [4], [5], [0, 1, 2], [7, 2, 0, 1, 2], [0, 1, 2, 3, 4, 5, 6, 7, 8], [9, 6, 8, 0, 1, 2, 3, 4, 5, 6, 7, 8]] [[], [0], [1], [], [3], [4], [5], [], [2, 7], [], [6, 9]] [[], [0], [0, 1], [], [3], [3, 4], [3, 4, 5], [0, 1, 2], [0, 1, 2, 7], [0, 1, 2, 3, 4, 5, 6, 7, 8], [0, 1, 2, 3, 4, 5, 6, 7, 8, 9]] = true := by kernel_rfl
theorem tb8_5 : tabAt Go.Proofs.Try.f8 5 [[], [0], [1], [], [2, 3]] [[], [0], [1], [], [2, 3]] [[], [0], [0, 1], [], [0, 1, 2, 3]] = true := by kernel_rfl
theorem tb8_6 : tabAt Go.Proofs.Try.f8 6 [[], [], [1], [0, 2]] [[], [], [1], [0, 2]] [[], [], [1], [0, 1, 2]] = true := by kernel_rfl
def sector_Seal_l1 (c2_38 : Addr) (c4_39 : Addr) (c6_40 : Int) (self1 : (Int) → M (Array Value × Int)) : (Int) → M (Array Value × Int) := fun s => match s with
  | x5_37 => do
    M.ite (decide (x5_37 < 4)) (do
      let x56_45 ← pShr .u32 c6_40 (IntKind.wrap .i64 (8 * x5_37))
      let x58_46 ← ixA c4_39 128 (IntKind.wrap .i64 (124 + x5_37)) 1
      stV x58_46 (.int .u8 (IntKind.wrap .u8 x56_45))
      self1 (IntKind.wrap .i64 (x5_37 + 1))
      ) (do
      let x59_49 ← ldG 128 c4_39
      M.need (x59_49.size = 128)
      stG c2_38 x59_49
      let r2_51 ← ldG 128 c2_38
      M.pure (r2_51, 0)
      )
def sector_Seal (x0 : Array Value) : M (Array Value × Int) := do
  let x1_2 ← mkB ty_api_Frame x0
  let x2_3 ← mkB ty_api_Sector (Array.replicate 128 (.int .u8 0) : Array Value)
  let x8_6 ← ldI .i64 ((x1_2).add 0)
  let x14_7 ← M.ite (decide (x8_6 < 1)) (do
    M.pure true
    ) (do
    let x12_8 ← ldI .i64 ((x1_2).add 0)
    M.pure (decide (x12_8 > 255))
    )
  let x19_9 ← M.ite x14_7 (do
    M.pure true
    ) (do
    let x17_10 ← ldI .i64 ((x1_2).add 1)
    M.pure (decide (x17_10 < 0))
    )
  let x25_11 ← M.ite x19_9 (do
    M.pure true
    ) (do
    let x22_12 ← ldL ((x1_2).add 2)
    M.pure (decide ((x22_12.len : Int) > 112))
    )
  M.ite x25_11 (do
    M.need ((Array.replicate 128 (.int .u8 0) : Array Value).size = 128)
    stG x2_3 (Array.replicate 128 (.int .u8 0) : Array Value)
    let r2_15 ← ldG 128 x2_3
    M.pure (r2_15, 1)
    ) (do
    let x4_17 ← mkB ty_api_Sector (Array.replicate 128 (.int .u8 0) : Array Value)
    let x28_19 ← ldI .i64 ((x1_2).add 0)
    let x34_20 ← ixA x4_17 128 0 1
    let x31_21 ← ldL ((x1_2).add 2)
    stV x34_20 (.int .u8 (IntKind.wrap .u8 x28_19))
    chk (fun h : Heap => (hcell h ((x1_2).add 0) = some (.int .i64 x28_19)) ∧ (hcell h ((x1_2).add 2) = some ((x31_21 : Sl).v)))
    let x35_23 ← ixA x4_17 128 1 1
    stV x35_23 (.int .u8 (IntKind.wrap .u8 (x31_21.len : Int)))
    let x39_26 ← slA x4_17 128 2 10 1
    let x37_27 ← ldI .i64 ((x1_2).add 1)
    let x40_28 ← sector_big (IntKind.wrap .u64 x37_27) x39_26
    let x41_30 ← slA x4_17 128 10 128 1
    let x43_31 ← ldL ((x1_2).add 2)
    let x44_32 ← cpL 1 x41_30 x43_31
    let x45_35 ← slA x4_17 128 0 124 1
    let x46_36 ← sector_Sum x45_35
    M.loop (sector_Seal_l1 x2_3 x4_17 x46_36) 0
    )
theorem S_sector_Seal (x0 : Array Value) : Sound Go.Proofs.Try.prog 8 #[.agg x0] (fun (r : Array Value × Int) => .tuple #[.agg r.1, .int .i64 r.2]) (sector_Seal x0) := by
  refine sound_of [(0, .agg x0)] Go.Proofs.Try.func8 rfl rfl (Nat.le_of_ble_eq_true rfl) (args_of ⟨rfl, trivial⟩) (fun w0 w Q R a hret hE hR H => ?_)
  unfold sector_Seal at H
  refine w_seq (fun K hK_1 => ?_)
  refine t_region ?_
  obtain ⟨x1_2, qx1_2, H⟩ := H
  refine t_valh (v := .pointer (some x1_2)) rfl rfl hE rfl hR (r_box hE rfl qx1_2) (fun a w hE hR hh => ?_)
  replace H := M.at hh H; clear hh
  obtain ⟨x2_3, qx2_3, H⟩ := H
  refine t_valh (v := .pointer (some x2_3)) rfl rfl hE rfl hR (r_alloc zr26 qx2_3) (fun a w hE hR hh => ?_)
  replace H := M.at hh H; clear hh
  refine t_val (v := .int .i64 0) rfl rfl hE rfl (r_assign hE rfl) (fun a hE => ?_)
  refine t_nil ?_
  refine hK_1 _ _ ?_
  refine w_seq (fun K hK_4 => ?_)
  refine w_seq (fun K hK_5 => ?_)
  refine t_region ?_
  refine t_val (v := .pointer (some ((x1_2).add 0))) rfl rfl hE rfl (r_fieldAddr hE rfl fd24_0) (fun a hE => ?_)
  obtain ⟨x8_6, qx8_6, H⟩ := H
  refine t_val (v := .int .i64 x8_6) rfl rfl hE rfl (r_load hE rfl sc3 qx8_6) (fun a hE => ?_)
  refine t_val (v := .bool (decide (x8_6 < 1))) rfl rfl hE rfl (r_bin hE rfl rfl g_int b_lss) (fun a hE => ?_)
  refine t_val (v := .bool (decide (x8_6 < 1))) rfl rfl hE rfl (r_move hE rfl) (fun a hE => ?_)
  refine t_grp (n := 60) (w0 := w0) 4 (fun x14_7 : Bool => [(1, .pointer (some x1_2)), (2, .pointer (some x2_3)), (14, .bool x14_7)]) (M.unbind H) (fun Kr hKr H => ?_) ?_
  · rcases bool_em (decide (x8_6 < 1)) with hb | hb
    · replace H := M.ite_t hb H
      have hE := hE.reb 10 (decide (x8_6 < 1)) true hb rfl
      refine t_off rfl hE rfl rfl rfl (fun a ea => ?_)
      have hE := Env.put_some hE rfl ea; clear ea
      refine t_off rfl hE rfl rfl rfl (fun a ea => ?_)
      have hE := Env.put_some hE rfl ea; clear ea
      refine t_off rfl hE rfl rfl rfl (fun a ea => ?_)
      have hE := Env.put_some hE rfl ea; clear ea
      refine t_val rfl rfl hE rfl (r_pick_t hE rfl rfl) (fun a hE => ?_)
      refine t_nil ?_
      exact hKr _ _ _ (hE.cut (.cons rfl (.cons rfl (.cons rfl Subs.nil)))) hR H
    · replace H := M.ite_f hb H
      have hE := hE.reb 10 (decide (x8_6 < 1)) false hb rfl
      refine t_on rfl hE rfl rfl rfl ?_
      refine t_val (v := .pointer (some ((x1_2).add 0))) rfl rfl hE rfl (r_fieldAddr hE rfl fd24_0) (fun a hE => ?_)
      refine t_on rfl hE rfl rfl rfl ?_
      obtain ⟨x12_8, qx12_8, H⟩ := H
      refine t_val (v := .int .i64 x12_8) rfl rfl hE rfl (r_load hE rfl sc3 qx12_8) (fun a hE => ?_)
      refine t_on rfl hE rfl rfl rfl ?_
      refine t_val (v := .bool (decide (x12_8 > 255))) rfl rfl hE rfl (r_bin hE rfl rfl g_int b_gtr) (fun a hE => ?_)
      refine t_val rfl rfl hE rfl (r_pick_f hE rfl rfl) (fun a hE => ?_)
      refine t_nil ?_
      exact hKr _ _ _ (hE.cut (.cons rfl (.cons rfl (.cons rfl Subs.nil)))) hR H
  · intro x14_7 a w hE hR H
    refine t_val (v := .bool x14_7) rfl rfl hE rfl (r_move hE rfl) (fun a hE => ?_)
    refine t_grp (n := 60) (w0 := w0) 4 (fun x19_9 : Bool => [(1, .pointer (some x1_2)), (2, .pointer (some x2_3)), (19, .bool x19_9)]) (M.unbind H) (fun Kr hKr H => ?_) ?_
    · rcases bool_em x14_7 with hb | hb
      · replace H := M.ite_t hb H
        have hE := hE.reb 15 x14_7 true hb rfl
        refine t_off rfl hE rfl rfl rfl (fun a ea => ?_)
        have hE := Env.put_some hE rfl ea; clear ea
        refine t_off rfl hE rfl rfl rfl (fun a ea => ?_)
        have hE := Env.put_some hE rfl ea; clear ea
        refine t_off rfl hE rfl rfl rfl (fun a ea => ?_)
        have hE := Env.put_some hE rfl ea; clear ea
        refine t_val rfl rfl hE rfl (r_pick_t hE rfl rfl) (fun a hE => ?_)
        refine t_nil ?_
        exact hKr _ _ _ (hE.cut (.cons rfl (.cons rfl (.cons rfl Subs.nil)))) hR H
      · replace H := M.ite_f hb H
        have hE := hE.reb 15 x14_7 false hb rfl
        refine t_on rfl hE rfl rfl rfl ?_
        refine t_val (v := .pointer (some ((x1_2).add 1))) rfl rfl hE rfl (r_fieldAddr hE rfl fd24_1) (fun a hE => ?_)
        refine t_on rfl hE rfl rfl rfl ?_
        obtain ⟨x17_10, qx17_10, H⟩ := H
        refine t_val (v := .int .i64 x17_10) rfl rfl hE rfl (r_load hE rfl sc2 qx17_10) (fun a hE => ?_)
        refine t_on rfl hE rfl rfl rfl ?_
        refine t_val (v := .bool (decide (x17_10 < 0))) rfl rfl hE rfl (r_bin hE rfl rfl g_int b_lss) (fun a hE => ?_)
        refine t_val rfl rfl hE rfl (r_pick_f hE rfl rfl) (fun a hE => ?_)
        refine t_nil ?_
        exact hKr _ _ _ (hE.cut (.cons rfl (.cons rfl (.cons rfl Subs.nil)))) hR H
    · intro x19_9 a w hE hR H
      refine t_val (v := .bool x19_9) rfl rfl hE rfl (r_move hE rfl) (fun a hE => ?_)
      refine t_grp (n := 60) (w0 := w0) 5 (fun x25_11 : Bool => [(1, .pointer (some x1_2)), (2, .pointer (some x2_3)), (25, .bool x25_11)]) (M.unbind H) (fun Kr hKr H => ?_) ?_
      · rcases bool_em x19_9 with hb | hb
        · replace H := M.ite_t hb H
          have hE := hE.reb 20 x19_9 true hb rfl
          refine t_off rfl hE rfl rfl rfl (fun a ea => ?_)
          have hE := Env.put_some hE rfl ea; clear ea
          refine t_off rfl hE rfl rfl rfl (fun a ea => ?_)
          have hE := Env.put_some hE rfl ea; clear ea
          refine t_off rfl hE rfl rfl rfl (fun a ea => ?_)
          have hE := Env.put_some hE rfl ea; clear ea
          refine t_off rfl hE rfl rfl rfl (fun a ea => ?_)
          have hE := Env.put_some hE rfl ea; clear ea
          refine t_val rfl rfl hE rfl (r_pick_t hE rfl rfl) (fun a hE => ?_)
          refine t_nil ?_
          exact hKr _ _ _ (hE.cut (.cons rfl (.cons rfl (.cons rfl Subs.nil)))) hR H
        · replace H := M.ite_f hb H
          have hE := hE.reb 20 x19_9 false hb rfl
          refine t_on rfl hE rfl rfl rfl ?_
          refine t_val (v := .pointer (some ((x1_2).add 2))) rfl rfl hE rfl (r_fieldAddr hE rfl fd24_2) (fun a hE => ?_)
          refine t_on rfl hE rfl rfl rfl ?_
          obtain ⟨x22_12, qx22_12, H⟩ := H
          refine t_val (v := (x22_12 : Sl).v) rfl rfl hE rfl (r_load hE rfl sc22 qx22_12) (fun a hE => ?_)
          refine t_on rfl hE rfl rfl rfl ?_
          refine t_val (v := .int .i64 (x22_12.len : Int)) rfl rfl hE rfl (r_len hE rfl 5 un22) (fun a hE => ?_)
          refine t_on rfl hE rfl rfl rfl ?_
          refine t_val (v := .bool (decide ((x22_12.len : Int) > 112))) rfl rfl hE rfl (r_bin hE rfl rfl g_int b_gtr) (fun a hE => ?_)
          refine t_val rfl rfl hE rfl (r_pick_f hE rfl rfl) (fun a hE => ?_)
          refine t_nil ?_
          exact hKr _ _ _ (hE.cut (.cons rfl (.cons rfl (.cons rfl Subs.nil)))) hR H
      · intro x25_11 a w hE hR H
        refine t_nil ?_
        refine hK_5 _ _ ?_
        refine w_cond x25_11 hE rfl (fun hb => ?_) (fun hb => ?_)
        · replace H := M.ite_t hb H
          refine w_seq (fun K hK_13 => ?_)
          refine t_region ?_
          refine t_val (v := .agg (Array.replicate 128 (.int .u8 0) : Array Value)) rfl rfl hE rfl (r_build0 bd26) (fun a hE => ?_)
          obtain ⟨qz, H⟩ := H
          obtain ⟨u_14, qu_14, H⟩ := H
          refine t_sth rfl rfl hE hR (r_storeG hE rfl rfl sz26 qz qu_14) (fun a w hE hR hh => ?_)
          replace H := M.at hh H; clear hh
          refine t_val (v := .int .i64 1) rfl rfl hE rfl (r_assign hE rfl) (fun a hE => ?_)
          refine t_nil ?_
          refine hK_13 _ _ ?_
          refine w_ret ?_
          obtain ⟨r2_15, qr2_15, H⟩ := H
          exact hret _ _ _ (r2_15, 1) _ hE hR (res_run hE rfl (RV.cellG rfl ag26 qr2_15 (RV.tmp rfl RV.nil))) rfl H
        · replace H := M.ite_f hb H
          refine w_skip ?_
          refine hK_4 _ _ ?_
          refine w_seq (fun K hK_16 => ?_)
          refine t_region ?_
          obtain ⟨x4_17, qx4_17, H⟩ := H
          refine t_valh (v := .pointer (some x4_17)) rfl rfl hE rfl hR (r_alloc zr26 qx4_17) (fun a w hE hR hh => ?_)
          replace H := M.at hh H; clear hh
          refine t_nil ?_
          refine hK_16 _ _ ?_
          refine w_seq (fun K hK_18 => ?_)
          obtain ⟨x28_19, qx28_19, H⟩ := H
          obtain ⟨x34_20, qx34_20, H⟩ := H
          obtain ⟨x31_21, qx31_21, H⟩ := H
          have hT := tab_of tb8_4 rfl rfl
          refine d_start (fun w : World => (fun h : Heap => (hcell h ((x1_2).add 0) = some (.int .i64 x28_19)) ∧ (hcell h ((x1_2).add 2) = some ((x31_21 : Sl).v))) w.heap) [9, 10] #[false, false, false, false, false, false, false, false, false, false, false] mo hR rfl rfl (fun w' e => by rw [e]; exact ⟨qx28_19, qx31_21⟩) (fun w hh hR hs => ?_)
          replace H := M.at hh H; clear hh
          refine d_pureg (i := 0) (v := .pointer (some ((x1_2).add 0))) #[true, false, false, false, false, false, false, false, false, false, false] rfl rfl hT (by kernel_rfl) hE rfl (wanted_none rfl) (fun w => r_fieldAddr hE rfl fd24_0) (fun a hE => ?_)
          refine d_pureg (i := 3) (v := .pointer (some ((x1_2).add 2))) #[true, false, false, true, false, false, false, false, false, false, false] rfl rfl hT (by kernel_rfl) hE rfl (wanted_none rfl) (fun w => r_fieldAddr hE rfl fd24_2) (fun a hE => ?_)
          refine d_read (i := 1) (v := .int .i64 x28_19) #[true, true, false, true, false, false, false, false, false, false, false] rfl rfl hT (by kernel_rfl) hE rfl (wanted_none rfl) hs (fun w s => r_load hE rfl sc3 s.1) (fun a hE => ?_)
          refine d_pureg (i := 2) (v := .int .u8 (IntKind.wrap .u8 x28_19)) #[true, true, true, true, false, false, false, false, false, false, false] rfl rfl hT (by kernel_rfl) hE rfl (wanted_none rfl) (fun w => r_convI hE rfl un3 un5) (fun a hE => ?_)
          refine d_pureg (i := 7) (v := .pointer (some x34_20)) #[true, true, true, true, false, false, false, true, false, false, false] rfl rfl hT (by kernel_rfl) hE rfl (wanted_none rfl) (fun w => r_indexAddrA hE rfl rfl un26 sz5 qx34_20) (fun a hE => ?_)
          refine d_read (i := 4) (v := (x31_21 : Sl).v) #[true, true, true, true, true, false, false, true, false, false, false] rfl rfl hT (by kernel_rfl) hE rfl (wanted_none rfl) hs (fun w s => r_load hE rfl sc22 s.2) (fun a hE => ?_)
          refine d_pureg (i := 5) (v := .int .i64 (x31_21.len : Int)) #[true, true, true, true, true, true, false, true, false, false, false] rfl rfl hT (by kernel_rfl) hE rfl (wanted_none rfl) (fun w => r_len hE rfl 5 un22) (fun a hE => ?_)
          refine d_pureg (i := 6) (v := .int .u8 (IntKind.wrap .u8 (x31_21.len : Int))) #[true, true, true, true, true, true, true, true, false, false, false] rfl rfl hT (by kernel_rfl) hE rfl (wanted_none rfl) (fun w => r_convI hE rfl un3 un5) (fun a hE => ?_)
          obtain ⟨u_22, qu_22, H⟩ := H
          obtain ⟨_, sA, H⟩ := H
          refine d_sth (i := 8) #[true, true, true, true, true, true, true, true, true, false, false] rfl rfl hT (by kernel_rfl) rfl hE hR (wanted_none rfl) (r_store hE rfl rfl sz5 qu_22)  (fun w' e => by rw [e]; exact sA) (fun a w hE hR hh hs => ?_)
          replace H := M.at hh H; clear hh
          obtain ⟨x35_23, qx35_23, H⟩ := H
          refine d_pureg (i := 9) (v := .pointer (some x35_23)) #[true, true, true, true, true, true, true, true, true, true, false] rfl rfl hT (by kernel_rfl) hE rfl (wanted_none rfl) (fun w => r_indexAddrA hE rfl rfl un26 sz5 qx35_23) (fun a hE => ?_)
          obtain ⟨u_24, qu_24, H⟩ := H
          refine d_stlh (i := 10) #[true, true, true, true, true, true, true, true, true, true, true] rfl rfl hT (by kernel_rfl) rfl hE hR (wanted_none rfl) (r_store hE rfl rfl sz5 qu_24)  (fun a w hE hR hh => ?_)
          replace H := M.at hh H; clear hh
          refine d_done hT (by kernel_rfl) ?_
          refine hK_18 _ _ ?_
          refine w_seq (fun K hK_25 => ?_)
          obtain ⟨x39_26, qx39_26, H⟩ := H
          obtain ⟨x37_27, qx37_27, H⟩ := H
          have hT := tab_of tb8_5 rfl rfl
          refine d_start (fun w : World => (fun h : Heap => (hcell h ((x1_2).add 1) = some (.int .i64 x37_27))) w.heap) [2, 4] #[false, false, false, false, false] mo hR rfl rfl (fun w' e => by rw [e]; exact qx37_27) (fun w hh hR hs => ?_)
          replace H := M.at hh H; clear hh
          refine d_pureg (i := 0) (v := .pointer (some ((x1_2).add 1))) #[true, false, false, false, false] rfl rfl hT (by kernel_rfl) hE rfl (wanted_none rfl) (fun w => r_fieldAddr hE rfl fd24_1) (fun a hE => ?_)
          refine d_pureg (i := 3) (v := (x39_26 : Sl).v) #[true, false, false, true, false] rfl rfl hT (by kernel_rfl) hE rfl (wanted_none rfl) (fun w => r_sliceA_lh hE rfl rfl rfl un26 sz5 qx39_26) (fun a hE => ?_)
          refine d_read (i := 1) (v := .int .i64 x37_27) #[true, true, false, true, false] rfl rfl hT (by kernel_rfl) hE rfl (wanted_none rfl) hs (fun w s => r_load hE rfl sc2 s) (fun a hE => ?_)
          refine d_pureg (i := 2) (v := .int .u64 (IntKind.wrap .u64 x37_27)) #[true, true, true, true, false] rfl rfl hT (by kernel_rfl) hE rfl (wanted_none rfl) (fun w => r_convI hE rfl un2 un67) (fun a hE => ?_)
          refine d_calll (i := 4) #[true, true, true, true, true] rfl rfl rfl hT (by kernel_rfl) rfl hE hR (wanted_none rfl) cl34 rfl (S_sector_big (IntKind.wrap .u64 x37_27) x39_26) (M.unbind H) (fun x40_28 a w ea hR H => ?_)
          have hE := Env.put_some hE rfl ea; clear ea
          refine d_done hT (by kernel_rfl) ?_
          refine hK_25 _ _ ?_
          refine w_seq (fun K hK_29 => ?_)
          obtain ⟨x41_30, qx41_30, H⟩ := H
          obtain ⟨x43_31, qx43_31, H⟩ := H
          have hT := tab_of tb8_6 rfl rfl
          refine d_start (fun w : World => (fun h : Heap => (hcell h ((x1_2).add 2) = some ((x43_31 : Sl).v))) w.heap) [3] #[false, false, false, false] mo hR rfl rfl (fun w' e => by rw [e]; exact qx43_31) (fun w hh hR hs => ?_)
          replace H := M.at hh H; clear hh
          refine d_pureg (i := 0) (v := (x41_30 : Sl).v) #[true, false, false, false] rfl rfl hT (by kernel_rfl) hE rfl (wanted_none rfl) (fun w => r_sliceA_l hE rfl rfl un26 sz5 qx41_30) (fun a hE => ?_)
          refine d_pureg (i := 1) (v := .pointer (some ((x1_2).add 2))) #[true, true, false, false] rfl rfl hT (by kernel_rfl) hE rfl (wanted_none rfl) (fun w => r_fieldAddr hE rfl fd24_2) (fun a hE => ?_)
          refine d_read (i := 2) (v := (x43_31 : Sl).v) #[true, true, true, false] rfl rfl hT (by kernel_rfl) hE rfl (wanted_none rfl) hs (fun w s => r_load hE rfl sc22 s) (fun a hE => ?_)
          refine d_exl (i := 3) (fun x44_32 => .int .i64 x44_32) #[true, true, true, true] rfl rfl hT (by kernel_rfl) rfl hR (wanted_none rfl) (M.unbind H) (fun Q H => cp_run hE rfl rfl un22 sz5 H) (fun x44_32 a w ea hR H => ?_)
          have hE := Env.put_some hE rfl ea; clear ea
          refine d_done hT (by kernel_rfl) ?_
          refine hK_29 _ _ ?_
          refine w_seq (fun K hK_33 => ?_)
          refine w_seq (fun K hK_34 => ?_)
          refine t_region ?_
          obtain ⟨x45_35, qx45_35, H⟩ := H
          refine t_val (v := (x45_35 : Sl).v) rfl rfl hE rfl (r_sliceA_h hE rfl rfl un26 sz5 qx45_35) (fun a hE => ?_)
          refine t_call hE hR cl14 rfl (S_sector_Sum x45_35) (M.unbind H) (fun x46_36 a w ea hR H => ?_)
          have hE := Env.put_some hE rfl ea; clear ea
          refine t_val (v := .int .i64 0) rfl rfl hE rfl (r_assign hE rfl) (fun a hE => ?_)
          refine t_val (v := .int .u32 x46_36) rfl rfl hE rfl (r_assign hE rfl) (fun a hE => ?_)
          refine t_nil ?_
          refine hK_34 _ _ ?_
          refine w_block ?_
          refine l_loop (fun (s : Int) => [(2, .pointer (some x2_3)), (4, .pointer (some x4_17)), (5, .int .i64 s), (6, .int .u32 x46_36)]) H (hE.cut (.cons rfl (.cons rfl (.cons rfl (.cons rfl Subs.nil))))) hR (fun Y self1 hY_41 x5_37 a w hE hR H => ?_)
          replace hE : Env 60 a [(2, .pointer (some x2_3)), (4, .pointer (some x4_17)), (5, .int .i64 x5_37), (6, .int .u32 x46_36)] := hE
          replace H : (sector_Seal_l1 x2_3 x4_17 x46_36 self1 x5_37).wp w.heap Q := H
          unfold sector_Seal_l1 at H
          refine w_seq (fun K hK_42 => ?_)
          refine w_seq (fun K hK_43 => ?_)
          refine t_region ?_
          refine t_val (v := .int .i64 x5_37) rfl rfl hE rfl (r_move hE rfl) (fun a hE => ?_)
          refine t_val (v := .bool (decide (x5_37 < 4))) rfl rfl hE rfl (r_bin hE rfl rfl g_int b_lss) (fun a hE => ?_)
          refine t_nil ?_
          refine hK_43 _ _ ?_
          refine w_cond (decide (x5_37 < 4)) hE rfl (fun hb => ?_) (fun hb => ?_)
          · replace H := M.ite_t hb H
            refine w_skip ?_
            refine hK_42 _ _ ?_
            refine w_seq (fun K hK_44 => ?_)
            refine w_block ?_
            refine t_region ?_
            refine t_val (v := .int .i64 x5_37) rfl rfl hE rfl (r_move hE rfl) (fun a hE => ?_)
            refine t_val (v := .int .i64 (IntKind.wrap .i64 (124 + x5_37))) rfl rfl hE rfl (r_bin hE rfl rfl g_int b_add) (fun a hE => ?_)
            refine t_val (v := .int .u32 x46_36) rfl rfl hE rfl (r_move hE rfl) (fun a hE => ?_)
            refine t_val (v := .int .i64 x5_37) rfl rfl hE rfl (r_move hE rfl) (fun a hE => ?_)
            refine t_val (v := .int .i64 (IntKind.wrap .i64 (8 * x5_37))) rfl rfl hE rfl (r_bin hE rfl rfl g_int b_mul) (fun a hE => ?_)
            obtain ⟨x56_45, qx56_45, H⟩ := H
            refine t_val (v := .int .u32 x56_45) rfl rfl hE rfl (r_bin hE rfl rfl g_int (b_shr qx56_45)) (fun a hE => ?_)
            refine t_val (v := .int .u8 (IntKind.wrap .u8 x56_45)) rfl rfl hE rfl (r_convI hE rfl un34 un5) (fun a hE => ?_)
            obtain ⟨x58_46, qx58_46, H⟩ := H
            refine t_val (v := .pointer (some x58_46)) rfl rfl hE rfl (r_indexAddrA hE rfl rfl un26 sz5 qx58_46) (fun a hE => ?_)
            obtain ⟨u_47, qu_47, H⟩ := H
            refine t_sth rfl rfl hE hR (r_store hE rfl rfl sz5 qu_47) (fun a w hE hR hh => ?_)
            replace H := M.at hh H; clear hh
            refine t_nil ?_
            refine hK_44 _ _ ?_
            refine t_region ?_
            refine t_val (v := .int .i64 x5_37) rfl rfl hE rfl (r_move hE rfl) (fun a hE => ?_)
            refine t_val (v := .int .i64 (IntKind.wrap .i64 (x5_37 + 1))) rfl rfl hE rfl (r_bin hE rfl rfl g_int b_add) (fun a hE => ?_)
            refine t_val (v := .int .i64 (IntKind.wrap .i64 (x5_37 + 1))) rfl rfl hE rfl (r_assign hE rfl) (fun a hE => ?_)
            refine t_nil ?_
            exact hY_41 (IntKind.wrap .i64 (x5_37 + 1)) _ _ (hE.cut (.cons rfl (.cons rfl (.cons rfl (.cons rfl Subs.nil))))) hR H
          · replace H := M.ite_f hb H
            refine w_exit ?_
            refine Xu.same ?_
            refine hK_33 _ _ ?_
            refine w_seq (fun K hK_48 => ?_)
            refine t_region ?_
            obtain ⟨x59_49, qx59_49, H⟩ := H
            refine t_val (v := .agg x59_49) rfl rfl hE rfl (r_loadG hE rfl ag26 qx59_49) (fun a hE => ?_)
            obtain ⟨qz, H⟩ := H
            obtain ⟨u_50, qu_50, H⟩ := H
            refine t_sth rfl rfl hE hR (r_storeG hE rfl rfl sz26 qz qu_50) (fun a w hE hR hh => ?_)
            replace H := M.at hh H; clear hh
            refine t_val (v := .int .i64 0) rfl rfl hE rfl (r_assign hE rfl) (fun a hE => ?_)
            refine t_nil ?_
            refine hK_48 _ _ ?_
            refine w_ret ?_
            obtain ⟨r2_51, qr2_51, H⟩ := H
            exact hret _ _ _ (r2_51, 0) _ hE hR (res_run hE rfl (RV.cellG rfl ag26 qr2_51 (RV.tmp rfl RV.nil))) rfl H

/-- ramble/rambleref05.Sum -/
def rambleref05_Sum_j1 (self2 : (Int × Int × Int) → M (Int)) (c5_30 : Int) (c6_31 : Int) (x3_27 : Int) : M (Int) := do
  self2 (x3_27, IntKind.wrap .u8 (Int.tdiv c5_30 2), IntKind.wrap .i64 (c6_31 + 1))
def rambleref05_Sum_l2 (self1 : (Int × Int) → M (Int)) (c4_20 : Int) (self2 : (Int × Int × Int) → M (Int)) : (Int × Int × Int) → M (Int) := fun s => match s with
  | (x3_16, x5_17, x6_18) => do
    M.ite (decide (x6_18 < 8)) (do
      M.ite ((IntKind.wrap .u32 (Int.tmod x5_17 2)) != (Int.tmod x3_16 2)) (do
        rambleref05_Sum_j1 self2 x5_17 x6_18 (iXor .u32 (IntKind.wrap .u32 (Int.tdiv x3_16 2)) 3988292384)
        ) (do
        rambleref05_Sum_j1 self2 x5_17 x6_18 (IntKind.wrap .u32 (Int.tdiv x3_16 2))
        )
      ) (do
      self1 (x3_16, IntKind.wrap .i64 (c4_20 + 1))
      )
def rambleref05_Sum_l1 (c0_7 : Sl) (self1 : (Int × Int) → M (Int)) : (Int × Int) → M (Int) := fun s => match s with
  | (x3_5, x4_6) => do
    M.ite (decide (x4_6 < (c0_7.len : Int))) (do
      let x16_13 ← ixL c0_7 x4_6 1
      let x17_14 ← ldI .u8 x16_13
      M.loop (rambleref05_Sum_l2 self1 x4_6) (x3_5, x17_14, 0)
      ) (do
      M.pure (iNot .u32 x3_5)
      )
def rambleref05_Sum (x0 : Sl) : M (Int) := do
  M.loop (rambleref05_Sum_l1 x0) (4294967295, 0)
theorem S_rambleref05_Sum (x0 : Sl) : Sound Go.Proofs.Try.prog 15 #[(x0 : Sl).v] (fun (r : Int) => .int .u32 r) (rambleref05_Sum x0) := by
  refine sound_of [(0, (x0 : Sl).v)] Go.Proofs.Try.func15 rfl rfl (Nat.le_of_ble_eq_true rfl) (args_of ⟨rfl, trivial⟩) (fun w0 w Q R a hret hE hR H => ?_)
  unfold rambleref05_Sum at H
  refine w_seq (fun K hK_1 => ?_)
  refine t_region ?_
  refine t_val (v := .int .u32 0) rfl rfl hE rfl (r_assign hE rfl) (fun a hE => ?_)
  refine t_nil ?_
  refine hK_1 _ _ ?_
  refine w_seq (fun K hK_2 => ?_)
  refine t_region ?_
  refine t_val (v := .int .u32 4294967295) rfl rfl hE rfl (r_assign hE rfl) (fun a hE => ?_)
  refine t_nil ?_
  refine hK_2 _ _ ?_
  refine w_seq (fun K hK_3 => ?_)
  refine w_seq (fun K hK_4 => ?_)
  refine t_region ?_
  refine t_val (v := .int .i64 0) rfl rfl hE rfl (r_assign hE rfl) (fun a hE => ?_)
  refine t_nil ?_
  refine hK_4 _ _ ?_
  refine w_block ?_
  refine l_loop (fun (s : Int × Int) => [(0, (x0 : Sl).v), (3, .int .u32 s.1), (4, .int .i64 s.2)]) H (hE.cut (.cons rfl (.cons rfl (.cons rfl Subs.nil)))) hR (fun Y self1 hY_8 s a w hE hR H => ?_)
  rcases s with ⟨x3_5, x4_6⟩
  replace hE : Env 37 a [(0, (x0 : Sl).v), (3, .int .u32 x3_5), (4, .int .i64 x4_6)] := hE
  replace H : (rambleref05_Sum_l1 x0 self1 (x3_5, x4_6)).wp w.heap Q := H
  unfold rambleref05_Sum_l1 at H
  refine w_seq (fun K hK_9 => ?_)
  refine w_seq (fun K hK_10 => ?_)
  refine t_region ?_
  refine t_val (v := .int .i64 x4_6) rfl rfl hE rfl (r_move hE rfl) (fun a hE => ?_)
  refine t_val (v := (x0 : Sl).v) rfl rfl hE rfl (r_move hE rfl) (fun a hE => ?_)
  refine t_val (v := .int .i64 (x0.len : Int)) rfl rfl hE rfl (r_len hE rfl 5 un22) (fun a hE => ?_)
  refine t_val (v := .bool (decide (x4_6 < (x0.len : Int)))) rfl rfl hE rfl (r_bin hE rfl rfl g_int b_lss) (fun a hE => ?_)
  refine t_nil ?_
  refine hK_10 _ _ ?_
  refine w_cond (decide (x4_6 < (x0.len : Int))) hE rfl (fun hb => ?_) (fun hb => ?_)
  · replace H := M.ite_t hb H
    refine w_skip ?_
    refine hK_9 _ _ ?_
    refine w_seq (fun K hK_11 => ?_)
    refine w_block ?_
    refine w_seq (fun K hK_12 => ?_)
    refine t_region ?_
    refine t_val (v := (x0 : Sl).v) rfl rfl hE rfl (r_move hE rfl) (fun a hE => ?_)
    refine t_val (v := .int .i64 x4_6) rfl rfl hE rfl (r_move hE rfl) (fun a hE => ?_)
    obtain ⟨x16_13, qx16_13, H⟩ := H
    refine t_val (v := .pointer (some x16_13)) rfl rfl hE rfl (r_indexAddrL hE rfl rfl un22 sz5 qx16_13) (fun a hE => ?_)
    obtain ⟨x17_14, qx17_14, H⟩ := H
    refine t_val (v := .int .u8 x17_14) rfl rfl hE rfl (r_load hE rfl sc5 qx17_14) (fun a hE => ?_)
    refine t_val (v := .int .u8 x17_14) rfl rfl hE rfl (r_assign hE rfl) (fun a hE => ?_)
    refine t_nil ?_
    refine hK_12 _ _ ?_
    refine w_seq (fun K hK_15 => ?_)
    refine t_region ?_
    refine t_val (v := .int .i64 0) rfl rfl hE rfl (r_assign hE rfl) (fun a hE => ?_)
    refine t_nil ?_
    refine hK_15 _ _ ?_
    refine w_block ?_
    refine l_loop (fun (s : Int × Int × Int) => [(0, (x0 : Sl).v), (3, .int .u32 s.1), (4, .int .i64 x4_6), (5, .int .u8 s.2.1), (6, .int .i64 s.2.2)]) H (hE.cut (.cons rfl (.cons rfl (.cons rfl (.cons rfl (.cons rfl Subs.nil)))))) hR (fun Y self2 hY_21 s a w hE hR H => ?_)
    rcases s with ⟨x3_16, x5_17, x6_18⟩
    replace hE : Env 37 a [(0, (x0 : Sl).v), (3, .int .u32 x3_16), (4, .int .i64 x4_6), (5, .int .u8 x5_17), (6, .int .i64 x6_18)] := hE
    replace H : (rambleref05_Sum_l2 self1 x4_6 self2 (x3_16, x5_17, x6_18)).wp w.heap Q := H
    unfold rambleref05_Sum_l2 at H
    refine w_seq (fun K hK_22 => ?_)
    refine w_seq (fun K hK_23 => ?_)
    refine t_region ?_
    refine t_val (v := .int .i64 x6_18) rfl rfl hE rfl (r_move hE rfl) (fun a hE => ?_)
    refine t_val (v := .bool (decide (x6_18 < 8))) rfl rfl hE rfl (r_bin hE rfl rfl g_int b_lss) (fun a hE => ?_)
    refine t_nil ?_
    refine hK_23 _ _ ?_
    refine w_cond (decide (x6_18 < 8)) hE rfl (fun hb => ?_) (fun hb => ?_)
    · replace H := M.ite_t hb H
      refine w_skip ?_
      refine hK_22 _ _ ?_
      refine w_seq (fun K hK_24 => ?_)
      refine w_block ?_
      refine w_seq (fun K hK_25 => ?_)
      refine t_region ?_
      refine t_val (v := .int .u8 x5_17) rfl rfl hE rfl (r_move hE rfl) (fun a hE => ?_)
      refine t_val (v := .int .u8 (Int.tmod x5_17 2)) rfl rfl hE rfl (r_bin hE rfl rfl g_int (b_rem ⟨by decide, rfl⟩)) (fun a hE => ?_)
      refine t_val (v := .int .u32 (IntKind.wrap .u32 (Int.tmod x5_17 2))) rfl rfl hE rfl (r_convI hE rfl un5 un34) (fun a hE => ?_)
      refine t_val (v := .int .u32 x3_16) rfl rfl hE rfl (r_move hE rfl) (fun a hE => ?_)
      refine t_val (v := .int .u32 (Int.tmod x3_16 2)) rfl rfl hE rfl (r_bin hE rfl rfl g_int (b_rem ⟨by decide, rfl⟩)) (fun a hE => ?_)
      refine t_val (v := .bool ((IntKind.wrap .u32 (Int.tmod x5_17 2)) != (Int.tmod x3_16 2))) rfl rfl hE rfl (r_bin hE rfl rfl g_int b_neq) (fun a hE => ?_)
      refine t_val (v := .bool ((IntKind.wrap .u32 (Int.tmod x5_17 2)) != (Int.tmod x3_16 2))) rfl rfl hE rfl (r_assign hE rfl) (fun a hE => ?_)
      refine t_nil ?_
      refine hK_25 _ _ ?_
      refine w_seq (fun K hK_26 => ?_)
      refine t_region ?_
      refine t_val (v := .int .u32 x3_16) rfl rfl hE rfl (r_move hE rfl) (fun a hE => ?_)
      refine t_val (v := .int .u32 (IntKind.wrap .u32 (Int.tdiv x3_16 2))) rfl rfl hE rfl (r_bin hE rfl rfl g_int (b_quo ⟨by decide, rfl⟩)) (fun a hE => ?_)
      refine t_val (v := .int .u32 (IntKind.wrap .u32 (Int.tdiv x3_16 2))) rfl rfl hE rfl (r_assign hE rfl) (fun a hE => ?_)
      refine t_nil ?_
      refine hK_26 _ _ ?_
      refine w_seq_join (fun a w => ∃ (x3_27 : Int), Env 37 a [(0, (x0 : Sl).v), (4, .int .i64 x4_6), (5, .int .u8 x5_17), (6, .int .i64 x6_18), (3, .int .u32 x3_27)] ∧ Rest w0 w ∧ (rambleref05_Sum_j1 self2 x5_17 x6_18 x3_27).wp w.heap Q) ?_ ?_
      · rintro a w ⟨x3_27, hE, hR, H⟩
        unfold rambleref05_Sum_j1 at H
        refine t_region ?_
        refine t_val (v := .int .u8 x5_17) rfl rfl hE rfl (r_move hE rfl) (fun a hE => ?_)
        refine t_val (v := .int .u8 (IntKind.wrap .u8 (Int.tdiv x5_17 2))) rfl rfl hE rfl (r_bin hE rfl rfl g_int (b_quo ⟨by decide, rfl⟩)) (fun a hE => ?_)
        refine t_val (v := .int .u8 (IntKind.wrap .u8 (Int.tdiv x5_17 2))) rfl rfl hE rfl (r_assign hE rfl) (fun a hE => ?_)
        refine t_nil ?_
        refine hK_24 _ _ ?_
        refine t_region ?_
        refine t_val (v := .int .i64 x6_18) rfl rfl hE rfl (r_move hE rfl) (fun a hE => ?_)
        refine t_val (v := .int .i64 (IntKind.wrap .i64 (x6_18 + 1))) rfl rfl hE rfl (r_bin hE rfl rfl g_int b_add) (fun a hE => ?_)
        refine t_val (v := .int .i64 (IntKind.wrap .i64 (x6_18 + 1))) rfl rfl hE rfl (r_assign hE rfl) (fun a hE => ?_)
        refine t_nil ?_
        exact hY_21 (x3_27, IntKind.wrap .u8 (Int.tdiv x5_17 2), IntKind.wrap .i64 (x6_18 + 1)) _ _ (hE.cut (.cons rfl (.cons rfl (.cons rfl (.cons rfl (.cons rfl Subs.nil)))))) hR H
      · skip
        refine w_seq (fun K hK_32 => ?_)
        refine t_region ?_
        refine t_val (v := .bool ((IntKind.wrap .u32 (Int.tmod x5_17 2)) != (Int.tmod x3_16 2))) rfl rfl hE rfl (r_move hE rfl) (fun a hE => ?_)
        refine t_nil ?_
        refine hK_32 _ _ ?_
        refine w_cond ((IntKind.wrap .u32 (Int.tmod x5_17 2)) != (Int.tmod x3_16 2)) hE rfl (fun hb => ?_) (fun hb => ?_)
        · replace H := M.ite_t hb H
          refine t_region ?_
          refine t_val (v := .int .u32 (IntKind.wrap .u32 (Int.tdiv x3_16 2))) rfl rfl hE rfl (r_move hE rfl) (fun a hE => ?_)
          refine t_val (v := .int .u32 (iXor .u32 (IntKind.wrap .u32 (Int.tdiv x3_16 2)) 3988292384)) rfl rfl hE rfl (r_bin hE rfl rfl g_int b_xor) (fun a hE => ?_)
          refine t_val (v := .int .u32 (iXor .u32 (IntKind.wrap .u32 (Int.tdiv x3_16 2)) 3988292384)) rfl rfl hE rfl (r_assign hE rfl) (fun a hE => ?_)
          refine t_nil ?_
          exact ⟨iXor .u32 (IntKind.wrap .u32 (Int.tdiv x3_16 2)) 3988292384, hE.cut (.cons rfl (.cons rfl (.cons rfl (.cons rfl (.cons rfl Subs.nil))))), hR, H⟩
        · replace H := M.ite_f hb H
          refine w_skip ?_
          exact ⟨IntKind.wrap .u32 (Int.tdiv x3_16 2), hE.cut (.cons rfl (.cons rfl (.cons rfl (.cons rfl (.cons rfl Subs.nil))))), hR, H⟩
    · replace H := M.ite_f hb H
      refine w_exit ?_
      refine Xu.same ?_
      refine hK_11 _ _ ?_
      refine t_region ?_
      refine t_val (v := .int .i64 x4_6) rfl rfl hE rfl (r_move hE rfl) (fun a hE => ?_)
      refine t_val (v := .int .i64 (IntKind.wrap .i64 (x4_6 + 1))) rfl rfl hE rfl (r_bin hE rfl rfl g_int b_add) (fun a hE => ?_)
      refine t_val (v := .int .i64 (IntKind.wrap .i64 (x4_6 + 1))) rfl rfl hE rfl (r_assign hE rfl) (fun a hE => ?_)
      refine t_nil ?_
      exact hY_8 (x3_16, IntKind.wrap .i64 (x4_6 + 1)) _ _ (hE.cut (.cons rfl (.cons rfl (.cons rfl Subs.nil)))) hR H
  · replace H := M.ite_f hb H
    refine w_exit ?_
    refine Xu.same ?_
    refine hK_3 _ _ ?_
    refine w_seq (fun K hK_33 => ?_)
    refine t_region ?_
    refine t_val (v := .int .u32 x3_5) rfl rfl hE rfl (r_move hE rfl) (fun a hE => ?_)
    refine t_val (v := .int .u32 (iNot .u32 x3_5)) rfl rfl hE rfl (r_un hE rfl u_xor) (fun a hE => ?_)
    refine t_val (v := .int .u32 (iNot .u32 x3_5)) rfl rfl hE rfl (r_assign hE rfl) (fun a hE => ?_)
    refine t_nil ?_
    refine hK_33 _ _ ?_
    refine w_ret ?_
    exact hret _ _ _ (iNot .u32 x3_5) _ hE hR (res_run hE rfl (RV.tmp rfl RV.nil)) rfl H

end Gx
