/- Printed by program: Go functions as Lean programs, each tied to its code. No condition. -/
import Derived.Test.YtlmfpnogpolhhaaP0
import Derived.Test.YtlmfpnogpolhhaaP1
import Derived.Test.YtlmfpnogpolhhaaP2
import Derived.Test.YtlmfpnogpolhhaaP3
set_option linter.unusedVariables false
set_option linter.unusedSimpArgs false
namespace Gx
open Go
set_option linter.unusedVariables false
set_option maxRecDepth 100000
/-- (*ramble/disk.Disk).Burst -/
def disk_Disk_Burst_j1 (self1 : (Int) → M (Int)) (c29_31 : Int) : M (Int) := do
  self1 (IntKind.wrap .i64 (c29_31 + 1))
noncomputable def ro32_13 : Array Oper := opsOf Go.Proofs.Try.f32 13
def tE32_13 : List (List Nat) := [[], [0], [1], [2], [], [], [5], [3, 4], [7, 6], [8], [], [10], [11], [9, 12], [3, 4], [14, 6, 0, 1, 2, 3, 4, 5, 6, 7, 8, 9, 10, 11, 12, 13], [15, 13, 0, 1, 2, 3, 4, 5, 6, 7, 8, 9, 10, 11, 12, 13]]
def tC32_13 : List (List Nat) := [[], [0], [1], [2], [], [], [5], [3, 4], [6, 7], [8], [], [10], [11], [9, 12], [3, 4], [6, 14], [13, 15]]
def tW32_13 : List (List Nat) := [[], [0], [0, 1], [0, 1, 2], [], [], [5], [0, 1, 2, 3, 4], [0, 1, 2, 3, 4, 5, 6, 7], [0, 1, 2, 3, 4, 5, 6, 7, 8], [], [10], [10, 11], [0, 1, 2, 3, 4, 5, 6, 7, 8, 9, 10, 11, 12], [0, 1, 2, 3, 4], [0, 1, 2, 3, 4, 5, 6, 7, 8, 9, 10, 11, 12, 13, 14], [0, 1, 2, 3, 4, 5, 6, 7, 8, 9, 10, 11, 12, 13, 14, 15]]
theorem tb32_13 : tabAt Go.Proofs.Try.f32 13 tE32_13 tC32_13 tW32_13 = true := by kernel_rfl
theorem tb32_13m : tabMB 17 tE32_13 tC32_13 tW32_13 [0, 1, 2, 4, 0, 0, 32, 24, 192, 256, 0, 1024, 2048, 4608, 24, 32767, 49151] [0, 1, 2, 4, 0, 0, 32, 24, 192, 256, 0, 1024, 2048, 4608, 24, 16448, 40960] [0, 1, 3, 7, 0, 0, 32, 31, 255, 511, 0, 1024, 3072, 8191, 31, 32767, 65535] = true := by kernel_rfl
def disk_Disk_Burst_l1 (c0_18 : Option Addr) (c1_19 : Int) (c2_20 : Int) (c3_21 : Int) (c28_22 : Int) (self1 : (Int) → M (Int)) : (Int) → M (Int) := fun s => match s with
  | x29_17 => do
    M.ite (decide (x29_17 < c28_22)) (do
      let x34_34 ← pShr .u32 c3_21 x29_17
      M.ite ((iAnd .u32 x34_34 1) == 1) (do
        let x41_36 ← nilP c0_18
        let x52_37 ← pShl .u8 1 (Int.tmod (IntKind.wrap .i64 (c2_20 + x29_17)) 8)
        let x43_38 ← ldL ((x41_36).add 0)
        let x47_39 ← ixL x43_38 c1_19 128
        let x48_40 ← ixA x47_39 128 (IntKind.wrap .i64 (Int.tdiv (IntKind.wrap .i64 (c2_20 + x29_17)) 8)) 1
        let x54_41 ← ixL x43_38 c1_19 128
        let x49_42 ← ldI .u8 x48_40
        let x55_43 ← ixA x54_41 128 (IntKind.wrap .i64 (Int.tdiv (IntKind.wrap .i64 (c2_20 + x29_17)) 8)) 1
        stV x55_43 (.int .u8 (iXor .u8 x49_42 x52_37))
        disk_Disk_Burst_j1 self1 x29_17
        ) (do
        disk_Disk_Burst_j1 self1 x29_17
        )
      ) (do
      M.pure 0
      )
def disk_Disk_Burst (x0 : Option Addr) (x1 : Int) (x2 : Int) (x3 : Int) : M (Int) := do
  let x13_4 ← disk_Disk_none x0
  M.ite x13_4 (do
    M.pure 2
    ) (do
    let x16_8 ← disk_Disk_there x0 x1
    M.ite (x16_8 != 0) (do
      M.pure x16_8
      ) (do
      let x25_13 ← M.ite (decide (x2 < 0)) (do
        M.pure true
        ) (do
        M.pure (decide (x2 ≥ 1024))
        )
      M.ite x25_13 (do
        M.pure 1
        ) (do
        M.loop (disk_Disk_Burst_l1 x0 x1 x2 x3 (iMin 32 (IntKind.wrap .i64 (1024 - x2)))) 0
        )
      )
    )
theorem S_disk_Disk_Burst (x0 : Option Addr) (x1 : Int) (x2 : Int) (x3 : Int) : Sound Go.Proofs.Try.prog 32 #[.pointer x0, .int .i64 x1, .int .i64 x2, .int .u32 x3] (fun (r : Int) => .int .i64 r) (disk_Disk_Burst x0 x1 x2 x3) := by
  refine sound_of [(0, .pointer x0), (1, .int .i64 x1), (2, .int .i64 x2), (3, .int .u32 x3)] Go.Proofs.Try.func32 rfl rfl (Nat.le_of_ble_eq_true rfl) (args_of ⟨rfl, rfl, rfl, rfl, trivial⟩) (fun w0 w Q R a hret hE hR H => ?_)
  unfold disk_Disk_Burst at H
  refine w_seq (fun K hK_1 => ?_)
  refine t_region ?_
  refine t_val (v := .int .i64 0) rfl rfl hE rfl (r_assign hE rfl) (fun a hE => ?_)
  refine t_nil ?_
  refine hK_1 _ _ ?_
  refine w_seq (fun K hK_2 => ?_)
  refine w_seq (fun K hK_3 => ?_)
  refine t_region ?_
  refine t_val (v := .pointer x0) rfl rfl hE rfl (r_move hE rfl) (fun a hE => ?_)
  refine t_call hE hR cl_disk_Disk_none rfl (S_disk_Disk_none x0) (M.unbind H) (fun x13_4 a w ea hR H => ?_)
  have hE := Env.put_some hE rfl ea; clear ea
  refine t_nil ?_
  refine hK_3 _ _ ?_
  refine w_cond x13_4 hE rfl (fun hb => ?_) (fun hb => ?_)
  · replace H := M.ite_t hb H
    refine w_seq (fun K hK_5 => ?_)
    refine t_region ?_
    refine t_val (v := .int .i64 2) rfl rfl hE rfl (r_assign hE rfl) (fun a hE => ?_)
    refine t_nil ?_
    refine hK_5 _ _ ?_
    refine w_ret ?_
    exact hret _ _ _ 2 _ hE hR (res_run hE rfl (RV.tmp rfl RV.nil)) rfl H
  · replace H := M.ite_f hb H
    refine w_skip ?_
    refine hK_2 _ _ ?_
    refine w_seq (fun K hK_6 => ?_)
    refine w_seq (fun K hK_7 => ?_)
    refine t_region ?_
    refine t_val (v := .pointer x0) rfl rfl hE rfl (r_move hE rfl) (fun a hE => ?_)
    refine t_val (v := .int .i64 x1) rfl rfl hE rfl (r_move hE rfl) (fun a hE => ?_)
    refine t_call hE hR cl_disk_Disk_there rfl (S_disk_Disk_there x0 x1) (M.unbind H) (fun x16_8 a w ea hR H => ?_)
    have hE := Env.put_some hE rfl ea; clear ea
    refine t_val (v := .int .i64 x16_8) rfl rfl hE rfl (r_assign hE rfl) (fun a hE => ?_)
    refine t_nil ?_
    refine hK_7 _ _ ?_
    refine w_seq (fun K hK_9 => ?_)
    refine t_region ?_
    refine t_val (v := .int .i64 x16_8) rfl rfl hE rfl (r_move hE rfl) (fun a hE => ?_)
    refine t_val (v := .bool (x16_8 != 0)) rfl rfl hE rfl (r_bin hE rfl rfl g_int b_neq) (fun a hE => ?_)
    refine t_nil ?_
    refine hK_9 _ _ ?_
    refine w_cond (x16_8 != 0) hE rfl (fun hb => ?_) (fun hb => ?_)
    · replace H := M.ite_t hb H
      refine w_seq (fun K hK_10 => ?_)
      refine t_region ?_
      refine t_val (v := .int .i64 x16_8) rfl rfl hE rfl (r_move hE rfl) (fun a hE => ?_)
      refine t_val (v := .int .i64 x16_8) rfl rfl hE rfl (r_assign hE rfl) (fun a hE => ?_)
      refine t_nil ?_
      refine hK_10 _ _ ?_
      refine w_ret ?_
      exact hret _ _ _ x16_8 _ hE hR (res_run hE rfl (RV.tmp rfl RV.nil)) rfl H
    · replace H := M.ite_f hb H
      refine w_skip ?_
      refine hK_6 _ _ ?_
      refine w_seq (fun K hK_11 => ?_)
      refine w_seq (fun K hK_12 => ?_)
      refine t_region ?_
      refine t_val (v := .int .i64 x2) rfl rfl hE rfl (r_move hE rfl) (fun a hE => ?_)
      refine t_val (v := .bool (decide (x2 < 0))) rfl rfl hE rfl (r_bin hE rfl rfl g_int b_lss) (fun a hE => ?_)
      refine t_val (v := .bool (decide (x2 < 0))) rfl rfl hE rfl (r_move hE rfl) (fun a hE => ?_)
      refine t_grp (n := (⟨57, []⟩ : Frm)) (w0 := w0) 3 (fun x25_13 : Bool => [(0, .pointer x0), (1, .int .i64 x1), (2, .int .i64 x2), (3, .int .u32 x3), (25, .bool x25_13)]) (M.unbind H) (fun Kr hKr H => ?_) ?_
      · rcases bool_em (decide (x2 < 0)) with hb | hb
        · replace H := M.ite_t hb H
          have hE := hE.reb 22 (decide (x2 < 0)) true hb rfl
          refine t_off rfl hE rfl rfl rfl (fun a ea => ?_)
          have hE := Env.put_some hE rfl ea; clear ea
          refine t_off rfl hE rfl rfl rfl (fun a ea => ?_)
          have hE := Env.put_some hE rfl ea; clear ea
          refine t_val rfl rfl hE rfl (r_pick_t hE rfl rfl) (fun a hE => ?_)
          refine t_nil ?_
          exact hKr _ _ _ (hE.cut (.cons rfl (.cons rfl (.cons rfl (.cons rfl (.cons rfl Subs.nil)))))) hR H
        · replace H := M.ite_f hb H
          have hE := hE.reb 22 (decide (x2 < 0)) false hb rfl
          refine t_on rfl hE rfl rfl rfl ?_
          refine t_val (v := .int .i64 x2) rfl rfl hE rfl (r_move hE rfl) (fun a hE => ?_)
          refine t_on rfl hE rfl rfl rfl ?_
          refine t_val (v := .bool (decide (x2 ≥ 1024))) rfl rfl hE rfl (r_bin hE rfl rfl g_int b_geq) (fun a hE => ?_)
          refine t_val rfl rfl hE rfl (r_pick_f hE rfl rfl) (fun a hE => ?_)
          refine t_nil ?_
          exact hKr _ _ _ (hE.cut (.cons rfl (.cons rfl (.cons rfl (.cons rfl (.cons rfl Subs.nil)))))) hR H
      · intro x25_13 a w hE hR H
        refine t_nil ?_
        refine hK_12 _ _ ?_
        refine w_cond x25_13 hE rfl (fun hb => ?_) (fun hb => ?_)
        · replace H := M.ite_t hb H
          refine w_seq (fun K hK_14 => ?_)
          refine t_region ?_
          refine t_val (v := .int .i64 1) rfl rfl hE rfl (r_assign hE rfl) (fun a hE => ?_)
          refine t_nil ?_
          refine hK_14 _ _ ?_
          refine w_ret ?_
          exact hret _ _ _ 1 _ hE hR (res_run hE rfl (RV.tmp rfl RV.nil)) rfl H
        · replace H := M.ite_f hb H
          refine w_skip ?_
          refine hK_11 _ _ ?_
          refine w_seq (fun K hK_15 => ?_)
          refine w_seq (fun K hK_16 => ?_)
          refine t_region ?_
          refine t_val (v := .int .i64 x2) rfl rfl hE rfl (r_move hE rfl) (fun a hE => ?_)
          refine t_val (v := .int .i64 (IntKind.wrap .i64 (1024 - x2))) rfl rfl hE rfl (r_bin hE rfl rfl g_int b_sub) (fun a hE => ?_)
          refine t_val (v := .int .i64 (iMin 32 (IntKind.wrap .i64 (1024 - x2)))) rfl rfl hE rfl (r_min hE rfl rfl) (fun a hE => ?_)
          refine t_val (v := .int .i64 0) rfl rfl hE rfl (r_move hE rfl) (fun a hE => ?_)
          refine t_nil ?_
          refine hK_16 _ _ ?_
          refine w_block ?_
          refine l_loop (fun (s : Int) => (⟨57, []⟩ : Frm)) (fun (s : Int) => [(0, .pointer x0), (1, .int .i64 x1), (2, .int .i64 x2), (3, .int .u32 x3), (28, .int .i64 (iMin 32 (IntKind.wrap .i64 (1024 - x2)))), (29, .int .i64 s)]) H (hE.cut (.cons rfl (.cons rfl (.cons rfl (.cons rfl (.cons rfl (.cons rfl Subs.nil))))))) hR (fun Y self1 hY_23 x29_17 a w hE hR H => ?_)
          replace hE : Env (⟨57, []⟩ : Frm) a [(0, .pointer x0), (1, .int .i64 x1), (2, .int .i64 x2), (3, .int .u32 x3), (28, .int .i64 (iMin 32 (IntKind.wrap .i64 (1024 - x2)))), (29, .int .i64 x29_17)] := hE
          replace H : (disk_Disk_Burst_l1 x0 x1 x2 x3 (iMin 32 (IntKind.wrap .i64 (1024 - x2))) self1 x29_17).wp w.heap Q := H
          unfold disk_Disk_Burst_l1 at H
          refine w_seq (fun K hK_24 => ?_)
          refine t_region ?_
          refine t_val (v := .bool (decide (x29_17 < (iMin 32 (IntKind.wrap .i64 (1024 - x2)))))) rfl rfl hE rfl (r_bin hE rfl rfl g_int b_lss) (fun a hE => ?_)
          refine t_nil ?_
          refine hK_24 _ _ ?_
          refine w_seq (fun K hK_25 => ?_)
          refine w_cond (decide (x29_17 < (iMin 32 (IntKind.wrap .i64 (1024 - x2))))) hE rfl (fun hb => ?_) (fun hb => ?_)
          · replace H := M.ite_t hb H
            refine w_skip ?_
            refine hK_25 _ _ ?_
            refine w_seq_join (fun a w => Env (⟨57, []⟩ : Frm) a [(0, .pointer x0), (1, .int .i64 x1), (2, .int .i64 x2), (3, .int .u32 x3), (28, .int .i64 (iMin 32 (IntKind.wrap .i64 (1024 - x2)))), (29, .int .i64 x29_17)] ∧ Rest w0 w ∧ (disk_Disk_Burst_j1 self1 x29_17).wp w.heap Q) ?_ ?_
            · rintro a w ⟨hE, hR, H⟩
              unfold disk_Disk_Burst_j1 at H
              refine t_region ?_
              refine t_val (v := .int .i64 (IntKind.wrap .i64 (x29_17 + 1))) rfl rfl hE rfl (r_bin hE rfl rfl g_int b_add) (fun a hE => ?_)
              refine t_val (v := .int .i64 (IntKind.wrap .i64 (x29_17 + 1))) rfl rfl hE rfl (r_move hE rfl) (fun a hE => ?_)
              refine t_nil ?_
              exact hY_23 (IntKind.wrap .i64 (x29_17 + 1)) _ _ (hE.cut (.cons rfl (.cons rfl (.cons rfl (.cons rfl (.cons rfl (.cons rfl Subs.nil))))))) hR H
            · skip
              refine w_block ?_
              refine w_seq (fun K hK_32 => ?_)
              refine t_region ?_
              refine t_val (v := .int .i64 x29_17) rfl rfl hE rfl (r_move hE rfl) (fun a hE => ?_)
              refine t_val (v := .int .i64 x29_17) rfl rfl hE rfl (r_assign hE rfl) (fun a hE => ?_)
              refine t_nil ?_
              refine hK_32 _ _ ?_
              refine w_seq (fun K hK_33 => ?_)
              refine t_region ?_
              refine t_val (v := .int .u32 x3) rfl rfl hE rfl (r_move hE rfl) (fun a hE => ?_)
              refine t_val (v := .int .i64 x29_17) rfl rfl hE rfl (r_move hE rfl) (fun a hE => ?_)
              obtain ⟨x34_34, qx34_34, H⟩ := H
              refine t_val (v := .int .u32 x34_34) rfl rfl hE rfl (r_bin hE rfl rfl g_int (b_shr qx34_34)) (fun a hE => ?_)
              refine t_val (v := .int .u32 (iAnd .u32 x34_34 1)) rfl rfl hE rfl (r_bin hE rfl rfl g_int b_and) (fun a hE => ?_)
              refine t_val (v := .bool ((iAnd .u32 x34_34 1) == 1)) rfl rfl hE rfl (r_bin hE rfl rfl g_int b_eql) (fun a hE => ?_)
              refine t_nil ?_
              refine hK_33 _ _ ?_
              refine w_cond ((iAnd .u32 x34_34 1) == 1) hE rfl (fun hb => ?_) (fun hb => ?_)
              · replace H := M.ite_t hb H
                refine w_seq (fun K hK_35 => ?_)
                refine t_region ?_
                refine t_val (v := .int .i64 x2) rfl rfl hE rfl (r_move hE rfl) (fun a hE => ?_)
                refine t_val (v := .int .i64 x29_17) rfl rfl hE rfl (r_move hE rfl) (fun a hE => ?_)
                refine t_val (v := .int .i64 (IntKind.wrap .i64 (x2 + x29_17))) rfl rfl hE rfl (r_bin hE rfl rfl g_int b_add) (fun a hE => ?_)
                refine t_val (v := .int .i64 (IntKind.wrap .i64 (x2 + x29_17))) rfl rfl hE rfl (r_assign hE rfl) (fun a hE => ?_)
                refine t_nil ?_
                refine hK_35 _ _ ?_
                obtain ⟨x41_36, qx41_36, H⟩ := H
                obtain ⟨x52_37, qx52_37, H⟩ := H
                obtain ⟨x43_38, qx43_38, H⟩ := H
                obtain ⟨x47_39, qx47_39, H⟩ := H
                obtain ⟨x48_40, qx48_40, H⟩ := H
                obtain ⟨x54_41, qx54_41, H⟩ := H
                obtain ⟨x49_42, qx49_42, H⟩ := H
                obtain ⟨x55_43, qx55_43, H⟩ := H
                refine reg_eq (rops := ro32_13) (by kernel_rfl) ?_
                have hT : Tab ro32_13 _ _ _ := tab_of tb32_13 rfl (by kernel_rfl)
                have hM := TabM.of tb32_13m
                refine d_start (m := 17) (fun w : World => (fun h : Heap => (hcell h ((x41_36).add 0) = some ((x43_38 : Sl).v)) ∧ (hcell h x48_40 = some (.int .u8 x49_42))) w.heap) [13, 15, 16] (unb 17 0) mo hR (by kernel_rfl) (by kernel_rfl) (fun w' e => by rw [e]; exact ⟨qx43_38, qx49_42⟩) (fun w hh hR hs => ?_)
                replace H := M.at hh H; clear hh
                refine d_pureg (i := 0) (v := .pointer x0) (unb 17 1) rfl rfl hT (anyM hM (by kernel_rfl)) hE rfl (wanted_none rfl) (fun w => r_move hE rfl) (fun a hE => ?_)
                refine d_pureg (i := 1) (v := .pointer (some x41_36)) (unb 17 3) rfl rfl hT (anyM hM (by kernel_rfl)) hE rfl (wanted_none rfl) (fun w => r_nilCheck hE (hx_eq rfl (congrArg Value.pointer qx41_36))) (fun a hE => ?_)
                refine d_pureg (i := 2) (v := .pointer (some ((x41_36).add 0))) (unb 17 7) rfl rfl hT (anyM hM (by kernel_rfl)) hE rfl (wanted_none rfl) (fun w => r_fieldAddr hE rfl fd66_0) (fun a hE => ?_)
                refine d_pureg (i := 4) (v := .int .i64 x1) (unb 17 23) rfl rfl hT (anyM hM (by kernel_rfl)) hE rfl (wanted_none rfl) (fun w => r_move hE rfl) (fun a hE => ?_)
                refine d_pureg (i := 5) (v := .int .i64 (IntKind.wrap .i64 (x2 + x29_17))) (unb 17 55) rfl rfl hT (anyM hM (by kernel_rfl)) hE rfl (wanted_none rfl) (fun w => r_move hE rfl) (fun a hE => ?_)
                refine d_pureg (i := 6) (v := .int .i64 (IntKind.wrap .i64 (Int.tdiv (IntKind.wrap .i64 (x2 + x29_17)) 8))) (unb 17 119) rfl rfl hT (anyM hM (by kernel_rfl)) hE rfl (wanted_none rfl) (fun w => r_bin hE rfl rfl g_int (b_quo ⟨by decide, rfl⟩)) (fun a hE => ?_)
                refine d_pureg (i := 10) (v := .int .i64 (IntKind.wrap .i64 (x2 + x29_17))) (unb 17 1143) rfl rfl hT (anyM hM (by kernel_rfl)) hE rfl (wanted_none rfl) (fun w => r_move hE rfl) (fun a hE => ?_)
                refine d_pureg (i := 11) (v := .int .i64 (Int.tmod (IntKind.wrap .i64 (x2 + x29_17)) 8)) (unb 17 3191) rfl rfl hT (anyM hM (by kernel_rfl)) hE rfl (wanted_none rfl) (fun w => r_bin hE rfl rfl g_int (b_rem ⟨by decide, rfl⟩)) (fun a hE => ?_)
                refine d_pureg (i := 12) (v := .int .u8 x52_37) (unb 17 7287) rfl rfl hT (anyM hM (by kernel_rfl)) hE rfl (wanted_none rfl) (fun w => r_bin hE rfl rfl g_int (b_shl qx52_37)) (fun a hE => ?_)
                refine d_read (i := 3) (v := (x43_38 : Sl).v) (unb 17 7295) rfl rfl hT (takeM hM (by kernel_rfl)) hE rfl (wanted_none rfl) hs (fun w s => r_load hE rfl sc63 s.1) (fun a hE => ?_)
                refine d_pureg (i := 7) (v := .pointer (some x47_39)) (unb 17 7423) rfl rfl hT (anyM hM (by kernel_rfl)) hE rfl (wanted_none rfl) (fun w => r_indexAddrL hE rfl rfl un63 sz47 qx47_39) (fun a hE => ?_)
                refine d_pureg (i := 8) (v := .pointer (some x48_40)) (unb 17 7679) rfl rfl hT (anyM hM (by kernel_rfl)) hE rfl (wanted_none rfl) (fun w => r_indexAddrA hE rfl rfl un47 sz5 qx48_40) (fun a hE => ?_)
                refine d_pureg (i := 14) (v := .pointer (some x54_41)) (unb 17 24063) rfl rfl hT (anyM hM (by kernel_rfl)) hE rfl (wanted_none rfl) (fun w => r_indexAddrL hE rfl rfl un63 sz47 qx54_41) (fun a hE => ?_)
                refine d_read (i := 9) (v := .int .u8 x49_42) (unb 17 24575) rfl rfl hT (takeM hM (by kernel_rfl)) hE rfl (wanted_none rfl) hs (fun w s => r_load hE rfl sc5 s.2) (fun a hE => ?_)
                refine d_pureg (i := 13) (v := .int .u8 (iXor .u8 x49_42 x52_37)) (unb 17 32767) rfl rfl hT (anyM hM (by kernel_rfl)) hE rfl (wanted_none rfl) (fun w => r_bin hE rfl rfl g_int b_xor) (fun a hE => ?_)
                refine d_pureg (i := 15) (v := .pointer (some x55_43)) (unb 17 65535) rfl rfl hT (anyM hM (by kernel_rfl)) hE rfl (wanted_none rfl) (fun w => r_indexAddrA hE rfl rfl un47 sz5 qx55_43) (fun a hE => ?_)
                obtain ⟨u_44, qu_44, H⟩ := H
                refine d_stlh (i := 16) (unb 17 131071) rfl rfl hT (oneM hM (by kernel_rfl)) rfl hE hR (wanted_none rfl) (r_store hE rfl rfl sz5 qu_44)  (fun a w hE hR hh => ?_)
                replace H := M.at hh H; clear hh
                refine d_done hT (doneM hM (by kernel_rfl)) ?_
                exact ⟨hE.cut (.cons rfl (.cons rfl (.cons rfl (.cons rfl (.cons rfl (.cons rfl Subs.nil)))))), hR, H⟩
              · replace H := M.ite_f hb H
                refine w_skip ?_
                exact ⟨hE.cut (.cons rfl (.cons rfl (.cons rfl (.cons rfl (.cons rfl (.cons rfl Subs.nil)))))), hR, H⟩
          · replace H := M.ite_f hb H
            refine w_exit ?_
            refine Xu.same ?_
            refine hK_15 _ _ ?_
            refine w_seq (fun K hK_45 => ?_)
            refine t_region ?_
            refine t_val (v := .int .i64 0) rfl rfl hE rfl (r_assign hE rfl) (fun a hE => ?_)
            refine t_nil ?_
            refine hK_45 _ _ ?_
            refine w_ret ?_
            exact hret _ _ _ 0 _ hE hR (res_run hE rfl (RV.tmp rfl RV.nil)) rfl H

/-- (*ramble/disk.Disk).Sectors -/
def disk_Disk_Sectors (x0 : Option Addr) : M (Int) := do
  let x4_4 ← disk_Disk_none x0
  M.ite x4_4 (do
    M.pure 0
    ) (do
    let x6_7 ← nilP x0
    let x8_8 ← ldL ((x6_7).add 0)
    M.pure (x8_8.len : Int)
    )
theorem S_disk_Disk_Sectors (x0 : Option Addr) : Sound Go.Proofs.Try.prog 33 #[.pointer x0] (fun (r : Int) => .int .i64 r) (disk_Disk_Sectors x0) := by
  refine sound_of [(0, .pointer x0)] Go.Proofs.Try.func33 rfl rfl (Nat.le_of_ble_eq_true rfl) (args_of ⟨rfl, trivial⟩) (fun w0 w Q R a hret hE hR H => ?_)
  unfold disk_Disk_Sectors at H
  refine w_seq (fun K hK_1 => ?_)
  refine t_region ?_
  refine t_val (v := .int .i64 0) rfl rfl hE rfl (r_assign hE rfl) (fun a hE => ?_)
  refine t_nil ?_
  refine hK_1 _ _ ?_
  refine w_seq (fun K hK_2 => ?_)
  refine w_seq (fun K hK_3 => ?_)
  refine t_region ?_
  refine t_val (v := .pointer x0) rfl rfl hE rfl (r_move hE rfl) (fun a hE => ?_)
  refine t_call hE hR cl_disk_Disk_none rfl (S_disk_Disk_none x0) (M.unbind H) (fun x4_4 a w ea hR H => ?_)
  have hE := Env.put_some hE rfl ea; clear ea
  refine t_nil ?_
  refine hK_3 _ _ ?_
  refine w_cond x4_4 hE rfl (fun hb => ?_) (fun hb => ?_)
  · replace H := M.ite_t hb H
    refine w_seq (fun K hK_5 => ?_)
    refine t_region ?_
    refine t_val (v := .int .i64 0) rfl rfl hE rfl (r_assign hE rfl) (fun a hE => ?_)
    refine t_nil ?_
    refine hK_5 _ _ ?_
    refine w_ret ?_
    exact hret _ _ _ 0 _ hE hR (res_run hE rfl (RV.tmp rfl RV.nil)) rfl H
  · replace H := M.ite_f hb H
    refine w_skip ?_
    refine hK_2 _ _ ?_
    refine w_seq (fun K hK_6 => ?_)
    refine t_region ?_
    refine t_val (v := .pointer x0) rfl rfl hE rfl (r_move hE rfl) (fun a hE => ?_)
    obtain ⟨x6_7, qx6_7, H⟩ := H
    refine t_val (v := .pointer (some x6_7)) rfl rfl hE rfl (r_nilCheck hE (hx_eq rfl (congrArg Value.pointer qx6_7))) (fun a hE => ?_)
    refine t_val (v := .pointer (some ((x6_7).add 0))) rfl rfl hE rfl (r_fieldAddr hE rfl fd66_0) (fun a hE => ?_)
    obtain ⟨x8_8, qx8_8, H⟩ := H
    refine t_val (v := (x8_8 : Sl).v) rfl rfl hE rfl (r_load hE rfl sc63 qx8_8) (fun a hE => ?_)
    refine t_val (v := .int .i64 (x8_8.len : Int)) rfl rfl hE rfl (r_len hE rfl 47 un63) (fun a hE => ?_)
    refine t_val (v := .int .i64 (x8_8.len : Int)) rfl rfl hE rfl (r_assign hE rfl) (fun a hE => ?_)
    refine t_nil ?_
    refine hK_6 _ _ ?_
    refine w_ret ?_
    exact hret _ _ _ (x8_8.len : Int) _ hE hR (res_run hE rfl (RV.tmp rfl RV.nil)) rfl H

/-- slices.Clone[[]ramble/api.Sector,ramble/api.Sector] -/
def slices_Clone_slapi_Sector_api_Sector (x0 : Sl) : M (Sl) := do
  M.ite ((x0).base.isNone) (do
    M.pure Sl.nil
    ) (do
    let y_7 ← fillL 128 0 (Array.replicate 128 (.int .u8 0) : Array Value) []
    let x5_6 ← bdL ty_api_Sector 0 y_7
    let x7_8 ← apL ty_api_Sector 128 128 (Array.replicate 128 (.int .u8 0) : Array Value) x5_6 x0
    M.pure x7_8
    )
theorem S_slices_Clone_slapi_Sector_api_Sector (x0 : Sl) : Sound Go.Proofs.Try.prog 59 #[(x0 : Sl).v] (fun (r : Sl) => (r : Sl).v) (slices_Clone_slapi_Sector_api_Sector x0) := by
  refine sound_of [(0, (x0 : Sl).v)] Go.Proofs.Try.func59 rfl rfl (Nat.le_of_ble_eq_true rfl) (args_of ⟨rfl, trivial⟩) (fun w0 w Q R a hret hE hR H => ?_)
  unfold slices_Clone_slapi_Sector_api_Sector at H
  refine w_seq (fun K hK_1 => ?_)
  refine t_region ?_
  refine t_val (v := (Sl.nil : Sl).v) rfl rfl hE rfl (r_assign hE rfl) (fun a hE => ?_)
  refine t_nil ?_
  refine hK_1 _ _ ?_
  refine w_seq (fun K hK_2 => ?_)
  refine w_seq (fun K hK_3 => ?_)
  refine t_region ?_
  refine t_val (v := (x0 : Sl).v) rfl rfl hE rfl (r_move hE rfl) (fun a hE => ?_)
  refine t_val (v := .bool ((x0).base.isNone)) rfl rfl hE rfl (r_bin hE rfl rfl (g_sl (v := Sl.nil)) (b_eqlL un63)) (fun a hE => ?_)
  refine t_nil ?_
  refine hK_3 _ _ ?_
  refine w_cond ((x0).base.isNone) hE rfl (fun hb => ?_) (fun hb => ?_)
  · replace H := M.ite_t hb H
    refine w_seq (fun K hK_4 => ?_)
    refine t_region ?_
    refine t_val (v := (Sl.nil : Sl).v) rfl rfl hE rfl (r_assign hE rfl) (fun a hE => ?_)
    refine t_nil ?_
    refine hK_4 _ _ ?_
    refine w_ret ?_
    exact hret _ _ _ Sl.nil _ hE hR (res_run hE rfl (RV.tmp rfl RV.nil)) rfl H
  · replace H := M.ite_f hb H
    refine w_skip ?_
    refine hK_2 _ _ ?_
    refine w_seq (fun K hK_5 => ?_)
    refine t_region ?_
    obtain ⟨y_7, qy_7, H⟩ := H
    obtain ⟨x5_6, qx5_6, H⟩ := H
    refine t_valh (v := (x5_6 : Sl).v) rfl rfl hE rfl hR (r_buildL hE rfl un63 sz47 zr47 rfl qy_7 qx5_6) (fun a w hE hR hh => ?_)
    replace H := M.at hh H; clear hh
    refine t_val (v := (x0 : Sl).v) rfl rfl hE rfl (r_move hE rfl) (fun a hE => ?_)
    refine t_ex (fun x7_8 => (x7_8 : Sl).v) rfl rfl hR (M.unbind H) (fun Q H => ap_run hE rfl rfl ap63 H) (fun x7_8 a w ea hR H => ?_)
    have hE := Env.put_some hE rfl ea; clear ea
    refine t_val (v := (x7_8 : Sl).v) rfl rfl hE rfl (r_assign hE rfl) (fun a hE => ?_)
    refine t_nil ?_
    refine hK_5 _ _ ?_
    refine w_ret ?_
    exact hret _ _ _ x7_8 _ hE hR (res_run hE rfl (RV.tmp rfl RV.nil)) rfl H

/-- slices.Clone[[]bool,bool] -/
def slices_Clone_slbool_bool (x0 : Sl) : M (Sl) := do
  M.ite ((x0).base.isNone) (do
    M.pure Sl.nil
    ) (do
    let x5_6 ← bdL ty_bool 0 #[]
    let x7_7 ← apL ty_bool 1 1 (#[.bool false] : Array Value) x5_6 x0
    M.pure x7_7
    )
theorem S_slices_Clone_slbool_bool (x0 : Sl) : Sound Go.Proofs.Try.prog 60 #[(x0 : Sl).v] (fun (r : Sl) => (r : Sl).v) (slices_Clone_slbool_bool x0) := by
  refine sound_of [(0, (x0 : Sl).v)] Go.Proofs.Try.func60 rfl rfl (Nat.le_of_ble_eq_true rfl) (args_of ⟨rfl, trivial⟩) (fun w0 w Q R a hret hE hR H => ?_)
  unfold slices_Clone_slbool_bool at H
  refine w_seq (fun K hK_1 => ?_)
  refine t_region ?_
  refine t_val (v := (Sl.nil : Sl).v) rfl rfl hE rfl (r_assign hE rfl) (fun a hE => ?_)
  refine t_nil ?_
  refine hK_1 _ _ ?_
  refine w_seq (fun K hK_2 => ?_)
  refine w_seq (fun K hK_3 => ?_)
  refine t_region ?_
  refine t_val (v := (x0 : Sl).v) rfl rfl hE rfl (r_move hE rfl) (fun a hE => ?_)
  refine t_val (v := .bool ((x0).base.isNone)) rfl rfl hE rfl (r_bin hE rfl rfl (g_sl (v := Sl.nil)) (b_eqlL un45)) (fun a hE => ?_)
  refine t_nil ?_
  refine hK_3 _ _ ?_
  refine w_cond ((x0).base.isNone) hE rfl (fun hb => ?_) (fun hb => ?_)
  · replace H := M.ite_t hb H
    refine w_seq (fun K hK_4 => ?_)
    refine t_region ?_
    refine t_val (v := (Sl.nil : Sl).v) rfl rfl hE rfl (r_assign hE rfl) (fun a hE => ?_)
    refine t_nil ?_
    refine hK_4 _ _ ?_
    refine w_ret ?_
    exact hret _ _ _ Sl.nil _ hE hR (res_run hE rfl (RV.tmp rfl RV.nil)) rfl H
  · replace H := M.ite_f hb H
    refine w_skip ?_
    refine hK_2 _ _ ?_
    refine w_seq (fun K hK_5 => ?_)
    refine t_region ?_
    obtain ⟨x5_6, qx5_6, H⟩ := H
    refine t_valh (v := (x5_6 : Sl).v) rfl rfl hE rfl hR (r_buildL (cells := #[]) hE rfl un45 sz4 zr4 rfl rfl qx5_6) (fun a w hE hR hh => ?_)
    replace H := M.at hh H; clear hh
    refine t_val (v := (x0 : Sl).v) rfl rfl hE rfl (r_move hE rfl) (fun a hE => ?_)
    refine t_ex (fun x7_7 => (x7_7 : Sl).v) rfl rfl hR (M.unbind H) (fun Q H => ap_run hE rfl rfl ap45 H) (fun x7_7 a w ea hR H => ?_)
    have hE := Env.put_some hE rfl ea; clear ea
    refine t_val (v := (x7_7 : Sl).v) rfl rfl hE rfl (r_assign hE rfl) (fun a hE => ?_)
    refine t_nil ?_
    refine hK_5 _ _ ?_
    refine w_ret ?_
    exact hret _ _ _ x7_7 _ hE hR (res_run hE rfl (RV.tmp rfl RV.nil)) rfl H

/-- maps.Clone[map[int]ramble/api.Sector,int,ramble/api.Sector] -/
def maps_Clone_map_int_api_Sector_int_api_Sector (x0 : Option Nat) : M (Option Nat) := do
  M.ite ((x0).isNone) (do
    M.pure (none : Option Nat)
    ) (do
    M.fail
    )
theorem S_maps_Clone_map_int_api_Sector_int_api_Sector (x0 : Option Nat) : Sound Go.Proofs.Try.prog 61 #[.map x0] (fun (r : Option Nat) => .map r) (maps_Clone_map_int_api_Sector_int_api_Sector x0) := by
  refine sound_of [(0, .map x0)] Go.Proofs.Try.func61 rfl rfl (Nat.le_of_ble_eq_true rfl) (args_of ⟨rfl, trivial⟩) (fun w0 w Q R a hret hE hR H => ?_)
  unfold maps_Clone_map_int_api_Sector_int_api_Sector at H
  refine w_seq (fun K hK_1 => ?_)
  refine t_region ?_
  refine t_val (v := .map (none : Option Nat)) rfl rfl hE rfl (r_assign hE rfl) (fun a hE => ?_)
  refine t_nil ?_
  refine hK_1 _ _ ?_
  refine w_seq (fun K hK_2 => ?_)
  refine w_seq (fun K hK_3 => ?_)
  refine t_region ?_
  refine t_val (v := .map x0) rfl rfl hE rfl (r_move hE rfl) (fun a hE => ?_)
  refine t_val (v := .bool ((x0).isNone)) rfl rfl hE rfl (r_bin hE rfl rfl g_mp (b_eqlM un64)) (fun a hE => ?_)
  refine t_nil ?_
  refine hK_3 _ _ ?_
  refine w_cond ((x0).isNone) hE rfl (fun hb => ?_) (fun hb => ?_)
  · replace H := M.ite_t hb H
    refine w_seq (fun K hK_4 => ?_)
    refine t_region ?_
    refine t_val (v := .map (none : Option Nat)) rfl rfl hE rfl (r_assign hE rfl) (fun a hE => ?_)
    refine t_nil ?_
    refine hK_4 _ _ ?_
    refine w_ret ?_
    exact hret _ _ _ (none : Option Nat) _ hE hR (res_run hE rfl (RV.tmp rfl RV.nil)) rfl H
  · replace H := M.ite_f hb H
    refine w_skip ?_
    refine hK_2 _ _ ?_
    refine w_seq (fun K hK_5 => ?_)
    exact False.elim H

/-- (*ramble/disk.Disk).Clone -/
noncomputable def ro34_4 : Array Oper := opsOf Go.Proofs.Try.f34 4
def tE34_4 : List (List Nat) := [[], [0], [1], [2], [3], [], [5], [6], [7], [8, 4], [], [10], [11], [12], [13, 9], [0, 1, 2, 3, 4, 8, 9, 13, 14], [15, 4, 14, 0, 1, 2, 3, 4, 8, 9, 13, 14], [0, 1, 2, 3, 4, 5, 6, 7, 8, 9, 13, 14, 15, 16], [17, 9, 16, 0, 1, 2, 3, 4, 5, 6, 7, 8, 9, 13, 14, 15, 16], [0, 1, 2, 3, 4, 5, 6, 7, 8, 9, 10, 11, 12, 13, 14, 15, 16, 17, 18], [19, 14, 18, 0, 1, 2, 3, 4, 5, 6, 7, 8, 9, 10, 11, 12, 13, 14, 15, 16, 17, 18]]
def tC34_4 : List (List Nat) := [[], [0], [1], [2], [3], [], [5], [6], [7], [8], [], [10], [11], [12], [13], [], [4, 15], [], [9, 17], [], [14, 19]]
def tW34_4 : List (List Nat) := [[], [0], [0, 1], [0, 1, 2], [0, 1, 2, 3], [], [5], [5, 6], [5, 6, 7], [0, 1, 2, 3, 4, 5, 6, 7, 8], [], [10], [10, 11], [10, 11, 12], [0, 1, 2, 3, 4, 5, 6, 7, 8, 9, 10, 11, 12, 13], [0, 1, 2, 3, 4, 5, 6, 7, 8, 9, 10, 11, 12, 13, 14], [0, 1, 2, 3, 4, 5, 6, 7, 8, 9, 10, 11, 12, 13, 14, 15], [0, 1, 2, 3, 4, 5, 6, 7, 8, 9, 10, 11, 12, 13, 14, 15, 16], [0, 1, 2, 3, 4, 5, 6, 7, 8, 9, 10, 11, 12, 13, 14, 15, 16, 17], [0, 1, 2, 3, 4, 5, 6, 7, 8, 9, 10, 11, 12, 13, 14, 15, 16, 17, 18], [0, 1, 2, 3, 4, 5, 6, 7, 8, 9, 10, 11, 12, 13, 14, 15, 16, 17, 18, 19]]
theorem tb34_4 : tabAt Go.Proofs.Try.f34 4 tE34_4 tC34_4 tW34_4 = true := by kernel_rfl
theorem tb34_4m : tabMB 21 tE34_4 tC34_4 tW34_4 [0, 1, 2, 4, 8, 0, 32, 64, 128, 272, 0, 1024, 2048, 4096, 8704, 25375, 58143, 123903, 254975, 524287, 1048575] [0, 1, 2, 4, 8, 0, 32, 64, 128, 256, 0, 1024, 2048, 4096, 8192, 0, 32784, 0, 131584, 0, 540672] [0, 1, 3, 7, 15, 0, 32, 96, 224, 511, 0, 1024, 3072, 7168, 16383, 32767, 65535, 131071, 262143, 524287, 1048575] = true := by kernel_rfl
def disk_Disk_Clone (x0 : Option Addr) : M (Option Addr) := do
  let x5_4 ← disk_Disk_none x0
  M.ite x5_4 (do
    M.pure (none : Option Addr)
    ) (do
    let x7_7 ← nilP x0
    let x8_8 ← ldG 6 x7_7
    let x3_9 ← mkB ty_disk_Disk (#[.slice none 0 0, .slice none 0 0, .map none, .bool false, .int .i64 0, .int .i64 0] : Array Value)
    M.need (x8_8.size = 6)
    stG x3_9 x8_8
    let x10_12 ← nilP x0
    let x15_13 ← nilP x0
    let x20_14 ← nilP x0
    let x12_15 ← ldL ((x10_12).add 0)
    let x17_16 ← ldL ((x15_13).add 1)
    let x22_17 ← ldMp ((x20_14).add 2)
    let x13_18 ← slices_Clone_slapi_Sector_api_Sector x12_15
    chk (fun h : Heap => (hcell h ((x10_12).add 0) = some ((x12_15 : Sl).v)) ∧ (hcell h ((x15_13).add 1) = some ((x17_16 : Sl).v)) ∧ (hcell h ((x20_14).add 2) = some (.map x22_17)))
    let x18_19 ← slices_Clone_slbool_bool x17_16
    chk (fun h : Heap => (hcell h ((x10_12).add 0) = some ((x12_15 : Sl).v)) ∧ (hcell h ((x15_13).add 1) = some ((x17_16 : Sl).v)) ∧ (hcell h ((x20_14).add 2) = some (.map x22_17)))
    let x23_20 ← maps_Clone_map_int_api_Sector_int_api_Sector x22_17
    stV ((x3_9).add 0) ((x13_18 : Sl).v)
    stV ((x3_9).add 1) ((x18_19 : Sl).v)
    stV ((x3_9).add 2) (.map x23_20)
    M.pure (some x3_9)
    )
theorem S_disk_Disk_Clone (x0 : Option Addr) : Sound Go.Proofs.Try.prog 34 #[.pointer x0] (fun (r : Option Addr) => .pointer r) (disk_Disk_Clone x0) := by
  refine sound_of [(0, .pointer x0)] Go.Proofs.Try.func34 rfl rfl (Nat.le_of_ble_eq_true rfl) (args_of ⟨rfl, trivial⟩) (fun w0 w Q R a hret hE hR H => ?_)
  unfold disk_Disk_Clone at H
  refine w_seq (fun K hK_1 => ?_)
  refine t_region ?_
  refine t_val (v := .pointer (none : Option Addr)) rfl rfl hE rfl (r_assign hE rfl) (fun a hE => ?_)
  refine t_nil ?_
  refine hK_1 _ _ ?_
  refine w_seq (fun K hK_2 => ?_)
  refine w_seq (fun K hK_3 => ?_)
  refine t_region ?_
  refine t_val (v := .pointer x0) rfl rfl hE rfl (r_move hE rfl) (fun a hE => ?_)
  refine t_call hE hR cl_disk_Disk_none rfl (S_disk_Disk_none x0) (M.unbind H) (fun x5_4 a w ea hR H => ?_)
  have hE := Env.put_some hE rfl ea; clear ea
  refine t_nil ?_
  refine hK_3 _ _ ?_
  refine w_cond x5_4 hE rfl (fun hb => ?_) (fun hb => ?_)
  · replace H := M.ite_t hb H
    refine w_seq (fun K hK_5 => ?_)
    refine t_region ?_
    refine t_val (v := .pointer (none : Option Addr)) rfl rfl hE rfl (r_assign hE rfl) (fun a hE => ?_)
    refine t_nil ?_
    refine hK_5 _ _ ?_
    refine w_ret ?_
    exact hret _ _ _ (none : Option Addr) _ hE hR (res_run hE rfl (RV.tmp rfl RV.nil)) rfl H
  · replace H := M.ite_f hb H
    refine w_skip ?_
    refine hK_2 _ _ ?_
    refine w_seq (fun K hK_6 => ?_)
    refine t_region ?_
    refine t_val (v := .pointer x0) rfl rfl hE rfl (r_move hE rfl) (fun a hE => ?_)
    obtain ⟨x7_7, qx7_7, H⟩ := H
    refine t_val (v := .pointer (some x7_7)) rfl rfl hE rfl (r_nilCheck hE (hx_eq rfl (congrArg Value.pointer qx7_7))) (fun a hE => ?_)
    obtain ⟨x8_8, qx8_8, H⟩ := H
    refine t_val (v := .agg x8_8) rfl rfl hE rfl (r_loadG hE rfl ag66 qx8_8) (fun a hE => ?_)
    obtain ⟨x3_9, qx3_9, H⟩ := H
    refine t_valh (v := .pointer (some x3_9)) rfl rfl hE rfl hR (r_alloc zr66 qx3_9) (fun a w hE hR hh => ?_)
    replace H := M.at hh H; clear hh
    obtain ⟨qz, H⟩ := H
    obtain ⟨u_10, qu_10, H⟩ := H
    refine t_sth rfl rfl hE hR (r_storeG hE rfl rfl sz66 qz qu_10) (fun a w hE hR hh => ?_)
    replace H := M.at hh H; clear hh
    refine t_nil ?_
    refine hK_6 _ _ ?_
    refine w_seq (fun K hK_11 => ?_)
    obtain ⟨x10_12, qx10_12, H⟩ := H
    obtain ⟨x15_13, qx15_13, H⟩ := H
    obtain ⟨x20_14, qx20_14, H⟩ := H
    obtain ⟨x12_15, qx12_15, H⟩ := H
    obtain ⟨x17_16, qx17_16, H⟩ := H
    obtain ⟨x22_17, qx22_17, H⟩ := H
    refine reg_eq (rops := ro34_4) (by kernel_rfl) ?_
    have hT : Tab ro34_4 _ _ _ := tab_of tb34_4 rfl (by kernel_rfl)
    have hM := TabM.of tb34_4m
    refine d_start (m := 21) (fun w : World => (fun h : Heap => (hcell h ((x10_12).add 0) = some ((x12_15 : Sl).v)) ∧ (hcell h ((x15_13).add 1) = some ((x17_16 : Sl).v)) ∧ (hcell h ((x20_14).add 2) = some (.map x22_17))) w.heap) [14, 15, 16, 17, 18, 19, 20] (unb 21 0) mo hR (by kernel_rfl) (by kernel_rfl) (fun w' e => by rw [e]; exact ⟨qx12_15, qx17_16, qx22_17⟩) (fun w hh hR hs => ?_)
    replace H := M.at hh H; clear hh
    refine d_pureg (i := 0) (v := .pointer x0) (unb 21 1) rfl rfl hT (anyM hM (by kernel_rfl)) hE rfl (wanted_none rfl) (fun w => r_move hE rfl) (fun a hE => ?_)
    refine d_pureg (i := 1) (v := .pointer (some x10_12)) (unb 21 3) rfl rfl hT (anyM hM (by kernel_rfl)) hE rfl (wanted_none rfl) (fun w => r_nilCheck hE (hx_eq rfl (congrArg Value.pointer qx10_12))) (fun a hE => ?_)
    refine d_pureg (i := 2) (v := .pointer (some ((x10_12).add 0))) (unb 21 7) rfl rfl hT (anyM hM (by kernel_rfl)) hE rfl (wanted_none rfl) (fun w => r_fieldAddr hE rfl fd66_0) (fun a hE => ?_)
    refine d_pureg (i := 5) (v := .pointer x0) (unb 21 39) rfl rfl hT (anyM hM (by kernel_rfl)) hE rfl (wanted_none rfl) (fun w => r_move hE rfl) (fun a hE => ?_)
    refine d_pureg (i := 6) (v := .pointer (some x15_13)) (unb 21 103) rfl rfl hT (anyM hM (by kernel_rfl)) hE rfl (wanted_none rfl) (fun w => r_nilCheck hE (hx_eq rfl (congrArg Value.pointer qx15_13))) (fun a hE => ?_)
    refine d_pureg (i := 7) (v := .pointer (some ((x15_13).add 1))) (unb 21 231) rfl rfl hT (anyM hM (by kernel_rfl)) hE rfl (wanted_none rfl) (fun w => r_fieldAddr hE rfl fd66_1) (fun a hE => ?_)
    refine d_pureg (i := 10) (v := .pointer x0) (unb 21 1255) rfl rfl hT (anyM hM (by kernel_rfl)) hE rfl (wanted_none rfl) (fun w => r_move hE rfl) (fun a hE => ?_)
    refine d_pureg (i := 11) (v := .pointer (some x20_14)) (unb 21 3303) rfl rfl hT (anyM hM (by kernel_rfl)) hE rfl (wanted_none rfl) (fun w => r_nilCheck hE (hx_eq rfl (congrArg Value.pointer qx20_14))) (fun a hE => ?_)
    refine d_pureg (i := 12) (v := .pointer (some ((x20_14).add 2))) (unb 21 7399) rfl rfl hT (anyM hM (by kernel_rfl)) hE rfl (wanted_none rfl) (fun w => r_fieldAddr hE rfl fd66_2) (fun a hE => ?_)
    refine d_read (i := 3) (v := (x12_15 : Sl).v) (unb 21 7407) rfl rfl hT (takeM hM (by kernel_rfl)) hE rfl (wanted_none rfl) hs (fun w s => r_load hE rfl sc63 s.1) (fun a hE => ?_)
    refine d_read (i := 8) (v := (x17_16 : Sl).v) (unb 21 7663) rfl rfl hT (takeM hM (by kernel_rfl)) hE rfl (wanted_none rfl) hs (fun w s => r_load hE rfl sc45 s.2.1) (fun a hE => ?_)
    refine d_read (i := 13) (v := .map x22_17) (unb 21 15855) rfl rfl hT (takeM hM (by kernel_rfl)) hE rfl (wanted_none rfl) hs (fun w s => r_load hE rfl sc64 s.2.2) (fun a hE => ?_)
    refine d_call (i := 4) (unb 21 15871) rfl rfl rfl hT (oneM hM (by kernel_rfl)) rfl hE hR (wanted_none rfl) cl_slices_Clone_slapi_Sector_api_Sector rfl (S_slices_Clone_slapi_Sector_api_Sector x12_15) (M.unbind H) (fun r h H w' e => by obtain ⟨_, sA, H⟩ := H; rw [e]; exact sA) (fun x13_18 a w ea hR H hs => ?_)
    obtain ⟨_, sA, H⟩ := H; clear sA
    have hE := Env.put_some hE rfl ea; clear ea
    refine d_call (i := 9) (unb 21 16383) rfl rfl rfl hT (oneM hM (by kernel_rfl)) rfl hE hR (wanted_none rfl) cl_slices_Clone_slbool_bool rfl (S_slices_Clone_slbool_bool x17_16) (M.unbind H) (fun r h H w' e => by obtain ⟨_, sA, H⟩ := H; rw [e]; exact sA) (fun x18_19 a w ea hR H hs => ?_)
    obtain ⟨_, sA, H⟩ := H; clear sA
    have hE := Env.put_some hE rfl ea; clear ea
    refine d_calll (i := 14) (unb 21 32767) rfl rfl rfl hT (oneM hM (by kernel_rfl)) rfl hE hR (wanted_none rfl) cl_maps_Clone_map_int_api_Sector_int_api_Sector rfl (S_maps_Clone_map_int_api_Sector_int_api_Sector x22_17) (M.unbind H) (fun x23_20 a w ea hR H => ?_)
    have hE := Env.put_some hE rfl ea; clear ea
    refine d_pureg (i := 15) (v := .pointer (some ((x3_9).add 0))) (unb 21 65535) rfl rfl hT (anyM hM (by kernel_rfl)) hE rfl (wanted_none rfl) (fun w => r_fieldAddr hE rfl fd66_0) (fun a hE => ?_)
    obtain ⟨u_21, qu_21, H⟩ := H
    refine d_stlh (i := 16) (unb 21 131071) rfl rfl hT (oneM hM (by kernel_rfl)) rfl hE hR (wanted_none rfl) (r_store hE rfl rfl sz63 qu_21)  (fun a w hE hR hh => ?_)
    replace H := M.at hh H; clear hh
    refine d_pureg (i := 17) (v := .pointer (some ((x3_9).add 1))) (unb 21 262143) rfl rfl hT (anyM hM (by kernel_rfl)) hE rfl (wanted_none rfl) (fun w => r_fieldAddr hE rfl fd66_1) (fun a hE => ?_)
    obtain ⟨u_22, qu_22, H⟩ := H
    refine d_stlh (i := 18) (unb 21 524287) rfl rfl hT (oneM hM (by kernel_rfl)) rfl hE hR (wanted_none rfl) (r_store hE rfl rfl sz45 qu_22)  (fun a w hE hR hh => ?_)
    replace H := M.at hh H; clear hh
    refine d_pureg (i := 19) (v := .pointer (some ((x3_9).add 2))) (unb 21 1048575) rfl rfl hT (anyM hM (by kernel_rfl)) hE rfl (wanted_none rfl) (fun w => r_fieldAddr hE rfl fd66_2) (fun a hE => ?_)
    obtain ⟨u_23, qu_23, H⟩ := H
    refine d_stlh (i := 20) (unb 21 2097151) rfl rfl hT (oneM hM (by kernel_rfl)) rfl hE hR (wanted_none rfl) (r_store hE rfl rfl sz64 qu_23)  (fun a w hE hR hh => ?_)
    replace H := M.at hh H; clear hh
    refine d_done hT (doneM hM (by kernel_rfl)) ?_
    refine hK_11 _ _ ?_
    refine w_seq (fun K hK_24 => ?_)
    refine t_region ?_
    refine t_val (v := .pointer (some x3_9)) rfl rfl hE rfl (r_assign hE rfl) (fun a hE => ?_)
    refine t_nil ?_
    refine hK_24 _ _ ?_
    refine w_ret ?_
    exact hret _ _ _ (some x3_9) _ hE hR (res_run hE rfl (RV.tmp rfl RV.nil)) rfl H

end Gx
namespace Gx
open Go
set_option linter.unusedVariables false
set_option maxRecDepth 100000
/-- ramble/ramblelaw04.DiskNone -/
def ramblelaw04_DiskNone_j1 (self1 : (Int) → M (Bool)) (c13_31 : Int) (x93_27 : Bool) : M (Bool) := do
  M.ite x93_27 (do
    M.pure false
    ) (do
    self1 (IntKind.wrap .i64 (c13_31 + 1))
    )
noncomputable def ro7_7 : Array Oper := opsOf Go.Proofs.Try.f7 7
def tE7_7 : List (List Nat) := [[], [0], [1], [2], [2], [4, 2], [2, 2], [3, 5, 6, 6, 2], [7, 2], [2, 8], [9, 7], [10], [11, 10, 10], [12, 10], [10, 13], [14, 12], [15], [16, 15, 15], [17, 15], [15, 18], [19, 17], [20], [20], [22, 20], [21, 23, 20, 20], [24, 20], [20, 25], [26, 24], [27], [27], [29, 27], [28, 30, 27, 27], [31, 27], [27, 32], [33, 31], [34], [34], [36, 34], [34], [38, 34], [34], [40, 34], [35, 37, 39, 41, 34, 34], [42, 34], [34, 43], [44, 42], [45], [46, 45, 45], [45, 47], [48, 47], [49], [50, 49, 49], [51, 49], [49, 52], [53, 51], [54], [55, 54, 54], [56, 54], [57, 54], [54, 58], [59, 56], [60], [61, 60, 60], [62, 60], [60, 63], [64, 62], [65], [66, 65, 65], [67, 65], [65, 68]]
def tC7_7 : List (List Nat) := [[], [0], [1], [2], [2], [2, 4], [2], [2, 3, 5, 6], [2, 7], [2, 8], [9], [10], [10, 11], [10, 12], [10, 13], [14], [15], [15, 16], [15, 17], [15, 18], [19], [20], [20], [20, 22], [20, 21, 23], [20, 24], [20, 25], [26], [27], [27], [27, 29], [27, 28, 30], [27, 31], [27, 32], [33], [34], [34], [34, 36], [34], [34, 38], [34], [34, 40], [34, 35, 37, 39, 41], [34, 42], [34, 43], [44], [45], [45, 46], [45, 47], [48], [49], [49, 50], [49, 51], [49, 52], [53], [54], [54, 55], [54, 56], [54, 57], [54, 58], [59], [60], [60, 61], [60, 62], [60, 63], [64], [65], [65, 66], [65, 67], [65, 68]]
def tW7_7 : List (List Nat) := [[], [0], [0, 1], [0, 1, 2], [0, 1, 2], [0, 1, 2, 4], [0, 1, 2], [0, 1, 2, 3, 4, 5, 6], [0, 1, 2, 3, 4, 5, 6, 7], [0, 1, 2, 3, 4, 5, 6, 7, 8], [0, 1, 2, 3, 4, 5, 6, 7, 8, 9], [0, 1, 2, 3, 4, 5, 6, 7, 8, 9, 10], [0, 1, 2, 3, 4, 5, 6, 7, 8, 9, 10, 11], [0, 1, 2, 3, 4, 5, 6, 7, 8, 9, 10, 11, 12], [0, 1, 2, 3, 4, 5, 6, 7, 8, 9, 10, 11, 12, 13], [0, 1, 2, 3, 4, 5, 6, 7, 8, 9, 10, 11, 12, 13, 14], [0, 1, 2, 3, 4, 5, 6, 7, 8, 9, 10, 11, 12, 13, 14, 15], [0, 1, 2, 3, 4, 5, 6, 7, 8, 9, 10, 11, 12, 13, 14, 15, 16], [0, 1, 2, 3, 4, 5, 6, 7, 8, 9, 10, 11, 12, 13, 14, 15, 16, 17], [0, 1, 2, 3, 4, 5, 6, 7, 8, 9, 10, 11, 12, 13, 14, 15, 16, 17, 18], [0, 1, 2, 3, 4, 5, 6, 7, 8, 9, 10, 11, 12, 13, 14, 15, 16, 17, 18, 19], [0, 1, 2, 3, 4, 5, 6, 7, 8, 9, 10, 11, 12, 13, 14, 15, 16, 17, 18, 19, 20], [0, 1, 2, 3, 4, 5, 6, 7, 8, 9, 10, 11, 12, 13, 14, 15, 16, 17, 18, 19, 20], [0, 1, 2, 3, 4, 5, 6, 7, 8, 9, 10, 11, 12, 13, 14, 15, 16, 17, 18, 19, 20, 22], [0, 1, 2, 3, 4, 5, 6, 7, 8, 9, 10, 11, 12, 13, 14, 15, 16, 17, 18, 19, 20, 21, 22, 23], [0, 1, 2, 3, 4, 5, 6, 7, 8, 9, 10, 11, 12, 13, 14, 15, 16, 17, 18, 19, 20, 21, 22, 23, 24], [0, 1, 2, 3, 4, 5, 6, 7, 8, 9, 10, 11, 12, 13, 14, 15, 16, 17, 18, 19, 20, 21, 22, 23, 24, 25], [0, 1, 2, 3, 4, 5, 6, 7, 8, 9, 10, 11, 12, 13, 14, 15, 16, 17, 18, 19, 20, 21, 22, 23, 24, 25, 26], [0, 1, 2, 3, 4, 5, 6, 7, 8, 9, 10, 11, 12, 13, 14, 15, 16, 17, 18, 19, 20, 21, 22, 23, 24, 25, 26, 27], [0, 1, 2, 3, 4, 5, 6, 7, 8, 9, 10, 11, 12, 13, 14, 15, 16, 17, 18, 19, 20, 21, 22, 23, 24, 25, 26, 27], [0, 1, 2, 3, 4, 5, 6, 7, 8, 9, 10, 11, 12, 13, 14, 15, 16, 17, 18, 19, 20, 21, 22, 23, 24, 25, 26, 27, 29], [0, 1, 2, 3, 4, 5, 6, 7, 8, 9, 10, 11, 12, 13, 14, 15, 16, 17, 18, 19, 20, 21, 22, 23, 24, 25, 26, 27, 28, 29, 30], [0, 1, 2, 3, 4, 5, 6, 7, 8, 9, 10, 11, 12, 13, 14, 15, 16, 17, 18, 19, 20, 21, 22, 23, 24, 25, 26, 27, 28, 29, 30, 31], [0, 1, 2, 3, 4, 5, 6, 7, 8, 9, 10, 11, 12, 13, 14, 15, 16, 17, 18, 19, 20, 21, 22, 23, 24, 25, 26, 27, 28, 29, 30, 31, 32], [0, 1, 2, 3, 4, 5, 6, 7, 8, 9, 10, 11, 12, 13, 14, 15, 16, 17, 18, 19, 20, 21, 22, 23, 24, 25, 26, 27, 28, 29, 30, 31, 32, 33], [0, 1, 2, 3, 4, 5, 6, 7, 8, 9, 10, 11, 12, 13, 14, 15, 16, 17, 18, 19, 20, 21, 22, 23, 24, 25, 26, 27, 28, 29, 30, 31, 32, 33, 34], [0, 1, 2, 3, 4, 5, 6, 7, 8, 9, 10, 11, 12, 13, 14, 15, 16, 17, 18, 19, 20, 21, 22, 23, 24, 25, 26, 27, 28, 29, 30, 31, 32, 33, 34], [0, 1, 2, 3, 4, 5, 6, 7, 8, 9, 10, 11, 12, 13, 14, 15, 16, 17, 18, 19, 20, 21, 22, 23, 24, 25, 26, 27, 28, 29, 30, 31, 32, 33, 34, 36], [0, 1, 2, 3, 4, 5, 6, 7, 8, 9, 10, 11, 12, 13, 14, 15, 16, 17, 18, 19, 20, 21, 22, 23, 24, 25, 26, 27, 28, 29, 30, 31, 32, 33, 34], [0, 1, 2, 3, 4, 5, 6, 7, 8, 9, 10, 11, 12, 13, 14, 15, 16, 17, 18, 19, 20, 21, 22, 23, 24, 25, 26, 27, 28, 29, 30, 31, 32, 33, 34, 38], [0, 1, 2, 3, 4, 5, 6, 7, 8, 9, 10, 11, 12, 13, 14, 15, 16, 17, 18, 19, 20, 21, 22, 23, 24, 25, 26, 27, 28, 29, 30, 31, 32, 33, 34], [0, 1, 2, 3, 4, 5, 6, 7, 8, 9, 10, 11, 12, 13, 14, 15, 16, 17, 18, 19, 20, 21, 22, 23, 24, 25, 26, 27, 28, 29, 30, 31, 32, 33, 34, 40], [0, 1, 2, 3, 4, 5, 6, 7, 8, 9, 10, 11, 12, 13, 14, 15, 16, 17, 18, 19, 20, 21, 22, 23, 24, 25, 26, 27, 28, 29, 30, 31, 32, 33, 34, 35, 36, 37, 38, 39, 40, 41], [0, 1, 2, 3, 4, 5, 6, 7, 8, 9, 10, 11, 12, 13, 14, 15, 16, 17, 18, 19, 20, 21, 22, 23, 24, 25, 26, 27, 28, 29, 30, 31, 32, 33, 34, 35, 36, 37, 38, 39, 40, 41, 42], [0, 1, 2, 3, 4, 5, 6, 7, 8, 9, 10, 11, 12, 13, 14, 15, 16, 17, 18, 19, 20, 21, 22, 23, 24, 25, 26, 27, 28, 29, 30, 31, 32, 33, 34, 35, 36, 37, 38, 39, 40, 41, 42, 43], [0, 1, 2, 3, 4, 5, 6, 7, 8, 9, 10, 11, 12, 13, 14, 15, 16, 17, 18, 19, 20, 21, 22, 23, 24, 25, 26, 27, 28, 29, 30, 31, 32, 33, 34, 35, 36, 37, 38, 39, 40, 41, 42, 43, 44], [0, 1, 2, 3, 4, 5, 6, 7, 8, 9, 10, 11, 12, 13, 14, 15, 16, 17, 18, 19, 20, 21, 22, 23, 24, 25, 26, 27, 28, 29, 30, 31, 32, 33, 34, 35, 36, 37, 38, 39, 40, 41, 42, 43, 44, 45], [0, 1, 2, 3, 4, 5, 6, 7, 8, 9, 10, 11, 12, 13, 14, 15, 16, 17, 18, 19, 20, 21, 22, 23, 24, 25, 26, 27, 28, 29, 30, 31, 32, 33, 34, 35, 36, 37, 38, 39, 40, 41, 42, 43, 44, 45, 46], [0, 1, 2, 3, 4, 5, 6, 7, 8, 9, 10, 11, 12, 13, 14, 15, 16, 17, 18, 19, 20, 21, 22, 23, 24, 25, 26, 27, 28, 29, 30, 31, 32, 33, 34, 35, 36, 37, 38, 39, 40, 41, 42, 43, 44, 45, 46, 47], [0, 1, 2, 3, 4, 5, 6, 7, 8, 9, 10, 11, 12, 13, 14, 15, 16, 17, 18, 19, 20, 21, 22, 23, 24, 25, 26, 27, 28, 29, 30, 31, 32, 33, 34, 35, 36, 37, 38, 39, 40, 41, 42, 43, 44, 45, 46, 47, 48], [0, 1, 2, 3, 4, 5, 6, 7, 8, 9, 10, 11, 12, 13, 14, 15, 16, 17, 18, 19, 20, 21, 22, 23, 24, 25, 26, 27, 28, 29, 30, 31, 32, 33, 34, 35, 36, 37, 38, 39, 40, 41, 42, 43, 44, 45, 46, 47, 48, 49], [0, 1, 2, 3, 4, 5, 6, 7, 8, 9, 10, 11, 12, 13, 14, 15, 16, 17, 18, 19, 20, 21, 22, 23, 24, 25, 26, 27, 28, 29, 30, 31, 32, 33, 34, 35, 36, 37, 38, 39, 40, 41, 42, 43, 44, 45, 46, 47, 48, 49, 50], [0, 1, 2, 3, 4, 5, 6, 7, 8, 9, 10, 11, 12, 13, 14, 15, 16, 17, 18, 19, 20, 21, 22, 23, 24, 25, 26, 27, 28, 29, 30, 31, 32, 33, 34, 35, 36, 37, 38, 39, 40, 41, 42, 43, 44, 45, 46, 47, 48, 49, 50, 51], [0, 1, 2, 3, 4, 5, 6, 7, 8, 9, 10, 11, 12, 13, 14, 15, 16, 17, 18, 19, 20, 21, 22, 23, 24, 25, 26, 27, 28, 29, 30, 31, 32, 33, 34, 35, 36, 37, 38, 39, 40, 41, 42, 43, 44, 45, 46, 47, 48, 49, 50, 51, 52], [0, 1, 2, 3, 4, 5, 6, 7, 8, 9, 10, 11, 12, 13, 14, 15, 16, 17, 18, 19, 20, 21, 22, 23, 24, 25, 26, 27, 28, 29, 30, 31, 32, 33, 34, 35, 36, 37, 38, 39, 40, 41, 42, 43, 44, 45, 46, 47, 48, 49, 50, 51, 52, 53], [0, 1, 2, 3, 4, 5, 6, 7, 8, 9, 10, 11, 12, 13, 14, 15, 16, 17, 18, 19, 20, 21, 22, 23, 24, 25, 26, 27, 28, 29, 30, 31, 32, 33, 34, 35, 36, 37, 38, 39, 40, 41, 42, 43, 44, 45, 46, 47, 48, 49, 50, 51, 52, 53, 54], [0, 1, 2, 3, 4, 5, 6, 7, 8, 9, 10, 11, 12, 13, 14, 15, 16, 17, 18, 19, 20, 21, 22, 23, 24, 25, 26, 27, 28, 29, 30, 31, 32, 33, 34, 35, 36, 37, 38, 39, 40, 41, 42, 43, 44, 45, 46, 47, 48, 49, 50, 51, 52, 53, 54, 55], [0, 1, 2, 3, 4, 5, 6, 7, 8, 9, 10, 11, 12, 13, 14, 15, 16, 17, 18, 19, 20, 21, 22, 23, 24, 25, 26, 27, 28, 29, 30, 31, 32, 33, 34, 35, 36, 37, 38, 39, 40, 41, 42, 43, 44, 45, 46, 47, 48, 49, 50, 51, 52, 53, 54, 55, 56], [0, 1, 2, 3, 4, 5, 6, 7, 8, 9, 10, 11, 12, 13, 14, 15, 16, 17, 18, 19, 20, 21, 22, 23, 24, 25, 26, 27, 28, 29, 30, 31, 32, 33, 34, 35, 36, 37, 38, 39, 40, 41, 42, 43, 44, 45, 46, 47, 48, 49, 50, 51, 52, 53, 54, 55, 56, 57], [0, 1, 2, 3, 4, 5, 6, 7, 8, 9, 10, 11, 12, 13, 14, 15, 16, 17, 18, 19, 20, 21, 22, 23, 24, 25, 26, 27, 28, 29, 30, 31, 32, 33, 34, 35, 36, 37, 38, 39, 40, 41, 42, 43, 44, 45, 46, 47, 48, 49, 50, 51, 52, 53, 54, 55, 56, 57, 58], [0, 1, 2, 3, 4, 5, 6, 7, 8, 9, 10, 11, 12, 13, 14, 15, 16, 17, 18, 19, 20, 21, 22, 23, 24, 25, 26, 27, 28, 29, 30, 31, 32, 33, 34, 35, 36, 37, 38, 39, 40, 41, 42, 43, 44, 45, 46, 47, 48, 49, 50, 51, 52, 53, 54, 55, 56, 57, 58, 59], [0, 1, 2, 3, 4, 5, 6, 7, 8, 9, 10, 11, 12, 13, 14, 15, 16, 17, 18, 19, 20, 21, 22, 23, 24, 25, 26, 27, 28, 29, 30, 31, 32, 33, 34, 35, 36, 37, 38, 39, 40, 41, 42, 43, 44, 45, 46, 47, 48, 49, 50, 51, 52, 53, 54, 55, 56, 57, 58, 59, 60], [0, 1, 2, 3, 4, 5, 6, 7, 8, 9, 10, 11, 12, 13, 14, 15, 16, 17, 18, 19, 20, 21, 22, 23, 24, 25, 26, 27, 28, 29, 30, 31, 32, 33, 34, 35, 36, 37, 38, 39, 40, 41, 42, 43, 44, 45, 46, 47, 48, 49, 50, 51, 52, 53, 54, 55, 56, 57, 58, 59, 60, 61], [0, 1, 2, 3, 4, 5, 6, 7, 8, 9, 10, 11, 12, 13, 14, 15, 16, 17, 18, 19, 20, 21, 22, 23, 24, 25, 26, 27, 28, 29, 30, 31, 32, 33, 34, 35, 36, 37, 38, 39, 40, 41, 42, 43, 44, 45, 46, 47, 48, 49, 50, 51, 52, 53, 54, 55, 56, 57, 58, 59, 60, 61, 62], [0, 1, 2, 3, 4, 5, 6, 7, 8, 9, 10, 11, 12, 13, 14, 15, 16, 17, 18, 19, 20, 21, 22, 23, 24, 25, 26, 27, 28, 29, 30, 31, 32, 33, 34, 35, 36, 37, 38, 39, 40, 41, 42, 43, 44, 45, 46, 47, 48, 49, 50, 51, 52, 53, 54, 55, 56, 57, 58, 59, 60, 61, 62, 63], [0, 1, 2, 3, 4, 5, 6, 7, 8, 9, 10, 11, 12, 13, 14, 15, 16, 17, 18, 19, 20, 21, 22, 23, 24, 25, 26, 27, 28, 29, 30, 31, 32, 33, 34, 35, 36, 37, 38, 39, 40, 41, 42, 43, 44, 45, 46, 47, 48, 49, 50, 51, 52, 53, 54, 55, 56, 57, 58, 59, 60, 61, 62, 63, 64], [0, 1, 2, 3, 4, 5, 6, 7, 8, 9, 10, 11, 12, 13, 14, 15, 16, 17, 18, 19, 20, 21, 22, 23, 24, 25, 26, 27, 28, 29, 30, 31, 32, 33, 34, 35, 36, 37, 38, 39, 40, 41, 42, 43, 44, 45, 46, 47, 48, 49, 50, 51, 52, 53, 54, 55, 56, 57, 58, 59, 60, 61, 62, 63, 64, 65], [0, 1, 2, 3, 4, 5, 6, 7, 8, 9, 10, 11, 12, 13, 14, 15, 16, 17, 18, 19, 20, 21, 22, 23, 24, 25, 26, 27, 28, 29, 30, 31, 32, 33, 34, 35, 36, 37, 38, 39, 40, 41, 42, 43, 44, 45, 46, 47, 48, 49, 50, 51, 52, 53, 54, 55, 56, 57, 58, 59, 60, 61, 62, 63, 64, 65, 66], [0, 1, 2, 3, 4, 5, 6, 7, 8, 9, 10, 11, 12, 13, 14, 15, 16, 17, 18, 19, 20, 21, 22, 23, 24, 25, 26, 27, 28, 29, 30, 31, 32, 33, 34, 35, 36, 37, 38, 39, 40, 41, 42, 43, 44, 45, 46, 47, 48, 49, 50, 51, 52, 53, 54, 55, 56, 57, 58, 59, 60, 61, 62, 63, 64, 65, 66, 67], [0, 1, 2, 3, 4, 5, 6, 7, 8, 9, 10, 11, 12, 13, 14, 15, 16, 17, 18, 19, 20, 21, 22, 23, 24, 25, 26, 27, 28, 29, 30, 31, 32, 33, 34, 35, 36, 37, 38, 39, 40, 41, 42, 43, 44, 45, 46, 47, 48, 49, 50, 51, 52, 53, 54, 55, 56, 57, 58, 59, 60, 61, 62, 63, 64, 65, 66, 67, 68]]
theorem tb7_7 : tabAt Go.Proofs.Try.f7 7 tE7_7 tC7_7 tW7_7 = true := by kernel_rfl
theorem tb7_7m : tabMB 70 tE7_7 tC7_7 tW7_7 [0, 1, 2, 4, 4, 20, 4, 108, 132, 260, 640, 1024, 3072, 5120, 9216, 20480, 32768, 98304, 163840, 294912, 655360, 1048576, 1048576, 5242880, 11534336, 17825792, 34603008, 83886080, 134217728, 134217728, 671088640, 1476395008, 2281701376, 4429185024, 10737418240, 17179869184, 17179869184, 85899345920, 17179869184, 292057776128, 17179869184, 1116691496960, 2937757630464, 4415226380288, 8813272891392, 21990232555520, 35184372088832, 105553116266496, 175921860444160, 422212465065984, 562949953421312, 1688849860263936, 2814749767106560, 5066549580791808, 11258999068426240, 18014398509481984, 54043195528445952, 90071992547409920, 162129586585337856, 306244774661193728, 648518346341351424, 1152921504606846976, 3458764513820540928, 5764607523034234880, 10376293541461622784, 23058430092136939520, 36893488147419103232, 110680464442257309696, 184467440737095516160, 332041393326771929088] [0, 1, 2, 4, 4, 20, 4, 108, 132, 260, 512, 1024, 3072, 5120, 9216, 16384, 32768, 98304, 163840, 294912, 524288, 1048576, 1048576, 5242880, 11534336, 17825792, 34603008, 67108864, 134217728, 134217728, 671088640, 1476395008, 2281701376, 4429185024, 8589934592, 17179869184, 17179869184, 85899345920, 17179869184, 292057776128, 17179869184, 1116691496960, 2937757630464, 4415226380288, 8813272891392, 17592186044416, 35184372088832, 105553116266496, 175921860444160, 281474976710656, 562949953421312, 1688849860263936, 2814749767106560, 5066549580791808, 9007199254740992, 18014398509481984, 54043195528445952, 90071992547409920, 162129586585337856, 306244774661193728, 576460752303423488, 1152921504606846976, 3458764513820540928, 5764607523034234880, 10376293541461622784, 18446744073709551616, 36893488147419103232, 110680464442257309696, 184467440737095516160, 332041393326771929088] [0, 1, 3, 7, 7, 23, 7, 127, 255, 511, 1023, 2047, 4095, 8191, 16383, 32767, 65535, 131071, 262143, 524287, 1048575, 2097151, 2097151, 6291455, 16777215, 33554431, 67108863, 134217727, 268435455, 268435455, 805306367, 2147483647, 4294967295, 8589934591, 17179869183, 34359738367, 34359738367, 103079215103, 34359738367, 309237645311, 34359738367, 1133871366143, 4398046511103, 8796093022207, 17592186044415, 35184372088831, 70368744177663, 140737488355327, 281474976710655, 562949953421311, 1125899906842623, 2251799813685247, 4503599627370495, 9007199254740991, 18014398509481983, 36028797018963967, 72057594037927935, 144115188075855871, 288230376151711743, 576460752303423487, 1152921504606846975, 2305843009213693951, 4611686018427387903, 9223372036854775807, 18446744073709551615, 36893488147419103231, 73786976294838206463, 147573952589676412927, 295147905179352825855, 590295810358705651711] = true := by kernel_rfl
def ramblelaw04_DiskNone_l1 (c1_12 : Addr) (c11_13 : Sl) (c12_14 : Int) (self1 : (Int) → M (Bool)) : (Int) → M (Bool) := fun s => match s with
  | x13_11 => do
    M.ite (decide (x13_11 < c12_14)) (do
      let x15_20 ← ixL c11_13 x13_11 1
      let x16_21 ← ldP x15_20
      let x20_23 ← ldI .i64 ((c1_12).add 1)
      let x21_24 ← disk_Disk_Read x16_21 x20_23
      let x5_25 ← mkB ty_api_Sector (Array.replicate 128 (.int .u8 0) : Array Value)
      M.need (x21_24.1.size = 128)
      stG x5_25 x21_24.1
      M.ite (x21_24.2 != 2) (do
        ramblelaw04_DiskNone_j1 self1 x13_11 true
        ) (do
        let x29_34 ← ldI .i64 ((c1_12).add 1)
        let x30_35 ← ramblelaw04_filled 1
        chk (fun h : Heap => (hcell h ((c1_12).add 1) = some (.int .i64 x29_34)))
        let x31_36 ← disk_Disk_Write x16_21 x29_34 x30_35
        M.ite (x31_36 != 2) (do
          ramblelaw04_DiskNone_j1 self1 x13_11 true
          ) (do
          let x36_38 ← disk_Disk_Flush x16_21
          M.ite (x36_38 != 2) (do
            ramblelaw04_DiskNone_j1 self1 x13_11 true
            ) (do
            let x41_40 ← disk_Disk_SetFuse x16_21 1
            M.ite (x41_40 != 2) (do
              ramblelaw04_DiskNone_j1 self1 x13_11 true
              ) (do
              let x47_42 ← ldL ((c1_12).add 3)
              let x48_43 ← disk_Disk_Crash x16_21 0 x47_42
              M.ite (x48_43 != 2) (do
                ramblelaw04_DiskNone_j1 self1 x13_11 true
                ) (do
                let x54_45 ← ldL ((c1_12).add 3)
                let x55_46 ← disk_Disk_Start x16_21 0 x54_45
                M.ite (x55_46 != 2) (do
                  ramblelaw04_DiskNone_j1 self1 x13_11 true
                  ) (do
                  let x61_48 ← ldI .i64 ((c1_12).add 1)
                  let x63_49 ← ldI .i64 ((c1_12).add 4)
                  let x65_50 ← ldI .u32 ((c1_12).add 5)
                  let x66_51 ← disk_Disk_Burst x16_21 x61_48 x63_49 x65_50
                  M.ite (x66_51 != 2) (do
                    ramblelaw04_DiskNone_j1 self1 x13_11 true
                    ) (do
                    let x71_53 ← disk_Disk_Down x16_21
                    M.ite x71_53 (do
                      ramblelaw04_DiskNone_j1 self1 x13_11 true
                      ) (do
                      let x75_55 ← disk_Disk_Sectors x16_21
                      M.ite (x75_55 != 0) (do
                        ramblelaw04_DiskNone_j1 self1 x13_11 true
                        ) (do
                        let x80_57 ← disk_Disk_Dirty x16_21
                        M.ite ((x80_57.len : Int) != 0) (do
                          ramblelaw04_DiskNone_j1 self1 x13_11 true
                          ) (do
                          let x86_59 ← disk_Disk_Calls x16_21
                          M.ite (x86_59 != 0) (do
                            ramblelaw04_DiskNone_j1 self1 x13_11 true
                            ) (do
                            let x91_61 ← disk_Disk_Clone x16_21
                            ramblelaw04_DiskNone_j1 self1 x13_11 (!(x91_61).isNone)
                            )
                          )
                        )
                      )
                    )
                  )
                )
              )
            )
          )
        )
      ) (do
      M.pure true
      )
def ramblelaw04_DiskNone (x0 : Array Value) : M (Bool) := do
  let x1_2 ← mkB ty_ramblelaw04_Op x0
  let x7_5 ← ramblelaw04_begun
  M.ite (!x7_5) (do
    M.pure false
    ) (do
    let x10_9 ← mkB ty_disk_Disk (#[.slice none 0 0, .slice none 0 0, .map none, .bool false, .int .i64 0, .int .i64 0] : Array Value)
    let x11_10 ← bdL ty_p_disk_Disk 2 #[.pointer (none : Option Addr), .pointer (some x10_9)]
    M.loop (ramblelaw04_DiskNone_l1 x1_2 x11_10 (x11_10.len : Int)) 0
    )
theorem S_ramblelaw04_DiskNone (x0 : Array Value) : Sound Go.Proofs.Try.prog 7 #[.agg x0] (fun (r : Bool) => .bool r) (ramblelaw04_DiskNone x0) := by
  refine sound_of [(0, .agg x0)] Go.Proofs.Try.func7 rfl rfl (Nat.le_of_ble_eq_true rfl) (args_of ⟨rfl, trivial⟩) (fun w0 w Q R a hret hE hR H => ?_)
  unfold ramblelaw04_DiskNone at H
  refine w_seq (fun K hK_1 => ?_)
  refine t_region ?_
  obtain ⟨x1_2, qx1_2, H⟩ := H
  refine t_valh (v := .pointer (some x1_2)) rfl rfl hE rfl hR (r_box hE rfl qx1_2) (fun a w hE hR hh => ?_)
  replace H := M.at hh H; clear hh
  refine t_val (v := .bool false) rfl rfl hE rfl (r_assign hE rfl) (fun a hE => ?_)
  refine t_nil ?_
  refine hK_1 _ _ ?_
  refine w_seq (fun K hK_3 => ?_)
  refine w_seq (fun K hK_4 => ?_)
  refine t_region ?_
  refine t_call hE hR cl_ramblelaw04_begun rfl (S_ramblelaw04_begun ) (M.unbind H) (fun x7_5 a w ea hR H => ?_)
  have hE := Env.put_some hE rfl ea; clear ea
  refine t_val (v := .bool (!x7_5)) rfl rfl hE rfl (r_un hE rfl u_not) (fun a hE => ?_)
  refine t_nil ?_
  refine hK_4 _ _ ?_
  refine w_cond (!x7_5) hE rfl (fun hb => ?_) (fun hb => ?_)
  · replace H := M.ite_t hb H
    refine w_seq (fun K hK_6 => ?_)
    refine t_region ?_
    refine t_val (v := .bool false) rfl rfl hE rfl (r_assign hE rfl) (fun a hE => ?_)
    refine t_nil ?_
    refine hK_6 _ _ ?_
    refine w_ret ?_
    exact hret _ _ _ false _ hE hR (res_run hE rfl (RV.tmp rfl RV.nil)) rfl H
  · replace H := M.ite_f hb H
    refine w_skip ?_
    refine hK_3 _ _ ?_
    refine w_seq (fun K hK_7 => ?_)
    refine w_seq (fun K hK_8 => ?_)
    refine t_region ?_
    refine t_val (v := .agg (#[.slice none 0 0, .slice none 0 0, .map none, .bool false, .int .i64 0, .int .i64 0] : Array Value)) rfl rfl hE rfl (r_build0 bd66) (fun a hE => ?_)
    obtain ⟨x10_9, qx10_9, H⟩ := H
    refine t_valh (v := .pointer (some x10_9)) rfl rfl hE rfl hR (r_box hE rfl qx10_9) (fun a w hE hR hh => ?_)
    replace H := M.at hh H; clear hh
    obtain ⟨x11_10, qx11_10, H⟩ := H
    refine t_valh (v := (x11_10 : Sl).v) rfl rfl hE rfl hR (r_buildL (cells := #[.pointer (none : Option Addr), .pointer (some x10_9)]) hE rfl un67 sz23 zr23 rfl rfl qx11_10) (fun a w hE hR hh => ?_)
    replace H := M.at hh H; clear hh
    refine t_val (v := .int .i64 (x11_10.len : Int)) rfl rfl hE rfl (r_len hE rfl 23 un67) (fun a hE => ?_)
    refine t_val (v := .int .i64 0) rfl rfl hE rfl (r_move hE rfl) (fun a hE => ?_)
    refine t_nil ?_
    refine hK_8 _ _ ?_
    refine w_block ?_
    refine l_loop (fun (s : Int) => (⟨95, []⟩ : Frm)) (fun (s : Int) => [(1, .pointer (some x1_2)), (11, (x11_10 : Sl).v), (12, .int .i64 (x11_10.len : Int)), (13, .int .i64 s)]) H (hE.cut (.cons rfl (.cons rfl (.cons rfl (.cons rfl Subs.nil))))) hR (fun Y self1 hY_15 x13_11 a w hE hR H => ?_)
    replace hE : Env (⟨95, []⟩ : Frm) a [(1, .pointer (some x1_2)), (11, (x11_10 : Sl).v), (12, .int .i64 (x11_10.len : Int)), (13, .int .i64 x13_11)] := hE
    replace H : (ramblelaw04_DiskNone_l1 x1_2 x11_10 (x11_10.len : Int) self1 x13_11).wp w.heap Q := H
    unfold ramblelaw04_DiskNone_l1 at H
    refine w_seq (fun K hK_16 => ?_)
    refine t_region ?_
    refine t_val (v := .bool (decide (x13_11 < (x11_10.len : Int)))) rfl rfl hE rfl (r_bin hE rfl rfl g_int b_lss) (fun a hE => ?_)
    refine t_nil ?_
    refine hK_16 _ _ ?_
    refine w_seq (fun K hK_17 => ?_)
    refine w_cond (decide (x13_11 < (x11_10.len : Int))) hE rfl (fun hb => ?_) (fun hb => ?_)
    · replace H := M.ite_t hb H
      refine w_skip ?_
      refine hK_17 _ _ ?_
      refine w_seq (fun K hK_18 => ?_)
      refine w_block ?_
      refine w_seq (fun K hK_19 => ?_)
      refine t_region ?_
      obtain ⟨x15_20, qx15_20, H⟩ := H
      refine t_val (v := .pointer (some x15_20)) rfl rfl hE rfl (r_indexAddrL hE rfl rfl un67 sz23 qx15_20) (fun a hE => ?_)
      obtain ⟨x16_21, qx16_21, H⟩ := H
      refine t_val (v := .pointer x16_21) rfl rfl hE rfl (r_load hE rfl sc23 qx16_21) (fun a hE => ?_)
      refine t_val (v := .pointer x16_21) rfl rfl hE rfl (r_assign hE rfl) (fun a hE => ?_)
      refine t_nil ?_
      refine hK_19 _ _ ?_
      refine w_seq (fun K hK_22 => ?_)
      refine t_region ?_
      refine t_val (v := .pointer x16_21) rfl rfl hE rfl (r_move hE rfl) (fun a hE => ?_)
      refine t_val (v := .pointer (some ((x1_2).add 1))) rfl rfl hE rfl (r_fieldAddr hE rfl fd51_1) (fun a hE => ?_)
      obtain ⟨x20_23, qx20_23, H⟩ := H
      refine t_val (v := .int .i64 x20_23) rfl rfl hE rfl (r_load hE rfl sc3 qx20_23) (fun a hE => ?_)
      refine t_call hE hR cl_disk_Disk_Read rfl (S_disk_Disk_Read x16_21 x20_23) (M.unbind H) (fun x21_24 a w ea hR H => ?_)
      have hE := Env.put_some hE rfl ea; clear ea
      refine t_val (v := .tuple #[.agg x21_24.1, .int .i64 x21_24.2]) rfl rfl hE rfl (r_move hE rfl) (fun a hE => ?_)
      refine t_val (v := .agg x21_24.1) rfl rfl hE rfl (r_extract hE rfl rfl) (fun a hE => ?_)
      refine t_val (v := .int .i64 x21_24.2) rfl rfl hE rfl (r_extract hE rfl rfl) (fun a hE => ?_)
      obtain ⟨x5_25, qx5_25, H⟩ := H
      refine t_valh (v := .pointer (some x5_25)) rfl rfl hE rfl hR (r_alloc zr47 qx5_25) (fun a w hE hR hh => ?_)
      replace H := M.at hh H; clear hh
      obtain ⟨qz, H⟩ := H
      obtain ⟨u_26, qu_26, H⟩ := H
      refine t_sth rfl rfl hE hR (r_storeG hE rfl rfl sz47 qz qu_26) (fun a w hE hR hh => ?_)
      replace H := M.at hh H; clear hh
      refine t_val (v := .int .i64 x21_24.2) rfl rfl hE rfl (r_assign hE rfl) (fun a hE => ?_)
      refine t_nil ?_
      refine hK_22 _ _ ?_
      refine w_seq_join (fun a w => ∃ (x93_27 : Bool), Env (⟨95, []⟩ : Frm) a [(1, .pointer (some x1_2)), (11, (x11_10 : Sl).v), (12, .int .i64 (x11_10.len : Int)), (13, .int .i64 x13_11), (93, .bool x93_27)] ∧ Rest w0 w ∧ (ramblelaw04_DiskNone_j1 self1 x13_11 x93_27).wp w.heap Q) ?_ ?_
      · rintro a w ⟨x93_27, hE, hR, H⟩
        unfold ramblelaw04_DiskNone_j1 at H
        refine w_cond x93_27 hE rfl (fun hb => ?_) (fun hb => ?_)
        · replace H := M.ite_t hb H
          refine w_seq (fun K hK_32 => ?_)
          refine t_region ?_
          refine t_val (v := .bool false) rfl rfl hE rfl (r_assign hE rfl) (fun a hE => ?_)
          refine t_nil ?_
          refine hK_32 _ _ ?_
          refine w_ret ?_
          exact hret _ _ _ false _ hE hR (res_run hE rfl (RV.tmp rfl RV.nil)) rfl H
        · replace H := M.ite_f hb H
          refine w_skip ?_
          refine hK_18 _ _ ?_
          refine t_region ?_
          refine t_val (v := .int .i64 (IntKind.wrap .i64 (x13_11 + 1))) rfl rfl hE rfl (r_bin hE rfl rfl g_int b_add) (fun a hE => ?_)
          refine t_val (v := .int .i64 (IntKind.wrap .i64 (x13_11 + 1))) rfl rfl hE rfl (r_move hE rfl) (fun a hE => ?_)
          refine t_nil ?_
          exact hY_15 (IntKind.wrap .i64 (x13_11 + 1)) _ _ (hE.cut (.cons rfl (.cons rfl (.cons rfl (.cons rfl Subs.nil))))) hR H
      · skip
        rcases bool_em (x21_24.2 != 2) with hb_33 | hb_33
        · replace H := M.ite_t hb_33 H
          refine reg_eq (rops := ro7_7) (by kernel_rfl) ?_
          have hT : Tab ro7_7 _ _ _ := tab_of tb7_7 rfl (by kernel_rfl)
          have hM := TabM.of tb7_7m
          refine d_start (m := 70) (fun w : World => (fun h : Heap => True) w.heap) [0, 1, 2, 3, 4, 5, 6, 7, 8, 9, 10, 11, 12, 13, 14, 15, 16, 17, 18, 19, 20, 21, 22, 23, 24, 25, 26, 27, 28, 29, 30, 31, 32, 33, 34, 35, 36, 37, 38, 39, 40, 41, 42, 43, 44, 45, 46, 47, 48, 49, 50, 51, 52, 53, 54, 55, 56, 57, 58, 59, 60, 61, 62, 63, 64, 65, 66, 67, 68, 69] (unb 70 0) mo hR (by kernel_rfl) (by kernel_rfl) (fun w' e => by rw [e]; exact trivial) (fun w hh hR hs => ?_)
          replace H := M.at hh H; clear hh
          refine d_pureg (i := 0) (v := .int .i64 x21_24.2) (unb 70 1) rfl rfl hT (anyM hM (by kernel_rfl)) hE rfl (wanted_none rfl) (fun w => r_move hE rfl) (fun a hE => ?_)
          refine d_pureg (i := 1) (v := .bool (x21_24.2 != 2)) (unb 70 3) rfl rfl hT (anyM hM (by kernel_rfl)) hE rfl (wanted_none rfl) (fun w => r_bin hE rfl rfl g_int b_neq) (fun a hE => ?_)
          refine d_pureg (i := 2) (v := .bool (x21_24.2 != 2)) (unb 70 7) rfl rfl hT (anyM hM (by kernel_rfl)) hE rfl (wanted_none rfl) (fun w => r_move hE rfl) (fun a hE => ?_)
          have hE := hE.reb 26 (x21_24.2 != 2) true hb_33 rfl
          replace hE := hE.cut (l' := [(1, .pointer (some x1_2)), (11, (x11_10 : Sl).v), (12, .int .i64 (x11_10.len : Int)), (13, .int .i64 x13_11), (4, .pointer x16_21), (26, .bool true)]) (.cons rfl (.cons rfl (.cons rfl (.cons rfl (.cons rfl (.cons rfl Subs.nil))))))
          refine d_offsM' [(3, some 27), (4, some 28), (5, some 29), (6, some 30), (7, some 31), (8, some 32)] 61 hT hM hE (by kernel_rfl) (m' := 511) (by kernel_rfl) (fun a hE => ?_)
          refine d_pureg (i := 9) (v := .bool true) (unb 70 1023) rfl rfl hT (anyM hM (by kernel_rfl)) hE rfl (wanted_none rfl) (fun w => r_pick_t hE rfl rfl) (fun a hE => ?_)
          refine d_pureg (i := 10) (v := .bool true) (unb 70 2047) rfl rfl hT (anyM hM (by kernel_rfl)) hE rfl (wanted_none rfl) (fun w => r_move hE rfl) (fun a hE => ?_)
          refine d_offsM' [(11, some 35), (12, some 36), (13, some 37)] 56 hT hM hE (by kernel_rfl) (m' := 16383) (by kernel_rfl) (fun a hE => ?_)
          refine d_pureg (i := 14) (v := .bool true) (unb 70 32767) rfl rfl hT (anyM hM (by kernel_rfl)) hE rfl (wanted_none rfl) (fun w => r_pick_t hE rfl rfl) (fun a hE => ?_)
          refine d_pureg (i := 15) (v := .bool true) (unb 70 65535) rfl rfl hT (anyM hM (by kernel_rfl)) hE rfl (wanted_none rfl) (fun w => r_move hE rfl) (fun a hE => ?_)
          refine d_offsM' [(16, some 40), (17, some 41), (18, some 42)] 51 hT hM hE (by kernel_rfl) (m' := 524287) (by kernel_rfl) (fun a hE => ?_)
          refine d_pureg (i := 19) (v := .bool true) (unb 70 1048575) rfl rfl hT (anyM hM (by kernel_rfl)) hE rfl (wanted_none rfl) (fun w => r_pick_t hE rfl rfl) (fun a hE => ?_)
          refine d_pureg (i := 20) (v := .bool true) (unb 70 2097151) rfl rfl hT (anyM hM (by kernel_rfl)) hE rfl (wanted_none rfl) (fun w => r_move hE rfl) (fun a hE => ?_)
          refine d_offsM' [(21, some 45), (22, some 46), (23, some 47), (24, some 48), (25, some 49)] 44 hT hM hE (by kernel_rfl) (m' := 67108863) (by kernel_rfl) (fun a hE => ?_)
          refine d_pureg (i := 26) (v := .bool true) (unb 70 134217727) rfl rfl hT (anyM hM (by kernel_rfl)) hE rfl (wanted_none rfl) (fun w => r_pick_t hE rfl rfl) (fun a hE => ?_)
          refine d_pureg (i := 27) (v := .bool true) (unb 70 268435455) rfl rfl hT (anyM hM (by kernel_rfl)) hE rfl (wanted_none rfl) (fun w => r_move hE rfl) (fun a hE => ?_)
          refine d_offsM' [(28, some 52), (29, some 53), (30, some 54), (31, some 55), (32, some 56)] 37 hT hM hE (by kernel_rfl) (m' := 8589934591) (by kernel_rfl) (fun a hE => ?_)
          refine d_pureg (i := 33) (v := .bool true) (unb 70 17179869183) rfl rfl hT (anyM hM (by kernel_rfl)) hE rfl (wanted_none rfl) (fun w => r_pick_t hE rfl rfl) (fun a hE => ?_)
          refine d_pureg (i := 34) (v := .bool true) (unb 70 34359738367) rfl rfl hT (anyM hM (by kernel_rfl)) hE rfl (wanted_none rfl) (fun w => r_move hE rfl) (fun a hE => ?_)
          refine d_offsM' [(35, some 59), (36, some 60), (37, some 61), (38, some 62), (39, some 63), (40, some 64), (41, some 65), (42, some 66), (43, some 67)] 26 hT hM hE (by kernel_rfl) (m' := 17592186044415) (by kernel_rfl) (fun a hE => ?_)
          refine d_pureg (i := 44) (v := .bool true) (unb 70 35184372088831) rfl rfl hT (anyM hM (by kernel_rfl)) hE rfl (wanted_none rfl) (fun w => r_pick_t hE rfl rfl) (fun a hE => ?_)
          refine d_pureg (i := 45) (v := .bool true) (unb 70 70368744177663) rfl rfl hT (anyM hM (by kernel_rfl)) hE rfl (wanted_none rfl) (fun w => r_move hE rfl) (fun a hE => ?_)
          refine d_off (i := 46) (unb 70 140737488355327) rfl rfl hT (anyM hM (by kernel_rfl)) (unwanted_of rfl hE rfl rfl rfl) (fun a ea => ?_)
          have hE := Env.put_some hE rfl ea; clear ea
          refine d_off (i := 47) (unb 70 281474976710655) rfl rfl hT (anyM hM (by kernel_rfl)) (unwanted_of rfl hE rfl rfl rfl) (fun a ea => ?_)
          have hE := Env.put_some hE rfl ea; clear ea
          refine d_pureg (i := 48) (v := .bool true) (unb 70 562949953421311) rfl rfl hT (anyM hM (by kernel_rfl)) hE rfl (wanted_none rfl) (fun w => r_pick_t hE rfl rfl) (fun a hE => ?_)
          refine d_pureg (i := 49) (v := .bool true) (unb 70 1125899906842623) rfl rfl hT (anyM hM (by kernel_rfl)) hE rfl (wanted_none rfl) (fun w => r_move hE rfl) (fun a hE => ?_)
          refine d_offsM' [(50, some 74), (51, some 75), (52, some 76)] 17 hT hM hE (by kernel_rfl) (m' := 9007199254740991) (by kernel_rfl) (fun a hE => ?_)
          refine d_pureg (i := 53) (v := .bool true) (unb 70 18014398509481983) rfl rfl hT (anyM hM (by kernel_rfl)) hE rfl (wanted_none rfl) (fun w => r_pick_t hE rfl rfl) (fun a hE => ?_)
          refine d_pureg (i := 54) (v := .bool true) (unb 70 36028797018963967) rfl rfl hT (anyM hM (by kernel_rfl)) hE rfl (wanted_none rfl) (fun w => r_move hE rfl) (fun a hE => ?_)
          refine d_offsM' [(55, some 79), (56, some 80), (57, some 81), (58, some 82)] 11 hT hM hE (by kernel_rfl) (m' := 576460752303423487) (by kernel_rfl) (fun a hE => ?_)
          refine d_pureg (i := 59) (v := .bool true) (unb 70 1152921504606846975) rfl rfl hT (anyM hM (by kernel_rfl)) hE rfl (wanted_none rfl) (fun w => r_pick_t hE rfl rfl) (fun a hE => ?_)
          refine d_pureg (i := 60) (v := .bool true) (unb 70 2305843009213693951) rfl rfl hT (anyM hM (by kernel_rfl)) hE rfl (wanted_none rfl) (fun w => r_move hE rfl) (fun a hE => ?_)
          refine d_offsM' [(61, some 85), (62, some 86), (63, some 87)] 6 hT hM hE (by kernel_rfl) (m' := 18446744073709551615) (by kernel_rfl) (fun a hE => ?_)
          refine d_pureg (i := 64) (v := .bool true) (unb 70 36893488147419103231) rfl rfl hT (anyM hM (by kernel_rfl)) hE rfl (wanted_none rfl) (fun w => r_pick_t hE rfl rfl) (fun a hE => ?_)
          refine d_pureg (i := 65) (v := .bool true) (unb 70 73786976294838206463) rfl rfl hT (anyM hM (by kernel_rfl)) hE rfl (wanted_none rfl) (fun w => r_move hE rfl) (fun a hE => ?_)
          refine d_offsM' [(66, some 90), (67, some 91), (68, some 92)] 1 hT hM hE (by kernel_rfl) (m' := 590295810358705651711) (by kernel_rfl) (fun a hE => ?_)
          refine d_pureg (i := 69) (v := .bool true) (unb 70 1180591620717411303423) rfl rfl hT (anyM hM (by kernel_rfl)) hE rfl (wanted_none rfl) (fun w => r_pick_t hE rfl rfl) (fun a hE => ?_)
          refine d_done hT (doneM hM (by kernel_rfl)) ?_
          exact ⟨true, hE.cut (.cons rfl (.cons rfl (.cons rfl (.cons rfl (.cons rfl Subs.nil))))), hR, H⟩
        · replace H := M.ite_f hb_33 H
          obtain ⟨x29_34, qx29_34, H⟩ := H
          refine reg_eq (rops := ro7_7) (by kernel_rfl) ?_
          have hT : Tab ro7_7 _ _ _ := tab_of tb7_7 rfl (by kernel_rfl)
          have hM := TabM.of tb7_7m
          refine d_start (m := 70) (fun w : World => (fun h : Heap => (hcell h ((x1_2).add 1) = some (.int .i64 x29_34))) w.heap) [7, 8, 9, 10, 11, 12, 13, 14, 15, 16, 17, 18, 19, 20, 21, 22, 23, 24, 25, 26, 27, 28, 29, 30, 31, 32, 33, 34, 35, 36, 37, 38, 39, 40, 41, 42, 43, 44, 45, 46, 47, 48, 49, 50, 51, 52, 53, 54, 55, 56, 57, 58, 59, 60, 61, 62, 63, 64, 65, 66, 67, 68, 69] (unb 70 0) mo hR (by kernel_rfl) (by kernel_rfl) (fun w' e => by rw [e]; exact qx29_34) (fun w hh hR hs => ?_)
          replace H := M.at hh H; clear hh
          refine d_pureg (i := 0) (v := .int .i64 x21_24.2) (unb 70 1) rfl rfl hT (anyM hM (by kernel_rfl)) hE rfl (wanted_none rfl) (fun w => r_move hE rfl) (fun a hE => ?_)
          refine d_pureg (i := 1) (v := .bool (x21_24.2 != 2)) (unb 70 3) rfl rfl hT (anyM hM (by kernel_rfl)) hE rfl (wanted_none rfl) (fun w => r_bin hE rfl rfl g_int b_neq) (fun a hE => ?_)
          refine d_pureg (i := 2) (v := .bool (x21_24.2 != 2)) (unb 70 7) rfl rfl hT (anyM hM (by kernel_rfl)) hE rfl (wanted_none rfl) (fun w => r_move hE rfl) (fun a hE => ?_)
          have hE := hE.reb 26 (x21_24.2 != 2) false hb_33 rfl
          replace hE := hE.cut (l' := [(1, .pointer (some x1_2)), (11, (x11_10 : Sl).v), (12, .int .i64 (x11_10.len : Int)), (13, .int .i64 x13_11), (4, .pointer x16_21), (26, .bool false)]) (.cons rfl (.cons rfl (.cons rfl (.cons rfl (.cons rfl (.cons rfl Subs.nil))))))
          refine d_pureg (i := 3) (v := .pointer x16_21) (unb 70 15) rfl rfl hT (anyM hM (by kernel_rfl)) hE rfl (wanted_of rfl hE rfl rfl rfl) (fun w => r_move hE rfl) (fun a hE => ?_)
          refine d_pureg (i := 4) (v := .pointer (some ((x1_2).add 1))) (unb 70 31) rfl rfl hT (anyM hM (by kernel_rfl)) hE rfl (wanted_of rfl hE rfl rfl rfl) (fun w => r_fieldAddr hE rfl fd51_1) (fun a hE => ?_)
          refine d_read (i := 5) (v := .int .i64 x29_34) (unb 70 63) rfl rfl hT (takeM hM (by kernel_rfl)) hE rfl (wanted_of rfl hE rfl rfl rfl) hs (fun w s => r_load hE rfl sc3 s) (fun a hE => ?_)
          refine d_call (i := 6) (unb 70 127) rfl rfl rfl hT (oneM hM (by kernel_rfl)) rfl hE hR (wanted_of rfl hE rfl rfl rfl) cl_ramblelaw04_filled rfl (S_ramblelaw04_filled 1) (M.unbind H) (fun r h H w' e => by obtain ⟨_, sA, H⟩ := H; rw [e]; exact sA) (fun x30_35 a w ea hR H hs => ?_)
          obtain ⟨_, sA, H⟩ := H; clear sA
          have hE := Env.put_some hE rfl ea; clear ea
          refine d_calll (i := 7) (unb 70 255) rfl rfl rfl hT (oneM hM (by kernel_rfl)) rfl hE hR (wanted_of rfl hE rfl rfl rfl) cl_disk_Disk_Write rfl (S_disk_Disk_Write x16_21 x29_34 x30_35) (M.unbind H) (fun x31_36 a w ea hR H => ?_)
          have hE := Env.put_some hE rfl ea; clear ea
          rcases bool_em (x31_36 != 2) with hb_37 | hb_37
          · replace H := M.ite_t hb_37 H
            refine d_pureg (i := 8) (v := .bool (x31_36 != 2)) (unb 70 511) rfl rfl hT (anyM hM (by kernel_rfl)) hE rfl (wanted_of rfl hE rfl rfl rfl) (fun w => r_bin hE rfl rfl g_int b_neq) (fun a hE => ?_)
            refine d_pureg (i := 9) (v := .bool (x31_36 != 2)) (unb 70 1023) rfl rfl hT (anyM hM (by kernel_rfl)) hE rfl (wanted_none rfl) (fun w => r_pick_f hE rfl rfl) (fun a hE => ?_)
            refine d_pureg (i := 10) (v := .bool (x31_36 != 2)) (unb 70 2047) rfl rfl hT (anyM hM (by kernel_rfl)) hE rfl (wanted_none rfl) (fun w => r_move hE rfl) (fun a hE => ?_)
            have hE := hE.reb 34 (x31_36 != 2) true hb_37 rfl
            replace hE := hE.cut (l' := [(1, .pointer (some x1_2)), (11, (x11_10 : Sl).v), (12, .int .i64 (x11_10.len : Int)), (13, .int .i64 x13_11), (4, .pointer x16_21), (34, .bool true)]) (.cons rfl (.cons rfl (.cons rfl (.cons rfl (.cons rfl (.cons rfl Subs.nil))))))
            refine d_offsM' [(11, some 35), (12, some 36), (13, some 37)] 56 hT hM hE (by kernel_rfl) (m' := 16383) (by kernel_rfl) (fun a hE => ?_)
            refine d_pureg (i := 14) (v := .bool true) (unb 70 32767) rfl rfl hT (anyM hM (by kernel_rfl)) hE rfl (wanted_none rfl) (fun w => r_pick_t hE rfl rfl) (fun a hE => ?_)
            refine d_pureg (i := 15) (v := .bool true) (unb 70 65535) rfl rfl hT (anyM hM (by kernel_rfl)) hE rfl (wanted_none rfl) (fun w => r_move hE rfl) (fun a hE => ?_)
            refine d_offsM' [(16, some 40), (17, some 41), (18, some 42)] 51 hT hM hE (by kernel_rfl) (m' := 524287) (by kernel_rfl) (fun a hE => ?_)
            refine d_pureg (i := 19) (v := .bool true) (unb 70 1048575) rfl rfl hT (anyM hM (by kernel_rfl)) hE rfl (wanted_none rfl) (fun w => r_pick_t hE rfl rfl) (fun a hE => ?_)
            refine d_pureg (i := 20) (v := .bool true) (unb 70 2097151) rfl rfl hT (anyM hM (by kernel_rfl)) hE rfl (wanted_none rfl) (fun w => r_move hE rfl) (fun a hE => ?_)
            refine d_offsM' [(21, some 45), (22, some 46), (23, some 47), (24, some 48), (25, some 49)] 44 hT hM hE (by kernel_rfl) (m' := 67108863) (by kernel_rfl) (fun a hE => ?_)
            refine d_pureg (i := 26) (v := .bool true) (unb 70 134217727) rfl rfl hT (anyM hM (by kernel_rfl)) hE rfl (wanted_none rfl) (fun w => r_pick_t hE rfl rfl) (fun a hE => ?_)
            refine d_pureg (i := 27) (v := .bool true) (unb 70 268435455) rfl rfl hT (anyM hM (by kernel_rfl)) hE rfl (wanted_none rfl) (fun w => r_move hE rfl) (fun a hE => ?_)
            refine d_offsM' [(28, some 52), (29, some 53), (30, some 54), (31, some 55), (32, some 56)] 37 hT hM hE (by kernel_rfl) (m' := 8589934591) (by kernel_rfl) (fun a hE => ?_)
            refine d_pureg (i := 33) (v := .bool true) (unb 70 17179869183) rfl rfl hT (anyM hM (by kernel_rfl)) hE rfl (wanted_none rfl) (fun w => r_pick_t hE rfl rfl) (fun a hE => ?_)
            refine d_pureg (i := 34) (v := .bool true) (unb 70 34359738367) rfl rfl hT (anyM hM (by kernel_rfl)) hE rfl (wanted_none rfl) (fun w => r_move hE rfl) (fun a hE => ?_)
            refine d_offsM' [(35, some 59), (36, some 60), (37, some 61), (38, some 62), (39, some 63), (40, some 64), (41, some 65), (42, some 66), (43, some 67)] 26 hT hM hE (by kernel_rfl) (m' := 17592186044415) (by kernel_rfl) (fun a hE => ?_)
            refine d_pureg (i := 44) (v := .bool true) (unb 70 35184372088831) rfl rfl hT (anyM hM (by kernel_rfl)) hE rfl (wanted_none rfl) (fun w => r_pick_t hE rfl rfl) (fun a hE => ?_)
            refine d_pureg (i := 45) (v := .bool true) (unb 70 70368744177663) rfl rfl hT (anyM hM (by kernel_rfl)) hE rfl (wanted_none rfl) (fun w => r_move hE rfl) (fun a hE => ?_)
            refine d_off (i := 46) (unb 70 140737488355327) rfl rfl hT (anyM hM (by kernel_rfl)) (unwanted_of rfl hE rfl rfl rfl) (fun a ea => ?_)
            have hE := Env.put_some hE rfl ea; clear ea
            refine d_off (i := 47) (unb 70 281474976710655) rfl rfl hT (anyM hM (by kernel_rfl)) (unwanted_of rfl hE rfl rfl rfl) (fun a ea => ?_)
            have hE := Env.put_some hE rfl ea; clear ea
            refine d_pureg (i := 48) (v := .bool true) (unb 70 562949953421311) rfl rfl hT (anyM hM (by kernel_rfl)) hE rfl (wanted_none rfl) (fun w => r_pick_t hE rfl rfl) (fun a hE => ?_)
            refine d_pureg (i := 49) (v := .bool true) (unb 70 1125899906842623) rfl rfl hT (anyM hM (by kernel_rfl)) hE rfl (wanted_none rfl) (fun w => r_move hE rfl) (fun a hE => ?_)
            refine d_offsM' [(50, some 74), (51, some 75), (52, some 76)] 17 hT hM hE (by kernel_rfl) (m' := 9007199254740991) (by kernel_rfl) (fun a hE => ?_)
            refine d_pureg (i := 53) (v := .bool true) (unb 70 18014398509481983) rfl rfl hT (anyM hM (by kernel_rfl)) hE rfl (wanted_none rfl) (fun w => r_pick_t hE rfl rfl) (fun a hE => ?_)
            refine d_pureg (i := 54) (v := .bool true) (unb 70 36028797018963967) rfl rfl hT (anyM hM (by kernel_rfl)) hE rfl (wanted_none rfl) (fun w => r_move hE rfl) (fun a hE => ?_)
            refine d_offsM' [(55, some 79), (56, some 80), (57, some 81), (58, some 82)] 11 hT hM hE (by kernel_rfl) (m' := 576460752303423487) (by kernel_rfl) (fun a hE => ?_)
            refine d_pureg (i := 59) (v := .bool true) (unb 70 1152921504606846975) rfl rfl hT (anyM hM (by kernel_rfl)) hE rfl (wanted_none rfl) (fun w => r_pick_t hE rfl rfl) (fun a hE => ?_)
            refine d_pureg (i := 60) (v := .bool true) (unb 70 2305843009213693951) rfl rfl hT (anyM hM (by kernel_rfl)) hE rfl (wanted_none rfl) (fun w => r_move hE rfl) (fun a hE => ?_)
            refine d_offsM' [(61, some 85), (62, some 86), (63, some 87)] 6 hT hM hE (by kernel_rfl) (m' := 18446744073709551615) (by kernel_rfl) (fun a hE => ?_)
            refine d_pureg (i := 64) (v := .bool true) (unb 70 36893488147419103231) rfl rfl hT (anyM hM (by kernel_rfl)) hE rfl (wanted_none rfl) (fun w => r_pick_t hE rfl rfl) (fun a hE => ?_)
            refine d_pureg (i := 65) (v := .bool true) (unb 70 73786976294838206463) rfl rfl hT (anyM hM (by kernel_rfl)) hE rfl (wanted_none rfl) (fun w => r_move hE rfl) (fun a hE => ?_)
            refine d_offsM' [(66, some 90), (67, some 91), (68, some 92)] 1 hT hM hE (by kernel_rfl) (m' := 590295810358705651711) (by kernel_rfl) (fun a hE => ?_)
            refine d_pureg (i := 69) (v := .bool true) (unb 70 1180591620717411303423) rfl rfl hT (anyM hM (by kernel_rfl)) hE rfl (wanted_none rfl) (fun w => r_pick_t hE rfl rfl) (fun a hE => ?_)
            refine d_done hT (doneM hM (by kernel_rfl)) ?_
            exact ⟨true, hE.cut (.cons rfl (.cons rfl (.cons rfl (.cons rfl (.cons rfl Subs.nil))))), hR, H⟩
          · replace H := M.ite_f hb_37 H
            refine d_pureg (i := 8) (v := .bool (x31_36 != 2)) (unb 70 511) rfl rfl hT (anyM hM (by kernel_rfl)) hE rfl (wanted_of rfl hE rfl rfl rfl) (fun w => r_bin hE rfl rfl g_int b_neq) (fun a hE => ?_)
            refine d_pureg (i := 9) (v := .bool (x31_36 != 2)) (unb 70 1023) rfl rfl hT (anyM hM (by kernel_rfl)) hE rfl (wanted_none rfl) (fun w => r_pick_f hE rfl rfl) (fun a hE => ?_)
            refine d_pureg (i := 10) (v := .bool (x31_36 != 2)) (unb 70 2047) rfl rfl hT (anyM hM (by kernel_rfl)) hE rfl (wanted_none rfl) (fun w => r_move hE rfl) (fun a hE => ?_)
            have hE := hE.reb 34 (x31_36 != 2) false hb_37 rfl
            replace hE := hE.cut (l' := [(1, .pointer (some x1_2)), (11, (x11_10 : Sl).v), (12, .int .i64 (x11_10.len : Int)), (13, .int .i64 x13_11), (4, .pointer x16_21), (34, .bool false)]) (.cons rfl (.cons rfl (.cons rfl (.cons rfl (.cons rfl (.cons rfl Subs.nil))))))
            refine d_pureg (i := 11) (v := .pointer x16_21) (unb 70 4095) rfl rfl hT (anyM hM (by kernel_rfl)) hE rfl (wanted_of rfl hE rfl rfl rfl) (fun w => r_move hE rfl) (fun a hE => ?_)
            refine d_calll (i := 12) (unb 70 8191) rfl rfl rfl hT (oneM hM (by kernel_rfl)) rfl hE hR (wanted_of rfl hE rfl rfl rfl) cl_disk_Disk_Flush rfl (S_disk_Disk_Flush x16_21) (M.unbind H) (fun x36_38 a w ea hR H => ?_)
            have hE := Env.put_some hE rfl ea; clear ea
            rcases bool_em (x36_38 != 2) with hb_39 | hb_39
            · replace H := M.ite_t hb_39 H
              refine d_pureg (i := 13) (v := .bool (x36_38 != 2)) (unb 70 16383) rfl rfl hT (anyM hM (by kernel_rfl)) hE rfl (wanted_of rfl hE rfl rfl rfl) (fun w => r_bin hE rfl rfl g_int b_neq) (fun a hE => ?_)
              refine d_pureg (i := 14) (v := .bool (x36_38 != 2)) (unb 70 32767) rfl rfl hT (anyM hM (by kernel_rfl)) hE rfl (wanted_none rfl) (fun w => r_pick_f hE rfl rfl) (fun a hE => ?_)
              refine d_pureg (i := 15) (v := .bool (x36_38 != 2)) (unb 70 65535) rfl rfl hT (anyM hM (by kernel_rfl)) hE rfl (wanted_none rfl) (fun w => r_move hE rfl) (fun a hE => ?_)
              have hE := hE.reb 39 (x36_38 != 2) true hb_39 rfl
              replace hE := hE.cut (l' := [(1, .pointer (some x1_2)), (11, (x11_10 : Sl).v), (12, .int .i64 (x11_10.len : Int)), (13, .int .i64 x13_11), (4, .pointer x16_21), (39, .bool true)]) (.cons rfl (.cons rfl (.cons rfl (.cons rfl (.cons rfl (.cons rfl Subs.nil))))))
              refine d_offsM' [(16, some 40), (17, some 41), (18, some 42)] 51 hT hM hE (by kernel_rfl) (m' := 524287) (by kernel_rfl) (fun a hE => ?_)
              refine d_pureg (i := 19) (v := .bool true) (unb 70 1048575) rfl rfl hT (anyM hM (by kernel_rfl)) hE rfl (wanted_none rfl) (fun w => r_pick_t hE rfl rfl) (fun a hE => ?_)
              refine d_pureg (i := 20) (v := .bool true) (unb 70 2097151) rfl rfl hT (anyM hM (by kernel_rfl)) hE rfl (wanted_none rfl) (fun w => r_move hE rfl) (fun a hE => ?_)
              refine d_offsM' [(21, some 45), (22, some 46), (23, some 47), (24, some 48), (25, some 49)] 44 hT hM hE (by kernel_rfl) (m' := 67108863) (by kernel_rfl) (fun a hE => ?_)
              refine d_pureg (i := 26) (v := .bool true) (unb 70 134217727) rfl rfl hT (anyM hM (by kernel_rfl)) hE rfl (wanted_none rfl) (fun w => r_pick_t hE rfl rfl) (fun a hE => ?_)
              refine d_pureg (i := 27) (v := .bool true) (unb 70 268435455) rfl rfl hT (anyM hM (by kernel_rfl)) hE rfl (wanted_none rfl) (fun w => r_move hE rfl) (fun a hE => ?_)
              refine d_offsM' [(28, some 52), (29, some 53), (30, some 54), (31, some 55), (32, some 56)] 37 hT hM hE (by kernel_rfl) (m' := 8589934591) (by kernel_rfl) (fun a hE => ?_)
              refine d_pureg (i := 33) (v := .bool true) (unb 70 17179869183) rfl rfl hT (anyM hM (by kernel_rfl)) hE rfl (wanted_none rfl) (fun w => r_pick_t hE rfl rfl) (fun a hE => ?_)
              refine d_pureg (i := 34) (v := .bool true) (unb 70 34359738367) rfl rfl hT (anyM hM (by kernel_rfl)) hE rfl (wanted_none rfl) (fun w => r_move hE rfl) (fun a hE => ?_)
              refine d_offsM' [(35, some 59), (36, some 60), (37, some 61), (38, some 62), (39, some 63), (40, some 64), (41, some 65), (42, some 66), (43, some 67)] 26 hT hM hE (by kernel_rfl) (m' := 17592186044415) (by kernel_rfl) (fun a hE => ?_)
              refine d_pureg (i := 44) (v := .bool true) (unb 70 35184372088831) rfl rfl hT (anyM hM (by kernel_rfl)) hE rfl (wanted_none rfl) (fun w => r_pick_t hE rfl rfl) (fun a hE => ?_)
              refine d_pureg (i := 45) (v := .bool true) (unb 70 70368744177663) rfl rfl hT (anyM hM (by kernel_rfl)) hE rfl (wanted_none rfl) (fun w => r_move hE rfl) (fun a hE => ?_)
              refine d_off (i := 46) (unb 70 140737488355327) rfl rfl hT (anyM hM (by kernel_rfl)) (unwanted_of rfl hE rfl rfl rfl) (fun a ea => ?_)
              have hE := Env.put_some hE rfl ea; clear ea
              refine d_off (i := 47) (unb 70 281474976710655) rfl rfl hT (anyM hM (by kernel_rfl)) (unwanted_of rfl hE rfl rfl rfl) (fun a ea => ?_)
              have hE := Env.put_some hE rfl ea; clear ea
              refine d_pureg (i := 48) (v := .bool true) (unb 70 562949953421311) rfl rfl hT (anyM hM (by kernel_rfl)) hE rfl (wanted_none rfl) (fun w => r_pick_t hE rfl rfl) (fun a hE => ?_)
              refine d_pureg (i := 49) (v := .bool true) (unb 70 1125899906842623) rfl rfl hT (anyM hM (by kernel_rfl)) hE rfl (wanted_none rfl) (fun w => r_move hE rfl) (fun a hE => ?_)
              refine d_offsM' [(50, some 74), (51, some 75), (52, some 76)] 17 hT hM hE (by kernel_rfl) (m' := 9007199254740991) (by kernel_rfl) (fun a hE => ?_)
              refine d_pureg (i := 53) (v := .bool true) (unb 70 18014398509481983) rfl rfl hT (anyM hM (by kernel_rfl)) hE rfl (wanted_none rfl) (fun w => r_pick_t hE rfl rfl) (fun a hE => ?_)
              refine d_pureg (i := 54) (v := .bool true) (unb 70 36028797018963967) rfl rfl hT (anyM hM (by kernel_rfl)) hE rfl (wanted_none rfl) (fun w => r_move hE rfl) (fun a hE => ?_)
              refine d_offsM' [(55, some 79), (56, some 80), (57, some 81), (58, some 82)] 11 hT hM hE (by kernel_rfl) (m' := 576460752303423487) (by kernel_rfl) (fun a hE => ?_)
              refine d_pureg (i := 59) (v := .bool true) (unb 70 1152921504606846975) rfl rfl hT (anyM hM (by kernel_rfl)) hE rfl (wanted_none rfl) (fun w => r_pick_t hE rfl rfl) (fun a hE => ?_)
              refine d_pureg (i := 60) (v := .bool true) (unb 70 2305843009213693951) rfl rfl hT (anyM hM (by kernel_rfl)) hE rfl (wanted_none rfl) (fun w => r_move hE rfl) (fun a hE => ?_)
              refine d_offsM' [(61, some 85), (62, some 86), (63, some 87)] 6 hT hM hE (by kernel_rfl) (m' := 18446744073709551615) (by kernel_rfl) (fun a hE => ?_)
              refine d_pureg (i := 64) (v := .bool true) (unb 70 36893488147419103231) rfl rfl hT (anyM hM (by kernel_rfl)) hE rfl (wanted_none rfl) (fun w => r_pick_t hE rfl rfl) (fun a hE => ?_)
              refine d_pureg (i := 65) (v := .bool true) (unb 70 73786976294838206463) rfl rfl hT (anyM hM (by kernel_rfl)) hE rfl (wanted_none rfl) (fun w => r_move hE rfl) (fun a hE => ?_)
              refine d_offsM' [(66, some 90), (67, some 91), (68, some 92)] 1 hT hM hE (by kernel_rfl) (m' := 590295810358705651711) (by kernel_rfl) (fun a hE => ?_)
              refine d_pureg (i := 69) (v := .bool true) (unb 70 1180591620717411303423) rfl rfl hT (anyM hM (by kernel_rfl)) hE rfl (wanted_none rfl) (fun w => r_pick_t hE rfl rfl) (fun a hE => ?_)
              refine d_done hT (doneM hM (by kernel_rfl)) ?_
              exact ⟨true, hE.cut (.cons rfl (.cons rfl (.cons rfl (.cons rfl (.cons rfl Subs.nil))))), hR, H⟩
            · replace H := M.ite_f hb_39 H
              refine d_pureg (i := 13) (v := .bool (x36_38 != 2)) (unb 70 16383) rfl rfl hT (anyM hM (by kernel_rfl)) hE rfl (wanted_of rfl hE rfl rfl rfl) (fun w => r_bin hE rfl rfl g_int b_neq) (fun a hE => ?_)
              refine d_pureg (i := 14) (v := .bool (x36_38 != 2)) (unb 70 32767) rfl rfl hT (anyM hM (by kernel_rfl)) hE rfl (wanted_none rfl) (fun w => r_pick_f hE rfl rfl) (fun a hE => ?_)
              refine d_pureg (i := 15) (v := .bool (x36_38 != 2)) (unb 70 65535) rfl rfl hT (anyM hM (by kernel_rfl)) hE rfl (wanted_none rfl) (fun w => r_move hE rfl) (fun a hE => ?_)
              have hE := hE.reb 39 (x36_38 != 2) false hb_39 rfl
              replace hE := hE.cut (l' := [(1, .pointer (some x1_2)), (11, (x11_10 : Sl).v), (12, .int .i64 (x11_10.len : Int)), (13, .int .i64 x13_11), (4, .pointer x16_21), (39, .bool false)]) (.cons rfl (.cons rfl (.cons rfl (.cons rfl (.cons rfl (.cons rfl Subs.nil))))))
              refine d_pureg (i := 16) (v := .pointer x16_21) (unb 70 131071) rfl rfl hT (anyM hM (by kernel_rfl)) hE rfl (wanted_of rfl hE rfl rfl rfl) (fun w => r_move hE rfl) (fun a hE => ?_)
              refine d_calll (i := 17) (unb 70 262143) rfl rfl rfl hT (oneM hM (by kernel_rfl)) rfl hE hR (wanted_of rfl hE rfl rfl rfl) cl_disk_Disk_SetFuse rfl (S_disk_Disk_SetFuse x16_21 1) (M.unbind H) (fun x41_40 a w ea hR H => ?_)
              have hE := Env.put_some hE rfl ea; clear ea
              rcases bool_em (x41_40 != 2) with hb_41 | hb_41
              · replace H := M.ite_t hb_41 H
                refine d_pureg (i := 18) (v := .bool (x41_40 != 2)) (unb 70 524287) rfl rfl hT (anyM hM (by kernel_rfl)) hE rfl (wanted_of rfl hE rfl rfl rfl) (fun w => r_bin hE rfl rfl g_int b_neq) (fun a hE => ?_)
                refine d_pureg (i := 19) (v := .bool (x41_40 != 2)) (unb 70 1048575) rfl rfl hT (anyM hM (by kernel_rfl)) hE rfl (wanted_none rfl) (fun w => r_pick_f hE rfl rfl) (fun a hE => ?_)
                refine d_pureg (i := 20) (v := .bool (x41_40 != 2)) (unb 70 2097151) rfl rfl hT (anyM hM (by kernel_rfl)) hE rfl (wanted_none rfl) (fun w => r_move hE rfl) (fun a hE => ?_)
                have hE := hE.reb 44 (x41_40 != 2) true hb_41 rfl
                replace hE := hE.cut (l' := [(1, .pointer (some x1_2)), (11, (x11_10 : Sl).v), (12, .int .i64 (x11_10.len : Int)), (13, .int .i64 x13_11), (4, .pointer x16_21), (44, .bool true)]) (.cons rfl (.cons rfl (.cons rfl (.cons rfl (.cons rfl (.cons rfl Subs.nil))))))
                refine d_offsM' [(21, some 45), (22, some 46), (23, some 47), (24, some 48), (25, some 49)] 44 hT hM hE (by kernel_rfl) (m' := 67108863) (by kernel_rfl) (fun a hE => ?_)
                refine d_pureg (i := 26) (v := .bool true) (unb 70 134217727) rfl rfl hT (anyM hM (by kernel_rfl)) hE rfl (wanted_none rfl) (fun w => r_pick_t hE rfl rfl) (fun a hE => ?_)
                refine d_pureg (i := 27) (v := .bool true) (unb 70 268435455) rfl rfl hT (anyM hM (by kernel_rfl)) hE rfl (wanted_none rfl) (fun w => r_move hE rfl) (fun a hE => ?_)
                refine d_offsM' [(28, some 52), (29, some 53), (30, some 54), (31, some 55), (32, some 56)] 37 hT hM hE (by kernel_rfl) (m' := 8589934591) (by kernel_rfl) (fun a hE => ?_)
                refine d_pureg (i := 33) (v := .bool true) (unb 70 17179869183) rfl rfl hT (anyM hM (by kernel_rfl)) hE rfl (wanted_none rfl) (fun w => r_pick_t hE rfl rfl) (fun a hE => ?_)
                refine d_pureg (i := 34) (v := .bool true) (unb 70 34359738367) rfl rfl hT (anyM hM (by kernel_rfl)) hE rfl (wanted_none rfl) (fun w => r_move hE rfl) (fun a hE => ?_)
                refine d_offsM' [(35, some 59), (36, some 60), (37, some 61), (38, some 62), (39, some 63), (40, some 64), (41, some 65), (42, some 66), (43, some 67)] 26 hT hM hE (by kernel_rfl) (m' := 17592186044415) (by kernel_rfl) (fun a hE => ?_)
                refine d_pureg (i := 44) (v := .bool true) (unb 70 35184372088831) rfl rfl hT (anyM hM (by kernel_rfl)) hE rfl (wanted_none rfl) (fun w => r_pick_t hE rfl rfl) (fun a hE => ?_)
                refine d_pureg (i := 45) (v := .bool true) (unb 70 70368744177663) rfl rfl hT (anyM hM (by kernel_rfl)) hE rfl (wanted_none rfl) (fun w => r_move hE rfl) (fun a hE => ?_)
                refine d_off (i := 46) (unb 70 140737488355327) rfl rfl hT (anyM hM (by kernel_rfl)) (unwanted_of rfl hE rfl rfl rfl) (fun a ea => ?_)
                have hE := Env.put_some hE rfl ea; clear ea
                refine d_off (i := 47) (unb 70 281474976710655) rfl rfl hT (anyM hM (by kernel_rfl)) (unwanted_of rfl hE rfl rfl rfl) (fun a ea => ?_)
                have hE := Env.put_some hE rfl ea; clear ea
                refine d_pureg (i := 48) (v := .bool true) (unb 70 562949953421311) rfl rfl hT (anyM hM (by kernel_rfl)) hE rfl (wanted_none rfl) (fun w => r_pick_t hE rfl rfl) (fun a hE => ?_)
                refine d_pureg (i := 49) (v := .bool true) (unb 70 1125899906842623) rfl rfl hT (anyM hM (by kernel_rfl)) hE rfl (wanted_none rfl) (fun w => r_move hE rfl) (fun a hE => ?_)
                refine d_offsM' [(50, some 74), (51, some 75), (52, some 76)] 17 hT hM hE (by kernel_rfl) (m' := 9007199254740991) (by kernel_rfl) (fun a hE => ?_)
                refine d_pureg (i := 53) (v := .bool true) (unb 70 18014398509481983) rfl rfl hT (anyM hM (by kernel_rfl)) hE rfl (wanted_none rfl) (fun w => r_pick_t hE rfl rfl) (fun a hE => ?_)
                refine d_pureg (i := 54) (v := .bool true) (unb 70 36028797018963967) rfl rfl hT (anyM hM (by kernel_rfl)) hE rfl (wanted_none rfl) (fun w => r_move hE rfl) (fun a hE => ?_)
                refine d_offsM' [(55, some 79), (56, some 80), (57, some 81), (58, some 82)] 11 hT hM hE (by kernel_rfl) (m' := 576460752303423487) (by kernel_rfl) (fun a hE => ?_)
                refine d_pureg (i := 59) (v := .bool true) (unb 70 1152921504606846975) rfl rfl hT (anyM hM (by kernel_rfl)) hE rfl (wanted_none rfl) (fun w => r_pick_t hE rfl rfl) (fun a hE => ?_)
                refine d_pureg (i := 60) (v := .bool true) (unb 70 2305843009213693951) rfl rfl hT (anyM hM (by kernel_rfl)) hE rfl (wanted_none rfl) (fun w => r_move hE rfl) (fun a hE => ?_)
                refine d_offsM' [(61, some 85), (62, some 86), (63, some 87)] 6 hT hM hE (by kernel_rfl) (m' := 18446744073709551615) (by kernel_rfl) (fun a hE => ?_)
                refine d_pureg (i := 64) (v := .bool true) (unb 70 36893488147419103231) rfl rfl hT (anyM hM (by kernel_rfl)) hE rfl (wanted_none rfl) (fun w => r_pick_t hE rfl rfl) (fun a hE => ?_)
                refine d_pureg (i := 65) (v := .bool true) (unb 70 73786976294838206463) rfl rfl hT (anyM hM (by kernel_rfl)) hE rfl (wanted_none rfl) (fun w => r_move hE rfl) (fun a hE => ?_)
                refine d_offsM' [(66, some 90), (67, some 91), (68, some 92)] 1 hT hM hE (by kernel_rfl) (m' := 590295810358705651711) (by kernel_rfl) (fun a hE => ?_)
                refine d_pureg (i := 69) (v := .bool true) (unb 70 1180591620717411303423) rfl rfl hT (anyM hM (by kernel_rfl)) hE rfl (wanted_none rfl) (fun w => r_pick_t hE rfl rfl) (fun a hE => ?_)
                refine d_done hT (doneM hM (by kernel_rfl)) ?_
                exact ⟨true, hE.cut (.cons rfl (.cons rfl (.cons rfl (.cons rfl (.cons rfl Subs.nil))))), hR, H⟩
              · replace H := M.ite_f hb_41 H
                obtain ⟨x47_42, qx47_42, H⟩ := H
                refine d_switch (fun w : World => (fun h : Heap => (hcell h ((x1_2).add 3) = some ((x47_42 : Sl).v))) w.heap) [24, 25, 26, 27, 28, 29, 30, 31, 32, 33, 34, 35, 36, 37, 38, 39, 40, 41, 42, 43, 44, 45, 46, 47, 48, 49, 50, 51, 52, 53, 54, 55, 56, 57, 58, 59, 60, 61, 62, 63, 64, 65, 66, 67, 68, 69] (allInM hT hM (by kernel_rfl)) ?_
                have hs : (fun h : Heap => (hcell h ((x1_2).add 3) = some ((x47_42 : Sl).v))) w.heap := qx47_42
                refine d_pureg (i := 18) (v := .bool (x41_40 != 2)) (unb 70 524287) rfl rfl hT (anyM hM (by kernel_rfl)) hE rfl (wanted_of rfl hE rfl rfl rfl) (fun w => r_bin hE rfl rfl g_int b_neq) (fun a hE => ?_)
                refine d_pureg (i := 19) (v := .bool (x41_40 != 2)) (unb 70 1048575) rfl rfl hT (anyM hM (by kernel_rfl)) hE rfl (wanted_none rfl) (fun w => r_pick_f hE rfl rfl) (fun a hE => ?_)
                refine d_pureg (i := 20) (v := .bool (x41_40 != 2)) (unb 70 2097151) rfl rfl hT (anyM hM (by kernel_rfl)) hE rfl (wanted_none rfl) (fun w => r_move hE rfl) (fun a hE => ?_)
                have hE := hE.reb 44 (x41_40 != 2) false hb_41 rfl
                replace hE := hE.cut (l' := [(1, .pointer (some x1_2)), (11, (x11_10 : Sl).v), (12, .int .i64 (x11_10.len : Int)), (13, .int .i64 x13_11), (4, .pointer x16_21), (44, .bool false)]) (.cons rfl (.cons rfl (.cons rfl (.cons rfl (.cons rfl (.cons rfl Subs.nil))))))
                refine d_pureg (i := 21) (v := .pointer x16_21) (unb 70 4194303) rfl rfl hT (anyM hM (by kernel_rfl)) hE rfl (wanted_of rfl hE rfl rfl rfl) (fun w => r_move hE rfl) (fun a hE => ?_)
                refine d_pureg (i := 22) (v := .pointer (some ((x1_2).add 3))) (unb 70 8388607) rfl rfl hT (anyM hM (by kernel_rfl)) hE rfl (wanted_of rfl hE rfl rfl rfl) (fun w => r_fieldAddr hE rfl fd51_3) (fun a hE => ?_)
                refine d_read (i := 23) (v := (x47_42 : Sl).v) (unb 70 16777215) rfl rfl hT (takeM hM (by kernel_rfl)) hE rfl (wanted_of rfl hE rfl rfl rfl) hs (fun w s => r_load hE rfl sc45 s) (fun a hE => ?_)
                refine d_calll (i := 24) (unb 70 33554431) rfl rfl rfl hT (oneM hM (by kernel_rfl)) rfl hE hR (wanted_of rfl hE rfl rfl rfl) cl_disk_Disk_Crash rfl (S_disk_Disk_Crash x16_21 0 x47_42) (M.unbind H) (fun x48_43 a w ea hR H => ?_)
                have hE := Env.put_some hE rfl ea; clear ea
                rcases bool_em (x48_43 != 2) with hb_44 | hb_44
                · replace H := M.ite_t hb_44 H
                  refine d_pureg (i := 25) (v := .bool (x48_43 != 2)) (unb 70 67108863) rfl rfl hT (anyM hM (by kernel_rfl)) hE rfl (wanted_of rfl hE rfl rfl rfl) (fun w => r_bin hE rfl rfl g_int b_neq) (fun a hE => ?_)
                  refine d_pureg (i := 26) (v := .bool (x48_43 != 2)) (unb 70 134217727) rfl rfl hT (anyM hM (by kernel_rfl)) hE rfl (wanted_none rfl) (fun w => r_pick_f hE rfl rfl) (fun a hE => ?_)
                  refine d_pureg (i := 27) (v := .bool (x48_43 != 2)) (unb 70 268435455) rfl rfl hT (anyM hM (by kernel_rfl)) hE rfl (wanted_none rfl) (fun w => r_move hE rfl) (fun a hE => ?_)
                  have hE := hE.reb 51 (x48_43 != 2) true hb_44 rfl
                  replace hE := hE.cut (l' := [(1, .pointer (some x1_2)), (11, (x11_10 : Sl).v), (12, .int .i64 (x11_10.len : Int)), (13, .int .i64 x13_11), (4, .pointer x16_21), (51, .bool true)]) (.cons rfl (.cons rfl (.cons rfl (.cons rfl (.cons rfl (.cons rfl Subs.nil))))))
                  refine d_offsM' [(28, some 52), (29, some 53), (30, some 54), (31, some 55), (32, some 56)] 37 hT hM hE (by kernel_rfl) (m' := 8589934591) (by kernel_rfl) (fun a hE => ?_)
                  refine d_pureg (i := 33) (v := .bool true) (unb 70 17179869183) rfl rfl hT (anyM hM (by kernel_rfl)) hE rfl (wanted_none rfl) (fun w => r_pick_t hE rfl rfl) (fun a hE => ?_)
                  refine d_pureg (i := 34) (v := .bool true) (unb 70 34359738367) rfl rfl hT (anyM hM (by kernel_rfl)) hE rfl (wanted_none rfl) (fun w => r_move hE rfl) (fun a hE => ?_)
                  refine d_offsM' [(35, some 59), (36, some 60), (37, some 61), (38, some 62), (39, some 63), (40, some 64), (41, some 65), (42, some 66), (43, some 67)] 26 hT hM hE (by kernel_rfl) (m' := 17592186044415) (by kernel_rfl) (fun a hE => ?_)
                  refine d_pureg (i := 44) (v := .bool true) (unb 70 35184372088831) rfl rfl hT (anyM hM (by kernel_rfl)) hE rfl (wanted_none rfl) (fun w => r_pick_t hE rfl rfl) (fun a hE => ?_)
                  refine d_pureg (i := 45) (v := .bool true) (unb 70 70368744177663) rfl rfl hT (anyM hM (by kernel_rfl)) hE rfl (wanted_none rfl) (fun w => r_move hE rfl) (fun a hE => ?_)
                  refine d_off (i := 46) (unb 70 140737488355327) rfl rfl hT (anyM hM (by kernel_rfl)) (unwanted_of rfl hE rfl rfl rfl) (fun a ea => ?_)
                  have hE := Env.put_some hE rfl ea; clear ea
                  refine d_off (i := 47) (unb 70 281474976710655) rfl rfl hT (anyM hM (by kernel_rfl)) (unwanted_of rfl hE rfl rfl rfl) (fun a ea => ?_)
                  have hE := Env.put_some hE rfl ea; clear ea
                  refine d_pureg (i := 48) (v := .bool true) (unb 70 562949953421311) rfl rfl hT (anyM hM (by kernel_rfl)) hE rfl (wanted_none rfl) (fun w => r_pick_t hE rfl rfl) (fun a hE => ?_)
                  refine d_pureg (i := 49) (v := .bool true) (unb 70 1125899906842623) rfl rfl hT (anyM hM (by kernel_rfl)) hE rfl (wanted_none rfl) (fun w => r_move hE rfl) (fun a hE => ?_)
                  refine d_offsM' [(50, some 74), (51, some 75), (52, some 76)] 17 hT hM hE (by kernel_rfl) (m' := 9007199254740991) (by kernel_rfl) (fun a hE => ?_)
                  refine d_pureg (i := 53) (v := .bool true) (unb 70 18014398509481983) rfl rfl hT (anyM hM (by kernel_rfl)) hE rfl (wanted_none rfl) (fun w => r_pick_t hE rfl rfl) (fun a hE => ?_)
                  refine d_pureg (i := 54) (v := .bool true) (unb 70 36028797018963967) rfl rfl hT (anyM hM (by kernel_rfl)) hE rfl (wanted_none rfl) (fun w => r_move hE rfl) (fun a hE => ?_)
                  refine d_offsM' [(55, some 79), (56, some 80), (57, some 81), (58, some 82)] 11 hT hM hE (by kernel_rfl) (m' := 576460752303423487) (by kernel_rfl) (fun a hE => ?_)
                  refine d_pureg (i := 59) (v := .bool true) (unb 70 1152921504606846975) rfl rfl hT (anyM hM (by kernel_rfl)) hE rfl (wanted_none rfl) (fun w => r_pick_t hE rfl rfl) (fun a hE => ?_)
                  refine d_pureg (i := 60) (v := .bool true) (unb 70 2305843009213693951) rfl rfl hT (anyM hM (by kernel_rfl)) hE rfl (wanted_none rfl) (fun w => r_move hE rfl) (fun a hE => ?_)
                  refine d_offsM' [(61, some 85), (62, some 86), (63, some 87)] 6 hT hM hE (by kernel_rfl) (m' := 18446744073709551615) (by kernel_rfl) (fun a hE => ?_)
                  refine d_pureg (i := 64) (v := .bool true) (unb 70 36893488147419103231) rfl rfl hT (anyM hM (by kernel_rfl)) hE rfl (wanted_none rfl) (fun w => r_pick_t hE rfl rfl) (fun a hE => ?_)
                  refine d_pureg (i := 65) (v := .bool true) (unb 70 73786976294838206463) rfl rfl hT (anyM hM (by kernel_rfl)) hE rfl (wanted_none rfl) (fun w => r_move hE rfl) (fun a hE => ?_)
                  refine d_offsM' [(66, some 90), (67, some 91), (68, some 92)] 1 hT hM hE (by kernel_rfl) (m' := 590295810358705651711) (by kernel_rfl) (fun a hE => ?_)
                  refine d_pureg (i := 69) (v := .bool true) (unb 70 1180591620717411303423) rfl rfl hT (anyM hM (by kernel_rfl)) hE rfl (wanted_none rfl) (fun w => r_pick_t hE rfl rfl) (fun a hE => ?_)
                  refine d_done hT (doneM hM (by kernel_rfl)) ?_
                  exact ⟨true, hE.cut (.cons rfl (.cons rfl (.cons rfl (.cons rfl (.cons rfl Subs.nil))))), hR, H⟩
                · replace H := M.ite_f hb_44 H
                  obtain ⟨x54_45, qx54_45, H⟩ := H
                  refine d_switch (fun w : World => (fun h : Heap => (hcell h ((x1_2).add 3) = some ((x54_45 : Sl).v))) w.heap) [31, 32, 33, 34, 35, 36, 37, 38, 39, 40, 41, 42, 43, 44, 45, 46, 47, 48, 49, 50, 51, 52, 53, 54, 55, 56, 57, 58, 59, 60, 61, 62, 63, 64, 65, 66, 67, 68, 69] (allInM hT hM (by kernel_rfl)) ?_
                  have hs : (fun h : Heap => (hcell h ((x1_2).add 3) = some ((x54_45 : Sl).v))) w.heap := qx54_45
                  refine d_pureg (i := 25) (v := .bool (x48_43 != 2)) (unb 70 67108863) rfl rfl hT (anyM hM (by kernel_rfl)) hE rfl (wanted_of rfl hE rfl rfl rfl) (fun w => r_bin hE rfl rfl g_int b_neq) (fun a hE => ?_)
                  refine d_pureg (i := 26) (v := .bool (x48_43 != 2)) (unb 70 134217727) rfl rfl hT (anyM hM (by kernel_rfl)) hE rfl (wanted_none rfl) (fun w => r_pick_f hE rfl rfl) (fun a hE => ?_)
                  refine d_pureg (i := 27) (v := .bool (x48_43 != 2)) (unb 70 268435455) rfl rfl hT (anyM hM (by kernel_rfl)) hE rfl (wanted_none rfl) (fun w => r_move hE rfl) (fun a hE => ?_)
                  have hE := hE.reb 51 (x48_43 != 2) false hb_44 rfl
                  replace hE := hE.cut (l' := [(1, .pointer (some x1_2)), (11, (x11_10 : Sl).v), (12, .int .i64 (x11_10.len : Int)), (13, .int .i64 x13_11), (4, .pointer x16_21), (51, .bool false)]) (.cons rfl (.cons rfl (.cons rfl (.cons rfl (.cons rfl (.cons rfl Subs.nil))))))
                  refine d_pureg (i := 28) (v := .pointer x16_21) (unb 70 536870911) rfl rfl hT (anyM hM (by kernel_rfl)) hE rfl (wanted_of rfl hE rfl rfl rfl) (fun w => r_move hE rfl) (fun a hE => ?_)
                  refine d_pureg (i := 29) (v := .pointer (some ((x1_2).add 3))) (unb 70 1073741823) rfl rfl hT (anyM hM (by kernel_rfl)) hE rfl (wanted_of rfl hE rfl rfl rfl) (fun w => r_fieldAddr hE rfl fd51_3) (fun a hE => ?_)
                  refine d_read (i := 30) (v := (x54_45 : Sl).v) (unb 70 2147483647) rfl rfl hT (takeM hM (by kernel_rfl)) hE rfl (wanted_of rfl hE rfl rfl rfl) hs (fun w s => r_load hE rfl sc45 s) (fun a hE => ?_)
                  refine d_calll (i := 31) (unb 70 4294967295) rfl rfl rfl hT (oneM hM (by kernel_rfl)) rfl hE hR (wanted_of rfl hE rfl rfl rfl) cl_disk_Disk_Start rfl (S_disk_Disk_Start x16_21 0 x54_45) (M.unbind H) (fun x55_46 a w ea hR H => ?_)
                  have hE := Env.put_some hE rfl ea; clear ea
                  rcases bool_em (x55_46 != 2) with hb_47 | hb_47
                  · replace H := M.ite_t hb_47 H
                    refine d_pureg (i := 32) (v := .bool (x55_46 != 2)) (unb 70 8589934591) rfl rfl hT (anyM hM (by kernel_rfl)) hE rfl (wanted_of rfl hE rfl rfl rfl) (fun w => r_bin hE rfl rfl g_int b_neq) (fun a hE => ?_)
                    refine d_pureg (i := 33) (v := .bool (x55_46 != 2)) (unb 70 17179869183) rfl rfl hT (anyM hM (by kernel_rfl)) hE rfl (wanted_none rfl) (fun w => r_pick_f hE rfl rfl) (fun a hE => ?_)
                    refine d_pureg (i := 34) (v := .bool (x55_46 != 2)) (unb 70 34359738367) rfl rfl hT (anyM hM (by kernel_rfl)) hE rfl (wanted_none rfl) (fun w => r_move hE rfl) (fun a hE => ?_)
                    have hE := hE.reb 58 (x55_46 != 2) true hb_47 rfl
                    replace hE := hE.cut (l' := [(1, .pointer (some x1_2)), (11, (x11_10 : Sl).v), (12, .int .i64 (x11_10.len : Int)), (13, .int .i64 x13_11), (4, .pointer x16_21), (58, .bool true)]) (.cons rfl (.cons rfl (.cons rfl (.cons rfl (.cons rfl (.cons rfl Subs.nil))))))
                    refine d_offsM' [(35, some 59), (36, some 60), (37, some 61), (38, some 62), (39, some 63), (40, some 64), (41, some 65), (42, some 66), (43, some 67)] 26 hT hM hE (by kernel_rfl) (m' := 17592186044415) (by kernel_rfl) (fun a hE => ?_)
                    refine d_pureg (i := 44) (v := .bool true) (unb 70 35184372088831) rfl rfl hT (anyM hM (by kernel_rfl)) hE rfl (wanted_none rfl) (fun w => r_pick_t hE rfl rfl) (fun a hE => ?_)
                    refine d_pureg (i := 45) (v := .bool true) (unb 70 70368744177663) rfl rfl hT (anyM hM (by kernel_rfl)) hE rfl (wanted_none rfl) (fun w => r_move hE rfl) (fun a hE => ?_)
                    refine d_off (i := 46) (unb 70 140737488355327) rfl rfl hT (anyM hM (by kernel_rfl)) (unwanted_of rfl hE rfl rfl rfl) (fun a ea => ?_)
                    have hE := Env.put_some hE rfl ea; clear ea
                    refine d_off (i := 47) (unb 70 281474976710655) rfl rfl hT (anyM hM (by kernel_rfl)) (unwanted_of rfl hE rfl rfl rfl) (fun a ea => ?_)
                    have hE := Env.put_some hE rfl ea; clear ea
                    refine d_pureg (i := 48) (v := .bool true) (unb 70 562949953421311) rfl rfl hT (anyM hM (by kernel_rfl)) hE rfl (wanted_none rfl) (fun w => r_pick_t hE rfl rfl) (fun a hE => ?_)
                    refine d_pureg (i := 49) (v := .bool true) (unb 70 1125899906842623) rfl rfl hT (anyM hM (by kernel_rfl)) hE rfl (wanted_none rfl) (fun w => r_move hE rfl) (fun a hE => ?_)
                    refine d_offsM' [(50, some 74), (51, some 75), (52, some 76)] 17 hT hM hE (by kernel_rfl) (m' := 9007199254740991) (by kernel_rfl) (fun a hE => ?_)
                    refine d_pureg (i := 53) (v := .bool true) (unb 70 18014398509481983) rfl rfl hT (anyM hM (by kernel_rfl)) hE rfl (wanted_none rfl) (fun w => r_pick_t hE rfl rfl) (fun a hE => ?_)
                    refine d_pureg (i := 54) (v := .bool true) (unb 70 36028797018963967) rfl rfl hT (anyM hM (by kernel_rfl)) hE rfl (wanted_none rfl) (fun w => r_move hE rfl) (fun a hE => ?_)
                    refine d_offsM' [(55, some 79), (56, some 80), (57, some 81), (58, some 82)] 11 hT hM hE (by kernel_rfl) (m' := 576460752303423487) (by kernel_rfl) (fun a hE => ?_)
                    refine d_pureg (i := 59) (v := .bool true) (unb 70 1152921504606846975) rfl rfl hT (anyM hM (by kernel_rfl)) hE rfl (wanted_none rfl) (fun w => r_pick_t hE rfl rfl) (fun a hE => ?_)
                    refine d_pureg (i := 60) (v := .bool true) (unb 70 2305843009213693951) rfl rfl hT (anyM hM (by kernel_rfl)) hE rfl (wanted_none rfl) (fun w => r_move hE rfl) (fun a hE => ?_)
                    refine d_offsM' [(61, some 85), (62, some 86), (63, some 87)] 6 hT hM hE (by kernel_rfl) (m' := 18446744073709551615) (by kernel_rfl) (fun a hE => ?_)
                    refine d_pureg (i := 64) (v := .bool true) (unb 70 36893488147419103231) rfl rfl hT (anyM hM (by kernel_rfl)) hE rfl (wanted_none rfl) (fun w => r_pick_t hE rfl rfl) (fun a hE => ?_)
                    refine d_pureg (i := 65) (v := .bool true) (unb 70 73786976294838206463) rfl rfl hT (anyM hM (by kernel_rfl)) hE rfl (wanted_none rfl) (fun w => r_move hE rfl) (fun a hE => ?_)
                    refine d_offsM' [(66, some 90), (67, some 91), (68, some 92)] 1 hT hM hE (by kernel_rfl) (m' := 590295810358705651711) (by kernel_rfl) (fun a hE => ?_)
                    refine d_pureg (i := 69) (v := .bool true) (unb 70 1180591620717411303423) rfl rfl hT (anyM hM (by kernel_rfl)) hE rfl (wanted_none rfl) (fun w => r_pick_t hE rfl rfl) (fun a hE => ?_)
                    refine d_done hT (doneM hM (by kernel_rfl)) ?_
                    exact ⟨true, hE.cut (.cons rfl (.cons rfl (.cons rfl (.cons rfl (.cons rfl Subs.nil))))), hR, H⟩
                  · replace H := M.ite_f hb_47 H
                    obtain ⟨x61_48, qx61_48, H⟩ := H
                    obtain ⟨x63_49, qx63_49, H⟩ := H
                    obtain ⟨x65_50, qx65_50, H⟩ := H
                    refine d_switch (fun w : World => (fun h : Heap => (hcell h ((x1_2).add 1) = some (.int .i64 x61_48)) ∧ (hcell h ((x1_2).add 4) = some (.int .i64 x63_49)) ∧ (hcell h ((x1_2).add 5) = some (.int .u32 x65_50))) w.heap) [42, 43, 44, 45, 46, 47, 48, 49, 50, 51, 52, 53, 54, 55, 56, 57, 58, 59, 60, 61, 62, 63, 64, 65, 66, 67, 68, 69] (allInM hT hM (by kernel_rfl)) ?_
                    have hs : (fun h : Heap => (hcell h ((x1_2).add 1) = some (.int .i64 x61_48)) ∧ (hcell h ((x1_2).add 4) = some (.int .i64 x63_49)) ∧ (hcell h ((x1_2).add 5) = some (.int .u32 x65_50))) w.heap := ⟨qx61_48, qx63_49, qx65_50⟩
                    refine d_pureg (i := 32) (v := .bool (x55_46 != 2)) (unb 70 8589934591) rfl rfl hT (anyM hM (by kernel_rfl)) hE rfl (wanted_of rfl hE rfl rfl rfl) (fun w => r_bin hE rfl rfl g_int b_neq) (fun a hE => ?_)
                    refine d_pureg (i := 33) (v := .bool (x55_46 != 2)) (unb 70 17179869183) rfl rfl hT (anyM hM (by kernel_rfl)) hE rfl (wanted_none rfl) (fun w => r_pick_f hE rfl rfl) (fun a hE => ?_)
                    refine d_pureg (i := 34) (v := .bool (x55_46 != 2)) (unb 70 34359738367) rfl rfl hT (anyM hM (by kernel_rfl)) hE rfl (wanted_none rfl) (fun w => r_move hE rfl) (fun a hE => ?_)
                    have hE := hE.reb 58 (x55_46 != 2) false hb_47 rfl
                    replace hE := hE.cut (l' := [(1, .pointer (some x1_2)), (11, (x11_10 : Sl).v), (12, .int .i64 (x11_10.len : Int)), (13, .int .i64 x13_11), (4, .pointer x16_21), (58, .bool false)]) (.cons rfl (.cons rfl (.cons rfl (.cons rfl (.cons rfl (.cons rfl Subs.nil))))))
                    refine d_pureg (i := 35) (v := .pointer x16_21) (unb 70 68719476735) rfl rfl hT (anyM hM (by kernel_rfl)) hE rfl (wanted_of rfl hE rfl rfl rfl) (fun w => r_move hE rfl) (fun a hE => ?_)
                    refine d_pureg (i := 36) (v := .pointer (some ((x1_2).add 1))) (unb 70 137438953471) rfl rfl hT (anyM hM (by kernel_rfl)) hE rfl (wanted_of rfl hE rfl rfl rfl) (fun w => r_fieldAddr hE rfl fd51_1) (fun a hE => ?_)
                    refine d_pureg (i := 38) (v := .pointer (some ((x1_2).add 4))) (unb 70 412316860415) rfl rfl hT (anyM hM (by kernel_rfl)) hE rfl (wanted_of rfl hE rfl rfl rfl) (fun w => r_fieldAddr hE rfl fd51_4) (fun a hE => ?_)
                    refine d_pureg (i := 40) (v := .pointer (some ((x1_2).add 5))) (unb 70 1511828488191) rfl rfl hT (anyM hM (by kernel_rfl)) hE rfl (wanted_of rfl hE rfl rfl rfl) (fun w => r_fieldAddr hE rfl fd51_5) (fun a hE => ?_)
                    refine d_read (i := 37) (v := .int .i64 x61_48) (unb 70 1649267441663) rfl rfl hT (takeM hM (by kernel_rfl)) hE rfl (wanted_of rfl hE rfl rfl rfl) hs (fun w s => r_load hE rfl sc3 s.1) (fun a hE => ?_)
                    refine d_read (i := 39) (v := .int .i64 x63_49) (unb 70 2199023255551) rfl rfl hT (takeM hM (by kernel_rfl)) hE rfl (wanted_of rfl hE rfl rfl rfl) hs (fun w s => r_load hE rfl sc3 s.2.1) (fun a hE => ?_)
                    refine d_read (i := 41) (v := .int .u32 x65_50) (unb 70 4398046511103) rfl rfl hT (takeM hM (by kernel_rfl)) hE rfl (wanted_of rfl hE rfl rfl rfl) hs (fun w s => r_load hE rfl sc49 s.2.2) (fun a hE => ?_)
                    refine d_calll (i := 42) (unb 70 8796093022207) rfl rfl rfl hT (oneM hM (by kernel_rfl)) rfl hE hR (wanted_of rfl hE rfl rfl rfl) cl_disk_Disk_Burst rfl (S_disk_Disk_Burst x16_21 x61_48 x63_49 x65_50) (M.unbind H) (fun x66_51 a w ea hR H => ?_)
                    have hE := Env.put_some hE rfl ea; clear ea
                    rcases bool_em (x66_51 != 2) with hb_52 | hb_52
                    · replace H := M.ite_t hb_52 H
                      refine d_pureg (i := 43) (v := .bool (x66_51 != 2)) (unb 70 17592186044415) rfl rfl hT (anyM hM (by kernel_rfl)) hE rfl (wanted_of rfl hE rfl rfl rfl) (fun w => r_bin hE rfl rfl g_int b_neq) (fun a hE => ?_)
                      refine d_pureg (i := 44) (v := .bool (x66_51 != 2)) (unb 70 35184372088831) rfl rfl hT (anyM hM (by kernel_rfl)) hE rfl (wanted_none rfl) (fun w => r_pick_f hE rfl rfl) (fun a hE => ?_)
                      refine d_pureg (i := 45) (v := .bool (x66_51 != 2)) (unb 70 70368744177663) rfl rfl hT (anyM hM (by kernel_rfl)) hE rfl (wanted_none rfl) (fun w => r_move hE rfl) (fun a hE => ?_)
                      have hE := hE.reb 69 (x66_51 != 2) true hb_52 rfl
                      replace hE := hE.cut (l' := [(1, .pointer (some x1_2)), (11, (x11_10 : Sl).v), (12, .int .i64 (x11_10.len : Int)), (13, .int .i64 x13_11), (4, .pointer x16_21), (69, .bool true)]) (.cons rfl (.cons rfl (.cons rfl (.cons rfl (.cons rfl (.cons rfl Subs.nil))))))
                      refine d_off (i := 46) (unb 70 140737488355327) rfl rfl hT (anyM hM (by kernel_rfl)) (unwanted_of rfl hE rfl rfl rfl) (fun a ea => ?_)
                      have hE := Env.put_some hE rfl ea; clear ea
                      refine d_off (i := 47) (unb 70 281474976710655) rfl rfl hT (anyM hM (by kernel_rfl)) (unwanted_of rfl hE rfl rfl rfl) (fun a ea => ?_)
                      have hE := Env.put_some hE rfl ea; clear ea
                      refine d_pureg (i := 48) (v := .bool true) (unb 70 562949953421311) rfl rfl hT (anyM hM (by kernel_rfl)) hE rfl (wanted_none rfl) (fun w => r_pick_t hE rfl rfl) (fun a hE => ?_)
                      refine d_pureg (i := 49) (v := .bool true) (unb 70 1125899906842623) rfl rfl hT (anyM hM (by kernel_rfl)) hE rfl (wanted_none rfl) (fun w => r_move hE rfl) (fun a hE => ?_)
                      refine d_offsM' [(50, some 74), (51, some 75), (52, some 76)] 17 hT hM hE (by kernel_rfl) (m' := 9007199254740991) (by kernel_rfl) (fun a hE => ?_)
                      refine d_pureg (i := 53) (v := .bool true) (unb 70 18014398509481983) rfl rfl hT (anyM hM (by kernel_rfl)) hE rfl (wanted_none rfl) (fun w => r_pick_t hE rfl rfl) (fun a hE => ?_)
                      refine d_pureg (i := 54) (v := .bool true) (unb 70 36028797018963967) rfl rfl hT (anyM hM (by kernel_rfl)) hE rfl (wanted_none rfl) (fun w => r_move hE rfl) (fun a hE => ?_)
                      refine d_offsM' [(55, some 79), (56, some 80), (57, some 81), (58, some 82)] 11 hT hM hE (by kernel_rfl) (m' := 576460752303423487) (by kernel_rfl) (fun a hE => ?_)
                      refine d_pureg (i := 59) (v := .bool true) (unb 70 1152921504606846975) rfl rfl hT (anyM hM (by kernel_rfl)) hE rfl (wanted_none rfl) (fun w => r_pick_t hE rfl rfl) (fun a hE => ?_)
                      refine d_pureg (i := 60) (v := .bool true) (unb 70 2305843009213693951) rfl rfl hT (anyM hM (by kernel_rfl)) hE rfl (wanted_none rfl) (fun w => r_move hE rfl) (fun a hE => ?_)
                      refine d_offsM' [(61, some 85), (62, some 86), (63, some 87)] 6 hT hM hE (by kernel_rfl) (m' := 18446744073709551615) (by kernel_rfl) (fun a hE => ?_)
                      refine d_pureg (i := 64) (v := .bool true) (unb 70 36893488147419103231) rfl rfl hT (anyM hM (by kernel_rfl)) hE rfl (wanted_none rfl) (fun w => r_pick_t hE rfl rfl) (fun a hE => ?_)
                      refine d_pureg (i := 65) (v := .bool true) (unb 70 73786976294838206463) rfl rfl hT (anyM hM (by kernel_rfl)) hE rfl (wanted_none rfl) (fun w => r_move hE rfl) (fun a hE => ?_)
                      refine d_offsM' [(66, some 90), (67, some 91), (68, some 92)] 1 hT hM hE (by kernel_rfl) (m' := 590295810358705651711) (by kernel_rfl) (fun a hE => ?_)
                      refine d_pureg (i := 69) (v := .bool true) (unb 70 1180591620717411303423) rfl rfl hT (anyM hM (by kernel_rfl)) hE rfl (wanted_none rfl) (fun w => r_pick_t hE rfl rfl) (fun a hE => ?_)
                      refine d_done hT (doneM hM (by kernel_rfl)) ?_
                      exact ⟨true, hE.cut (.cons rfl (.cons rfl (.cons rfl (.cons rfl (.cons rfl Subs.nil))))), hR, H⟩
                    · replace H := M.ite_f hb_52 H
                      refine d_pureg (i := 43) (v := .bool (x66_51 != 2)) (unb 70 17592186044415) rfl rfl hT (anyM hM (by kernel_rfl)) hE rfl (wanted_of rfl hE rfl rfl rfl) (fun w => r_bin hE rfl rfl g_int b_neq) (fun a hE => ?_)
                      refine d_pureg (i := 44) (v := .bool (x66_51 != 2)) (unb 70 35184372088831) rfl rfl hT (anyM hM (by kernel_rfl)) hE rfl (wanted_none rfl) (fun w => r_pick_f hE rfl rfl) (fun a hE => ?_)
                      refine d_pureg (i := 45) (v := .bool (x66_51 != 2)) (unb 70 70368744177663) rfl rfl hT (anyM hM (by kernel_rfl)) hE rfl (wanted_none rfl) (fun w => r_move hE rfl) (fun a hE => ?_)
                      have hE := hE.reb 69 (x66_51 != 2) false hb_52 rfl
                      replace hE := hE.cut (l' := [(1, .pointer (some x1_2)), (11, (x11_10 : Sl).v), (12, .int .i64 (x11_10.len : Int)), (13, .int .i64 x13_11), (4, .pointer x16_21), (69, .bool false)]) (.cons rfl (.cons rfl (.cons rfl (.cons rfl (.cons rfl (.cons rfl Subs.nil))))))
                      refine d_pureg (i := 46) (v := .pointer x16_21) (unb 70 140737488355327) rfl rfl hT (anyM hM (by kernel_rfl)) hE rfl (wanted_of rfl hE rfl rfl rfl) (fun w => r_move hE rfl) (fun a hE => ?_)
                      refine d_calll (i := 47) (unb 70 281474976710655) rfl rfl rfl hT (oneM hM (by kernel_rfl)) rfl hE hR (wanted_of rfl hE rfl rfl rfl) cl_disk_Disk_Down rfl (S_disk_Disk_Down x16_21) (M.unbind H) (fun x71_53 a w ea hR H => ?_)
                      have hE := Env.put_some hE rfl ea; clear ea
                      rcases bool_em x71_53 with hb_54 | hb_54
                      · replace H := M.ite_t hb_54 H
                        refine d_pureg (i := 48) (v := .bool x71_53) (unb 70 562949953421311) rfl rfl hT (anyM hM (by kernel_rfl)) hE rfl (wanted_none rfl) (fun w => r_pick_f hE rfl rfl) (fun a hE => ?_)
                        refine d_pureg (i := 49) (v := .bool x71_53) (unb 70 1125899906842623) rfl rfl hT (anyM hM (by kernel_rfl)) hE rfl (wanted_none rfl) (fun w => r_move hE rfl) (fun a hE => ?_)
                        have hE := hE.reb 73 x71_53 true hb_54 rfl
                        replace hE := hE.cut (l' := [(1, .pointer (some x1_2)), (11, (x11_10 : Sl).v), (12, .int .i64 (x11_10.len : Int)), (13, .int .i64 x13_11), (4, .pointer x16_21), (73, .bool true)]) (.cons rfl (.cons rfl (.cons rfl (.cons rfl (.cons rfl (.cons rfl Subs.nil))))))
                        refine d_offsM' [(50, some 74), (51, some 75), (52, some 76)] 17 hT hM hE (by kernel_rfl) (m' := 9007199254740991) (by kernel_rfl) (fun a hE => ?_)
                        refine d_pureg (i := 53) (v := .bool true) (unb 70 18014398509481983) rfl rfl hT (anyM hM (by kernel_rfl)) hE rfl (wanted_none rfl) (fun w => r_pick_t hE rfl rfl) (fun a hE => ?_)
                        refine d_pureg (i := 54) (v := .bool true) (unb 70 36028797018963967) rfl rfl hT (anyM hM (by kernel_rfl)) hE rfl (wanted_none rfl) (fun w => r_move hE rfl) (fun a hE => ?_)
                        refine d_offsM' [(55, some 79), (56, some 80), (57, some 81), (58, some 82)] 11 hT hM hE (by kernel_rfl) (m' := 576460752303423487) (by kernel_rfl) (fun a hE => ?_)
                        refine d_pureg (i := 59) (v := .bool true) (unb 70 1152921504606846975) rfl rfl hT (anyM hM (by kernel_rfl)) hE rfl (wanted_none rfl) (fun w => r_pick_t hE rfl rfl) (fun a hE => ?_)
                        refine d_pureg (i := 60) (v := .bool true) (unb 70 2305843009213693951) rfl rfl hT (anyM hM (by kernel_rfl)) hE rfl (wanted_none rfl) (fun w => r_move hE rfl) (fun a hE => ?_)
                        refine d_offsM' [(61, some 85), (62, some 86), (63, some 87)] 6 hT hM hE (by kernel_rfl) (m' := 18446744073709551615) (by kernel_rfl) (fun a hE => ?_)
                        refine d_pureg (i := 64) (v := .bool true) (unb 70 36893488147419103231) rfl rfl hT (anyM hM (by kernel_rfl)) hE rfl (wanted_none rfl) (fun w => r_pick_t hE rfl rfl) (fun a hE => ?_)
                        refine d_pureg (i := 65) (v := .bool true) (unb 70 73786976294838206463) rfl rfl hT (anyM hM (by kernel_rfl)) hE rfl (wanted_none rfl) (fun w => r_move hE rfl) (fun a hE => ?_)
                        refine d_offsM' [(66, some 90), (67, some 91), (68, some 92)] 1 hT hM hE (by kernel_rfl) (m' := 590295810358705651711) (by kernel_rfl) (fun a hE => ?_)
                        refine d_pureg (i := 69) (v := .bool true) (unb 70 1180591620717411303423) rfl rfl hT (anyM hM (by kernel_rfl)) hE rfl (wanted_none rfl) (fun w => r_pick_t hE rfl rfl) (fun a hE => ?_)
                        refine d_done hT (doneM hM (by kernel_rfl)) ?_
                        exact ⟨true, hE.cut (.cons rfl (.cons rfl (.cons rfl (.cons rfl (.cons rfl Subs.nil))))), hR, H⟩
                      · replace H := M.ite_f hb_54 H
                        refine d_pureg (i := 48) (v := .bool x71_53) (unb 70 562949953421311) rfl rfl hT (anyM hM (by kernel_rfl)) hE rfl (wanted_none rfl) (fun w => r_pick_f hE rfl rfl) (fun a hE => ?_)
                        refine d_pureg (i := 49) (v := .bool x71_53) (unb 70 1125899906842623) rfl rfl hT (anyM hM (by kernel_rfl)) hE rfl (wanted_none rfl) (fun w => r_move hE rfl) (fun a hE => ?_)
                        have hE := hE.reb 73 x71_53 false hb_54 rfl
                        replace hE := hE.cut (l' := [(1, .pointer (some x1_2)), (11, (x11_10 : Sl).v), (12, .int .i64 (x11_10.len : Int)), (13, .int .i64 x13_11), (4, .pointer x16_21), (73, .bool false)]) (.cons rfl (.cons rfl (.cons rfl (.cons rfl (.cons rfl (.cons rfl Subs.nil))))))
                        refine d_pureg (i := 50) (v := .pointer x16_21) (unb 70 2251799813685247) rfl rfl hT (anyM hM (by kernel_rfl)) hE rfl (wanted_of rfl hE rfl rfl rfl) (fun w => r_move hE rfl) (fun a hE => ?_)
                        refine d_calll (i := 51) (unb 70 4503599627370495) rfl rfl rfl hT (oneM hM (by kernel_rfl)) rfl hE hR (wanted_of rfl hE rfl rfl rfl) cl_disk_Disk_Sectors rfl (S_disk_Disk_Sectors x16_21) (M.unbind H) (fun x75_55 a w ea hR H => ?_)
                        have hE := Env.put_some hE rfl ea; clear ea
                        rcases bool_em (x75_55 != 0) with hb_56 | hb_56
                        · replace H := M.ite_t hb_56 H
                          refine d_pureg (i := 52) (v := .bool (x75_55 != 0)) (unb 70 9007199254740991) rfl rfl hT (anyM hM (by kernel_rfl)) hE rfl (wanted_of rfl hE rfl rfl rfl) (fun w => r_bin hE rfl rfl g_int b_neq) (fun a hE => ?_)
                          refine d_pureg (i := 53) (v := .bool (x75_55 != 0)) (unb 70 18014398509481983) rfl rfl hT (anyM hM (by kernel_rfl)) hE rfl (wanted_none rfl) (fun w => r_pick_f hE rfl rfl) (fun a hE => ?_)
                          refine d_pureg (i := 54) (v := .bool (x75_55 != 0)) (unb 70 36028797018963967) rfl rfl hT (anyM hM (by kernel_rfl)) hE rfl (wanted_none rfl) (fun w => r_move hE rfl) (fun a hE => ?_)
                          have hE := hE.reb 78 (x75_55 != 0) true hb_56 rfl
                          replace hE := hE.cut (l' := [(1, .pointer (some x1_2)), (11, (x11_10 : Sl).v), (12, .int .i64 (x11_10.len : Int)), (13, .int .i64 x13_11), (4, .pointer x16_21), (78, .bool true)]) (.cons rfl (.cons rfl (.cons rfl (.cons rfl (.cons rfl (.cons rfl Subs.nil))))))
                          refine d_offsM' [(55, some 79), (56, some 80), (57, some 81), (58, some 82)] 11 hT hM hE (by kernel_rfl) (m' := 576460752303423487) (by kernel_rfl) (fun a hE => ?_)
                          refine d_pureg (i := 59) (v := .bool true) (unb 70 1152921504606846975) rfl rfl hT (anyM hM (by kernel_rfl)) hE rfl (wanted_none rfl) (fun w => r_pick_t hE rfl rfl) (fun a hE => ?_)
                          refine d_pureg (i := 60) (v := .bool true) (unb 70 2305843009213693951) rfl rfl hT (anyM hM (by kernel_rfl)) hE rfl (wanted_none rfl) (fun w => r_move hE rfl) (fun a hE => ?_)
                          refine d_offsM' [(61, some 85), (62, some 86), (63, some 87)] 6 hT hM hE (by kernel_rfl) (m' := 18446744073709551615) (by kernel_rfl) (fun a hE => ?_)
                          refine d_pureg (i := 64) (v := .bool true) (unb 70 36893488147419103231) rfl rfl hT (anyM hM (by kernel_rfl)) hE rfl (wanted_none rfl) (fun w => r_pick_t hE rfl rfl) (fun a hE => ?_)
                          refine d_pureg (i := 65) (v := .bool true) (unb 70 73786976294838206463) rfl rfl hT (anyM hM (by kernel_rfl)) hE rfl (wanted_none rfl) (fun w => r_move hE rfl) (fun a hE => ?_)
                          refine d_offsM' [(66, some 90), (67, some 91), (68, some 92)] 1 hT hM hE (by kernel_rfl) (m' := 590295810358705651711) (by kernel_rfl) (fun a hE => ?_)
                          refine d_pureg (i := 69) (v := .bool true) (unb 70 1180591620717411303423) rfl rfl hT (anyM hM (by kernel_rfl)) hE rfl (wanted_none rfl) (fun w => r_pick_t hE rfl rfl) (fun a hE => ?_)
                          refine d_done hT (doneM hM (by kernel_rfl)) ?_
                          exact ⟨true, hE.cut (.cons rfl (.cons rfl (.cons rfl (.cons rfl (.cons rfl Subs.nil))))), hR, H⟩
                        · replace H := M.ite_f hb_56 H
                          refine d_pureg (i := 52) (v := .bool (x75_55 != 0)) (unb 70 9007199254740991) rfl rfl hT (anyM hM (by kernel_rfl)) hE rfl (wanted_of rfl hE rfl rfl rfl) (fun w => r_bin hE rfl rfl g_int b_neq) (fun a hE => ?_)
                          refine d_pureg (i := 53) (v := .bool (x75_55 != 0)) (unb 70 18014398509481983) rfl rfl hT (anyM hM (by kernel_rfl)) hE rfl (wanted_none rfl) (fun w => r_pick_f hE rfl rfl) (fun a hE => ?_)
                          refine d_pureg (i := 54) (v := .bool (x75_55 != 0)) (unb 70 36028797018963967) rfl rfl hT (anyM hM (by kernel_rfl)) hE rfl (wanted_none rfl) (fun w => r_move hE rfl) (fun a hE => ?_)
                          have hE := hE.reb 78 (x75_55 != 0) false hb_56 rfl
                          replace hE := hE.cut (l' := [(1, .pointer (some x1_2)), (11, (x11_10 : Sl).v), (12, .int .i64 (x11_10.len : Int)), (13, .int .i64 x13_11), (4, .pointer x16_21), (78, .bool false)]) (.cons rfl (.cons rfl (.cons rfl (.cons rfl (.cons rfl (.cons rfl Subs.nil))))))
                          refine d_pureg (i := 55) (v := .pointer x16_21) (unb 70 72057594037927935) rfl rfl hT (anyM hM (by kernel_rfl)) hE rfl (wanted_of rfl hE rfl rfl rfl) (fun w => r_move hE rfl) (fun a hE => ?_)
                          refine d_calll (i := 56) (unb 70 144115188075855871) rfl rfl rfl hT (oneM hM (by kernel_rfl)) rfl hE hR (wanted_of rfl hE rfl rfl rfl) cl_disk_Disk_Dirty rfl (S_disk_Disk_Dirty x16_21) (M.unbind H) (fun x80_57 a w ea hR H => ?_)
                          have hE := Env.put_some hE rfl ea; clear ea
                          rcases bool_em ((x80_57.len : Int) != 0) with hb_58 | hb_58
                          · replace H := M.ite_t hb_58 H
                            refine d_pureg (i := 57) (v := .int .i64 (x80_57.len : Int)) (unb 70 288230376151711743) rfl rfl hT (anyM hM (by kernel_rfl)) hE rfl (wanted_of rfl hE rfl rfl rfl) (fun w => r_len hE rfl 3 un54) (fun a hE => ?_)
                            refine d_pureg (i := 58) (v := .bool ((x80_57.len : Int) != 0)) (unb 70 576460752303423487) rfl rfl hT (anyM hM (by kernel_rfl)) hE rfl (wanted_of rfl hE rfl rfl rfl) (fun w => r_bin hE rfl rfl g_int b_neq) (fun a hE => ?_)
                            refine d_pureg (i := 59) (v := .bool ((x80_57.len : Int) != 0)) (unb 70 1152921504606846975) rfl rfl hT (anyM hM (by kernel_rfl)) hE rfl (wanted_none rfl) (fun w => r_pick_f hE rfl rfl) (fun a hE => ?_)
                            refine d_pureg (i := 60) (v := .bool ((x80_57.len : Int) != 0)) (unb 70 2305843009213693951) rfl rfl hT (anyM hM (by kernel_rfl)) hE rfl (wanted_none rfl) (fun w => r_move hE rfl) (fun a hE => ?_)
                            have hE := hE.reb 84 ((x80_57.len : Int) != 0) true hb_58 rfl
                            replace hE := hE.cut (l' := [(1, .pointer (some x1_2)), (11, (x11_10 : Sl).v), (12, .int .i64 (x11_10.len : Int)), (13, .int .i64 x13_11), (4, .pointer x16_21), (84, .bool true)]) (.cons rfl (.cons rfl (.cons rfl (.cons rfl (.cons rfl (.cons rfl Subs.nil))))))
                            refine d_offsM' [(61, some 85), (62, some 86), (63, some 87)] 6 hT hM hE (by kernel_rfl) (m' := 18446744073709551615) (by kernel_rfl) (fun a hE => ?_)
                            refine d_pureg (i := 64) (v := .bool true) (unb 70 36893488147419103231) rfl rfl hT (anyM hM (by kernel_rfl)) hE rfl (wanted_none rfl) (fun w => r_pick_t hE rfl rfl) (fun a hE => ?_)
                            refine d_pureg (i := 65) (v := .bool true) (unb 70 73786976294838206463) rfl rfl hT (anyM hM (by kernel_rfl)) hE rfl (wanted_none rfl) (fun w => r_move hE rfl) (fun a hE => ?_)
                            refine d_offsM' [(66, some 90), (67, some 91), (68, some 92)] 1 hT hM hE (by kernel_rfl) (m' := 590295810358705651711) (by kernel_rfl) (fun a hE => ?_)
                            refine d_pureg (i := 69) (v := .bool true) (unb 70 1180591620717411303423) rfl rfl hT (anyM hM (by kernel_rfl)) hE rfl (wanted_none rfl) (fun w => r_pick_t hE rfl rfl) (fun a hE => ?_)
                            refine d_done hT (doneM hM (by kernel_rfl)) ?_
                            exact ⟨true, hE.cut (.cons rfl (.cons rfl (.cons rfl (.cons rfl (.cons rfl Subs.nil))))), hR, H⟩
                          · replace H := M.ite_f hb_58 H
                            refine d_pureg (i := 57) (v := .int .i64 (x80_57.len : Int)) (unb 70 288230376151711743) rfl rfl hT (anyM hM (by kernel_rfl)) hE rfl (wanted_of rfl hE rfl rfl rfl) (fun w => r_len hE rfl 3 un54) (fun a hE => ?_)
                            refine d_pureg (i := 58) (v := .bool ((x80_57.len : Int) != 0)) (unb 70 576460752303423487) rfl rfl hT (anyM hM (by kernel_rfl)) hE rfl (wanted_of rfl hE rfl rfl rfl) (fun w => r_bin hE rfl rfl g_int b_neq) (fun a hE => ?_)
                            refine d_pureg (i := 59) (v := .bool ((x80_57.len : Int) != 0)) (unb 70 1152921504606846975) rfl rfl hT (anyM hM (by kernel_rfl)) hE rfl (wanted_none rfl) (fun w => r_pick_f hE rfl rfl) (fun a hE => ?_)
                            refine d_pureg (i := 60) (v := .bool ((x80_57.len : Int) != 0)) (unb 70 2305843009213693951) rfl rfl hT (anyM hM (by kernel_rfl)) hE rfl (wanted_none rfl) (fun w => r_move hE rfl) (fun a hE => ?_)
                            have hE := hE.reb 84 ((x80_57.len : Int) != 0) false hb_58 rfl
                            replace hE := hE.cut (l' := [(1, .pointer (some x1_2)), (11, (x11_10 : Sl).v), (12, .int .i64 (x11_10.len : Int)), (13, .int .i64 x13_11), (4, .pointer x16_21), (84, .bool false)]) (.cons rfl (.cons rfl (.cons rfl (.cons rfl (.cons rfl (.cons rfl Subs.nil))))))
                            refine d_pureg (i := 61) (v := .pointer x16_21) (unb 70 4611686018427387903) rfl rfl hT (anyM hM (by kernel_rfl)) hE rfl (wanted_of rfl hE rfl rfl rfl) (fun w => r_move hE rfl) (fun a hE => ?_)
                            refine d_calll (i := 62) (unb 70 9223372036854775807) rfl rfl rfl hT (oneM hM (by kernel_rfl)) rfl hE hR (wanted_of rfl hE rfl rfl rfl) cl_disk_Disk_Calls rfl (S_disk_Disk_Calls x16_21) (M.unbind H) (fun x86_59 a w ea hR H => ?_)
                            have hE := Env.put_some hE rfl ea; clear ea
                            rcases bool_em (x86_59 != 0) with hb_60 | hb_60
                            · replace H := M.ite_t hb_60 H
                              refine d_pureg (i := 63) (v := .bool (x86_59 != 0)) (unb 70 18446744073709551615) rfl rfl hT (anyM hM (by kernel_rfl)) hE rfl (wanted_of rfl hE rfl rfl rfl) (fun w => r_bin hE rfl rfl g_int b_neq) (fun a hE => ?_)
                              refine d_pureg (i := 64) (v := .bool (x86_59 != 0)) (unb 70 36893488147419103231) rfl rfl hT (anyM hM (by kernel_rfl)) hE rfl (wanted_none rfl) (fun w => r_pick_f hE rfl rfl) (fun a hE => ?_)
                              refine d_pureg (i := 65) (v := .bool (x86_59 != 0)) (unb 70 73786976294838206463) rfl rfl hT (anyM hM (by kernel_rfl)) hE rfl (wanted_none rfl) (fun w => r_move hE rfl) (fun a hE => ?_)
                              have hE := hE.reb 89 (x86_59 != 0) true hb_60 rfl
                              replace hE := hE.cut (l' := [(1, .pointer (some x1_2)), (11, (x11_10 : Sl).v), (12, .int .i64 (x11_10.len : Int)), (13, .int .i64 x13_11), (4, .pointer x16_21), (89, .bool true)]) (.cons rfl (.cons rfl (.cons rfl (.cons rfl (.cons rfl (.cons rfl Subs.nil))))))
                              refine d_offsM' [(66, some 90), (67, some 91), (68, some 92)] 1 hT hM hE (by kernel_rfl) (m' := 590295810358705651711) (by kernel_rfl) (fun a hE => ?_)
                              refine d_pureg (i := 69) (v := .bool true) (unb 70 1180591620717411303423) rfl rfl hT (anyM hM (by kernel_rfl)) hE rfl (wanted_none rfl) (fun w => r_pick_t hE rfl rfl) (fun a hE => ?_)
                              refine d_done hT (doneM hM (by kernel_rfl)) ?_
                              exact ⟨true, hE.cut (.cons rfl (.cons rfl (.cons rfl (.cons rfl (.cons rfl Subs.nil))))), hR, H⟩
                            · replace H := M.ite_f hb_60 H
                              refine d_pureg (i := 63) (v := .bool (x86_59 != 0)) (unb 70 18446744073709551615) rfl rfl hT (anyM hM (by kernel_rfl)) hE rfl (wanted_of rfl hE rfl rfl rfl) (fun w => r_bin hE rfl rfl g_int b_neq) (fun a hE => ?_)
                              refine d_pureg (i := 64) (v := .bool (x86_59 != 0)) (unb 70 36893488147419103231) rfl rfl hT (anyM hM (by kernel_rfl)) hE rfl (wanted_none rfl) (fun w => r_pick_f hE rfl rfl) (fun a hE => ?_)
                              refine d_pureg (i := 65) (v := .bool (x86_59 != 0)) (unb 70 73786976294838206463) rfl rfl hT (anyM hM (by kernel_rfl)) hE rfl (wanted_none rfl) (fun w => r_move hE rfl) (fun a hE => ?_)
                              have hE := hE.reb 89 (x86_59 != 0) false hb_60 rfl
                              replace hE := hE.cut (l' := [(1, .pointer (some x1_2)), (11, (x11_10 : Sl).v), (12, .int .i64 (x11_10.len : Int)), (13, .int .i64 x13_11), (4, .pointer x16_21), (89, .bool false)]) (.cons rfl (.cons rfl (.cons rfl (.cons rfl (.cons rfl (.cons rfl Subs.nil))))))
                              refine d_pureg (i := 66) (v := .pointer x16_21) (unb 70 147573952589676412927) rfl rfl hT (anyM hM (by kernel_rfl)) hE rfl (wanted_of rfl hE rfl rfl rfl) (fun w => r_move hE rfl) (fun a hE => ?_)
                              refine d_calll (i := 67) (unb 70 295147905179352825855) rfl rfl rfl hT (oneM hM (by kernel_rfl)) rfl hE hR (wanted_of rfl hE rfl rfl rfl) cl_disk_Disk_Clone rfl (S_disk_Disk_Clone x16_21) (M.unbind H) (fun x91_61 a w ea hR H => ?_)
                              have hE := Env.put_some hE rfl ea; clear ea
                              refine d_pureg (i := 68) (v := .bool (!(x91_61).isNone)) (unb 70 590295810358705651711) rfl rfl hT (anyM hM (by kernel_rfl)) hE rfl (wanted_of rfl hE rfl rfl rfl) (fun w => r_bin hE rfl rfl g_ptr (b_neqP un23)) (fun a hE => ?_)
                              refine d_pureg (i := 69) (v := .bool (!(x91_61).isNone)) (unb 70 1180591620717411303423) rfl rfl hT (anyM hM (by kernel_rfl)) hE rfl (wanted_none rfl) (fun w => r_pick_f hE rfl rfl) (fun a hE => ?_)
                              refine d_done hT (doneM hM (by kernel_rfl)) ?_
                              exact ⟨!(x91_61).isNone, hE.cut (.cons rfl (.cons rfl (.cons rfl (.cons rfl (.cons rfl Subs.nil))))), hR, H⟩
    · replace H := M.ite_f hb H
      refine w_exit ?_
      refine Xu.same ?_
      refine hK_7 _ _ ?_
      refine w_seq (fun K hK_62 => ?_)
      refine t_region ?_
      refine t_val (v := .bool true) rfl rfl hE rfl (r_assign hE rfl) (fun a hE => ?_)
      refine t_nil ?_
      refine hK_62 _ _ ?_
      refine w_ret ?_
      exact hret _ _ _ true _ hE hR (res_run hE rfl (RV.tmp rfl RV.nil)) rfl H

end Gx
namespace Gx
open Go
set_option linter.unusedVariables false
set_option maxRecDepth 100000
/-- slices.Clone[[]byte,byte] -/
def slices_Clone_slbyte_byte (x0 : Sl) : M (Sl) := do
  M.ite ((x0).base.isNone) (do
    M.pure Sl.nil
    ) (do
    let x5_6 ← bdL ty_uint8 0 #[]
    let x7_7 ← apL ty_uint8 1 1 (#[.int .u8 0] : Array Value) x5_6 x0
    M.pure x7_7
    )
theorem S_slices_Clone_slbyte_byte (x0 : Sl) : Sound Go.Proofs.Try.prog 38 #[(x0 : Sl).v] (fun (r : Sl) => (r : Sl).v) (slices_Clone_slbyte_byte x0) := by
  refine sound_of [(0, (x0 : Sl).v)] Go.Proofs.Try.func38 rfl rfl (Nat.le_of_ble_eq_true rfl) (args_of ⟨rfl, trivial⟩) (fun w0 w Q R a hret hE hR H => ?_)
  unfold slices_Clone_slbyte_byte at H
  refine w_seq (fun K hK_1 => ?_)
  refine t_region ?_
  refine t_val (v := (Sl.nil : Sl).v) rfl rfl hE rfl (r_assign hE rfl) (fun a hE => ?_)
  refine t_nil ?_
  refine hK_1 _ _ ?_
  refine w_seq (fun K hK_2 => ?_)
  refine w_seq (fun K hK_3 => ?_)
  refine t_region ?_
  refine t_val (v := (x0 : Sl).v) rfl rfl hE rfl (r_move hE rfl) (fun a hE => ?_)
  refine t_val (v := .bool ((x0).base.isNone)) rfl rfl hE rfl (r_bin hE rfl rfl (g_sl (v := Sl.nil)) (b_eqlL un30)) (fun a hE => ?_)
  refine t_nil ?_
  refine hK_3 _ _ ?_
  refine w_cond ((x0).base.isNone) hE rfl (fun hb => ?_) (fun hb => ?_)
  · replace H := M.ite_t hb H
    refine w_seq (fun K hK_4 => ?_)
    refine t_region ?_
    refine t_val (v := (Sl.nil : Sl).v) rfl rfl hE rfl (r_assign hE rfl) (fun a hE => ?_)
    refine t_nil ?_
    refine hK_4 _ _ ?_
    refine w_ret ?_
    exact hret _ _ _ Sl.nil _ hE hR (res_run hE rfl (RV.tmp rfl RV.nil)) rfl H
  · replace H := M.ite_f hb H
    refine w_skip ?_
    refine hK_2 _ _ ?_
    refine w_seq (fun K hK_5 => ?_)
    refine t_region ?_
    obtain ⟨x5_6, qx5_6, H⟩ := H
    refine t_valh (v := (x5_6 : Sl).v) rfl rfl hE rfl hR (r_buildL (cells := #[]) hE rfl un30 sz5 zr5 rfl rfl qx5_6) (fun a w hE hR hh => ?_)
    replace H := M.at hh H; clear hh
    refine t_val (v := (x0 : Sl).v) rfl rfl hE rfl (r_move hE rfl) (fun a hE => ?_)
    refine t_ex (fun x7_7 => (x7_7 : Sl).v) rfl rfl hR (M.unbind H) (fun Q H => ap_run hE rfl rfl ap30 H) (fun x7_7 a w ea hR H => ?_)
    have hE := Env.put_some hE rfl ea; clear ea
    refine t_val (v := (x7_7 : Sl).v) rfl rfl hE rfl (r_assign hE rfl) (fun a hE => ?_)
    refine t_nil ?_
    refine hK_5 _ _ ?_
    refine w_ret ?_
    exact hret _ _ _ x7_7 _ hE hR (res_run hE rfl (RV.tmp rfl RV.nil)) rfl H

/-- ramble/sector.big -/
def sector_big_l1 (c0_3 : Int) (c1_4 : Sl) (c6_5 : Int) (self1 : (Int) → M (Unit)) : (Int) → M (Unit) := fun s => match s with
  | x7_2 => do
    M.ite (decide (x7_2 < c6_5)) (do
      let x19_11 ← pShr .u64 c0_3 (IntKind.wrap .i64 (8 * (IntKind.wrap .i64 ((IntKind.wrap .i64 ((c1_4.len : Int) - 1)) - x7_2))))
      let x21_12 ← ixL c1_4 x7_2 1
      stV x21_12 (.int .u8 (IntKind.wrap .u8 x19_11))
      self1 (IntKind.wrap .i64 (x7_2 + 1))
      ) (do
      M.pure ()
      )
def sector_big (x0 : Int) (x1 : Sl) : M (Unit) := do
  M.loop (sector_big_l1 x0 x1 (x1.len : Int)) 0
theorem S_sector_big (x0 : Int) (x1 : Sl) : Sound Go.Proofs.Try.prog 77 #[.int .u64 x0, (x1 : Sl).v] (fun (r : Unit) => .tuple #[]) (sector_big x0 x1) := by
  refine sound_of [(0, .int .u64 x0), (1, (x1 : Sl).v)] Go.Proofs.Try.func77 rfl rfl (Nat.le_of_ble_eq_true rfl) (args_of ⟨rfl, rfl, trivial⟩) (fun w0 w Q R a hret hE hR H => ?_)
  unfold sector_big at H
  refine w_seq (fun K hK_1 => ?_)
  refine t_region ?_
  refine t_val (v := (x1 : Sl).v) rfl rfl hE rfl (r_move hE rfl) (fun a hE => ?_)
  refine t_val (v := .int .i64 (x1.len : Int)) rfl rfl hE rfl (r_len hE rfl 5 un30) (fun a hE => ?_)
  refine t_val (v := .int .i64 0) rfl rfl hE rfl (r_move hE rfl) (fun a hE => ?_)
  refine t_nil ?_
  refine hK_1 _ _ ?_
  refine w_block ?_
  refine l_loop (fun (s : Int) => (⟨23, []⟩ : Frm)) (fun (s : Int) => [(0, .int .u64 x0), (1, (x1 : Sl).v), (6, .int .i64 (x1.len : Int)), (7, .int .i64 s)]) H (hE.cut (.cons rfl (.cons rfl (.cons rfl (.cons rfl Subs.nil))))) hR (fun Y self1 hY_6 x7_2 a w hE hR H => ?_)
  replace hE : Env (⟨23, []⟩ : Frm) a [(0, .int .u64 x0), (1, (x1 : Sl).v), (6, .int .i64 (x1.len : Int)), (7, .int .i64 x7_2)] := hE
  replace H : (sector_big_l1 x0 x1 (x1.len : Int) self1 x7_2).wp w.heap Q := H
  unfold sector_big_l1 at H
  refine w_seq (fun K hK_7 => ?_)
  refine t_region ?_
  refine t_val (v := .bool (decide (x7_2 < (x1.len : Int)))) rfl rfl hE rfl (r_bin hE rfl rfl g_int b_lss) (fun a hE => ?_)
  refine t_nil ?_
  refine hK_7 _ _ ?_
  refine w_seq (fun K hK_8 => ?_)
  refine w_cond (decide (x7_2 < (x1.len : Int))) hE rfl (fun hb => ?_) (fun hb => ?_)
  · replace H := M.ite_t hb H
    refine w_skip ?_
    refine hK_8 _ _ ?_
    refine w_seq (fun K hK_9 => ?_)
    refine w_block ?_
    refine w_seq (fun K hK_10 => ?_)
    refine t_region ?_
    refine t_val (v := .int .i64 x7_2) rfl rfl hE rfl (r_move hE rfl) (fun a hE => ?_)
    refine t_val (v := .int .i64 x7_2) rfl rfl hE rfl (r_assign hE rfl) (fun a hE => ?_)
    refine t_nil ?_
    refine hK_10 _ _ ?_
    refine t_region ?_
    refine t_val (v := (x1 : Sl).v) rfl rfl hE rfl (r_move hE rfl) (fun a hE => ?_)
    refine t_val (v := .int .i64 x7_2) rfl rfl hE rfl (r_move hE rfl) (fun a hE => ?_)
    refine t_val (v := .int .u64 x0) rfl rfl hE rfl (r_move hE rfl) (fun a hE => ?_)
    refine t_val (v := (x1 : Sl).v) rfl rfl hE rfl (r_move hE rfl) (fun a hE => ?_)
    refine t_val (v := .int .i64 (x1.len : Int)) rfl rfl hE rfl (r_len hE rfl 5 un30) (fun a hE => ?_)
    refine t_val (v := .int .i64 (IntKind.wrap .i64 ((x1.len : Int) - 1))) rfl rfl hE rfl (r_bin hE rfl rfl g_int b_sub) (fun a hE => ?_)
    refine t_val (v := .int .i64 x7_2) rfl rfl hE rfl (r_move hE rfl) (fun a hE => ?_)
    refine t_val (v := .int .i64 (IntKind.wrap .i64 ((IntKind.wrap .i64 ((x1.len : Int) - 1)) - x7_2))) rfl rfl hE rfl (r_bin hE rfl rfl g_int b_sub) (fun a hE => ?_)
    refine t_val (v := .int .i64 (IntKind.wrap .i64 (8 * (IntKind.wrap .i64 ((IntKind.wrap .i64 ((x1.len : Int) - 1)) - x7_2))))) rfl rfl hE rfl (r_bin hE rfl rfl g_int b_mul) (fun a hE => ?_)
    obtain ⟨x19_11, qx19_11, H⟩ := H
    refine t_val (v := .int .u64 x19_11) rfl rfl hE rfl (r_bin hE rfl rfl g_int (b_shr qx19_11)) (fun a hE => ?_)
    refine t_val (v := .int .u8 (IntKind.wrap .u8 x19_11)) rfl rfl hE rfl (r_convI hE rfl un106 un5) (fun a hE => ?_)
    obtain ⟨x21_12, qx21_12, H⟩ := H
    refine t_val (v := .pointer (some x21_12)) rfl rfl hE rfl (r_indexAddrL hE rfl rfl un30 sz5 qx21_12) (fun a hE => ?_)
    obtain ⟨u_13, qu_13, H⟩ := H
    refine t_sth rfl rfl hE hR (r_store hE rfl rfl sz5 qu_13) (fun a w hE hR hh => ?_)
    replace H := M.at hh H; clear hh
    refine t_nil ?_
    refine hK_9 _ _ ?_
    refine t_region ?_
    refine t_val (v := .int .i64 (IntKind.wrap .i64 (x7_2 + 1))) rfl rfl hE rfl (r_bin hE rfl rfl g_int b_add) (fun a hE => ?_)
    refine t_val (v := .int .i64 (IntKind.wrap .i64 (x7_2 + 1))) rfl rfl hE rfl (r_move hE rfl) (fun a hE => ?_)
    refine t_nil ?_
    exact hY_6 (IntKind.wrap .i64 (x7_2 + 1)) _ _ (hE.cut (.cons rfl (.cons rfl (.cons rfl (.cons rfl Subs.nil))))) hR H
  · replace H := M.ite_f hb H
    refine w_exit ?_
    refine Xu.same ?_
    exact hret _ _ _ () _ hE hR (res_run hE rfl RV.nil) rfl H

/-- ramble/sector.Sum -/
def sector_Sum_j1 (self2 : (Int × Int) → M (Int)) (c17_30 : Int) (x3_26 : Int) : M (Int) := do
  self2 (x3_26, IntKind.wrap .i64 (c17_30 + 1))
def sector_Sum_l2 (self1 : (Int × Int) → M (Int)) (c9_22 : Int) (self2 : (Int × Int) → M (Int)) : (Int × Int) → M (Int) := fun s => match s with
  | (x3_18, x17_19) => do
    M.ite (decide (x17_19 < 8)) (do
      M.ite ((iAnd .u32 x3_18 1) == 1) (do
        sector_Sum_j1 self2 x17_19 (iXor .u32 (iShr .u32 x3_18 1) 3988292384)
        ) (do
        sector_Sum_j1 self2 x17_19 (iShr .u32 x3_18 1)
        )
      ) (do
      self1 (x3_18, IntKind.wrap .i64 (c9_22 + 1))
      )
def sector_Sum_l1 (c7_7 : Sl) (c8_8 : Int) (self1 : (Int × Int) → M (Int)) : (Int × Int) → M (Int) := fun s => match s with
  | (x3_5, x9_6) => do
    M.ite (decide (x9_6 < c8_8)) (do
      let x11_14 ← ixL c7_7 x9_6 1
      let x12_15 ← ldI .u8 x11_14
      M.loop (sector_Sum_l2 self1 x9_6) (iXor .u32 x3_5 (IntKind.wrap .u32 x12_15), 0)
      ) (do
      M.pure (iNot .u32 x3_5)
      )
def sector_Sum (x0 : Sl) : M (Int) := do
  M.loop (sector_Sum_l1 x0 (x0.len : Int)) (4294967295, 0)
theorem S_sector_Sum (x0 : Sl) : Sound Go.Proofs.Try.prog 78 #[(x0 : Sl).v] (fun (r : Int) => .int .u32 r) (sector_Sum x0) := by
  refine sound_of [(0, (x0 : Sl).v)] Go.Proofs.Try.func78 rfl rfl (Nat.le_of_ble_eq_true rfl) (args_of ⟨rfl, trivial⟩) (fun w0 w Q R a hret hE hR H => ?_)
  unfold sector_Sum at H
  refine w_seq (fun K hK_1 => ?_)
  refine t_region ?_
  refine t_val (v := .int .u32 0) rfl rfl hE rfl (r_assign hE rfl) (fun a hE => ?_)
  refine t_nil ?_
  refine hK_1 _ _ ?_
  refine w_seq (fun K hK_2 => ?_)
  refine t_region ?_
  refine t_val (v := .int .u32 4294967295) rfl rfl hE rfl (r_assign hE rfl) (fun a hE => ?_)
  refine t_nil ?_
  refine hK_2 _ _ ?_
  refine w_seq (fun K hK_3 => ?_)
  refine w_seq (fun K hK_4 => ?_)
  refine t_region ?_
  refine t_val (v := (x0 : Sl).v) rfl rfl hE rfl (r_move hE rfl) (fun a hE => ?_)
  refine t_val (v := .int .i64 (x0.len : Int)) rfl rfl hE rfl (r_len hE rfl 5 un30) (fun a hE => ?_)
  refine t_val (v := .int .i64 0) rfl rfl hE rfl (r_move hE rfl) (fun a hE => ?_)
  refine t_nil ?_
  refine hK_4 _ _ ?_
  refine w_block ?_
  refine l_loop (fun (s : Int × Int) => (⟨31, []⟩ : Frm)) (fun (s : Int × Int) => [(3, .int .u32 s.1), (7, (x0 : Sl).v), (8, .int .i64 (x0.len : Int)), (9, .int .i64 s.2)]) H (hE.cut (.cons rfl (.cons rfl (.cons rfl (.cons rfl Subs.nil))))) hR (fun Y self1 hY_9 s a w hE hR H => ?_)
  rcases s with ⟨x3_5, x9_6⟩
  replace hE : Env (⟨31, []⟩ : Frm) a [(3, .int .u32 x3_5), (7, (x0 : Sl).v), (8, .int .i64 (x0.len : Int)), (9, .int .i64 x9_6)] := hE
  replace H : (sector_Sum_l1 x0 (x0.len : Int) self1 (x3_5, x9_6)).wp w.heap Q := H
  unfold sector_Sum_l1 at H
  refine w_seq (fun K hK_10 => ?_)
  refine t_region ?_
  refine t_val (v := .bool (decide (x9_6 < (x0.len : Int)))) rfl rfl hE rfl (r_bin hE rfl rfl g_int b_lss) (fun a hE => ?_)
  refine t_nil ?_
  refine hK_10 _ _ ?_
  refine w_seq (fun K hK_11 => ?_)
  refine w_cond (decide (x9_6 < (x0.len : Int))) hE rfl (fun hb => ?_) (fun hb => ?_)
  · replace H := M.ite_t hb H
    refine w_skip ?_
    refine hK_11 _ _ ?_
    refine w_seq (fun K hK_12 => ?_)
    refine w_block ?_
    refine w_seq (fun K hK_13 => ?_)
    refine t_region ?_
    obtain ⟨x11_14, qx11_14, H⟩ := H
    refine t_val (v := .pointer (some x11_14)) rfl rfl hE rfl (r_indexAddrL hE rfl rfl un30 sz5 qx11_14) (fun a hE => ?_)
    obtain ⟨x12_15, qx12_15, H⟩ := H
    refine t_val (v := .int .u8 x12_15) rfl rfl hE rfl (r_load hE rfl sc5 qx12_15) (fun a hE => ?_)
    refine t_val (v := .int .u8 x12_15) rfl rfl hE rfl (r_assign hE rfl) (fun a hE => ?_)
    refine t_nil ?_
    refine hK_13 _ _ ?_
    refine w_seq (fun K hK_16 => ?_)
    refine t_region ?_
    refine t_val (v := .int .u32 x3_5) rfl rfl hE rfl (r_move hE rfl) (fun a hE => ?_)
    refine t_val (v := .int .u8 x12_15) rfl rfl hE rfl (r_move hE rfl) (fun a hE => ?_)
    refine t_val (v := .int .u32 (IntKind.wrap .u32 x12_15)) rfl rfl hE rfl (r_convI hE rfl un5 un49) (fun a hE => ?_)
    refine t_val (v := .int .u32 (iXor .u32 x3_5 (IntKind.wrap .u32 x12_15))) rfl rfl hE rfl (r_bin hE rfl rfl g_int b_xor) (fun a hE => ?_)
    refine t_val (v := .int .u32 (iXor .u32 x3_5 (IntKind.wrap .u32 x12_15))) rfl rfl hE rfl (r_assign hE rfl) (fun a hE => ?_)
    refine t_nil ?_
    refine hK_16 _ _ ?_
    refine w_seq (fun K hK_17 => ?_)
    refine t_region ?_
    refine t_val (v := .int .i64 0) rfl rfl hE rfl (r_move hE rfl) (fun a hE => ?_)
    refine t_nil ?_
    refine hK_17 _ _ ?_
    refine w_block ?_
    refine l_loop (fun (s : Int × Int) => (⟨31, []⟩ : Frm)) (fun (s : Int × Int) => [(3, .int .u32 s.1), (7, (x0 : Sl).v), (8, .int .i64 (x0.len : Int)), (9, .int .i64 x9_6), (17, .int .i64 s.2)]) H (hE.cut (.cons rfl (.cons rfl (.cons rfl (.cons rfl (.cons rfl Subs.nil)))))) hR (fun Y self2 hY_23 s a w hE hR H => ?_)
    rcases s with ⟨x3_18, x17_19⟩
    replace hE : Env (⟨31, []⟩ : Frm) a [(3, .int .u32 x3_18), (7, (x0 : Sl).v), (8, .int .i64 (x0.len : Int)), (9, .int .i64 x9_6), (17, .int .i64 x17_19)] := hE
    replace H : (sector_Sum_l2 self1 x9_6 self2 (x3_18, x17_19)).wp w.heap Q := H
    unfold sector_Sum_l2 at H
    refine w_seq (fun K hK_24 => ?_)
    refine t_region ?_
    refine t_val (v := .bool (decide (x17_19 < 8))) rfl rfl hE rfl (r_bin hE rfl rfl g_int b_lss) (fun a hE => ?_)
    refine t_nil ?_
    refine hK_24 _ _ ?_
    refine w_seq (fun K hK_25 => ?_)
    refine w_cond (decide (x17_19 < 8)) hE rfl (fun hb => ?_) (fun hb => ?_)
    · replace H := M.ite_t hb H
      refine w_skip ?_
      refine hK_25 _ _ ?_
      refine w_seq_join (fun a w => ∃ (x3_26 : Int), Env (⟨31, []⟩ : Frm) a [(7, (x0 : Sl).v), (8, .int .i64 (x0.len : Int)), (9, .int .i64 x9_6), (17, .int .i64 x17_19), (3, .int .u32 x3_26)] ∧ Rest w0 w ∧ (sector_Sum_j1 self2 x17_19 x3_26).wp w.heap Q) ?_ ?_
      · rintro a w ⟨x3_26, hE, hR, H⟩
        unfold sector_Sum_j1 at H
        refine t_region ?_
        refine t_val (v := .int .i64 (IntKind.wrap .i64 (x17_19 + 1))) rfl rfl hE rfl (r_bin hE rfl rfl g_int b_add) (fun a hE => ?_)
        refine t_val (v := .int .i64 (IntKind.wrap .i64 (x17_19 + 1))) rfl rfl hE rfl (r_move hE rfl) (fun a hE => ?_)
        refine t_nil ?_
        exact hY_23 (x3_26, IntKind.wrap .i64 (x17_19 + 1)) _ _ (hE.cut (.cons rfl (.cons rfl (.cons rfl (.cons rfl (.cons rfl Subs.nil)))))) hR H
      · skip
        refine w_block ?_
        refine w_seq (fun K hK_31 => ?_)
        refine t_region ?_
        refine t_val (v := .int .u32 x3_18) rfl rfl hE rfl (r_move hE rfl) (fun a hE => ?_)
        refine t_val (v := .int .u32 (iAnd .u32 x3_18 1)) rfl rfl hE rfl (r_bin hE rfl rfl g_int b_and) (fun a hE => ?_)
        refine t_val (v := .int .u32 (iAnd .u32 x3_18 1)) rfl rfl hE rfl (r_assign hE rfl) (fun a hE => ?_)
        refine t_nil ?_
        refine hK_31 _ _ ?_
        refine w_seq (fun K hK_32 => ?_)
        refine t_region ?_
        refine t_val (v := .int .u32 x3_18) rfl rfl hE rfl (r_move hE rfl) (fun a hE => ?_)
        refine t_val (v := .int .u32 (iShr .u32 x3_18 1)) rfl rfl hE rfl (r_bin hE rfl rfl g_int (b_shr ⟨by decide, rfl⟩)) (fun a hE => ?_)
        refine t_val (v := .int .u32 (iShr .u32 x3_18 1)) rfl rfl hE rfl (r_assign hE rfl) (fun a hE => ?_)
        refine t_nil ?_
        refine hK_32 _ _ ?_
        refine w_seq (fun K hK_33 => ?_)
        refine t_region ?_
        refine t_val (v := .int .u32 (iAnd .u32 x3_18 1)) rfl rfl hE rfl (r_move hE rfl) (fun a hE => ?_)
        refine t_val (v := .bool ((iAnd .u32 x3_18 1) == 1)) rfl rfl hE rfl (r_bin hE rfl rfl g_int b_eql) (fun a hE => ?_)
        refine t_nil ?_
        refine hK_33 _ _ ?_
        refine w_cond ((iAnd .u32 x3_18 1) == 1) hE rfl (fun hb => ?_) (fun hb => ?_)
        · replace H := M.ite_t hb H
          refine t_region ?_
          refine t_val (v := .int .u32 (iShr .u32 x3_18 1)) rfl rfl hE rfl (r_move hE rfl) (fun a hE => ?_)
          refine t_val (v := .int .u32 (iXor .u32 (iShr .u32 x3_18 1) 3988292384)) rfl rfl hE rfl (r_bin hE rfl rfl g_int b_xor) (fun a hE => ?_)
          refine t_val (v := .int .u32 (iXor .u32 (iShr .u32 x3_18 1) 3988292384)) rfl rfl hE rfl (r_assign hE rfl) (fun a hE => ?_)
          refine t_nil ?_
          exact ⟨iXor .u32 (iShr .u32 x3_18 1) 3988292384, hE.cut (.cons rfl (.cons rfl (.cons rfl (.cons rfl (.cons rfl Subs.nil))))), hR, H⟩
        · replace H := M.ite_f hb H
          refine w_skip ?_
          exact ⟨iShr .u32 x3_18 1, hE.cut (.cons rfl (.cons rfl (.cons rfl (.cons rfl (.cons rfl Subs.nil))))), hR, H⟩
    · replace H := M.ite_f hb H
      refine w_exit ?_
      refine Xu.same ?_
      refine hK_12 _ _ ?_
      refine t_region ?_
      refine t_val (v := .int .i64 (IntKind.wrap .i64 (x9_6 + 1))) rfl rfl hE rfl (r_bin hE rfl rfl g_int b_add) (fun a hE => ?_)
      refine t_val (v := .int .i64 (IntKind.wrap .i64 (x9_6 + 1))) rfl rfl hE rfl (r_move hE rfl) (fun a hE => ?_)
      refine t_nil ?_
      exact hY_9 (x3_18, IntKind.wrap .i64 (x9_6 + 1)) _ _ (hE.cut (.cons rfl (.cons rfl (.cons rfl (.cons rfl Subs.nil))))) hR H
  · replace H := M.ite_f hb H
    refine w_exit ?_
    refine Xu.same ?_
    refine hK_3 _ _ ?_
    refine w_seq (fun K hK_34 => ?_)
    refine t_region ?_
    refine t_val (v := .int .u32 x3_5) rfl rfl hE rfl (r_move hE rfl) (fun a hE => ?_)
    refine t_val (v := .int .u32 (iNot .u32 x3_5)) rfl rfl hE rfl (r_un hE rfl u_xor) (fun a hE => ?_)
    refine t_val (v := .int .u32 (iNot .u32 x3_5)) rfl rfl hE rfl (r_assign hE rfl) (fun a hE => ?_)
    refine t_nil ?_
    refine hK_34 _ _ ?_
    refine w_ret ?_
    exact hret _ _ _ (iNot .u32 x3_5) _ hE hR (res_run hE rfl (RV.tmp rfl RV.nil)) rfl H

/-- ramble/sector.Seal -/
theorem tb66_4 : tabAt Go.Proofs.Try.f66 4 [[], [0], [1], [], [3], [4], [5], [0, 1, 2], [7, 2, 0, 1, 2], [0, 1, 2, 3, 4, 5, 6, 7, 8], [9, 6, 8, 0, 1, 2, 3, 4, 5, 6, 7, 8]] [[], [0], [1], [], [3], [4], [5], [], [2, 7], [], [6, 9]] [[], [0], [0, 1], [], [3], [3, 4], [3, 4, 5], [0, 1, 2], [0, 1, 2, 7], [0, 1, 2, 3, 4, 5, 6, 7, 8], [0, 1, 2, 3, 4, 5, 6, 7, 8, 9]] = true := by kernel_rfl
theorem tb66_5 : tabAt Go.Proofs.Try.f66 5 [[], [0], [1], [], [2, 3]] [[], [0], [1], [], [2, 3]] [[], [0], [0, 1], [], [0, 1, 2, 3]] = true := by kernel_rfl
theorem tb66_6 : tabAt Go.Proofs.Try.f66 6 [[], [], [1], [0, 2]] [[], [], [1], [0, 2]] [[], [], [1], [0, 1, 2]] = true := by kernel_rfl
def sector_Seal_l1 (c2_38 : Addr) (c4_39 : Addr) (c6_40 : Int) (self1 : (Int) → M (Array Value × Int)) : (Int) → M (Array Value × Int) := fun s => match s with
  | x5_37 => do
    M.ite (decide (x5_37 < 4)) (do
      let x56_45 ← pShr .u32 c6_40 (IntKind.wrap .i64 (8 * x5_37))
      let x58_46 ← ixA c4_39 128 (IntKind.wrap .i64 (124 + x5_37)) 1
      stV x58_46 (.int .u8 (IntKind.wrap .u8 x56_45))
      self1 (IntKind.wrap .i64 (x5_37 + 1))
      ) (do
      let x59_49 ← ldG 128 c4_39
      M.need (x59_49.size = 128)
      stG c2_38 x59_49
      let r2_51 ← ldG 128 c2_38
      M.pure (r2_51, 0)
      )
def sector_Seal (x0 : Array Value) : M (Array Value × Int) := do
  let x1_2 ← mkB ty_api_Frame x0
  let x2_3 ← mkB ty_api_Sector (Array.replicate 128 (.int .u8 0) : Array Value)
  let x8_6 ← ldI .i64 ((x1_2).add 0)
  let x14_7 ← M.ite (decide (x8_6 < 1)) (do
    M.pure true
    ) (do
    let x12_8 ← ldI .i64 ((x1_2).add 0)
    M.pure (decide (x12_8 > 255))
    )
  let x19_9 ← M.ite x14_7 (do
    M.pure true
    ) (do
    let x17_10 ← ldI .i64 ((x1_2).add 1)
    M.pure (decide (x17_10 < 0))
    )
  let x25_11 ← M.ite x19_9 (do
    M.pure true
    ) (do
    let x22_12 ← ldL ((x1_2).add 2)
    M.pure (decide ((x22_12.len : Int) > 112))
    )
  M.ite x25_11 (do
    M.need ((Array.replicate 128 (.int .u8 0) : Array Value).size = 128)
    stG x2_3 (Array.replicate 128 (.int .u8 0) : Array Value)
    let r2_15 ← ldG 128 x2_3
    M.pure (r2_15, 1)
    ) (do
    let x4_17 ← mkB ty_api_Sector (Array.replicate 128 (.int .u8 0) : Array Value)
    let x28_19 ← ldI .i64 ((x1_2).add 0)
    let x34_20 ← ixA x4_17 128 0 1
    let x31_21 ← ldL ((x1_2).add 2)
    stV x34_20 (.int .u8 (IntKind.wrap .u8 x28_19))
    chk (fun h : Heap => (hcell h ((x1_2).add 0) = some (.int .i64 x28_19)) ∧ (hcell h ((x1_2).add 2) = some ((x31_21 : Sl).v)))
    let x35_23 ← ixA x4_17 128 1 1
    stV x35_23 (.int .u8 (IntKind.wrap .u8 (x31_21.len : Int)))
    let x39_26 ← slA x4_17 128 2 10 1
    let x37_27 ← ldI .i64 ((x1_2).add 1)
    let x40_28 ← sector_big (IntKind.wrap .u64 x37_27) x39_26
    let x41_30 ← slA x4_17 128 10 128 1
    let x43_31 ← ldL ((x1_2).add 2)
    let x44_32 ← cpL 1 x41_30 x43_31
    let x45_35 ← slA x4_17 128 0 124 1
    let x46_36 ← sector_Sum x45_35
    M.loop (sector_Seal_l1 x2_3 x4_17 x46_36) 0
    )
theorem S_sector_Seal (x0 : Array Value) : Sound Go.Proofs.Try.prog 66 #[.agg x0] (fun (r : Array Value × Int) => .tuple #[.agg r.1, .int .i64 r.2]) (sector_Seal x0) := by
  refine sound_of [(0, .agg x0)] Go.Proofs.Try.func66 rfl rfl (Nat.le_of_ble_eq_true rfl) (args_of ⟨rfl, trivial⟩) (fun w0 w Q R a hret hE hR H => ?_)
  unfold sector_Seal at H
  refine w_seq (fun K hK_1 => ?_)
  refine t_region ?_
  obtain ⟨x1_2, qx1_2, H⟩ := H
  refine t_valh (v := .pointer (some x1_2)) rfl rfl hE rfl hR (r_box hE rfl qx1_2) (fun a w hE hR hh => ?_)
  replace H := M.at hh H; clear hh
  obtain ⟨x2_3, qx2_3, H⟩ := H
  refine t_valh (v := .pointer (some x2_3)) rfl rfl hE rfl hR (r_alloc zr47 qx2_3) (fun a w hE hR hh => ?_)
  replace H := M.at hh H; clear hh
  refine t_val (v := .int .i64 0) rfl rfl hE rfl (r_assign hE rfl) (fun a hE => ?_)
  refine t_nil ?_
  refine hK_1 _ _ ?_
  refine w_seq (fun K hK_4 => ?_)
  refine w_seq (fun K hK_5 => ?_)
  refine t_region ?_
  refine t_val (v := .pointer (some ((x1_2).add 0))) rfl rfl hE rfl (r_fieldAddr hE rfl fd86_0) (fun a hE => ?_)
  obtain ⟨x8_6, qx8_6, H⟩ := H
  refine t_val (v := .int .i64 x8_6) rfl rfl hE rfl (r_load hE rfl sc3 qx8_6) (fun a hE => ?_)
  refine t_val (v := .bool (decide (x8_6 < 1))) rfl rfl hE rfl (r_bin hE rfl rfl g_int b_lss) (fun a hE => ?_)
  refine t_val (v := .bool (decide (x8_6 < 1))) rfl rfl hE rfl (r_move hE rfl) (fun a hE => ?_)
  refine t_grp (n := (⟨60, []⟩ : Frm)) (w0 := w0) 4 (fun x14_7 : Bool => [(1, .pointer (some x1_2)), (2, .pointer (some x2_3)), (14, .bool x14_7)]) (M.unbind H) (fun Kr hKr H => ?_) ?_
  · rcases bool_em (decide (x8_6 < 1)) with hb | hb
    · replace H := M.ite_t hb H
      have hE := hE.reb 10 (decide (x8_6 < 1)) true hb rfl
      refine t_off rfl hE rfl rfl rfl (fun a ea => ?_)
      have hE := Env.put_some hE rfl ea; clear ea
      refine t_off rfl hE rfl rfl rfl (fun a ea => ?_)
      have hE := Env.put_some hE rfl ea; clear ea
      refine t_off rfl hE rfl rfl rfl (fun a ea => ?_)
      have hE := Env.put_some hE rfl ea; clear ea
      refine t_val rfl rfl hE rfl (r_pick_t hE rfl rfl) (fun a hE => ?_)
      refine t_nil ?_
      exact hKr _ _ _ (hE.cut (.cons rfl (.cons rfl (.cons rfl Subs.nil)))) hR H
    · replace H := M.ite_f hb H
      have hE := hE.reb 10 (decide (x8_6 < 1)) false hb rfl
      refine t_on rfl hE rfl rfl rfl ?_
      refine t_val (v := .pointer (some ((x1_2).add 0))) rfl rfl hE rfl (r_fieldAddr hE rfl fd86_0) (fun a hE => ?_)
      refine t_on rfl hE rfl rfl rfl ?_
      obtain ⟨x12_8, qx12_8, H⟩ := H
      refine t_val (v := .int .i64 x12_8) rfl rfl hE rfl (r_load hE rfl sc3 qx12_8) (fun a hE => ?_)
      refine t_on rfl hE rfl rfl rfl ?_
      refine t_val (v := .bool (decide (x12_8 > 255))) rfl rfl hE rfl (r_bin hE rfl rfl g_int b_gtr) (fun a hE => ?_)
      refine t_val rfl rfl hE rfl (r_pick_f hE rfl rfl) (fun a hE => ?_)
      refine t_nil ?_
      exact hKr _ _ _ (hE.cut (.cons rfl (.cons rfl (.cons rfl Subs.nil)))) hR H
  · intro x14_7 a w hE hR H
    refine t_val (v := .bool x14_7) rfl rfl hE rfl (r_move hE rfl) (fun a hE => ?_)
    refine t_grp (n := (⟨60, []⟩ : Frm)) (w0 := w0) 4 (fun x19_9 : Bool => [(1, .pointer (some x1_2)), (2, .pointer (some x2_3)), (19, .bool x19_9)]) (M.unbind H) (fun Kr hKr H => ?_) ?_
    · rcases bool_em x14_7 with hb | hb
      · replace H := M.ite_t hb H
        have hE := hE.reb 15 x14_7 true hb rfl
        refine t_off rfl hE rfl rfl rfl (fun a ea => ?_)
        have hE := Env.put_some hE rfl ea; clear ea
        refine t_off rfl hE rfl rfl rfl (fun a ea => ?_)
        have hE := Env.put_some hE rfl ea; clear ea
        refine t_off rfl hE rfl rfl rfl (fun a ea => ?_)
        have hE := Env.put_some hE rfl ea; clear ea
        refine t_val rfl rfl hE rfl (r_pick_t hE rfl rfl) (fun a hE => ?_)
        refine t_nil ?_
        exact hKr _ _ _ (hE.cut (.cons rfl (.cons rfl (.cons rfl Subs.nil)))) hR H
      · replace H := M.ite_f hb H
        have hE := hE.reb 15 x14_7 false hb rfl
        refine t_on rfl hE rfl rfl rfl ?_
        refine t_val (v := .pointer (some ((x1_2).add 1))) rfl rfl hE rfl (r_fieldAddr hE rfl fd86_1) (fun a hE => ?_)
        refine t_on rfl hE rfl rfl rfl ?_
        obtain ⟨x17_10, qx17_10, H⟩ := H
        refine t_val (v := .int .i64 x17_10) rfl rfl hE rfl (r_load hE rfl sc2 qx17_10) (fun a hE => ?_)
        refine t_on rfl hE rfl rfl rfl ?_
        refine t_val (v := .bool (decide (x17_10 < 0))) rfl rfl hE rfl (r_bin hE rfl rfl g_int b_lss) (fun a hE => ?_)
        refine t_val rfl rfl hE rfl (r_pick_f hE rfl rfl) (fun a hE => ?_)
        refine t_nil ?_
        exact hKr _ _ _ (hE.cut (.cons rfl (.cons rfl (.cons rfl Subs.nil)))) hR H
    · intro x19_9 a w hE hR H
      refine t_val (v := .bool x19_9) rfl rfl hE rfl (r_move hE rfl) (fun a hE => ?_)
      refine t_grp (n := (⟨60, []⟩ : Frm)) (w0 := w0) 5 (fun x25_11 : Bool => [(1, .pointer (some x1_2)), (2, .pointer (some x2_3)), (25, .bool x25_11)]) (M.unbind H) (fun Kr hKr H => ?_) ?_
      · rcases bool_em x19_9 with hb | hb
        · replace H := M.ite_t hb H
          have hE := hE.reb 20 x19_9 true hb rfl
          refine t_off rfl hE rfl rfl rfl (fun a ea => ?_)
          have hE := Env.put_some hE rfl ea; clear ea
          refine t_off rfl hE rfl rfl rfl (fun a ea => ?_)
          have hE := Env.put_some hE rfl ea; clear ea
          refine t_off rfl hE rfl rfl rfl (fun a ea => ?_)
          have hE := Env.put_some hE rfl ea; clear ea
          refine t_off rfl hE rfl rfl rfl (fun a ea => ?_)
          have hE := Env.put_some hE rfl ea; clear ea
          refine t_val rfl rfl hE rfl (r_pick_t hE rfl rfl) (fun a hE => ?_)
          refine t_nil ?_
          exact hKr _ _ _ (hE.cut (.cons rfl (.cons rfl (.cons rfl Subs.nil)))) hR H
        · replace H := M.ite_f hb H
          have hE := hE.reb 20 x19_9 false hb rfl
          refine t_on rfl hE rfl rfl rfl ?_
          refine t_val (v := .pointer (some ((x1_2).add 2))) rfl rfl hE rfl (r_fieldAddr hE rfl fd86_2) (fun a hE => ?_)
          refine t_on rfl hE rfl rfl rfl ?_
          obtain ⟨x22_12, qx22_12, H⟩ := H
          refine t_val (v := (x22_12 : Sl).v) rfl rfl hE rfl (r_load hE rfl sc30 qx22_12) (fun a hE => ?_)
          refine t_on rfl hE rfl rfl rfl ?_
          refine t_val (v := .int .i64 (x22_12.len : Int)) rfl rfl hE rfl (r_len hE rfl 5 un30) (fun a hE => ?_)
          refine t_on rfl hE rfl rfl rfl ?_
          refine t_val (v := .bool (decide ((x22_12.len : Int) > 112))) rfl rfl hE rfl (r_bin hE rfl rfl g_int b_gtr) (fun a hE => ?_)
          refine t_val rfl rfl hE rfl (r_pick_f hE rfl rfl) (fun a hE => ?_)
          refine t_nil ?_
          exact hKr _ _ _ (hE.cut (.cons rfl (.cons rfl (.cons rfl Subs.nil)))) hR H
      · intro x25_11 a w hE hR H
        refine t_nil ?_
        refine hK_5 _ _ ?_
        refine w_cond x25_11 hE rfl (fun hb => ?_) (fun hb => ?_)
        · replace H := M.ite_t hb H
          refine w_seq (fun K hK_13 => ?_)
          refine t_region ?_
          refine t_val (v := .agg (Array.replicate 128 (.int .u8 0) : Array Value)) rfl rfl hE rfl (r_build0 bd47) (fun a hE => ?_)
          obtain ⟨qz, H⟩ := H
          obtain ⟨u_14, qu_14, H⟩ := H
          refine t_sth rfl rfl hE hR (r_storeG hE rfl rfl sz47 qz qu_14) (fun a w hE hR hh => ?_)
          replace H := M.at hh H; clear hh
          refine t_val (v := .int .i64 1) rfl rfl hE rfl (r_assign hE rfl) (fun a hE => ?_)
          refine t_nil ?_
          refine hK_13 _ _ ?_
          refine w_ret ?_
          obtain ⟨r2_15, qr2_15, H⟩ := H
          exact hret _ _ _ (r2_15, 1) _ hE hR (res_run hE rfl (RV.cellG rfl ag47 qr2_15 (RV.tmp rfl RV.nil))) rfl H
        · replace H := M.ite_f hb H
          refine w_skip ?_
          refine hK_4 _ _ ?_
          refine w_seq (fun K hK_16 => ?_)
          refine t_region ?_
          obtain ⟨x4_17, qx4_17, H⟩ := H
          refine t_valh (v := .pointer (some x4_17)) rfl rfl hE rfl hR (r_alloc zr47 qx4_17) (fun a w hE hR hh => ?_)
          replace H := M.at hh H; clear hh
          refine t_nil ?_
          refine hK_16 _ _ ?_
          refine w_seq (fun K hK_18 => ?_)
          obtain ⟨x28_19, qx28_19, H⟩ := H
          obtain ⟨x34_20, qx34_20, H⟩ := H
          obtain ⟨x31_21, qx31_21, H⟩ := H
          have hT := tab_of tb66_4 rfl rfl
          refine d_start (fun w : World => (fun h : Heap => (hcell h ((x1_2).add 0) = some (.int .i64 x28_19)) ∧ (hcell h ((x1_2).add 2) = some ((x31_21 : Sl).v))) w.heap) [9, 10] #[false, false, false, false, false, false, false, false, false, false, false] mo hR rfl rfl (fun w' e => by rw [e]; exact ⟨qx28_19, qx31_21⟩) (fun w hh hR hs => ?_)
          replace H := M.at hh H; clear hh
          refine d_pureg (i := 0) (v := .pointer (some ((x1_2).add 0))) #[true, false, false, false, false, false, false, false, false, false, false] rfl rfl hT (by kernel_rfl) hE rfl (wanted_none rfl) (fun w => r_fieldAddr hE rfl fd86_0) (fun a hE => ?_)
          refine d_pureg (i := 3) (v := .pointer (some ((x1_2).add 2))) #[true, false, false, true, false, false, false, false, false, false, false] rfl rfl hT (by kernel_rfl) hE rfl (wanted_none rfl) (fun w => r_fieldAddr hE rfl fd86_2) (fun a hE => ?_)
          refine d_read (i := 1) (v := .int .i64 x28_19) #[true, true, false, true, false, false, false, false, false, false, false] rfl rfl hT (by kernel_rfl) hE rfl (wanted_none rfl) hs (fun w s => r_load hE rfl sc3 s.1) (fun a hE => ?_)
          refine d_pureg (i := 2) (v := .int .u8 (IntKind.wrap .u8 x28_19)) #[true, true, true, true, false, false, false, false, false, false, false] rfl rfl hT (by kernel_rfl) hE rfl (wanted_none rfl) (fun w => r_convI hE rfl un3 un5) (fun a hE => ?_)
          refine d_pureg (i := 7) (v := .pointer (some x34_20)) #[true, true, true, true, false, false, false, true, false, false, false] rfl rfl hT (by kernel_rfl) hE rfl (wanted_none rfl) (fun w => r_indexAddrA hE rfl rfl un47 sz5 qx34_20) (fun a hE => ?_)
          refine d_read (i := 4) (v := (x31_21 : Sl).v) #[true, true, true, true, true, false, false, true, false, false, false] rfl rfl hT (by kernel_rfl) hE rfl (wanted_none rfl) hs (fun w s => r_load hE rfl sc30 s.2) (fun a hE => ?_)
          refine d_pureg (i := 5) (v := .int .i64 (x31_21.len : Int)) #[true, true, true, true, true, true, false, true, false, false, false] rfl rfl hT (by kernel_rfl) hE rfl (wanted_none rfl) (fun w => r_len hE rfl 5 un30) (fun a hE => ?_)
          refine d_pureg (i := 6) (v := .int .u8 (IntKind.wrap .u8 (x31_21.len : Int))) #[true, true, true, true, true, true, true, true, false, false, false] rfl rfl hT (by kernel_rfl) hE rfl (wanted_none rfl) (fun w => r_convI hE rfl un3 un5) (fun a hE => ?_)
          obtain ⟨u_22, qu_22, H⟩ := H
          obtain ⟨_, sA, H⟩ := H
          refine d_sth (i := 8) #[true, true, true, true, true, true, true, true, true, false, false] rfl rfl hT (by kernel_rfl) rfl hE hR (wanted_none rfl) (r_store hE rfl rfl sz5 qu_22)  (fun w' e => by rw [e]; exact sA) (fun a w hE hR hh hs => ?_)
          replace H := M.at hh H; clear hh
          obtain ⟨x35_23, qx35_23, H⟩ := H
          refine d_pureg (i := 9) (v := .pointer (some x35_23)) #[true, true, true, true, true, true, true, true, true, true, false] rfl rfl hT (by kernel_rfl) hE rfl (wanted_none rfl) (fun w => r_indexAddrA hE rfl rfl un47 sz5 qx35_23) (fun a hE => ?_)
          obtain ⟨u_24, qu_24, H⟩ := H
          refine d_stlh (i := 10) #[true, true, true, true, true, true, true, true, true, true, true] rfl rfl hT (by kernel_rfl) rfl hE hR (wanted_none rfl) (r_store hE rfl rfl sz5 qu_24)  (fun a w hE hR hh => ?_)
          replace H := M.at hh H; clear hh
          refine d_done hT (by kernel_rfl) ?_
          refine hK_18 _ _ ?_
          refine w_seq (fun K hK_25 => ?_)
          obtain ⟨x39_26, qx39_26, H⟩ := H
          obtain ⟨x37_27, qx37_27, H⟩ := H
          have hT := tab_of tb66_5 rfl rfl
          refine d_start (fun w : World => (fun h : Heap => (hcell h ((x1_2).add 1) = some (.int .i64 x37_27))) w.heap) [2, 4] #[false, false, false, false, false] mo hR rfl rfl (fun w' e => by rw [e]; exact qx37_27) (fun w hh hR hs => ?_)
          replace H := M.at hh H; clear hh
          refine d_pureg (i := 0) (v := .pointer (some ((x1_2).add 1))) #[true, false, false, false, false] rfl rfl hT (by kernel_rfl) hE rfl (wanted_none rfl) (fun w => r_fieldAddr hE rfl fd86_1) (fun a hE => ?_)
          refine d_pureg (i := 3) (v := (x39_26 : Sl).v) #[true, false, false, true, false] rfl rfl hT (by kernel_rfl) hE rfl (wanted_none rfl) (fun w => r_sliceA_lh hE rfl rfl rfl un47 sz5 qx39_26) (fun a hE => ?_)
          refine d_read (i := 1) (v := .int .i64 x37_27) #[true, true, false, true, false] rfl rfl hT (by kernel_rfl) hE rfl (wanted_none rfl) hs (fun w s => r_load hE rfl sc2 s) (fun a hE => ?_)
          refine d_pureg (i := 2) (v := .int .u64 (IntKind.wrap .u64 x37_27)) #[true, true, true, true, false] rfl rfl hT (by kernel_rfl) hE rfl (wanted_none rfl) (fun w => r_convI hE rfl un2 un106) (fun a hE => ?_)
          refine d_calll (i := 4) #[true, true, true, true, true] rfl rfl rfl hT (by kernel_rfl) rfl hE hR (wanted_none rfl) cl_sector_big rfl (S_sector_big (IntKind.wrap .u64 x37_27) x39_26) (M.unbind H) (fun x40_28 a w ea hR H => ?_)
          have hE := Env.put_some hE rfl ea; clear ea
          refine d_done hT (by kernel_rfl) ?_
          refine hK_25 _ _ ?_
          refine w_seq (fun K hK_29 => ?_)
          obtain ⟨x41_30, qx41_30, H⟩ := H
          obtain ⟨x43_31, qx43_31, H⟩ := H
          have hT := tab_of tb66_6 rfl rfl
          refine d_start (fun w : World => (fun h : Heap => (hcell h ((x1_2).add 2) = some ((x43_31 : Sl).v))) w.heap) [3] #[false, false, false, false] mo hR rfl rfl (fun w' e => by rw [e]; exact qx43_31) (fun w hh hR hs => ?_)
          replace H := M.at hh H; clear hh
          refine d_pureg (i := 0) (v := (x41_30 : Sl).v) #[true, false, false, false] rfl rfl hT (by kernel_rfl) hE rfl (wanted_none rfl) (fun w => r_sliceA_l hE rfl rfl un47 sz5 qx41_30) (fun a hE => ?_)
          refine d_pureg (i := 1) (v := .pointer (some ((x1_2).add 2))) #[true, true, false, false] rfl rfl hT (by kernel_rfl) hE rfl (wanted_none rfl) (fun w => r_fieldAddr hE rfl fd86_2) (fun a hE => ?_)
          refine d_read (i := 2) (v := (x43_31 : Sl).v) #[true, true, true, false] rfl rfl hT (by kernel_rfl) hE rfl (wanted_none rfl) hs (fun w s => r_load hE rfl sc30 s) (fun a hE => ?_)
          refine d_exl (i := 3) (fun x44_32 => .int .i64 x44_32) #[true, true, true, true] rfl rfl hT (by kernel_rfl) rfl hR (wanted_none rfl) (M.unbind H) (fun Q H => cp_run hE rfl rfl un30 sz5 H) (fun x44_32 a w ea hR H => ?_)
          have hE := Env.put_some hE rfl ea; clear ea
          refine d_done hT (by kernel_rfl) ?_
          refine hK_29 _ _ ?_
          refine w_seq (fun K hK_33 => ?_)
          refine w_seq (fun K hK_34 => ?_)
          refine t_region ?_
          obtain ⟨x45_35, qx45_35, H⟩ := H
          refine t_val (v := (x45_35 : Sl).v) rfl rfl hE rfl (r_sliceA_h hE rfl rfl un47 sz5 qx45_35) (fun a hE => ?_)
          refine t_call hE hR cl_sector_Sum rfl (S_sector_Sum x45_35) (M.unbind H) (fun x46_36 a w ea hR H => ?_)
          have hE := Env.put_some hE rfl ea; clear ea
          refine t_val (v := .int .i64 0) rfl rfl hE rfl (r_assign hE rfl) (fun a hE => ?_)
          refine t_val (v := .int .u32 x46_36) rfl rfl hE rfl (r_assign hE rfl) (fun a hE => ?_)
          refine t_nil ?_
          refine hK_34 _ _ ?_
          refine w_block ?_
          refine l_loop (fun (s : Int) => (⟨60, []⟩ : Frm)) (fun (s : Int) => [(2, .pointer (some x2_3)), (4, .pointer (some x4_17)), (5, .int .i64 s), (6, .int .u32 x46_36)]) H (hE.cut (.cons rfl (.cons rfl (.cons rfl (.cons rfl Subs.nil))))) hR (fun Y self1 hY_41 x5_37 a w hE hR H => ?_)
          replace hE : Env (⟨60, []⟩ : Frm) a [(2, .pointer (some x2_3)), (4, .pointer (some x4_17)), (5, .int .i64 x5_37), (6, .int .u32 x46_36)] := hE
          replace H : (sector_Seal_l1 x2_3 x4_17 x46_36 self1 x5_37).wp w.heap Q := H
          unfold sector_Seal_l1 at H
          refine w_seq (fun K hK_42 => ?_)
          refine w_seq (fun K hK_43 => ?_)
          refine t_region ?_
          refine t_val (v := .int .i64 x5_37) rfl rfl hE rfl (r_move hE rfl) (fun a hE => ?_)
          refine t_val (v := .bool (decide (x5_37 < 4))) rfl rfl hE rfl (r_bin hE rfl rfl g_int b_lss) (fun a hE => ?_)
          refine t_nil ?_
          refine hK_43 _ _ ?_
          refine w_cond (decide (x5_37 < 4)) hE rfl (fun hb => ?_) (fun hb => ?_)
          · replace H := M.ite_t hb H
            refine w_skip ?_
            refine hK_42 _ _ ?_
            refine w_seq (fun K hK_44 => ?_)
            refine w_block ?_
            refine t_region ?_
            refine t_val (v := .int .i64 x5_37) rfl rfl hE rfl (r_move hE rfl) (fun a hE => ?_)
            refine t_val (v := .int .i64 (IntKind.wrap .i64 (124 + x5_37))) rfl rfl hE rfl (r_bin hE rfl rfl g_int b_add) (fun a hE => ?_)
            refine t_val (v := .int .u32 x46_36) rfl rfl hE rfl (r_move hE rfl) (fun a hE => ?_)
            refine t_val (v := .int .i64 x5_37) rfl rfl hE rfl (r_move hE rfl) (fun a hE => ?_)
            refine t_val (v := .int .i64 (IntKind.wrap .i64 (8 * x5_37))) rfl rfl hE rfl (r_bin hE rfl rfl g_int b_mul) (fun a hE => ?_)
            obtain ⟨x56_45, qx56_45, H⟩ := H
            refine t_val (v := .int .u32 x56_45) rfl rfl hE rfl (r_bin hE rfl rfl g_int (b_shr qx56_45)) (fun a hE => ?_)
            refine t_val (v := .int .u8 (IntKind.wrap .u8 x56_45)) rfl rfl hE rfl (r_convI hE rfl un49 un5) (fun a hE => ?_)
            obtain ⟨x58_46, qx58_46, H⟩ := H
            refine t_val (v := .pointer (some x58_46)) rfl rfl hE rfl (r_indexAddrA hE rfl rfl un47 sz5 qx58_46) (fun a hE => ?_)
            obtain ⟨u_47, qu_47, H⟩ := H
            refine t_sth rfl rfl hE hR (r_store hE rfl rfl sz5 qu_47) (fun a w hE hR hh => ?_)
            replace H := M.at hh H; clear hh
            refine t_nil ?_
            refine hK_44 _ _ ?_
            refine t_region ?_
            refine t_val (v := .int .i64 x5_37) rfl rfl hE rfl (r_move hE rfl) (fun a hE => ?_)
            refine t_val (v := .int .i64 (IntKind.wrap .i64 (x5_37 + 1))) rfl rfl hE rfl (r_bin hE rfl rfl g_int b_add) (fun a hE => ?_)
            refine t_val (v := .int .i64 (IntKind.wrap .i64 (x5_37 + 1))) rfl rfl hE rfl (r_assign hE rfl) (fun a hE => ?_)
            refine t_nil ?_
            exact hY_41 (IntKind.wrap .i64 (x5_37 + 1)) _ _ (hE.cut (.cons rfl (.cons rfl (.cons rfl (.cons rfl Subs.nil))))) hR H
          · replace H := M.ite_f hb H
            refine w_exit ?_
            refine Xu.same ?_
            refine hK_33 _ _ ?_
            refine w_seq (fun K hK_48 => ?_)
            refine t_region ?_
            obtain ⟨x59_49, qx59_49, H⟩ := H
            refine t_val (v := .agg x59_49) rfl rfl hE rfl (r_loadG hE rfl ag47 qx59_49) (fun a hE => ?_)
            obtain ⟨qz, H⟩ := H
            obtain ⟨u_50, qu_50, H⟩ := H
            refine t_sth rfl rfl hE hR (r_storeG hE rfl rfl sz47 qz qu_50) (fun a w hE hR hh => ?_)
            replace H := M.at hh H; clear hh
            refine t_val (v := .int .i64 0) rfl rfl hE rfl (r_assign hE rfl) (fun a hE => ?_)
            refine t_nil ?_
            refine hK_48 _ _ ?_
            refine w_ret ?_
            obtain ⟨r2_51, qr2_51, H⟩ := H
            exact hret _ _ _ (r2_51, 0) _ hE hR (res_run hE rfl (RV.cellG rfl ag47 qr2_51 (RV.tmp rfl RV.nil))) rfl H

end Gx
