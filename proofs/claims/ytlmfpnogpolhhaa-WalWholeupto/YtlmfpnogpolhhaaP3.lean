/- Printed by program: Go functions as Lean programs, each tied to its code. No condition. -/
import Derived.Test.YtlmfpnogpolhhaaP0
import Derived.Test.YtlmfpnogpolhhaaP1
import Derived.Test.YtlmfpnogpolhhaaP2
set_option linter.unusedVariables false
set_option linter.unusedSimpArgs false
namespace Gx
open Go
set_option linter.unusedVariables false
set_option maxRecDepth 100000
/-- ramble/wal.Format -/
def wal_Format (x0 : Option Addr) (x1 : Int) (x2 : Sl) : M (Option Addr × Int) := do
  let x13_4 ← disk_Disk_Sectors x0
  M.ite (x13_4 == 0) (do
    M.pure ((none : Option Addr), 2)
    ) (do
    let x20_8 ← M.ite (decide (x1 < 1)) (do
      M.pure true
      ) (do
      M.pure (decide (x1 > 4096))
      )
    let x27_9 ← M.ite x20_8 (do
      M.pure true
      ) (do
      let x23_10 ← disk_Disk_Sectors x0
      M.pure (decide (x23_10 < (IntKind.wrap .i64 (2 + x1))))
      )
    let x32_11 ← M.ite x27_9 (do
      M.pure true
      ) (do
      M.pure (decide ((x2.len : Int) > 64))
      )
    M.ite x32_11 (do
      M.pure ((none : Option Addr), 1)
      ) (do
      let x36_14 ← slices_Clone_slbyte_byte x2
      let x38_15 ← mkB ty_wal_Log (#[.pointer x0, .int .i64 x1, (x36_14 : Sl).v, .int .i64 1, .int .i64 0, .bool false, .bool false] : Array Value)
      let x41_18 ← disk_Disk_Write x0 0 (Array.replicate 128 (.int .u8 0) : Array Value)
      M.ite (x41_18 != 0) (do
        M.pure ((none : Option Addr), x41_18)
        ) (do
        let x46_23 ← wal_Log_head (some x38_15) 1
        M.ite (x46_23 != 0) (do
          M.pure ((none : Option Addr), x46_23)
          ) (do
          let x51_28 ← disk_Disk_Flush x0
          M.ite (x51_28 != 0) (do
            M.pure ((none : Option Addr), x51_28)
            ) (do
            M.pure (some x38_15, 0)
            )
          )
        )
      )
    )
theorem S_wal_Format (x0 : Option Addr) (x1 : Int) (x2 : Sl) : Sound Go.Proofs.Try.prog 10 #[.pointer x0, .int .i64 x1, (x2 : Sl).v] (fun (r : Option Addr × Int) => .tuple #[.pointer r.1, .int .i64 r.2]) (wal_Format x0 x1 x2) := by
  refine sound_of [(0, .pointer x0), (1, .int .i64 x1), (2, (x2 : Sl).v)] Go.Proofs.Try.func10 rfl rfl (Nat.le_of_ble_eq_true rfl) (args_of ⟨rfl, rfl, rfl, trivial⟩) (fun w0 w Q R a hret hE hR H => ?_)
  unfold wal_Format at H
  refine w_seq (fun K hK_1 => ?_)
  refine t_region ?_
  refine t_val (v := .pointer (none : Option Addr)) rfl rfl hE rfl (r_assign hE rfl) (fun a hE => ?_)
  refine t_val (v := .int .i64 0) rfl rfl hE rfl (r_assign hE rfl) (fun a hE => ?_)
  refine t_nil ?_
  refine hK_1 _ _ ?_
  refine w_seq (fun K hK_2 => ?_)
  refine w_seq (fun K hK_3 => ?_)
  refine t_region ?_
  refine t_val (v := .pointer x0) rfl rfl hE rfl (r_move hE rfl) (fun a hE => ?_)
  refine t_call hE hR cl_disk_Disk_Sectors rfl (S_disk_Disk_Sectors x0) (M.unbind H) (fun x13_4 a w ea hR H => ?_)
  have hE := Env.put_some hE rfl ea; clear ea
  refine t_val (v := .bool (x13_4 == 0)) rfl rfl hE rfl (r_bin hE rfl rfl g_int b_eql) (fun a hE => ?_)
  refine t_nil ?_
  refine hK_3 _ _ ?_
  refine w_cond (x13_4 == 0) hE rfl (fun hb => ?_) (fun hb => ?_)
  · replace H := M.ite_t hb H
    refine w_seq (fun K hK_5 => ?_)
    refine t_region ?_
    refine t_val (v := .pointer (none : Option Addr)) rfl rfl hE rfl (r_assign hE rfl) (fun a hE => ?_)
    refine t_val (v := .int .i64 2) rfl rfl hE rfl (r_assign hE rfl) (fun a hE => ?_)
    refine t_nil ?_
    refine hK_5 _ _ ?_
    refine w_ret ?_
    exact hret _ _ _ ((none : Option Addr), 2) _ hE hR (res_run hE rfl (RV.tmp rfl (RV.tmp rfl RV.nil))) rfl H
  · replace H := M.ite_f hb H
    refine w_skip ?_
    refine hK_2 _ _ ?_
    refine w_seq (fun K hK_6 => ?_)
    refine w_seq (fun K hK_7 => ?_)
    refine t_region ?_
    refine t_val (v := .int .i64 x1) rfl rfl hE rfl (r_move hE rfl) (fun a hE => ?_)
    refine t_val (v := .bool (decide (x1 < 1))) rfl rfl hE rfl (r_bin hE rfl rfl g_int b_lss) (fun a hE => ?_)
    refine t_val (v := .bool (decide (x1 < 1))) rfl rfl hE rfl (r_move hE rfl) (fun a hE => ?_)
    refine t_grp (n := (⟨56, []⟩ : Frm)) (w0 := w0) 3 (fun x20_8 : Bool => [(0, .pointer x0), (1, .int .i64 x1), (2, (x2 : Sl).v), (20, .bool x20_8)]) (M.unbind H) (fun Kr hKr H => ?_) ?_
    · rcases bool_em (decide (x1 < 1)) with hb | hb
      · replace H := M.ite_t hb H
        have hE := hE.reb 17 (decide (x1 < 1)) true hb rfl
        refine t_off rfl hE rfl rfl rfl (fun a ea => ?_)
        have hE := Env.put_some hE rfl ea; clear ea
        refine t_off rfl hE rfl rfl rfl (fun a ea => ?_)
        have hE := Env.put_some hE rfl ea; clear ea
        refine t_val rfl rfl hE rfl (r_pick_t hE rfl rfl) (fun a hE => ?_)
        refine t_nil ?_
        exact hKr _ _ _ (hE.cut (.cons rfl (.cons rfl (.cons rfl (.cons rfl Subs.nil))))) hR H
      · replace H := M.ite_f hb H
        have hE := hE.reb 17 (decide (x1 < 1)) false hb rfl
        refine t_on rfl hE rfl rfl rfl ?_
        refine t_val (v := .int .i64 x1) rfl rfl hE rfl (r_move hE rfl) (fun a hE => ?_)
        refine t_on rfl hE rfl rfl rfl ?_
        refine t_val (v := .bool (decide (x1 > 4096))) rfl rfl hE rfl (r_bin hE rfl rfl g_int b_gtr) (fun a hE => ?_)
        refine t_val rfl rfl hE rfl (r_pick_f hE rfl rfl) (fun a hE => ?_)
        refine t_nil ?_
        exact hKr _ _ _ (hE.cut (.cons rfl (.cons rfl (.cons rfl (.cons rfl Subs.nil))))) hR H
    · intro x20_8 a w hE hR H
      refine t_val (v := .bool x20_8) rfl rfl hE rfl (r_move hE rfl) (fun a hE => ?_)
      refine t_grp (n := (⟨56, []⟩ : Frm)) (w0 := w0) 6 (fun x27_9 : Bool => [(0, .pointer x0), (1, .int .i64 x1), (2, (x2 : Sl).v), (27, .bool x27_9)]) (M.unbind H) (fun Kr hKr H => ?_) ?_
      · rcases bool_em x20_8 with hb | hb
        · replace H := M.ite_t hb H
          have hE := hE.reb 21 x20_8 true hb rfl
          refine t_off rfl hE rfl rfl rfl (fun a ea => ?_)
          have hE := Env.put_some hE rfl ea; clear ea
          refine t_off rfl hE rfl rfl rfl (fun a ea => ?_)
          have hE := Env.put_some hE rfl ea; clear ea
          refine t_off rfl hE rfl rfl rfl (fun a ea => ?_)
          have hE := Env.put_some hE rfl ea; clear ea
          refine t_off rfl hE rfl rfl rfl (fun a ea => ?_)
          have hE := Env.put_some hE rfl ea; clear ea
          refine t_off rfl hE rfl rfl rfl (fun a ea => ?_)
          have hE := Env.put_some hE rfl ea; clear ea
          refine t_val rfl rfl hE rfl (r_pick_t hE rfl rfl) (fun a hE => ?_)
          refine t_nil ?_
          exact hKr _ _ _ (hE.cut (.cons rfl (.cons rfl (.cons rfl (.cons rfl Subs.nil))))) hR H
        · replace H := M.ite_f hb H
          have hE := hE.reb 21 x20_8 false hb rfl
          refine t_on rfl hE rfl rfl rfl ?_
          refine t_val (v := .pointer x0) rfl rfl hE rfl (r_move hE rfl) (fun a hE => ?_)
          refine t_on rfl hE rfl rfl rfl ?_
          refine t_call hE hR cl_disk_Disk_Sectors rfl (S_disk_Disk_Sectors x0) (M.unbind H) (fun x23_10 a w ea hR H => ?_)
          have hE := Env.put_some hE rfl ea; clear ea
          refine t_on rfl hE rfl rfl rfl ?_
          refine t_val (v := .int .i64 x1) rfl rfl hE rfl (r_move hE rfl) (fun a hE => ?_)
          refine t_on rfl hE rfl rfl rfl ?_
          refine t_val (v := .int .i64 (IntKind.wrap .i64 (2 + x1))) rfl rfl hE rfl (r_bin hE rfl rfl g_int b_add) (fun a hE => ?_)
          refine t_on rfl hE rfl rfl rfl ?_
          refine t_val (v := .bool (decide (x23_10 < (IntKind.wrap .i64 (2 + x1))))) rfl rfl hE rfl (r_bin hE rfl rfl g_int b_lss) (fun a hE => ?_)
          refine t_val rfl rfl hE rfl (r_pick_f hE rfl rfl) (fun a hE => ?_)
          refine t_nil ?_
          exact hKr _ _ _ (hE.cut (.cons rfl (.cons rfl (.cons rfl (.cons rfl Subs.nil))))) hR H
      · intro x27_9 a w hE hR H
        refine t_val (v := .bool x27_9) rfl rfl hE rfl (r_move hE rfl) (fun a hE => ?_)
        refine t_grp (n := (⟨56, []⟩ : Frm)) (w0 := w0) 4 (fun x32_11 : Bool => [(0, .pointer x0), (1, .int .i64 x1), (2, (x2 : Sl).v), (32, .bool x32_11)]) (M.unbind H) (fun Kr hKr H => ?_) ?_
        · rcases bool_em x27_9 with hb | hb
          · replace H := M.ite_t hb H
            have hE := hE.reb 28 x27_9 true hb rfl
            refine t_off rfl hE rfl rfl rfl (fun a ea => ?_)
            have hE := Env.put_some hE rfl ea; clear ea
            refine t_off rfl hE rfl rfl rfl (fun a ea => ?_)
            have hE := Env.put_some hE rfl ea; clear ea
            refine t_off rfl hE rfl rfl rfl (fun a ea => ?_)
            have hE := Env.put_some hE rfl ea; clear ea
            refine t_val rfl rfl hE rfl (r_pick_t hE rfl rfl) (fun a hE => ?_)
            refine t_nil ?_
            exact hKr _ _ _ (hE.cut (.cons rfl (.cons rfl (.cons rfl (.cons rfl Subs.nil))))) hR H
          · replace H := M.ite_f hb H
            have hE := hE.reb 28 x27_9 false hb rfl
            refine t_on rfl hE rfl rfl rfl ?_
            refine t_val (v := (x2 : Sl).v) rfl rfl hE rfl (r_move hE rfl) (fun a hE => ?_)
            refine t_on rfl hE rfl rfl rfl ?_
            refine t_val (v := .int .i64 (x2.len : Int)) rfl rfl hE rfl (r_len hE rfl 5 un30) (fun a hE => ?_)
            refine t_on rfl hE rfl rfl rfl ?_
            refine t_val (v := .bool (decide ((x2.len : Int) > 64))) rfl rfl hE rfl (r_bin hE rfl rfl g_int b_gtr) (fun a hE => ?_)
            refine t_val rfl rfl hE rfl (r_pick_f hE rfl rfl) (fun a hE => ?_)
            refine t_nil ?_
            exact hKr _ _ _ (hE.cut (.cons rfl (.cons rfl (.cons rfl (.cons rfl Subs.nil))))) hR H
        · intro x32_11 a w hE hR H
          refine t_nil ?_
          refine hK_7 _ _ ?_
          refine w_cond x32_11 hE rfl (fun hb => ?_) (fun hb => ?_)
          · replace H := M.ite_t hb H
            refine w_seq (fun K hK_12 => ?_)
            refine t_region ?_
            refine t_val (v := .pointer (none : Option Addr)) rfl rfl hE rfl (r_assign hE rfl) (fun a hE => ?_)
            refine t_val (v := .int .i64 1) rfl rfl hE rfl (r_assign hE rfl) (fun a hE => ?_)
            refine t_nil ?_
            refine hK_12 _ _ ?_
            refine w_ret ?_
            exact hret _ _ _ ((none : Option Addr), 1) _ hE hR (res_run hE rfl (RV.tmp rfl (RV.tmp rfl RV.nil))) rfl H
          · replace H := M.ite_f hb H
            refine w_skip ?_
            refine hK_6 _ _ ?_
            refine w_seq (fun K hK_13 => ?_)
            refine t_region ?_
            refine t_val (v := .pointer x0) rfl rfl hE rfl (r_move hE rfl) (fun a hE => ?_)
            refine t_val (v := .int .i64 x1) rfl rfl hE rfl (r_move hE rfl) (fun a hE => ?_)
            refine t_val (v := (x2 : Sl).v) rfl rfl hE rfl (r_move hE rfl) (fun a hE => ?_)
            refine t_call hE hR cl_slices_Clone_slbyte_byte rfl (S_slices_Clone_slbyte_byte x2) (M.unbind H) (fun x36_14 a w ea hR H => ?_)
            have hE := Env.put_some hE rfl ea; clear ea
            refine t_val (v := .agg (#[.pointer x0, .int .i64 x1, (x36_14 : Sl).v, .int .i64 1, .int .i64 0, .bool false, .bool false] : Array Value)) rfl rfl hE rfl (r_build hE rfl zr40 pl40 (by rfl)) (fun a hE => ?_)
            obtain ⟨x38_15, qx38_15, H⟩ := H
            refine t_valh (v := .pointer (some x38_15)) rfl rfl hE rfl hR (r_box hE rfl qx38_15) (fun a w hE hR hh => ?_)
            replace H := M.at hh H; clear hh
            refine t_val (v := .pointer (some x38_15)) rfl rfl hE rfl (r_assign hE rfl) (fun a hE => ?_)
            refine t_nil ?_
            refine hK_13 _ _ ?_
            refine w_seq (fun K hK_16 => ?_)
            refine w_seq (fun K hK_17 => ?_)
            refine t_region ?_
            refine t_val (v := .pointer x0) rfl rfl hE rfl (r_move hE rfl) (fun a hE => ?_)
            refine t_val (v := .agg (Array.replicate 128 (.int .u8 0) : Array Value)) rfl rfl hE rfl (r_build0 bd47) (fun a hE => ?_)
            refine t_call hE hR cl_disk_Disk_Write rfl (S_disk_Disk_Write x0 0 (Array.replicate 128 (.int .u8 0) : Array Value)) (M.unbind H) (fun x41_18 a w ea hR H => ?_)
            have hE := Env.put_some hE rfl ea; clear ea
            refine t_val (v := .int .i64 x41_18) rfl rfl hE rfl (r_assign hE rfl) (fun a hE => ?_)
            refine t_nil ?_
            refine hK_17 _ _ ?_
            refine w_seq (fun K hK_19 => ?_)
            refine t_region ?_
            refine t_val (v := .int .i64 x41_18) rfl rfl hE rfl (r_move hE rfl) (fun a hE => ?_)
            refine t_val (v := .bool (x41_18 != 0)) rfl rfl hE rfl (r_bin hE rfl rfl g_int b_neq) (fun a hE => ?_)
            refine t_nil ?_
            refine hK_19 _ _ ?_
            refine w_cond (x41_18 != 0) hE rfl (fun hb => ?_) (fun hb => ?_)
            · replace H := M.ite_t hb H
              refine w_seq (fun K hK_20 => ?_)
              refine t_region ?_
              refine t_val (v := .int .i64 x41_18) rfl rfl hE rfl (r_move hE rfl) (fun a hE => ?_)
              refine t_val (v := .pointer (none : Option Addr)) rfl rfl hE rfl (r_assign hE rfl) (fun a hE => ?_)
              refine t_val (v := .int .i64 x41_18) rfl rfl hE rfl (r_assign hE rfl) (fun a hE => ?_)
              refine t_nil ?_
              refine hK_20 _ _ ?_
              refine w_ret ?_
              exact hret _ _ _ ((none : Option Addr), x41_18) _ hE hR (res_run hE rfl (RV.tmp rfl (RV.tmp rfl RV.nil))) rfl H
            · replace H := M.ite_f hb H
              refine w_skip ?_
              refine hK_16 _ _ ?_
              refine w_seq (fun K hK_21 => ?_)
              refine w_seq (fun K hK_22 => ?_)
              refine t_region ?_
              refine t_val (v := .pointer (some x38_15)) rfl rfl hE rfl (r_move hE rfl) (fun a hE => ?_)
              refine t_call hE hR cl_wal_Log_head rfl (S_wal_Log_head (some x38_15) 1) (M.unbind H) (fun x46_23 a w ea hR H => ?_)
              have hE := Env.put_some hE rfl ea; clear ea
              refine t_val (v := .int .i64 x46_23) rfl rfl hE rfl (r_assign hE rfl) (fun a hE => ?_)
              refine t_nil ?_
              refine hK_22 _ _ ?_
              refine w_seq (fun K hK_24 => ?_)
              refine t_region ?_
              refine t_val (v := .int .i64 x46_23) rfl rfl hE rfl (r_move hE rfl) (fun a hE => ?_)
              refine t_val (v := .bool (x46_23 != 0)) rfl rfl hE rfl (r_bin hE rfl rfl g_int b_neq) (fun a hE => ?_)
              refine t_nil ?_
              refine hK_24 _ _ ?_
              refine w_cond (x46_23 != 0) hE rfl (fun hb => ?_) (fun hb => ?_)
              · replace H := M.ite_t hb H
                refine w_seq (fun K hK_25 => ?_)
                refine t_region ?_
                refine t_val (v := .int .i64 x46_23) rfl rfl hE rfl (r_move hE rfl) (fun a hE => ?_)
                refine t_val (v := .pointer (none : Option Addr)) rfl rfl hE rfl (r_assign hE rfl) (fun a hE => ?_)
                refine t_val (v := .int .i64 x46_23) rfl rfl hE rfl (r_assign hE rfl) (fun a hE => ?_)
                refine t_nil ?_
                refine hK_25 _ _ ?_
                refine w_ret ?_
                exact hret _ _ _ ((none : Option Addr), x46_23) _ hE hR (res_run hE rfl (RV.tmp rfl (RV.tmp rfl RV.nil))) rfl H
              · replace H := M.ite_f hb H
                refine w_skip ?_
                refine hK_21 _ _ ?_
                refine w_seq (fun K hK_26 => ?_)
                refine w_seq (fun K hK_27 => ?_)
                refine t_region ?_
                refine t_val (v := .pointer x0) rfl rfl hE rfl (r_move hE rfl) (fun a hE => ?_)
                refine t_call hE hR cl_disk_Disk_Flush rfl (S_disk_Disk_Flush x0) (M.unbind H) (fun x51_28 a w ea hR H => ?_)
                have hE := Env.put_some hE rfl ea; clear ea
                refine t_val (v := .int .i64 x51_28) rfl rfl hE rfl (r_assign hE rfl) (fun a hE => ?_)
                refine t_nil ?_
                refine hK_27 _ _ ?_
                refine w_seq (fun K hK_29 => ?_)
                refine t_region ?_
                refine t_val (v := .int .i64 x51_28) rfl rfl hE rfl (r_move hE rfl) (fun a hE => ?_)
                refine t_val (v := .bool (x51_28 != 0)) rfl rfl hE rfl (r_bin hE rfl rfl g_int b_neq) (fun a hE => ?_)
                refine t_nil ?_
                refine hK_29 _ _ ?_
                refine w_cond (x51_28 != 0) hE rfl (fun hb => ?_) (fun hb => ?_)
                · replace H := M.ite_t hb H
                  refine w_seq (fun K hK_30 => ?_)
                  refine t_region ?_
                  refine t_val (v := .int .i64 x51_28) rfl rfl hE rfl (r_move hE rfl) (fun a hE => ?_)
                  refine t_val (v := .pointer (none : Option Addr)) rfl rfl hE rfl (r_assign hE rfl) (fun a hE => ?_)
                  refine t_val (v := .int .i64 x51_28) rfl rfl hE rfl (r_assign hE rfl) (fun a hE => ?_)
                  refine t_nil ?_
                  refine hK_30 _ _ ?_
                  refine w_ret ?_
                  exact hret _ _ _ ((none : Option Addr), x51_28) _ hE hR (res_run hE rfl (RV.tmp rfl (RV.tmp rfl RV.nil))) rfl H
                · replace H := M.ite_f hb H
                  refine w_skip ?_
                  refine hK_26 _ _ ?_
                  refine w_seq (fun K hK_31 => ?_)
                  refine t_region ?_
                  refine t_val (v := .pointer (some x38_15)) rfl rfl hE rfl (r_move hE rfl) (fun a hE => ?_)
                  refine t_val (v := .pointer (some x38_15)) rfl rfl hE rfl (r_assign hE rfl) (fun a hE => ?_)
                  refine t_val (v := .int .i64 0) rfl rfl hE rfl (r_assign hE rfl) (fun a hE => ?_)
                  refine t_nil ?_
                  refine hK_31 _ _ ?_
                  refine w_ret ?_
                  exact hret _ _ _ (some x38_15, 0) _ hE hR (res_run hE rfl (RV.tmp rfl (RV.tmp rfl RV.nil))) rfl H

/-- (*ramble/wal.Log).can -/
def wal_Log_can (x0 : Option Addr) : M (Int) := do
  let x12_4 ← M.ite ((x0).isNone) (do
    M.pure true
    ) (do
    let x8_5 ← nilP x0
    let x10_6 ← ldP ((x8_5).add 0)
    M.pure ((x10_6).isNone)
    )
  M.ite x12_4 (do
    M.pure 2
    ) (do
    let x15_9 ← nilP x0
    let x17_10 ← ldB ((x15_9).add 6)
    M.ite x17_10 (do
      M.pure 62
      ) (do
      M.pure 0
      )
    )
theorem S_wal_Log_can (x0 : Option Addr) : Sound Go.Proofs.Try.prog 41 #[.pointer x0] (fun (r : Int) => .int .i64 r) (wal_Log_can x0) := by
  refine sound_of [(0, .pointer x0)] Go.Proofs.Try.func41 rfl rfl (Nat.le_of_ble_eq_true rfl) (args_of ⟨rfl, trivial⟩) (fun w0 w Q R a hret hE hR H => ?_)
  unfold wal_Log_can at H
  refine w_seq (fun K hK_1 => ?_)
  refine t_region ?_
  refine t_val (v := .int .i64 0) rfl rfl hE rfl (r_assign hE rfl) (fun a hE => ?_)
  refine t_nil ?_
  refine hK_1 _ _ ?_
  refine w_seq (fun K hK_2 => ?_)
  refine w_block ?_
  refine w_seq (fun K hK_3 => ?_)
  refine t_region ?_
  refine t_val (v := .pointer x0) rfl rfl hE rfl (r_move hE rfl) (fun a hE => ?_)
  refine t_val (v := .bool ((x0).isNone)) rfl rfl hE rfl (r_bin hE rfl rfl g_ptr (b_eqlP un27)) (fun a hE => ?_)
  refine t_val (v := .bool ((x0).isNone)) rfl rfl hE rfl (r_move hE rfl) (fun a hE => ?_)
  refine t_grp (n := (⟨18, []⟩ : Frm)) (w0 := w0) 6 (fun x12_4 : Bool => [(0, .pointer x0), (12, .bool x12_4)]) (M.unbind H) (fun Kr hKr H => ?_) ?_
  · rcases bool_em ((x0).isNone) with hb | hb
    · replace H := M.ite_t hb H
      have hE := hE.reb 6 ((x0).isNone) true hb rfl
      refine t_off rfl hE rfl rfl rfl (fun a ea => ?_)
      have hE := Env.put_some hE rfl ea; clear ea
      refine t_off rfl hE rfl rfl rfl (fun a ea => ?_)
      have hE := Env.put_some hE rfl ea; clear ea
      refine t_off rfl hE rfl rfl rfl (fun a ea => ?_)
      have hE := Env.put_some hE rfl ea; clear ea
      refine t_off rfl hE rfl rfl rfl (fun a ea => ?_)
      have hE := Env.put_some hE rfl ea; clear ea
      refine t_off rfl hE rfl rfl rfl (fun a ea => ?_)
      have hE := Env.put_some hE rfl ea; clear ea
      refine t_val rfl rfl hE rfl (r_pick_t hE rfl rfl) (fun a hE => ?_)
      refine t_nil ?_
      exact hKr _ _ _ (hE.cut (.cons rfl (.cons rfl Subs.nil))) hR H
    · replace H := M.ite_f hb H
      have hE := hE.reb 6 ((x0).isNone) false hb rfl
      refine t_on rfl hE rfl rfl rfl ?_
      refine t_val (v := .pointer x0) rfl rfl hE rfl (r_move hE rfl) (fun a hE => ?_)
      refine t_on rfl hE rfl rfl rfl ?_
      obtain ⟨x8_5, qx8_5, H⟩ := H
      refine t_val (v := .pointer (some x8_5)) rfl rfl hE rfl (r_nilCheck hE (hx_eq rfl (congrArg Value.pointer qx8_5))) (fun a hE => ?_)
      refine t_on rfl hE rfl rfl rfl ?_
      refine t_val (v := .pointer (some ((x8_5).add 0))) rfl rfl hE rfl (r_fieldAddr hE rfl fd40_0) (fun a hE => ?_)
      refine t_on rfl hE rfl rfl rfl ?_
      obtain ⟨x10_6, qx10_6, H⟩ := H
      refine t_val (v := .pointer x10_6) rfl rfl hE rfl (r_load hE rfl sc23 qx10_6) (fun a hE => ?_)
      refine t_on rfl hE rfl rfl rfl ?_
      refine t_val (v := .bool ((x10_6).isNone)) rfl rfl hE rfl (r_bin hE rfl rfl g_ptr (b_eqlP un23)) (fun a hE => ?_)
      refine t_val rfl rfl hE rfl (r_pick_f hE rfl rfl) (fun a hE => ?_)
      refine t_nil ?_
      exact hKr _ _ _ (hE.cut (.cons rfl (.cons rfl Subs.nil))) hR H
  · intro x12_4 a w hE hR H
    refine t_val (v := .bool x12_4) rfl rfl hE rfl (r_assign hE rfl) (fun a hE => ?_)
    refine t_nil ?_
    refine hK_3 _ _ ?_
    refine w_cond x12_4 hE rfl (fun hb => ?_) (fun hb => ?_)
    · replace H := M.ite_t hb H
      refine w_seq (fun K hK_7 => ?_)
      refine t_region ?_
      refine t_val (v := .int .i64 2) rfl rfl hE rfl (r_assign hE rfl) (fun a hE => ?_)
      refine t_nil ?_
      refine hK_7 _ _ ?_
      refine w_ret ?_
      exact hret _ _ _ 2 _ hE hR (res_run hE rfl (RV.tmp rfl RV.nil)) rfl H
    · replace H := M.ite_f hb H
      refine w_seq (fun K hK_8 => ?_)
      refine t_region ?_
      refine t_val (v := .pointer x0) rfl rfl hE rfl (r_move hE rfl) (fun a hE => ?_)
      obtain ⟨x15_9, qx15_9, H⟩ := H
      refine t_val (v := .pointer (some x15_9)) rfl rfl hE rfl (r_nilCheck hE (hx_eq rfl (congrArg Value.pointer qx15_9))) (fun a hE => ?_)
      refine t_val (v := .pointer (some ((x15_9).add 6))) rfl rfl hE rfl (r_fieldAddr hE rfl fd40_6) (fun a hE => ?_)
      obtain ⟨x17_10, qx17_10, H⟩ := H
      refine t_val (v := .bool x17_10) rfl rfl hE rfl (r_load hE rfl sc4 qx17_10) (fun a hE => ?_)
      refine t_val (v := .bool x17_10) rfl rfl hE rfl (r_assign hE rfl) (fun a hE => ?_)
      refine t_nil ?_
      refine hK_8 _ _ ?_
      refine w_cond x17_10 hE rfl (fun hb => ?_) (fun hb => ?_)
      · replace H := M.ite_t hb H
        refine w_seq (fun K hK_11 => ?_)
        refine t_region ?_
        refine t_val (v := .int .i64 62) rfl rfl hE rfl (r_assign hE rfl) (fun a hE => ?_)
        refine t_nil ?_
        refine hK_11 _ _ ?_
        refine w_ret ?_
        exact hret _ _ _ 62 _ hE hR (res_run hE rfl (RV.tmp rfl RV.nil)) rfl H
      · replace H := M.ite_f hb H
        refine w_skip ?_
        refine hK_2 _ _ ?_
        refine w_seq (fun K hK_12 => ?_)
        refine t_region ?_
        refine t_val (v := .int .i64 0) rfl rfl hE rfl (r_assign hE rfl) (fun a hE => ?_)
        refine t_nil ?_
        refine hK_12 _ _ ?_
        refine w_ret ?_
        exact hret _ _ _ 0 _ hE hR (res_run hE rfl (RV.tmp rfl RV.nil)) rfl H

/-- slices.AppendSeq[[][]byte,[]byte] -/
def slices_AppendSeq_slslbyte_slbyte_y1 (c2_5 : Addr) (lp1 : Nat) : (Sl) → M Nat := fun x => match x with
  | x7_6 => do
    let _ ← beg lp1
    let x8_7 ← ldL c2_5
    let x10_8 ← bdL ty_sl_uint8 1 #[(x7_6 : Sl).v]
    let x11_9 ← apL ty_sl_uint8 1 24 (#[.slice none 0 0] : Array Value) x8_7 x10_8
    stV c2_5 ((x11_9 : Sl).v)
    M.pure 0
def slices_AppendSeq_slslbyte_slbyte (x0 : Sl) (x1 : Value) : M (Sl) := do
  let x2_2 ← mkB ty_sl_sl_uint8 #[(x0 : Sl).v]
  let j_11 ← rgF Go.Proofs.Try.prog (fun x : Sl => [(x : Sl).v]) [] (slices_AppendSeq_slslbyte_slbyte_y1 x2_2) x1
  let x12_13 ← ldL x2_2
  let _ ← shut (j_11.2 :: [])
  M.pure x12_13
theorem S_slices_AppendSeq_slslbyte_slbyte (x0 : Sl) (x1 : Value) : Sound Go.Proofs.Try.prog 75 #[(x0 : Sl).v, x1] (fun (r : Sl) => (r : Sl).v) (slices_AppendSeq_slslbyte_slbyte x0 x1) := by
  refine sound_ofM [(0, (x0 : Sl).v), (1, x1)] Go.Proofs.Try.func75 rfl rfl (Nat.le_of_ble_eq_true rfl) (args_of ⟨rfl, rfl, trivial⟩) (fun w0 w Q R a hret hE hR H => ?_)
  unfold slices_AppendSeq_slslbyte_slbyte at H
  refine w_seq (fun K hK_1 => ?_)
  refine t_region ?_
  obtain ⟨x2_2, qx2_2, H⟩ := H
  refine t_valh (v := .pointer (some x2_2)) rfl rfl hE rfl hR (r_box hE rfl qx2_2) (fun a w hE hR hh => ?_)
  replace H := M.at hh H; clear hh
  refine t_val (v := (Sl.nil : Sl).v) rfl rfl hE rfl (r_assign hE rfl) (fun a hE => ?_)
  refine t_nil ?_
  refine hK_1 _ _ ?_
  refine w_seq (fun K hK_3 => ?_)
  refine w_seq (fun K hK_4 => ?_)
  refine t_region ?_
  refine t_val (v := x1) rfl rfl hE rfl (r_move hE rfl) (fun a hE => ?_)
  refine t_nil ?_
  refine hK_4 _ _ ?_
  refine w_block ?_
  refine w_rangeF (js := []) (enc := (fun x : Sl => [(x : Sl).v])) (Y := (slices_AppendSeq_slslbyte_slbyte_y1 x2_2)) hE hR rfl (fun x => rfl) rfl (M.unbind H) (fun lp1 x7_6 Q w0 Rr hfin a w hE hR H => ?_) (fun j_11 a w hE hR H => ?_)
  · skip
    replace hE : Env (⟨13, []⟩ : Frm) a [(2, .pointer (some x2_2)), (7, (x7_6 : Sl).v)] := Env.cut hE (.cons rfl (.cons rfl Subs.nil))
    replace H : (slices_AppendSeq_slslbyte_slbyte_y1 x2_2 lp1 x7_6).wp w.heap Q := H
    unfold slices_AppendSeq_slslbyte_slbyte_y1 at H
    refine t_region ?_
    refine t_val (v := (x7_6 : Sl).v) rfl rfl hE rfl (r_assign hE rfl) (fun a hE => ?_)
    refine t_nil ?_
    refine beg_w hR H (fun w hR H => ?_)
    refine w_block ?_
    refine t_region ?_
    obtain ⟨x8_7, qx8_7, H⟩ := H
    refine t_val (v := (x8_7 : Sl).v) rfl rfl hE rfl (r_load hE rfl sc32 qx8_7) (fun a hE => ?_)
    refine t_val (v := (x7_6 : Sl).v) rfl rfl hE rfl (r_move hE rfl) (fun a hE => ?_)
    obtain ⟨x10_8, qx10_8, H⟩ := H
    refine t_valh (v := (x10_8 : Sl).v) rfl rfl hE rfl hR (r_buildL (cells := #[(x7_6 : Sl).v]) hE rfl un32 sz30 zr30 rfl rfl qx10_8) (fun a w hE hR hh => ?_)
    replace H := M.at hh H; clear hh
    refine t_ex (fun x11_9 => (x11_9 : Sl).v) rfl rfl hR (M.unbind H) (fun Q H => ap_run hE rfl rfl ap32 H) (fun x11_9 a w ea hR H => ?_)
    have hE := Env.put_some hE rfl ea; clear ea
    obtain ⟨u_10, qu_10, H⟩ := H
    refine t_sth rfl rfl hE hR (r_store hE rfl rfl sz32 qu_10) (fun a w hE hR hh => ?_)
    replace H := M.at hh H; clear hh
    refine t_nil ?_
    exact hfin 0 _ _ hR H
  · skip
    replace hE : Env (⟨13, (j_11.2 :: [])⟩ : Frm) a [(2, .pointer (some x2_2)), (4, (Sl.nil : Sl).v)] := Env.cut hE (.cons rfl (.cons rfl Subs.nil))
    refine jgo_nil ?_
    refine hK_3 _ _ ?_
    refine w_seq (fun K hK_12 => ?_)
    refine t_region ?_
    obtain ⟨x12_13, qx12_13, H⟩ := H
    refine t_val (v := (x12_13 : Sl).v) rfl rfl hE rfl (r_load hE rfl sc32 qx12_13) (fun a hE => ?_)
    refine t_val (v := (x12_13 : Sl).v) rfl rfl hE rfl (r_assign hE rfl) (fun a hE => ?_)
    refine t_nil ?_
    refine hK_12 _ _ ?_
    refine w_ret ?_
    refine hret _ _ _ _ _ hE hR (M.unbind H) (fun w hR H => ?_)
    exact ⟨x12_13, _, res_run hE rfl (RV.tmp rfl RV.nil), rfl, H⟩

/-- slices.Collect[[]byte] -/
def slices_Collect_slbyte (x0 : Value) : M (Sl) := do
  let x4_3 ← slices_AppendSeq_slslbyte_slbyte Sl.nil x0
  M.pure x4_3
theorem S_slices_Collect_slbyte (x0 : Value) : Sound Go.Proofs.Try.prog 64 #[x0] (fun (r : Sl) => (r : Sl).v) (slices_Collect_slbyte x0) := by
  refine sound_of [(0, x0)] Go.Proofs.Try.func64 rfl rfl (Nat.le_of_ble_eq_true rfl) (args_of ⟨rfl, trivial⟩) (fun w0 w Q R a hret hE hR H => ?_)
  unfold slices_Collect_slbyte at H
  refine w_seq (fun K hK_1 => ?_)
  refine t_region ?_
  refine t_val (v := (Sl.nil : Sl).v) rfl rfl hE rfl (r_assign hE rfl) (fun a hE => ?_)
  refine t_nil ?_
  refine hK_1 _ _ ?_
  refine w_seq (fun K hK_2 => ?_)
  refine t_region ?_
  refine t_val (v := x0) rfl rfl hE rfl (r_move hE rfl) (fun a hE => ?_)
  refine t_call hE hR cl_slices_AppendSeq_slslbyte_slbyte rfl (S_slices_AppendSeq_slslbyte_slbyte Sl.nil x0) (M.unbind H) (fun x4_3 a w ea hR H => ?_)
  have hE := Env.put_some hE rfl ea; clear ea
  refine t_val (v := (x4_3 : Sl).v) rfl rfl hE rfl (r_assign hE rfl) (fun a hE => ?_)
  refine t_nil ?_
  refine hK_2 _ _ ?_
  refine w_ret ?_
  exact hret _ _ _ x4_3 _ hE hR (res_run hE rfl (RV.tmp rfl RV.nil)) rfl H

/-- slices.Chunk[[]byte,byte]$1 -/
theorem tb76_3 : tabAt Go.Proofs.Try.f76 3 [[], [], [], [1, 2], [3], [0, 4], [5, 0, 1, 2, 3, 4, 5]] [[], [], [], [1, 2], [3], [0, 4], [5]] [[], [], [], [1, 2], [1, 2, 3], [0, 1, 2, 3, 4], [0, 1, 2, 3, 4, 5]] = true := by kernel_rfl
def slices_Chunk_slbyte_byte_1_l1 (c0_3 : Value) (c1_4 : Addr) (c2_5 : Addr) (self1 : (Int) → M (Unit)) : (Int) → M (Unit) := fun s => match s with
  | x4_2 => do
    let x7_9 ← ldL c1_4
    M.ite (decide (x4_2 < (x7_9.len : Int))) (do
      let x13_12 ← ldI .i64 c2_5
      let x14_13 ← ldL c1_4
      let x16_14 ← slL x14_13 x4_2 x14_13.len 1
      let x20_16 ← ldL c1_4
      let x28_17 ← slL3 x20_16 x4_2 (IntKind.wrap .i64 (x4_2 + (iMin x13_12 (x16_14.len : Int)))) (IntKind.wrap .i64 (x4_2 + (iMin x13_12 (x16_14.len : Int)))) 1
      let x29_18 ← callV Go.Proofs.Try.prog (fun r : Bool => .bool r) c0_3 [(x28_17 : Sl).v]
      M.ite (!x29_18) (do
        M.pure ()
        ) (do
        let x11_19 ← ldI .i64 c2_5
        self1 (IntKind.wrap .i64 (x4_2 + x11_19))
        )
      ) (do
      M.pure ()
      )
def slices_Chunk_slbyte_byte_1 (x0 : Value) (x1 : Addr) (x2 : Addr) : M (Unit) := do
  M.loop (slices_Chunk_slbyte_byte_1_l1 x0 x1 x2) 0
theorem S_slices_Chunk_slbyte_byte_1 (x0 : Value) (x1 : Addr) (x2 : Addr) : Sound Go.Proofs.Try.prog 76 #[x0, .pointer (some x1), .pointer (some x2)] (fun (r : Unit) => .tuple #[]) (slices_Chunk_slbyte_byte_1 x0 x1 x2) := by
  refine sound_of [(0, x0), (1, .pointer (some x1)), (2, .pointer (some x2))] Go.Proofs.Try.func76 rfl rfl (Nat.le_of_ble_eq_true rfl) (args_of ⟨rfl, rfl, rfl, trivial⟩) (fun w0 w Q R a hret hE hR H => ?_)
  unfold slices_Chunk_slbyte_byte_1 at H
  refine w_seq (fun K hK_1 => ?_)
  refine t_region ?_
  refine t_val (v := .int .i64 0) rfl rfl hE rfl (r_assign hE rfl) (fun a hE => ?_)
  refine t_nil ?_
  refine hK_1 _ _ ?_
  refine w_block ?_
  refine l_loop (fun (s : Int) => (⟨31, []⟩ : Frm)) (fun (s : Int) => [(0, x0), (1, .pointer (some x1)), (2, .pointer (some x2)), (4, .int .i64 s)]) H (hE.cut (.cons rfl (.cons rfl (.cons rfl (.cons rfl Subs.nil))))) hR (fun Y self1 hY_6 x4_2 a w hE hR H => ?_)
  replace hE : Env (⟨31, []⟩ : Frm) a [(0, x0), (1, .pointer (some x1)), (2, .pointer (some x2)), (4, .int .i64 x4_2)] := hE
  replace H : (slices_Chunk_slbyte_byte_1_l1 x0 x1 x2 self1 x4_2).wp w.heap Q := H
  unfold slices_Chunk_slbyte_byte_1_l1 at H
  refine w_seq (fun K hK_7 => ?_)
  refine w_seq (fun K hK_8 => ?_)
  refine t_region ?_
  refine t_val (v := .int .i64 x4_2) rfl rfl hE rfl (r_move hE rfl) (fun a hE => ?_)
  obtain ⟨x7_9, qx7_9, H⟩ := H
  refine t_val (v := (x7_9 : Sl).v) rfl rfl hE rfl (r_load hE rfl sc30 qx7_9) (fun a hE => ?_)
  refine t_val (v := .int .i64 (x7_9.len : Int)) rfl rfl hE rfl (r_len hE rfl 5 un30) (fun a hE => ?_)
  refine t_val (v := .bool (decide (x4_2 < (x7_9.len : Int)))) rfl rfl hE rfl (r_bin hE rfl rfl g_int b_lss) (fun a hE => ?_)
  refine t_nil ?_
  refine hK_8 _ _ ?_
  refine w_cond (decide (x4_2 < (x7_9.len : Int))) hE rfl (fun hb => ?_) (fun hb => ?_)
  · replace H := M.ite_t hb H
    refine w_skip ?_
    refine hK_7 _ _ ?_
    refine w_seq (fun K hK_10 => ?_)
    refine w_block ?_
    refine w_seq (fun K hK_11 => ?_)
    obtain ⟨x13_12, qx13_12, H⟩ := H
    obtain ⟨x14_13, qx14_13, H⟩ := H
    obtain ⟨x16_14, qx16_14, H⟩ := H
    have hT := tab_of tb76_3 rfl rfl
    refine d_start (fun w : World => (fun h : Heap => (hcell h x2 = some (.int .i64 x13_12)) ∧ (hcell h x1 = some ((x14_13 : Sl).v))) w.heap) [5, 6] #[false, false, false, false, false, false, false] mo hR rfl rfl (fun w' e => by rw [e]; exact ⟨qx13_12, qx14_13⟩) (fun w hh hR hs => ?_)
    replace H := M.at hh H; clear hh
    refine d_pureg (i := 2) (v := .int .i64 x4_2) #[false, false, true, false, false, false, false] rfl rfl hT (by kernel_rfl) hE rfl (wanted_none rfl) (fun w => r_move hE rfl) (fun a hE => ?_)
    refine d_read (i := 0) (v := .int .i64 x13_12) #[true, false, true, false, false, false, false] rfl rfl hT (by kernel_rfl) hE rfl (wanted_none rfl) hs (fun w s => r_load hE rfl sc3 s.1) (fun a hE => ?_)
    refine d_read (i := 1) (v := (x14_13 : Sl).v) #[true, true, true, false, false, false, false] rfl rfl hT (by kernel_rfl) hE rfl (wanted_none rfl) hs (fun w s => r_load hE rfl sc30 s.2) (fun a hE => ?_)
    refine d_pureg (i := 3) (v := (x16_14 : Sl).v) #[true, true, true, true, false, false, false] rfl rfl hT (by kernel_rfl) hE rfl (wanted_none rfl) (fun w => r_sliceL_l hE rfl rfl un30 sz5 qx16_14) (fun a hE => ?_)
    refine d_pureg (i := 4) (v := .int .i64 (x16_14.len : Int)) #[true, true, true, true, true, false, false] rfl rfl hT (by kernel_rfl) hE rfl (wanted_none rfl) (fun w => r_len hE rfl 5 un30) (fun a hE => ?_)
    refine d_pureg (i := 5) (v := .int .i64 (iMin x13_12 (x16_14.len : Int))) #[true, true, true, true, true, true, false] rfl rfl hT (by kernel_rfl) hE rfl (wanted_none rfl) (fun w => r_min hE rfl rfl) (fun a hE => ?_)
    refine d_pureg (i := 6) (v := .int .i64 (iMin x13_12 (x16_14.len : Int))) #[true, true, true, true, true, true, true] rfl rfl hT (by kernel_rfl) hE rfl (wanted_none rfl) (fun w => r_assign hE rfl) (fun a hE => ?_)
    refine d_done hT (by kernel_rfl) ?_
    refine hK_11 _ _ ?_
    refine w_seq (fun K hK_15 => ?_)
    refine t_region ?_
    refine t_val (v := x0) rfl rfl hE rfl (r_move hE rfl) (fun a hE => ?_)
    obtain ⟨x20_16, qx20_16, H⟩ := H
    refine t_val (v := (x20_16 : Sl).v) rfl rfl hE rfl (r_load hE rfl sc30 qx20_16) (fun a hE => ?_)
    refine t_val (v := .int .i64 x4_2) rfl rfl hE rfl (r_move hE rfl) (fun a hE => ?_)
    refine t_val (v := .int .i64 x4_2) rfl rfl hE rfl (r_move hE rfl) (fun a hE => ?_)
    refine t_val (v := .int .i64 (iMin x13_12 (x16_14.len : Int))) rfl rfl hE rfl (r_move hE rfl) (fun a hE => ?_)
    refine t_val (v := .int .i64 (IntKind.wrap .i64 (x4_2 + (iMin x13_12 (x16_14.len : Int))))) rfl rfl hE rfl (r_bin hE rfl rfl g_int b_add) (fun a hE => ?_)
    refine t_val (v := .int .i64 x4_2) rfl rfl hE rfl (r_move hE rfl) (fun a hE => ?_)
    refine t_val (v := .int .i64 (iMin x13_12 (x16_14.len : Int))) rfl rfl hE rfl (r_move hE rfl) (fun a hE => ?_)
    refine t_val (v := .int .i64 (IntKind.wrap .i64 (x4_2 + (iMin x13_12 (x16_14.len : Int))))) rfl rfl hE rfl (r_bin hE rfl rfl g_int b_add) (fun a hE => ?_)
    obtain ⟨x28_17, qx28_17, H⟩ := H
    refine t_val (v := (x28_17 : Sl).v) rfl rfl hE rfl (r_sliceL3 hE rfl rfl rfl rfl un30 sz5 qx28_17) (fun a hE => ?_)
    refine t_callV hE hR rfl rfl (M.unbind H) (fun x29_18 a w ea hR H => ?_)
    have hE := Env.put_some hE rfl ea; clear ea
    refine t_val (v := .bool (!x29_18)) rfl rfl hE rfl (r_un hE rfl u_not) (fun a hE => ?_)
    refine t_nil ?_
    refine hK_15 _ _ ?_
    refine w_cond (!x29_18) hE rfl (fun hb => ?_) (fun hb => ?_)
    · replace H := M.ite_t hb H
      refine w_ret ?_
      exact hret _ _ _ () _ hE hR (res_run hE rfl RV.nil) rfl H
    · replace H := M.ite_f hb H
      refine w_skip ?_
      refine hK_10 _ _ ?_
      refine t_region ?_
      refine t_val (v := .int .i64 x4_2) rfl rfl hE rfl (r_move hE rfl) (fun a hE => ?_)
      obtain ⟨x11_19, qx11_19, H⟩ := H
      refine t_val (v := .int .i64 x11_19) rfl rfl hE rfl (r_load hE rfl sc3 qx11_19) (fun a hE => ?_)
      refine t_val (v := .int .i64 (IntKind.wrap .i64 (x4_2 + x11_19))) rfl rfl hE rfl (r_bin hE rfl rfl g_int b_add) (fun a hE => ?_)
      refine t_val (v := .int .i64 (IntKind.wrap .i64 (x4_2 + x11_19))) rfl rfl hE rfl (r_assign hE rfl) (fun a hE => ?_)
      refine t_nil ?_
      exact hY_6 (IntKind.wrap .i64 (x4_2 + x11_19)) _ _ (hE.cut (.cons rfl (.cons rfl (.cons rfl (.cons rfl Subs.nil))))) hR H
  · replace H := M.ite_f hb H
    refine w_exit ?_
    refine Xu.same ?_
    exact hret _ _ _ () _ hE hR (res_run hE rfl RV.nil) rfl H

/-- slices.Chunk[[]byte,byte] -/
def slices_Chunk_slbyte_byte_j1 (c2_4 : Addr) (c3_5 : Addr) : M (Value) := do
  M.pure (Value.func (.func fn_slices_Chunk_slbyte_byte_1) #[] #[.pointer (some c2_4), .pointer (some c3_5)])
def slices_Chunk_slbyte_byte (x0 : Sl) (x1 : Int) : M (Value) := do
  let x2_2 ← mkB ty_sl_uint8 #[(x0 : Sl).v]
  let x3_3 ← mkB ty_int #[.int .i64 x1]
  let x5_8 ← ldI .i64 x3_3
  M.ite (decide (x5_8 < 1)) (do
    M.fail
    ) (do
    slices_Chunk_slbyte_byte_j1 x2_2 x3_3
    )
theorem S_slices_Chunk_slbyte_byte (x0 : Sl) (x1 : Int) : Sound Go.Proofs.Try.prog 65 #[(x0 : Sl).v, .int .i64 x1] (fun (r : Value) => r) (slices_Chunk_slbyte_byte x0 x1) := by
  refine sound_of [(0, (x0 : Sl).v), (1, .int .i64 x1)] Go.Proofs.Try.func65 rfl rfl (Nat.le_of_ble_eq_true rfl) (args_of ⟨rfl, rfl, trivial⟩) (fun w0 w Q R a hret hE hR H => ?_)
  unfold slices_Chunk_slbyte_byte at H
  refine w_seq (fun K hK_1 => ?_)
  refine t_region ?_
  obtain ⟨x2_2, qx2_2, H⟩ := H
  refine t_valh (v := .pointer (some x2_2)) rfl rfl hE rfl hR (r_box hE rfl qx2_2) (fun a w hE hR hh => ?_)
  replace H := M.at hh H; clear hh
  obtain ⟨x3_3, qx3_3, H⟩ := H
  refine t_valh (v := .pointer (some x3_3)) rfl rfl hE rfl hR (r_box hE rfl qx3_3) (fun a w hE hR hh => ?_)
  replace H := M.at hh H; clear hh
  refine t_val (v := Value.nilFunc) rfl rfl hE rfl (r_assign hE rfl) (fun a hE => ?_)
  refine t_nil ?_
  refine hK_1 _ _ ?_
  refine w_seq_join (fun a w => Env (⟨9, []⟩ : Frm) a [(2, .pointer (some x2_2)), (3, .pointer (some x3_3))] ∧ Rest w0 w ∧ (slices_Chunk_slbyte_byte_j1 x2_2 x3_3).wp w.heap Q) ?_ ?_
  · rintro a w ⟨hE, hR, H⟩
    unfold slices_Chunk_slbyte_byte_j1 at H
    refine w_seq (fun K hK_6 => ?_)
    refine t_region ?_
    refine t_val (v := (Value.func (.func fn_slices_Chunk_slbyte_byte_1) #[] #[.pointer (some x2_2), .pointer (some x3_3)])) rfl rfl hE rfl (r_makeFunc hE rfl) (fun a hE => ?_)
    refine t_val (v := (Value.func (.func fn_slices_Chunk_slbyte_byte_1) #[] #[.pointer (some x2_2), .pointer (some x3_3)])) rfl rfl hE rfl (r_assign hE rfl) (fun a hE => ?_)
    refine t_nil ?_
    refine hK_6 _ _ ?_
    refine w_ret ?_
    exact hret _ _ _ (Value.func (.func fn_slices_Chunk_slbyte_byte_1) #[] #[.pointer (some x2_2), .pointer (some x3_3)]) _ hE hR (res_run hE rfl (RV.tmp rfl RV.nil)) rfl H
  · skip
    refine w_seq (fun K hK_7 => ?_)
    refine t_region ?_
    obtain ⟨x5_8, qx5_8, H⟩ := H
    refine t_val (v := .int .i64 x5_8) rfl rfl hE rfl (r_load hE rfl sc3 qx5_8) (fun a hE => ?_)
    refine t_val (v := .bool (decide (x5_8 < 1))) rfl rfl hE rfl (r_bin hE rfl rfl g_int b_lss) (fun a hE => ?_)
    refine t_nil ?_
    refine hK_7 _ _ ?_
    refine w_cond (decide (x5_8 < 1)) hE rfl (fun hb => ?_) (fun hb => ?_)
    · replace H := M.ite_t hb H
      exact False.elim H
    · replace H := M.ite_f hb H
      refine w_skip ?_
      exact ⟨hE.cut (.cons rfl (.cons rfl Subs.nil)), hR, H⟩

/-- ramble/sector.Cut -/
def sector_Cut (x0 : Sl) : M (Sl) := do
  let x4_3 ← slices_Clone_slbyte_byte x0
  let x5_4 ← slices_Chunk_slbyte_byte x4_3 112
  let x6_5 ← slices_Collect_slbyte x5_4
  M.pure x6_5
theorem S_sector_Cut (x0 : Sl) : Sound Go.Proofs.Try.prog 42 #[(x0 : Sl).v] (fun (r : Sl) => (r : Sl).v) (sector_Cut x0) := by
  refine sound_of [(0, (x0 : Sl).v)] Go.Proofs.Try.func42 rfl rfl (Nat.le_of_ble_eq_true rfl) (args_of ⟨rfl, trivial⟩) (fun w0 w Q R a hret hE hR H => ?_)
  unfold sector_Cut at H
  refine w_seq (fun K hK_1 => ?_)
  refine t_region ?_
  refine t_val (v := (Sl.nil : Sl).v) rfl rfl hE rfl (r_assign hE rfl) (fun a hE => ?_)
  refine t_nil ?_
  refine hK_1 _ _ ?_
  refine w_seq (fun K hK_2 => ?_)
  refine t_region ?_
  refine t_val (v := (x0 : Sl).v) rfl rfl hE rfl (r_move hE rfl) (fun a hE => ?_)
  refine t_call hE hR cl_slices_Clone_slbyte_byte rfl (S_slices_Clone_slbyte_byte x0) (M.unbind H) (fun x4_3 a w ea hR H => ?_)
  have hE := Env.put_some hE rfl ea; clear ea
  refine t_call hE hR cl_slices_Chunk_slbyte_byte rfl (S_slices_Chunk_slbyte_byte x4_3 112) (M.unbind H) (fun x5_4 a w ea hR H => ?_)
  have hE := Env.put_some hE rfl ea; clear ea
  refine t_call hE hR cl_slices_Collect_slbyte rfl (S_slices_Collect_slbyte x5_4) (M.unbind H) (fun x6_5 a w ea hR H => ?_)
  have hE := Env.put_some hE rfl ea; clear ea
  refine t_val (v := (x6_5 : Sl).v) rfl rfl hE rfl (r_assign hE rfl) (fun a hE => ?_)
  refine t_nil ?_
  refine hK_2 _ _ ?_
  refine w_ret ?_
  exact hret _ _ _ x6_5 _ hE hR (res_run hE rfl (RV.tmp rfl RV.nil)) rfl H

/-- ramble/wal.put -/
def wal_put_l1 (c10_8 : Sl) (c11_9 : Int) (self1 : (Sl × Int) → M (Sl)) : (Sl × Int) → M (Sl) := fun s => match s with
  | (x3_6, x12_7) => do
    M.ite (decide (x12_7 < c11_9)) (do
      let x14_15 ← ixL c10_8 x12_7 1
      let x15_16 ← ldL x14_15
      let x20_17 ← num_Put x3_6 (IntKind.wrap .u64 (x15_16.len : Int))
      let x22_18 ← apL ty_uint8 1 1 (#[.int .u8 0] : Array Value) x20_17 x15_16
      self1 (x22_18, IntKind.wrap .i64 (x12_7 + 1))
      ) (do
      M.pure x3_6
      )
def wal_put (x0 : Sl) : M (Sl) := do
  let x9_3 ← num_Put Sl.nil (IntKind.wrap .u64 (x0.len : Int))
  M.loop (wal_put_l1 x0 (x0.len : Int)) (x9_3, 0)
theorem S_wal_put (x0 : Sl) : Sound Go.Proofs.Try.prog 43 #[(x0 : Sl).v] (fun (r : Sl) => (r : Sl).v) (wal_put x0) := by
  refine sound_of [(0, (x0 : Sl).v)] Go.Proofs.Try.func43 rfl rfl (Nat.le_of_ble_eq_true rfl) (args_of ⟨rfl, trivial⟩) (fun w0 w Q R a hret hE hR H => ?_)
  unfold wal_put at H
  refine w_seq (fun K hK_1 => ?_)
  refine t_region ?_
  refine t_val (v := (Sl.nil : Sl).v) rfl rfl hE rfl (r_assign hE rfl) (fun a hE => ?_)
  refine t_nil ?_
  refine hK_1 _ _ ?_
  refine w_seq (fun K hK_2 => ?_)
  refine t_region ?_
  refine t_val (v := (x0 : Sl).v) rfl rfl hE rfl (r_move hE rfl) (fun a hE => ?_)
  refine t_val (v := .int .i64 (x0.len : Int)) rfl rfl hE rfl (r_len hE rfl 30 un32) (fun a hE => ?_)
  refine t_val (v := .int .u64 (IntKind.wrap .u64 (x0.len : Int))) rfl rfl hE rfl (r_convI hE rfl un3 un106) (fun a hE => ?_)
  refine t_call hE hR cl_num_Put rfl (S_num_Put Sl.nil (IntKind.wrap .u64 (x0.len : Int))) (M.unbind H) (fun x9_3 a w ea hR H => ?_)
  have hE := Env.put_some hE rfl ea; clear ea
  refine t_val (v := (x9_3 : Sl).v) rfl rfl hE rfl (r_assign hE rfl) (fun a hE => ?_)
  refine t_nil ?_
  refine hK_2 _ _ ?_
  refine w_seq (fun K hK_4 => ?_)
  refine w_seq (fun K hK_5 => ?_)
  refine t_region ?_
  refine t_val (v := (x0 : Sl).v) rfl rfl hE rfl (r_move hE rfl) (fun a hE => ?_)
  refine t_val (v := .int .i64 (x0.len : Int)) rfl rfl hE rfl (r_len hE rfl 30 un32) (fun a hE => ?_)
  refine t_val (v := .int .i64 0) rfl rfl hE rfl (r_move hE rfl) (fun a hE => ?_)
  refine t_nil ?_
  refine hK_5 _ _ ?_
  refine w_block ?_
  refine l_loop (fun (s : Sl × Int) => (⟨25, []⟩ : Frm)) (fun (s : Sl × Int) => [(3, (s.1 : Sl).v), (10, (x0 : Sl).v), (11, .int .i64 (x0.len : Int)), (12, .int .i64 s.2)]) H (hE.cut (.cons rfl (.cons rfl (.cons rfl (.cons rfl Subs.nil))))) hR (fun Y self1 hY_10 s a w hE hR H => ?_)
  rcases s with ⟨x3_6, x12_7⟩
  replace hE : Env (⟨25, []⟩ : Frm) a [(3, (x3_6 : Sl).v), (10, (x0 : Sl).v), (11, .int .i64 (x0.len : Int)), (12, .int .i64 x12_7)] := hE
  replace H : (wal_put_l1 x0 (x0.len : Int) self1 (x3_6, x12_7)).wp w.heap Q := H
  unfold wal_put_l1 at H
  refine w_seq (fun K hK_11 => ?_)
  refine t_region ?_
  refine t_val (v := .bool (decide (x12_7 < (x0.len : Int)))) rfl rfl hE rfl (r_bin hE rfl rfl g_int b_lss) (fun a hE => ?_)
  refine t_nil ?_
  refine hK_11 _ _ ?_
  refine w_seq (fun K hK_12 => ?_)
  refine w_cond (decide (x12_7 < (x0.len : Int))) hE rfl (fun hb => ?_) (fun hb => ?_)
  · replace H := M.ite_t hb H
    refine w_skip ?_
    refine hK_12 _ _ ?_
    refine w_seq (fun K hK_13 => ?_)
    refine w_block ?_
    refine w_seq (fun K hK_14 => ?_)
    refine t_region ?_
    obtain ⟨x14_15, qx14_15, H⟩ := H
    refine t_val (v := .pointer (some x14_15)) rfl rfl hE rfl (r_indexAddrL hE rfl rfl un32 sz30 qx14_15) (fun a hE => ?_)
    obtain ⟨x15_16, qx15_16, H⟩ := H
    refine t_val (v := (x15_16 : Sl).v) rfl rfl hE rfl (r_load hE rfl sc30 qx15_16) (fun a hE => ?_)
    refine t_val (v := (x15_16 : Sl).v) rfl rfl hE rfl (r_assign hE rfl) (fun a hE => ?_)
    refine t_nil ?_
    refine hK_14 _ _ ?_
    refine t_region ?_
    refine t_val (v := (x3_6 : Sl).v) rfl rfl hE rfl (r_move hE rfl) (fun a hE => ?_)
    refine t_val (v := (x15_16 : Sl).v) rfl rfl hE rfl (r_move hE rfl) (fun a hE => ?_)
    refine t_val (v := .int .i64 (x15_16.len : Int)) rfl rfl hE rfl (r_len hE rfl 5 un30) (fun a hE => ?_)
    refine t_val (v := .int .u64 (IntKind.wrap .u64 (x15_16.len : Int))) rfl rfl hE rfl (r_convI hE rfl un3 un106) (fun a hE => ?_)
    refine t_call hE hR cl_num_Put rfl (S_num_Put x3_6 (IntKind.wrap .u64 (x15_16.len : Int))) (M.unbind H) (fun x20_17 a w ea hR H => ?_)
    have hE := Env.put_some hE rfl ea; clear ea
    refine t_val (v := (x15_16 : Sl).v) rfl rfl hE rfl (r_move hE rfl) (fun a hE => ?_)
    refine t_ex (fun x22_18 => (x22_18 : Sl).v) rfl rfl hR (M.unbind H) (fun Q H => ap_run hE rfl rfl ap30 H) (fun x22_18 a w ea hR H => ?_)
    have hE := Env.put_some hE rfl ea; clear ea
    refine t_val (v := (x22_18 : Sl).v) rfl rfl hE rfl (r_assign hE rfl) (fun a hE => ?_)
    refine t_nil ?_
    refine hK_13 _ _ ?_
    refine t_region ?_
    refine t_val (v := .int .i64 (IntKind.wrap .i64 (x12_7 + 1))) rfl rfl hE rfl (r_bin hE rfl rfl g_int b_add) (fun a hE => ?_)
    refine t_val (v := .int .i64 (IntKind.wrap .i64 (x12_7 + 1))) rfl rfl hE rfl (r_move hE rfl) (fun a hE => ?_)
    refine t_nil ?_
    exact hY_10 (x22_18, IntKind.wrap .i64 (x12_7 + 1)) _ _ (hE.cut (.cons rfl (.cons rfl (.cons rfl (.cons rfl Subs.nil))))) hR H
  · replace H := M.ite_f hb H
    refine w_exit ?_
    refine Xu.same ?_
    refine hK_4 _ _ ?_
    refine w_seq (fun K hK_19 => ?_)
    refine t_region ?_
    refine t_val (v := (x3_6 : Sl).v) rfl rfl hE rfl (r_move hE rfl) (fun a hE => ?_)
    refine t_val (v := (x3_6 : Sl).v) rfl rfl hE rfl (r_assign hE rfl) (fun a hE => ?_)
    refine t_nil ?_
    refine hK_19 _ _ ?_
    refine w_ret ?_
    exact hret _ _ _ x3_6 _ hE hR (res_run hE rfl (RV.tmp rfl RV.nil)) rfl H

/-- (*ramble/wal.Log).at -/
def wal_Log_at (x0 : Option Addr) (x1 : Int) : M (Int) := do
  let x6_3 ← nilP x0
  let x8_4 ← ldI .i64 ((x6_3).add 3)
  M.pure (iOr .i64 (iShl .i64 x8_4 16) x1)
theorem S_wal_Log_at (x0 : Option Addr) (x1 : Int) : Sound Go.Proofs.Try.prog 44 #[.pointer x0, .int .i64 x1] (fun (r : Int) => .int .i64 r) (wal_Log_at x0 x1) := by
  refine sound_of [(0, .pointer x0), (1, .int .i64 x1)] Go.Proofs.Try.func44 rfl rfl (Nat.le_of_ble_eq_true rfl) (args_of ⟨rfl, rfl, trivial⟩) (fun w0 w Q R a hret hE hR H => ?_)
  unfold wal_Log_at at H
  refine w_seq (fun K hK_1 => ?_)
  refine t_region ?_
  refine t_val (v := .int .i64 0) rfl rfl hE rfl (r_assign hE rfl) (fun a hE => ?_)
  refine t_nil ?_
  refine hK_1 _ _ ?_
  refine w_seq (fun K hK_2 => ?_)
  refine t_region ?_
  refine t_val (v := .pointer x0) rfl rfl hE rfl (r_move hE rfl) (fun a hE => ?_)
  obtain ⟨x6_3, qx6_3, H⟩ := H
  refine t_val (v := .pointer (some x6_3)) rfl rfl hE rfl (r_nilCheck hE (hx_eq rfl (congrArg Value.pointer qx6_3))) (fun a hE => ?_)
  refine t_val (v := .pointer (some ((x6_3).add 3))) rfl rfl hE rfl (r_fieldAddr hE rfl fd40_3) (fun a hE => ?_)
  obtain ⟨x8_4, qx8_4, H⟩ := H
  refine t_val (v := .int .i64 x8_4) rfl rfl hE rfl (r_load hE rfl sc2 qx8_4) (fun a hE => ?_)
  refine t_val (v := .int .i64 (iShl .i64 x8_4 16)) rfl rfl hE rfl (r_bin hE rfl rfl g_int (b_shl ⟨by decide, rfl⟩)) (fun a hE => ?_)
  refine t_val (v := .int .i64 x1) rfl rfl hE rfl (r_move hE rfl) (fun a hE => ?_)
  refine t_val (v := .int .i64 (iOr .i64 (iShl .i64 x8_4 16) x1)) rfl rfl hE rfl (r_bin hE rfl rfl g_int b_or) (fun a hE => ?_)
  refine t_val (v := .int .i64 (iOr .i64 (iShl .i64 x8_4 16) x1)) rfl rfl hE rfl (r_assign hE rfl) (fun a hE => ?_)
  refine t_nil ?_
  refine hK_2 _ _ ?_
  refine w_ret ?_
  exact hret _ _ _ (iOr .i64 (iShl .i64 x8_4 16) x1) _ hE hR (res_run hE rfl (RV.tmp rfl RV.nil)) rfl H

/-- (*ramble/wal.Log).told -/
def wal_Log_told (x0 : Option Addr) (x1 : Int) : M (Int) := do
  let x7_3 ← nilP x0
  let x9_4 ← ldB ((x7_3).add 6)
  let x13_5 ← M.ite x9_4 (do
    M.pure true
    ) (do
    M.pure (x1 != 0)
    )
  let x14_6 ← nilP x0
  stV ((x14_6).add 6) (.bool x13_5)
  M.pure x1
theorem S_wal_Log_told (x0 : Option Addr) (x1 : Int) : Sound Go.Proofs.Try.prog 45 #[.pointer x0, .int .i64 x1] (fun (r : Int) => .int .i64 r) (wal_Log_told x0 x1) := by
  refine sound_of [(0, .pointer x0), (1, .int .i64 x1)] Go.Proofs.Try.func45 rfl rfl (Nat.le_of_ble_eq_true rfl) (args_of ⟨rfl, rfl, trivial⟩) (fun w0 w Q R a hret hE hR H => ?_)
  unfold wal_Log_told at H
  refine w_seq (fun K hK_1 => ?_)
  refine t_region ?_
  refine t_val (v := .int .i64 0) rfl rfl hE rfl (r_assign hE rfl) (fun a hE => ?_)
  refine t_nil ?_
  refine hK_1 _ _ ?_
  refine w_seq (fun K hK_2 => ?_)
  refine t_region ?_
  refine t_val (v := .pointer x0) rfl rfl hE rfl (r_move hE rfl) (fun a hE => ?_)
  refine t_val (v := .pointer x0) rfl rfl hE rfl (r_move hE rfl) (fun a hE => ?_)
  obtain ⟨x7_3, qx7_3, H⟩ := H
  refine t_val (v := .pointer (some x7_3)) rfl rfl hE rfl (r_nilCheck hE (hx_eq rfl (congrArg Value.pointer qx7_3))) (fun a hE => ?_)
  refine t_val (v := .pointer (some ((x7_3).add 6))) rfl rfl hE rfl (r_fieldAddr hE rfl fd40_6) (fun a hE => ?_)
  obtain ⟨x9_4, qx9_4, H⟩ := H
  refine t_val (v := .bool x9_4) rfl rfl hE rfl (r_load hE rfl sc4 qx9_4) (fun a hE => ?_)
  refine t_val (v := .bool x9_4) rfl rfl hE rfl (r_move hE rfl) (fun a hE => ?_)
  refine t_grp (n := (⟨17, []⟩ : Frm)) (w0 := w0) 3 (fun x13_5 : Bool => [(1, .int .i64 x1), (5, .pointer x0), (13, .bool x13_5)]) (M.unbind H) (fun Kr hKr H => ?_) ?_
  · rcases bool_em x9_4 with hb | hb
    · replace H := M.ite_t hb H
      have hE := hE.reb 10 x9_4 true hb rfl
      refine t_off rfl hE rfl rfl rfl (fun a ea => ?_)
      have hE := Env.put_some hE rfl ea; clear ea
      refine t_off rfl hE rfl rfl rfl (fun a ea => ?_)
      have hE := Env.put_some hE rfl ea; clear ea
      refine t_val rfl rfl hE rfl (r_pick_t hE rfl rfl) (fun a hE => ?_)
      refine t_nil ?_
      exact hKr _ _ _ (hE.cut (.cons rfl (.cons rfl (.cons rfl Subs.nil)))) hR H
    · replace H := M.ite_f hb H
      have hE := hE.reb 10 x9_4 false hb rfl
      refine t_on rfl hE rfl rfl rfl ?_
      refine t_val (v := .int .i64 x1) rfl rfl hE rfl (r_move hE rfl) (fun a hE => ?_)
      refine t_on rfl hE rfl rfl rfl ?_
      refine t_val (v := .bool (x1 != 0)) rfl rfl hE rfl (r_bin hE rfl rfl g_int b_neq) (fun a hE => ?_)
      refine t_val rfl rfl hE rfl (r_pick_f hE rfl rfl) (fun a hE => ?_)
      refine t_nil ?_
      exact hKr _ _ _ (hE.cut (.cons rfl (.cons rfl (.cons rfl Subs.nil)))) hR H
  · intro x13_5 a w hE hR H
    obtain ⟨x14_6, qx14_6, H⟩ := H
    refine t_val (v := .pointer (some x14_6)) rfl rfl hE rfl (r_nilCheck hE (hx_eq rfl (congrArg Value.pointer qx14_6))) (fun a hE => ?_)
    refine t_val (v := .pointer (some ((x14_6).add 6))) rfl rfl hE rfl (r_fieldAddr hE rfl fd40_6) (fun a hE => ?_)
    obtain ⟨u_7, qu_7, H⟩ := H
    refine t_sth rfl rfl hE hR (r_store hE rfl rfl sz4 qu_7) (fun a w hE hR hh => ?_)
    replace H := M.at hh H; clear hh
    refine t_nil ?_
    refine hK_2 _ _ ?_
    refine w_seq (fun K hK_8 => ?_)
    refine t_region ?_
    refine t_val (v := .int .i64 x1) rfl rfl hE rfl (r_move hE rfl) (fun a hE => ?_)
    refine t_val (v := .int .i64 x1) rfl rfl hE rfl (r_assign hE rfl) (fun a hE => ?_)
    refine t_nil ?_
    refine hK_8 _ _ ?_
    refine w_ret ?_
    exact hret _ _ _ x1 _ hE hR (res_run hE rfl (RV.tmp rfl RV.nil)) rfl H

end Gx
namespace Gx
open Go
set_option linter.unusedVariables false
set_option maxRecDepth 100000
/-- (*ramble/wal.Log).Append -/
theorem tb12_7 : tabAt Go.Proofs.Try.f12 7 [[], [0], [], [2], [3], [4], [], [6], [7], [8], [5, 9], [1, 10]] [[], [0], [], [2], [3], [4], [], [6], [7], [8], [5, 9], [1, 10]] [[], [0], [], [2], [2, 3], [2, 3, 4], [], [6], [6, 7], [6, 7, 8], [2, 3, 4, 5, 6, 7, 8, 9], [0, 1, 2, 3, 4, 5, 6, 7, 8, 9, 10]] = true := by kernel_rfl
noncomputable def ro12_15 : Array Oper := opsOf Go.Proofs.Try.f12 15
def tE12_15 : List (List Nat) := [[], [], [1], [2], [3], [], [5], [6], [7], [8], [], [9, 10], [], [4, 11, 12], [0, 13, 13], [14, 14, 0, 1, 2, 3, 4, 5, 6, 7, 8, 9, 10, 11, 12, 13, 14]]
def tC12_15 : List (List Nat) := [[], [], [1], [2], [3], [], [5], [6], [7], [8], [], [9, 10], [], [4, 11, 12], [0, 13], [14]]
def tW12_15 : List (List Nat) := [[], [], [1], [1, 2], [1, 2, 3], [], [5], [5, 6], [5, 6, 7], [5, 6, 7, 8], [], [5, 6, 7, 8, 9, 10], [], [1, 2, 3, 4, 5, 6, 7, 8, 9, 10, 11, 12], [0, 1, 2, 3, 4, 5, 6, 7, 8, 9, 10, 11, 12, 13], [0, 1, 2, 3, 4, 5, 6, 7, 8, 9, 10, 11, 12, 13, 14]]
theorem tb12_15 : tabAt Go.Proofs.Try.f12 15 tE12_15 tC12_15 tW12_15 = true := by kernel_rfl
theorem tb12_15m : tabMB 16 tE12_15 tC12_15 tW12_15 [0, 0, 2, 4, 8, 0, 32, 64, 128, 256, 0, 1536, 0, 6160, 8193, 32767] [0, 0, 2, 4, 8, 0, 32, 64, 128, 256, 0, 1536, 0, 6160, 8193, 16384] [0, 0, 2, 6, 14, 0, 32, 96, 224, 480, 0, 2016, 0, 8190, 16383, 32767] = true := by kernel_rfl
def wal_Log_Append_j1 (self1 : (Int) → M (Int)) (c0_42 : Option Addr) (c7_44 : Int) (c9_45 : Addr) (c38_48 : Int) : M (Int) := do
  let x61_50 ← nilP c0_42
  let x65_51 ← nilP c0_42
  let x63_52 ← ldP ((x61_50).add 0)
  let x67_53 ← ldI .i64 ((x65_51).add 4)
  let x71_54 ← ldG 3 c9_45
  let x72_55 ← sector_Put x63_52 (IntKind.wrap .i64 ((IntKind.wrap .i64 (2 + x67_53)) + c7_44)) x71_54
  let x73_56 ← wal_Log_told c0_42 x72_55
  M.ite (x73_56 != 0) (do
    M.pure x73_56
    ) (do
    self1 (IntKind.wrap .i64 (c38_48 + 1))
    )
def wal_Log_Append_l1 (c0_25 : Option Addr) (c6_26 : Sl) (c36_27 : Sl) (c37_28 : Int) (self1 : (Int) → M (Int)) : (Int) → M (Int) := fun s => match s with
  | x38_24 => do
    M.ite (decide (x38_24 < c37_28)) (do
      let x41_34 ← ixL c36_27 x38_24 1
      let x42_35 ← ldL x41_34
      let x45_37 ← nilP c0_25
      let x47_38 ← ldI .i64 ((x45_37).add 4)
      let x50_39 ← wal_Log_at c0_25 (IntKind.wrap .i64 (x47_38 + x38_24))
      let x9_40 ← mkB ty_api_Frame (#[.int .i64 0, .int .i64 0, .slice none 0 0] : Array Value)
      M.need ((#[.int .i64 2, .int .i64 x50_39, (x42_35 : Sl).v] : Array Value).size = 3)
      stG x9_40 (#[.int .i64 2, .int .i64 x50_39, (x42_35 : Sl).v] : Array Value)
      M.ite (x38_24 == (IntKind.wrap .i64 ((c6_26.len : Int) - 1))) (do
        stV ((x9_40).add 0) (.int .i64 3)
        wal_Log_Append_j1 self1 c0_25 x38_24 x9_40 x38_24
        ) (do
        wal_Log_Append_j1 self1 c0_25 x38_24 x9_40 x38_24
        )
      ) (do
      let x80_63 ← nilP c0_25
      let x82_64 ← ldP ((x80_63).add 0)
      let x83_65 ← disk_Disk_Flush x82_64
      let x84_66 ← wal_Log_told c0_25 x83_65
      M.ite (x84_66 != 0) (do
        M.pure x84_66
        ) (do
        let x89_70 ← nilP c0_25
        let x91_71 ← ldI .i64 ((x89_70).add 4)
        let x95_72 ← nilP c0_25
        stV ((x95_72).add 4) (.int .i64 (IntKind.wrap .i64 (x91_71 + (c6_26.len : Int))))
        M.pure 0
        )
      )
def wal_Log_Append (x0 : Option Addr) (x1 : Sl) : M (Int) := do
  let x13_4 ← wal_Log_can x0
  M.ite (x13_4 != 0) (do
    M.pure x13_4
    ) (do
    let x18_9 ← nilP x0
    let x20_10 ← ldB ((x18_9).add 5)
    M.ite x20_10 (do
      M.pure 61
      ) (do
      let x22_13 ← wal_put x1
      let x23_14 ← sector_Cut x22_13
      let x27_17 ← nilP x0
      let x31_18 ← nilP x0
      let x29_19 ← ldI .i64 ((x27_17).add 1)
      let x33_20 ← ldI .i64 ((x31_18).add 4)
      M.ite (decide ((x23_14.len : Int) > (IntKind.wrap .i64 (x29_19 - x33_20)))) (do
        M.pure 6
        ) (do
        M.loop (wal_Log_Append_l1 x0 x23_14 x23_14 (x23_14.len : Int)) 0
        )
      )
    )
theorem S_wal_Log_Append (x0 : Option Addr) (x1 : Sl) : Sound Go.Proofs.Try.prog 12 #[.pointer x0, (x1 : Sl).v] (fun (r : Int) => .int .i64 r) (wal_Log_Append x0 x1) := by
  refine sound_of [(0, .pointer x0), (1, (x1 : Sl).v)] Go.Proofs.Try.func12 rfl rfl (Nat.le_of_ble_eq_true rfl) (args_of ⟨rfl, rfl, trivial⟩) (fun w0 w Q R a hret hE hR H => ?_)
  unfold wal_Log_Append at H
  refine w_seq (fun K hK_1 => ?_)
  refine t_region ?_
  refine t_val (v := .int .i64 0) rfl rfl hE rfl (r_assign hE rfl) (fun a hE => ?_)
  refine t_nil ?_
  refine hK_1 _ _ ?_
  refine w_seq (fun K hK_2 => ?_)
  refine w_seq (fun K hK_3 => ?_)
  refine t_region ?_
  refine t_val (v := .pointer x0) rfl rfl hE rfl (r_move hE rfl) (fun a hE => ?_)
  refine t_call hE hR cl_wal_Log_can rfl (S_wal_Log_can x0) (M.unbind H) (fun x13_4 a w ea hR H => ?_)
  have hE := Env.put_some hE rfl ea; clear ea
  refine t_val (v := .int .i64 x13_4) rfl rfl hE rfl (r_assign hE rfl) (fun a hE => ?_)
  refine t_nil ?_
  refine hK_3 _ _ ?_
  refine w_seq (fun K hK_5 => ?_)
  refine t_region ?_
  refine t_val (v := .int .i64 x13_4) rfl rfl hE rfl (r_move hE rfl) (fun a hE => ?_)
  refine t_val (v := .bool (x13_4 != 0)) rfl rfl hE rfl (r_bin hE rfl rfl g_int b_neq) (fun a hE => ?_)
  refine t_nil ?_
  refine hK_5 _ _ ?_
  refine w_cond (x13_4 != 0) hE rfl (fun hb => ?_) (fun hb => ?_)
  · replace H := M.ite_t hb H
    refine w_seq (fun K hK_6 => ?_)
    refine t_region ?_
    refine t_val (v := .int .i64 x13_4) rfl rfl hE rfl (r_move hE rfl) (fun a hE => ?_)
    refine t_val (v := .int .i64 x13_4) rfl rfl hE rfl (r_assign hE rfl) (fun a hE => ?_)
    refine t_nil ?_
    refine hK_6 _ _ ?_
    refine w_ret ?_
    exact hret _ _ _ x13_4 _ hE hR (res_run hE rfl (RV.tmp rfl RV.nil)) rfl H
  · replace H := M.ite_f hb H
    refine w_skip ?_
    refine hK_2 _ _ ?_
    refine w_seq (fun K hK_7 => ?_)
    refine w_seq (fun K hK_8 => ?_)
    refine t_region ?_
    refine t_val (v := .pointer x0) rfl rfl hE rfl (r_move hE rfl) (fun a hE => ?_)
    obtain ⟨x18_9, qx18_9, H⟩ := H
    refine t_val (v := .pointer (some x18_9)) rfl rfl hE rfl (r_nilCheck hE (hx_eq rfl (congrArg Value.pointer qx18_9))) (fun a hE => ?_)
    refine t_val (v := .pointer (some ((x18_9).add 5))) rfl rfl hE rfl (r_fieldAddr hE rfl fd40_5) (fun a hE => ?_)
    obtain ⟨x20_10, qx20_10, H⟩ := H
    refine t_val (v := .bool x20_10) rfl rfl hE rfl (r_load hE rfl sc4 qx20_10) (fun a hE => ?_)
    refine t_nil ?_
    refine hK_8 _ _ ?_
    refine w_cond x20_10 hE rfl (fun hb => ?_) (fun hb => ?_)
    · replace H := M.ite_t hb H
      refine w_seq (fun K hK_11 => ?_)
      refine t_region ?_
      refine t_val (v := .int .i64 61) rfl rfl hE rfl (r_assign hE rfl) (fun a hE => ?_)
      refine t_nil ?_
      refine hK_11 _ _ ?_
      refine w_ret ?_
      exact hret _ _ _ 61 _ hE hR (res_run hE rfl (RV.tmp rfl RV.nil)) rfl H
    · replace H := M.ite_f hb H
      refine w_skip ?_
      refine hK_7 _ _ ?_
      refine w_seq (fun K hK_12 => ?_)
      refine t_region ?_
      refine t_val (v := (x1 : Sl).v) rfl rfl hE rfl (r_move hE rfl) (fun a hE => ?_)
      refine t_call hE hR cl_wal_put rfl (S_wal_put x1) (M.unbind H) (fun x22_13 a w ea hR H => ?_)
      have hE := Env.put_some hE rfl ea; clear ea
      refine t_call hE hR cl_sector_Cut rfl (S_sector_Cut x22_13) (M.unbind H) (fun x23_14 a w ea hR H => ?_)
      have hE := Env.put_some hE rfl ea; clear ea
      refine t_val (v := (x23_14 : Sl).v) rfl rfl hE rfl (r_assign hE rfl) (fun a hE => ?_)
      refine t_nil ?_
      refine hK_12 _ _ ?_
      refine w_seq (fun K hK_15 => ?_)
      refine w_seq (fun K hK_16 => ?_)
      obtain ⟨x27_17, qx27_17, H⟩ := H
      obtain ⟨x31_18, qx31_18, H⟩ := H
      obtain ⟨x29_19, qx29_19, H⟩ := H
      obtain ⟨x33_20, qx33_20, H⟩ := H
      have hT := tab_of tb12_7 rfl rfl
      refine d_start (fun w : World => (fun h : Heap => (hcell h ((x27_17).add 1) = some (.int .i64 x29_19)) ∧ (hcell h ((x31_18).add 4) = some (.int .i64 x33_20))) w.heap) [10, 11] #[false, false, false, false, false, false, false, false, false, false, false, false] mo hR rfl rfl (fun w' e => by rw [e]; exact ⟨qx29_19, qx33_20⟩) (fun w hh hR hs => ?_)
      replace H := M.at hh H; clear hh
      refine d_pureg (i := 0) (v := (x23_14 : Sl).v) #[true, false, false, false, false, false, false, false, false, false, false, false] rfl rfl hT (by kernel_rfl) hE rfl (wanted_none rfl) (fun w => r_move hE rfl) (fun a hE => ?_)
      refine d_pureg (i := 1) (v := .int .i64 (x23_14.len : Int)) #[true, true, false, false, false, false, false, false, false, false, false, false] rfl rfl hT (by kernel_rfl) hE rfl (wanted_none rfl) (fun w => r_len hE rfl 30 un32) (fun a hE => ?_)
      refine d_pureg (i := 2) (v := .pointer x0) #[true, true, true, false, false, false, false, false, false, false, false, false] rfl rfl hT (by kernel_rfl) hE rfl (wanted_none rfl) (fun w => r_move hE rfl) (fun a hE => ?_)
      refine d_pureg (i := 3) (v := .pointer (some x27_17)) #[true, true, true, true, false, false, false, false, false, false, false, false] rfl rfl hT (by kernel_rfl) hE rfl (wanted_none rfl) (fun w => r_nilCheck hE (hx_eq rfl (congrArg Value.pointer qx27_17))) (fun a hE => ?_)
      refine d_pureg (i := 4) (v := .pointer (some ((x27_17).add 1))) #[true, true, true, true, true, false, false, false, false, false, false, false] rfl rfl hT (by kernel_rfl) hE rfl (wanted_none rfl) (fun w => r_fieldAddr hE rfl fd40_1) (fun a hE => ?_)
      refine d_pureg (i := 6) (v := .pointer x0) #[true, true, true, true, true, false, true, false, false, false, false, false] rfl rfl hT (by kernel_rfl) hE rfl (wanted_none rfl) (fun w => r_move hE rfl) (fun a hE => ?_)
      refine d_pureg (i := 7) (v := .pointer (some x31_18)) #[true, true, true, true, true, false, true, true, false, false, false, false] rfl rfl hT (by kernel_rfl) hE rfl (wanted_none rfl) (fun w => r_nilCheck hE (hx_eq rfl (congrArg Value.pointer qx31_18))) (fun a hE => ?_)
      refine d_pureg (i := 8) (v := .pointer (some ((x31_18).add 4))) #[true, true, true, true, true, false, true, true, true, false, false, false] rfl rfl hT (by kernel_rfl) hE rfl (wanted_none rfl) (fun w => r_fieldAddr hE rfl fd40_4) (fun a hE => ?_)
      refine d_read (i := 5) (v := .int .i64 x29_19) #[true, true, true, true, true, true, true, true, true, false, false, false] rfl rfl hT (by kernel_rfl) hE rfl (wanted_none rfl) hs (fun w s => r_load hE rfl sc3 s.1) (fun a hE => ?_)
      refine d_read (i := 9) (v := .int .i64 x33_20) #[true, true, true, true, true, true, true, true, true, true, false, false] rfl rfl hT (by kernel_rfl) hE rfl (wanted_none rfl) hs (fun w s => r_load hE rfl sc3 s.2) (fun a hE => ?_)
      refine d_pureg (i := 10) (v := .int .i64 (IntKind.wrap .i64 (x29_19 - x33_20))) #[true, true, true, true, true, true, true, true, true, true, true, false] rfl rfl hT (by kernel_rfl) hE rfl (wanted_none rfl) (fun w => r_bin hE rfl rfl g_int b_sub) (fun a hE => ?_)
      refine d_pureg (i := 11) (v := .bool (decide ((x23_14.len : Int) > (IntKind.wrap .i64 (x29_19 - x33_20))))) #[true, true, true, true, true, true, true, true, true, true, true, true] rfl rfl hT (by kernel_rfl) hE rfl (wanted_none rfl) (fun w => r_bin hE rfl rfl g_int b_gtr) (fun a hE => ?_)
      refine d_done hT (by kernel_rfl) ?_
      refine hK_16 _ _ ?_
      refine w_cond (decide ((x23_14.len : Int) > (IntKind.wrap .i64 (x29_19 - x33_20)))) hE rfl (fun hb => ?_) (fun hb => ?_)
      · replace H := M.ite_t hb H
        refine w_seq (fun K hK_21 => ?_)
        refine t_region ?_
        refine t_val (v := .int .i64 6) rfl rfl hE rfl (r_assign hE rfl) (fun a hE => ?_)
        refine t_nil ?_
        refine hK_21 _ _ ?_
        refine w_ret ?_
        exact hret _ _ _ 6 _ hE hR (res_run hE rfl (RV.tmp rfl RV.nil)) rfl H
      · replace H := M.ite_f hb H
        refine w_skip ?_
        refine hK_15 _ _ ?_
        refine w_seq (fun K hK_22 => ?_)
        refine w_seq (fun K hK_23 => ?_)
        refine t_region ?_
        refine t_val (v := (x23_14 : Sl).v) rfl rfl hE rfl (r_move hE rfl) (fun a hE => ?_)
        refine t_val (v := .int .i64 (x23_14.len : Int)) rfl rfl hE rfl (r_len hE rfl 30 un32) (fun a hE => ?_)
        refine t_val (v := .int .i64 0) rfl rfl hE rfl (r_move hE rfl) (fun a hE => ?_)
        refine t_nil ?_
        refine hK_23 _ _ ?_
        refine w_block ?_
        refine l_loop (fun (s : Int) => (⟨97, []⟩ : Frm)) (fun (s : Int) => [(0, .pointer x0), (6, (x23_14 : Sl).v), (36, (x23_14 : Sl).v), (37, .int .i64 (x23_14.len : Int)), (38, .int .i64 s)]) H (hE.cut (.cons rfl (.cons rfl (.cons rfl (.cons rfl (.cons rfl Subs.nil)))))) hR (fun Y self1 hY_29 x38_24 a w hE hR H => ?_)
        replace hE : Env (⟨97, []⟩ : Frm) a [(0, .pointer x0), (6, (x23_14 : Sl).v), (36, (x23_14 : Sl).v), (37, .int .i64 (x23_14.len : Int)), (38, .int .i64 x38_24)] := hE
        replace H : (wal_Log_Append_l1 x0 x23_14 x23_14 (x23_14.len : Int) self1 x38_24).wp w.heap Q := H
        unfold wal_Log_Append_l1 at H
        refine w_seq (fun K hK_30 => ?_)
        refine t_region ?_
        refine t_val (v := .bool (decide (x38_24 < (x23_14.len : Int)))) rfl rfl hE rfl (r_bin hE rfl rfl g_int b_lss) (fun a hE => ?_)
        refine t_nil ?_
        refine hK_30 _ _ ?_
        refine w_seq (fun K hK_31 => ?_)
        refine w_cond (decide (x38_24 < (x23_14.len : Int))) hE rfl (fun hb => ?_) (fun hb => ?_)
        · replace H := M.ite_t hb H
          refine w_skip ?_
          refine hK_31 _ _ ?_
          refine w_seq (fun K hK_32 => ?_)
          refine w_block ?_
          refine w_seq (fun K hK_33 => ?_)
          refine t_region ?_
          refine t_val (v := .int .i64 x38_24) rfl rfl hE rfl (r_move hE rfl) (fun a hE => ?_)
          obtain ⟨x41_34, qx41_34, H⟩ := H
          refine t_val (v := .pointer (some x41_34)) rfl rfl hE rfl (r_indexAddrL hE rfl rfl un32 sz30 qx41_34) (fun a hE => ?_)
          obtain ⟨x42_35, qx42_35, H⟩ := H
          refine t_val (v := (x42_35 : Sl).v) rfl rfl hE rfl (r_load hE rfl sc30 qx42_35) (fun a hE => ?_)
          refine t_val (v := .int .i64 x38_24) rfl rfl hE rfl (r_assign hE rfl) (fun a hE => ?_)
          refine t_val (v := (x42_35 : Sl).v) rfl rfl hE rfl (r_assign hE rfl) (fun a hE => ?_)
          refine t_nil ?_
          refine hK_33 _ _ ?_
          refine w_seq (fun K hK_36 => ?_)
          refine t_region ?_
          refine t_val (v := .pointer x0) rfl rfl hE rfl (r_move hE rfl) (fun a hE => ?_)
          refine t_val (v := .pointer x0) rfl rfl hE rfl (r_move hE rfl) (fun a hE => ?_)
          obtain ⟨x45_37, qx45_37, H⟩ := H
          refine t_val (v := .pointer (some x45_37)) rfl rfl hE rfl (r_nilCheck hE (hx_eq rfl (congrArg Value.pointer qx45_37))) (fun a hE => ?_)
          refine t_val (v := .pointer (some ((x45_37).add 4))) rfl rfl hE rfl (r_fieldAddr hE rfl fd40_4) (fun a hE => ?_)
          obtain ⟨x47_38, qx47_38, H⟩ := H
          refine t_val (v := .int .i64 x47_38) rfl rfl hE rfl (r_load hE rfl sc3 qx47_38) (fun a hE => ?_)
          refine t_val (v := .int .i64 x38_24) rfl rfl hE rfl (r_move hE rfl) (fun a hE => ?_)
          refine t_val (v := .int .i64 (IntKind.wrap .i64 (x47_38 + x38_24))) rfl rfl hE rfl (r_bin hE rfl rfl g_int b_add) (fun a hE => ?_)
          refine t_call hE hR cl_wal_Log_at rfl (S_wal_Log_at x0 (IntKind.wrap .i64 (x47_38 + x38_24))) (M.unbind H) (fun x50_39 a w ea hR H => ?_)
          have hE := Env.put_some hE rfl ea; clear ea
          refine t_val (v := (x42_35 : Sl).v) rfl rfl hE rfl (r_move hE rfl) (fun a hE => ?_)
          refine t_val (v := .agg (#[.int .i64 2, .int .i64 x50_39, (x42_35 : Sl).v] : Array Value)) rfl rfl hE rfl (r_build hE rfl zr86 pl86 (by rfl)) (fun a hE => ?_)
          obtain ⟨x9_40, qx9_40, H⟩ := H
          refine t_valh (v := .pointer (some x9_40)) rfl rfl hE rfl hR (r_alloc zr86 qx9_40) (fun a w hE hR hh => ?_)
          replace H := M.at hh H; clear hh
          obtain ⟨qz, H⟩ := H
          obtain ⟨u_41, qu_41, H⟩ := H
          refine t_sth rfl rfl hE hR (r_storeG hE rfl rfl sz86 qz qu_41) (fun a w hE hR hh => ?_)
          replace H := M.at hh H; clear hh
          refine t_nil ?_
          refine hK_36 _ _ ?_
          refine w_seq_join (fun a w => Env (⟨97, []⟩ : Frm) a [(0, .pointer x0), (6, (x23_14 : Sl).v), (7, .int .i64 x38_24), (9, .pointer (some x9_40)), (36, (x23_14 : Sl).v), (37, .int .i64 (x23_14.len : Int)), (38, .int .i64 x38_24)] ∧ Rest w0 w ∧ (wal_Log_Append_j1 self1 x0 x38_24 x9_40 x38_24).wp w.heap Q) ?_ ?_
          · rintro a w ⟨hE, hR, H⟩
            unfold wal_Log_Append_j1 at H
            refine w_seq (fun K hK_49 => ?_)
            obtain ⟨x61_50, qx61_50, H⟩ := H
            obtain ⟨x65_51, qx65_51, H⟩ := H
            obtain ⟨x63_52, qx63_52, H⟩ := H
            obtain ⟨x67_53, qx67_53, H⟩ := H
            obtain ⟨x71_54, qx71_54, H⟩ := H
            refine reg_eq (rops := ro12_15) (by kernel_rfl) ?_
            have hT : Tab ro12_15 _ _ _ := tab_of tb12_15 rfl (by kernel_rfl)
            have hM := TabM.of tb12_15m
            refine d_start (m := 16) (fun w : World => (fun h : Heap => (hcell h ((x61_50).add 0) = some (.pointer x63_52)) ∧ (hcell h ((x65_51).add 4) = some (.int .i64 x67_53)) ∧ (x71_54.size = 3 ∧ ∀ i, i < 3 → hcell h (Addr.add x9_40 i) = x71_54[i]?)) w.heap) [13, 14, 15] (unb 16 0) mo hR (by kernel_rfl) (by kernel_rfl) (fun w' e => by rw [e]; exact ⟨qx63_52, qx67_53, qx71_54⟩) (fun w hh hR hs => ?_)
            replace H := M.at hh H; clear hh
            refine d_pureg (i := 0) (v := .pointer x0) (unb 16 1) rfl rfl hT (anyM hM (by kernel_rfl)) hE rfl (wanted_none rfl) (fun w => r_move hE rfl) (fun a hE => ?_)
            refine d_pureg (i := 1) (v := .pointer x0) (unb 16 3) rfl rfl hT (anyM hM (by kernel_rfl)) hE rfl (wanted_none rfl) (fun w => r_move hE rfl) (fun a hE => ?_)
            refine d_pureg (i := 2) (v := .pointer (some x61_50)) (unb 16 7) rfl rfl hT (anyM hM (by kernel_rfl)) hE rfl (wanted_none rfl) (fun w => r_nilCheck hE (hx_eq rfl (congrArg Value.pointer qx61_50))) (fun a hE => ?_)
            refine d_pureg (i := 3) (v := .pointer (some ((x61_50).add 0))) (unb 16 15) rfl rfl hT (anyM hM (by kernel_rfl)) hE rfl (wanted_none rfl) (fun w => r_fieldAddr hE rfl fd40_0) (fun a hE => ?_)
            refine d_pureg (i := 5) (v := .pointer x0) (unb 16 47) rfl rfl hT (anyM hM (by kernel_rfl)) hE rfl (wanted_none rfl) (fun w => r_move hE rfl) (fun a hE => ?_)
            refine d_pureg (i := 6) (v := .pointer (some x65_51)) (unb 16 111) rfl rfl hT (anyM hM (by kernel_rfl)) hE rfl (wanted_none rfl) (fun w => r_nilCheck hE (hx_eq rfl (congrArg Value.pointer qx65_51))) (fun a hE => ?_)
            refine d_pureg (i := 7) (v := .pointer (some ((x65_51).add 4))) (unb 16 239) rfl rfl hT (anyM hM (by kernel_rfl)) hE rfl (wanted_none rfl) (fun w => r_fieldAddr hE rfl fd40_4) (fun a hE => ?_)
            refine d_pureg (i := 10) (v := .int .i64 x38_24) (unb 16 1263) rfl rfl hT (anyM hM (by kernel_rfl)) hE rfl (wanted_none rfl) (fun w => r_move hE rfl) (fun a hE => ?_)
            refine d_read (i := 4) (v := .pointer x63_52) (unb 16 1279) rfl rfl hT (takeM hM (by kernel_rfl)) hE rfl (wanted_none rfl) hs (fun w s => r_load hE rfl sc23 s.1) (fun a hE => ?_)
            refine d_read (i := 8) (v := .int .i64 x67_53) (unb 16 1535) rfl rfl hT (takeM hM (by kernel_rfl)) hE rfl (wanted_none rfl) hs (fun w s => r_load hE rfl sc3 s.2.1) (fun a hE => ?_)
            refine d_pureg (i := 9) (v := .int .i64 (IntKind.wrap .i64 (2 + x67_53))) (unb 16 2047) rfl rfl hT (anyM hM (by kernel_rfl)) hE rfl (wanted_none rfl) (fun w => r_bin hE rfl rfl g_int b_add) (fun a hE => ?_)
            refine d_pureg (i := 11) (v := .int .i64 (IntKind.wrap .i64 ((IntKind.wrap .i64 (2 + x67_53)) + x38_24))) (unb 16 4095) rfl rfl hT (anyM hM (by kernel_rfl)) hE rfl (wanted_none rfl) (fun w => r_bin hE rfl rfl g_int b_add) (fun a hE => ?_)
            refine d_read (i := 12) (v := .agg x71_54) (unb 16 8191) rfl rfl hT (takeM hM (by kernel_rfl)) hE rfl (wanted_none rfl) hs (fun w s => r_loadG hE rfl ag86 s.2.2) (fun a hE => ?_)
            refine d_calll (i := 13) (unb 16 16383) rfl rfl rfl hT (oneM hM (by kernel_rfl)) rfl hE hR (wanted_none rfl) cl_sector_Put rfl (S_sector_Put x63_52 (IntKind.wrap .i64 ((IntKind.wrap .i64 (2 + x67_53)) + x38_24)) x71_54) (M.unbind H) (fun x72_55 a w ea hR H => ?_)
            have hE := Env.put_some hE rfl ea; clear ea
            refine d_calll (i := 14) (unb 16 32767) rfl rfl rfl hT (oneM hM (by kernel_rfl)) rfl hE hR (wanted_none rfl) cl_wal_Log_told rfl (S_wal_Log_told x0 x72_55) (M.unbind H) (fun x73_56 a w ea hR H => ?_)
            have hE := Env.put_some hE rfl ea; clear ea
            refine d_pureg (i := 15) (v := .int .i64 x73_56) (unb 16 65535) rfl rfl hT (anyM hM (by kernel_rfl)) hE rfl (wanted_none rfl) (fun w => r_assign hE rfl) (fun a hE => ?_)
            refine d_done hT (doneM hM (by kernel_rfl)) ?_
            refine hK_49 _ _ ?_
            refine w_seq (fun K hK_57 => ?_)
            refine t_region ?_
            refine t_val (v := .int .i64 x73_56) rfl rfl hE rfl (r_move hE rfl) (fun a hE => ?_)
            refine t_val (v := .bool (x73_56 != 0)) rfl rfl hE rfl (r_bin hE rfl rfl g_int b_neq) (fun a hE => ?_)
            refine t_nil ?_
            refine hK_57 _ _ ?_
            refine w_cond (x73_56 != 0) hE rfl (fun hb => ?_) (fun hb => ?_)
            · replace H := M.ite_t hb H
              refine w_seq (fun K hK_58 => ?_)
              refine t_region ?_
              refine t_val (v := .int .i64 x73_56) rfl rfl hE rfl (r_move hE rfl) (fun a hE => ?_)
              refine t_val (v := .int .i64 x73_56) rfl rfl hE rfl (r_assign hE rfl) (fun a hE => ?_)
              refine t_nil ?_
              refine hK_58 _ _ ?_
              refine w_ret ?_
              exact hret _ _ _ x73_56 _ hE hR (res_run hE rfl (RV.tmp rfl RV.nil)) rfl H
            · replace H := M.ite_f hb H
              refine w_skip ?_
              refine hK_32 _ _ ?_
              refine t_region ?_
              refine t_val (v := .int .i64 (IntKind.wrap .i64 (x38_24 + 1))) rfl rfl hE rfl (r_bin hE rfl rfl g_int b_add) (fun a hE => ?_)
              refine t_val (v := .int .i64 (IntKind.wrap .i64 (x38_24 + 1))) rfl rfl hE rfl (r_move hE rfl) (fun a hE => ?_)
              refine t_nil ?_
              exact hY_29 (IntKind.wrap .i64 (x38_24 + 1)) _ _ (hE.cut (.cons rfl (.cons rfl (.cons rfl (.cons rfl (.cons rfl Subs.nil)))))) hR H
          · skip
            refine w_seq (fun K hK_59 => ?_)
            refine t_region ?_
            refine t_val (v := .int .i64 x38_24) rfl rfl hE rfl (r_move hE rfl) (fun a hE => ?_)
            refine t_val (v := (x23_14 : Sl).v) rfl rfl hE rfl (r_move hE rfl) (fun a hE => ?_)
            refine t_val (v := .int .i64 (x23_14.len : Int)) rfl rfl hE rfl (r_len hE rfl 30 un32) (fun a hE => ?_)
            refine t_val (v := .int .i64 (IntKind.wrap .i64 ((x23_14.len : Int) - 1))) rfl rfl hE rfl (r_bin hE rfl rfl g_int b_sub) (fun a hE => ?_)
            refine t_val (v := .bool (x38_24 == (IntKind.wrap .i64 ((x23_14.len : Int) - 1)))) rfl rfl hE rfl (r_bin hE rfl rfl g_int b_eql) (fun a hE => ?_)
            refine t_nil ?_
            refine hK_59 _ _ ?_
            refine w_cond (x38_24 == (IntKind.wrap .i64 ((x23_14.len : Int) - 1))) hE rfl (fun hb => ?_) (fun hb => ?_)
            · replace H := M.ite_t hb H
              refine t_region ?_
              refine t_val (v := .pointer (some ((x9_40).add 0))) rfl rfl hE rfl (r_fieldAddr hE rfl fd86_0) (fun a hE => ?_)
              obtain ⟨u_60, qu_60, H⟩ := H
              refine t_sth rfl rfl hE hR (r_store hE rfl rfl sz3 qu_60) (fun a w hE hR hh => ?_)
              replace H := M.at hh H; clear hh
              refine t_nil ?_
              exact ⟨hE.cut (.cons rfl (.cons rfl (.cons rfl (.cons rfl (.cons rfl (.cons rfl (.cons rfl Subs.nil))))))), hR, H⟩
            · replace H := M.ite_f hb H
              refine w_skip ?_
              exact ⟨hE.cut (.cons rfl (.cons rfl (.cons rfl (.cons rfl (.cons rfl (.cons rfl (.cons rfl Subs.nil))))))), hR, H⟩
        · replace H := M.ite_f hb H
          refine w_exit ?_
          refine Xu.same ?_
          refine hK_22 _ _ ?_
          refine w_seq (fun K hK_61 => ?_)
          refine w_seq (fun K hK_62 => ?_)
          refine t_region ?_
          refine t_val (v := .pointer x0) rfl rfl hE rfl (r_move hE rfl) (fun a hE => ?_)
          refine t_val (v := .pointer x0) rfl rfl hE rfl (r_move hE rfl) (fun a hE => ?_)
          obtain ⟨x80_63, qx80_63, H⟩ := H
          refine t_val (v := .pointer (some x80_63)) rfl rfl hE rfl (r_nilCheck hE (hx_eq rfl (congrArg Value.pointer qx80_63))) (fun a hE => ?_)
          refine t_val (v := .pointer (some ((x80_63).add 0))) rfl rfl hE rfl (r_fieldAddr hE rfl fd40_0) (fun a hE => ?_)
          obtain ⟨x82_64, qx82_64, H⟩ := H
          refine t_val (v := .pointer x82_64) rfl rfl hE rfl (r_load hE rfl sc23 qx82_64) (fun a hE => ?_)
          refine t_call hE hR cl_disk_Disk_Flush rfl (S_disk_Disk_Flush x82_64) (M.unbind H) (fun x83_65 a w ea hR H => ?_)
          have hE := Env.put_some hE rfl ea; clear ea
          refine t_call hE hR cl_wal_Log_told rfl (S_wal_Log_told x0 x83_65) (M.unbind H) (fun x84_66 a w ea hR H => ?_)
          have hE := Env.put_some hE rfl ea; clear ea
          refine t_val (v := .int .i64 x84_66) rfl rfl hE rfl (r_assign hE rfl) (fun a hE => ?_)
          refine t_nil ?_
          refine hK_62 _ _ ?_
          refine w_seq (fun K hK_67 => ?_)
          refine t_region ?_
          refine t_val (v := .int .i64 x84_66) rfl rfl hE rfl (r_move hE rfl) (fun a hE => ?_)
          refine t_val (v := .bool (x84_66 != 0)) rfl rfl hE rfl (r_bin hE rfl rfl g_int b_neq) (fun a hE => ?_)
          refine t_nil ?_
          refine hK_67 _ _ ?_
          refine w_cond (x84_66 != 0) hE rfl (fun hb => ?_) (fun hb => ?_)
          · replace H := M.ite_t hb H
            refine w_seq (fun K hK_68 => ?_)
            refine t_region ?_
            refine t_val (v := .int .i64 x84_66) rfl rfl hE rfl (r_move hE rfl) (fun a hE => ?_)
            refine t_val (v := .int .i64 x84_66) rfl rfl hE rfl (r_assign hE rfl) (fun a hE => ?_)
            refine t_nil ?_
            refine hK_68 _ _ ?_
            refine w_ret ?_
            exact hret _ _ _ x84_66 _ hE hR (res_run hE rfl (RV.tmp rfl RV.nil)) rfl H
          · replace H := M.ite_f hb H
            refine w_skip ?_
            refine hK_61 _ _ ?_
            refine w_seq (fun K hK_69 => ?_)
            refine t_region ?_
            refine t_val (v := .pointer x0) rfl rfl hE rfl (r_move hE rfl) (fun a hE => ?_)
            obtain ⟨x89_70, qx89_70, H⟩ := H
            refine t_val (v := .pointer (some x89_70)) rfl rfl hE rfl (r_nilCheck hE (hx_eq rfl (congrArg Value.pointer qx89_70))) (fun a hE => ?_)
            refine t_val (v := .pointer (some ((x89_70).add 4))) rfl rfl hE rfl (r_fieldAddr hE rfl fd40_4) (fun a hE => ?_)
            obtain ⟨x91_71, qx91_71, H⟩ := H
            refine t_val (v := .int .i64 x91_71) rfl rfl hE rfl (r_load hE rfl sc3 qx91_71) (fun a hE => ?_)
            refine t_val (v := (x23_14 : Sl).v) rfl rfl hE rfl (r_move hE rfl) (fun a hE => ?_)
            refine t_val (v := .int .i64 (x23_14.len : Int)) rfl rfl hE rfl (r_len hE rfl 30 un32) (fun a hE => ?_)
            refine t_val (v := .int .i64 (IntKind.wrap .i64 (x91_71 + (x23_14.len : Int)))) rfl rfl hE rfl (r_bin hE rfl rfl g_int b_add) (fun a hE => ?_)
            obtain ⟨x95_72, qx95_72, H⟩ := H
            refine t_val (v := .pointer (some x95_72)) rfl rfl hE rfl (r_nilCheck hE (hx_eq rfl (congrArg Value.pointer qx95_72))) (fun a hE => ?_)
            refine t_val (v := .pointer (some ((x95_72).add 4))) rfl rfl hE rfl (r_fieldAddr hE rfl fd40_4) (fun a hE => ?_)
            obtain ⟨u_73, qu_73, H⟩ := H
            refine t_sth rfl rfl hE hR (r_store hE rfl rfl sz3 qu_73) (fun a w hE hR hh => ?_)
            replace H := M.at hh H; clear hh
            refine t_nil ?_
            refine hK_69 _ _ ?_
            refine w_seq (fun K hK_74 => ?_)
            refine t_region ?_
            refine t_val (v := .int .i64 0) rfl rfl hE rfl (r_assign hE rfl) (fun a hE => ?_)
            refine t_nil ?_
            refine hK_74 _ _ ?_
            refine w_ret ?_
            exact hret _ _ _ 0 _ hE hR (res_run hE rfl (RV.tmp rfl RV.nil)) rfl H

/-- (*ramble/wal.Log).Reset -/
def wal_Log_Reset (x0 : Option Addr) : M (Int) := do
  let x7_4 ← wal_Log_can x0
  M.ite (x7_4 != 0) (do
    M.pure x7_4
    ) (do
    let x12_9 ← nilP x0
    let x14_10 ← ldI .i64 ((x12_9).add 3)
    M.ite (decide (x14_10 ≥ 1099511627776)) (do
      M.pure 6
      ) (do
      let x19_14 ← nilP x0
      let x21_15 ← ldI .i64 ((x19_14).add 3)
      let x23_16 ← wal_Log_head x0 (IntKind.wrap .i64 (x21_15 + 1))
      let x24_17 ← wal_Log_told x0 x23_16
      M.ite (x24_17 != 0) (do
        M.pure x24_17
        ) (do
        let x30_22 ← nilP x0
        let x32_23 ← ldP ((x30_22).add 0)
        let x33_24 ← disk_Disk_Flush x32_23
        let x34_25 ← wal_Log_told x0 x33_24
        M.ite (x34_25 != 0) (do
          M.pure x34_25
          ) (do
          let x39_29 ← nilP x0
          let x41_30 ← ldI .i64 ((x39_29).add 3)
          let x43_31 ← nilP x0
          stV ((x43_31).add 3) (.int .i64 (IntKind.wrap .i64 (x41_30 + 1)))
          let x47_34 ← nilP x0
          stV ((x47_34).add 4) (.int .i64 0)
          let x49_36 ← nilP x0
          stV ((x49_36).add 5) (.bool false)
          M.pure 0
          )
        )
      )
    )
theorem S_wal_Log_Reset (x0 : Option Addr) : Sound Go.Proofs.Try.prog 13 #[.pointer x0] (fun (r : Int) => .int .i64 r) (wal_Log_Reset x0) := by
  refine sound_of [(0, .pointer x0)] Go.Proofs.Try.func13 rfl rfl (Nat.le_of_ble_eq_true rfl) (args_of ⟨rfl, trivial⟩) (fun w0 w Q R a hret hE hR H => ?_)
  unfold wal_Log_Reset at H
  refine w_seq (fun K hK_1 => ?_)
  refine t_region ?_
  refine t_val (v := .int .i64 0) rfl rfl hE rfl (r_assign hE rfl) (fun a hE => ?_)
  refine t_nil ?_
  refine hK_1 _ _ ?_
  refine w_seq (fun K hK_2 => ?_)
  refine w_seq (fun K hK_3 => ?_)
  refine t_region ?_
  refine t_val (v := .pointer x0) rfl rfl hE rfl (r_move hE rfl) (fun a hE => ?_)
  refine t_call hE hR cl_wal_Log_can rfl (S_wal_Log_can x0) (M.unbind H) (fun x7_4 a w ea hR H => ?_)
  have hE := Env.put_some hE rfl ea; clear ea
  refine t_val (v := .int .i64 x7_4) rfl rfl hE rfl (r_assign hE rfl) (fun a hE => ?_)
  refine t_nil ?_
  refine hK_3 _ _ ?_
  refine w_seq (fun K hK_5 => ?_)
  refine t_region ?_
  refine t_val (v := .int .i64 x7_4) rfl rfl hE rfl (r_move hE rfl) (fun a hE => ?_)
  refine t_val (v := .bool (x7_4 != 0)) rfl rfl hE rfl (r_bin hE rfl rfl g_int b_neq) (fun a hE => ?_)
  refine t_nil ?_
  refine hK_5 _ _ ?_
  refine w_cond (x7_4 != 0) hE rfl (fun hb => ?_) (fun hb => ?_)
  · replace H := M.ite_t hb H
    refine w_seq (fun K hK_6 => ?_)
    refine t_region ?_
    refine t_val (v := .int .i64 x7_4) rfl rfl hE rfl (r_move hE rfl) (fun a hE => ?_)
    refine t_val (v := .int .i64 x7_4) rfl rfl hE rfl (r_assign hE rfl) (fun a hE => ?_)
    refine t_nil ?_
    refine hK_6 _ _ ?_
    refine w_ret ?_
    exact hret _ _ _ x7_4 _ hE hR (res_run hE rfl (RV.tmp rfl RV.nil)) rfl H
  · replace H := M.ite_f hb H
    refine w_skip ?_
    refine hK_2 _ _ ?_
    refine w_seq (fun K hK_7 => ?_)
    refine w_seq (fun K hK_8 => ?_)
    refine t_region ?_
    refine t_val (v := .pointer x0) rfl rfl hE rfl (r_move hE rfl) (fun a hE => ?_)
    obtain ⟨x12_9, qx12_9, H⟩ := H
    refine t_val (v := .pointer (some x12_9)) rfl rfl hE rfl (r_nilCheck hE (hx_eq rfl (congrArg Value.pointer qx12_9))) (fun a hE => ?_)
    refine t_val (v := .pointer (some ((x12_9).add 3))) rfl rfl hE rfl (r_fieldAddr hE rfl fd40_3) (fun a hE => ?_)
    obtain ⟨x14_10, qx14_10, H⟩ := H
    refine t_val (v := .int .i64 x14_10) rfl rfl hE rfl (r_load hE rfl sc2 qx14_10) (fun a hE => ?_)
    refine t_val (v := .bool (decide (x14_10 ≥ 1099511627776))) rfl rfl hE rfl (r_bin hE rfl rfl g_int b_geq) (fun a hE => ?_)
    refine t_nil ?_
    refine hK_8 _ _ ?_
    refine w_cond (decide (x14_10 ≥ 1099511627776)) hE rfl (fun hb => ?_) (fun hb => ?_)
    · replace H := M.ite_t hb H
      refine w_seq (fun K hK_11 => ?_)
      refine t_region ?_
      refine t_val (v := .int .i64 6) rfl rfl hE rfl (r_assign hE rfl) (fun a hE => ?_)
      refine t_nil ?_
      refine hK_11 _ _ ?_
      refine w_ret ?_
      exact hret _ _ _ 6 _ hE hR (res_run hE rfl (RV.tmp rfl RV.nil)) rfl H
    · replace H := M.ite_f hb H
      refine w_skip ?_
      refine hK_7 _ _ ?_
      refine w_seq (fun K hK_12 => ?_)
      refine w_seq (fun K hK_13 => ?_)
      refine t_region ?_
      refine t_val (v := .pointer x0) rfl rfl hE rfl (r_move hE rfl) (fun a hE => ?_)
      refine t_val (v := .pointer x0) rfl rfl hE rfl (r_move hE rfl) (fun a hE => ?_)
      refine t_val (v := .pointer x0) rfl rfl hE rfl (r_move hE rfl) (fun a hE => ?_)
      obtain ⟨x19_14, qx19_14, H⟩ := H
      refine t_val (v := .pointer (some x19_14)) rfl rfl hE rfl (r_nilCheck hE (hx_eq rfl (congrArg Value.pointer qx19_14))) (fun a hE => ?_)
      refine t_val (v := .pointer (some ((x19_14).add 3))) rfl rfl hE rfl (r_fieldAddr hE rfl fd40_3) (fun a hE => ?_)
      obtain ⟨x21_15, qx21_15, H⟩ := H
      refine t_val (v := .int .i64 x21_15) rfl rfl hE rfl (r_load hE rfl sc2 qx21_15) (fun a hE => ?_)
      refine t_val (v := .int .i64 (IntKind.wrap .i64 (x21_15 + 1))) rfl rfl hE rfl (r_bin hE rfl rfl g_int b_add) (fun a hE => ?_)
      refine t_call hE hR cl_wal_Log_head rfl (S_wal_Log_head x0 (IntKind.wrap .i64 (x21_15 + 1))) (M.unbind H) (fun x23_16 a w ea hR H => ?_)
      have hE := Env.put_some hE rfl ea; clear ea
      refine t_call hE hR cl_wal_Log_told rfl (S_wal_Log_told x0 x23_16) (M.unbind H) (fun x24_17 a w ea hR H => ?_)
      have hE := Env.put_some hE rfl ea; clear ea
      refine t_val (v := .int .i64 x24_17) rfl rfl hE rfl (r_assign hE rfl) (fun a hE => ?_)
      refine t_nil ?_
      refine hK_13 _ _ ?_
      refine w_seq (fun K hK_18 => ?_)
      refine t_region ?_
      refine t_val (v := .int .i64 x24_17) rfl rfl hE rfl (r_move hE rfl) (fun a hE => ?_)
      refine t_val (v := .bool (x24_17 != 0)) rfl rfl hE rfl (r_bin hE rfl rfl g_int b_neq) (fun a hE => ?_)
      refine t_nil ?_
      refine hK_18 _ _ ?_
      refine w_cond (x24_17 != 0) hE rfl (fun hb => ?_) (fun hb => ?_)
      · replace H := M.ite_t hb H
        refine w_seq (fun K hK_19 => ?_)
        refine t_region ?_
        refine t_val (v := .int .i64 x24_17) rfl rfl hE rfl (r_move hE rfl) (fun a hE => ?_)
        refine t_val (v := .int .i64 x24_17) rfl rfl hE rfl (r_assign hE rfl) (fun a hE => ?_)
        refine t_nil ?_
        refine hK_19 _ _ ?_
        refine w_ret ?_
        exact hret _ _ _ x24_17 _ hE hR (res_run hE rfl (RV.tmp rfl RV.nil)) rfl H
      · replace H := M.ite_f hb H
        refine w_skip ?_
        refine hK_12 _ _ ?_
        refine w_seq (fun K hK_20 => ?_)
        refine w_seq (fun K hK_21 => ?_)
        refine t_region ?_
        refine t_val (v := .pointer x0) rfl rfl hE rfl (r_move hE rfl) (fun a hE => ?_)
        refine t_val (v := .pointer x0) rfl rfl hE rfl (r_move hE rfl) (fun a hE => ?_)
        obtain ⟨x30_22, qx30_22, H⟩ := H
        refine t_val (v := .pointer (some x30_22)) rfl rfl hE rfl (r_nilCheck hE (hx_eq rfl (congrArg Value.pointer qx30_22))) (fun a hE => ?_)
        refine t_val (v := .pointer (some ((x30_22).add 0))) rfl rfl hE rfl (r_fieldAddr hE rfl fd40_0) (fun a hE => ?_)
        obtain ⟨x32_23, qx32_23, H⟩ := H
        refine t_val (v := .pointer x32_23) rfl rfl hE rfl (r_load hE rfl sc23 qx32_23) (fun a hE => ?_)
        refine t_call hE hR cl_disk_Disk_Flush rfl (S_disk_Disk_Flush x32_23) (M.unbind H) (fun x33_24 a w ea hR H => ?_)
        have hE := Env.put_some hE rfl ea; clear ea
        refine t_call hE hR cl_wal_Log_told rfl (S_wal_Log_told x0 x33_24) (M.unbind H) (fun x34_25 a w ea hR H => ?_)
        have hE := Env.put_some hE rfl ea; clear ea
        refine t_val (v := .int .i64 x34_25) rfl rfl hE rfl (r_assign hE rfl) (fun a hE => ?_)
        refine t_nil ?_
        refine hK_21 _ _ ?_
        refine w_seq (fun K hK_26 => ?_)
        refine t_region ?_
        refine t_val (v := .int .i64 x34_25) rfl rfl hE rfl (r_move hE rfl) (fun a hE => ?_)
        refine t_val (v := .bool (x34_25 != 0)) rfl rfl hE rfl (r_bin hE rfl rfl g_int b_neq) (fun a hE => ?_)
        refine t_nil ?_
        refine hK_26 _ _ ?_
        refine w_cond (x34_25 != 0) hE rfl (fun hb => ?_) (fun hb => ?_)
        · replace H := M.ite_t hb H
          refine w_seq (fun K hK_27 => ?_)
          refine t_region ?_
          refine t_val (v := .int .i64 x34_25) rfl rfl hE rfl (r_move hE rfl) (fun a hE => ?_)
          refine t_val (v := .int .i64 x34_25) rfl rfl hE rfl (r_assign hE rfl) (fun a hE => ?_)
          refine t_nil ?_
          refine hK_27 _ _ ?_
          refine w_ret ?_
          exact hret _ _ _ x34_25 _ hE hR (res_run hE rfl (RV.tmp rfl RV.nil)) rfl H
        · replace H := M.ite_f hb H
          refine w_skip ?_
          refine hK_20 _ _ ?_
          refine w_seq (fun K hK_28 => ?_)
          refine t_region ?_
          refine t_val (v := .pointer x0) rfl rfl hE rfl (r_move hE rfl) (fun a hE => ?_)
          obtain ⟨x39_29, qx39_29, H⟩ := H
          refine t_val (v := .pointer (some x39_29)) rfl rfl hE rfl (r_nilCheck hE (hx_eq rfl (congrArg Value.pointer qx39_29))) (fun a hE => ?_)
          refine t_val (v := .pointer (some ((x39_29).add 3))) rfl rfl hE rfl (r_fieldAddr hE rfl fd40_3) (fun a hE => ?_)
          obtain ⟨x41_30, qx41_30, H⟩ := H
          refine t_val (v := .int .i64 x41_30) rfl rfl hE rfl (r_load hE rfl sc2 qx41_30) (fun a hE => ?_)
          refine t_val (v := .int .i64 (IntKind.wrap .i64 (x41_30 + 1))) rfl rfl hE rfl (r_bin hE rfl rfl g_int b_add) (fun a hE => ?_)
          obtain ⟨x43_31, qx43_31, H⟩ := H
          refine t_val (v := .pointer (some x43_31)) rfl rfl hE rfl (r_nilCheck hE (hx_eq rfl (congrArg Value.pointer qx43_31))) (fun a hE => ?_)
          refine t_val (v := .pointer (some ((x43_31).add 3))) rfl rfl hE rfl (r_fieldAddr hE rfl fd40_3) (fun a hE => ?_)
          obtain ⟨u_32, qu_32, H⟩ := H
          refine t_sth rfl rfl hE hR (r_store hE rfl rfl sz2 qu_32) (fun a w hE hR hh => ?_)
          replace H := M.at hh H; clear hh
          refine t_nil ?_
          refine hK_28 _ _ ?_
          refine w_seq (fun K hK_33 => ?_)
          refine t_region ?_
          refine t_val (v := .pointer x0) rfl rfl hE rfl (r_move hE rfl) (fun a hE => ?_)
          refine t_val (v := .pointer x0) rfl rfl hE rfl (r_move hE rfl) (fun a hE => ?_)
          obtain ⟨x47_34, qx47_34, H⟩ := H
          refine t_val (v := .pointer (some x47_34)) rfl rfl hE rfl (r_nilCheck hE (hx_eq rfl (congrArg Value.pointer qx47_34))) (fun a hE => ?_)
          refine t_val (v := .pointer (some ((x47_34).add 4))) rfl rfl hE rfl (r_fieldAddr hE rfl fd40_4) (fun a hE => ?_)
          obtain ⟨u_35, qu_35, H⟩ := H
          refine t_sth rfl rfl hE hR (r_store hE rfl rfl sz3 qu_35) (fun a w hE hR hh => ?_)
          replace H := M.at hh H; clear hh
          obtain ⟨x49_36, qx49_36, H⟩ := H
          refine t_val (v := .pointer (some x49_36)) rfl rfl hE rfl (r_nilCheck hE (hx_eq rfl (congrArg Value.pointer qx49_36))) (fun a hE => ?_)
          refine t_val (v := .pointer (some ((x49_36).add 5))) rfl rfl hE rfl (r_fieldAddr hE rfl fd40_5) (fun a hE => ?_)
          obtain ⟨u_37, qu_37, H⟩ := H
          refine t_sth rfl rfl hE hR (r_store hE rfl rfl sz4 qu_37) (fun a w hE hR hh => ?_)
          replace H := M.at hh H; clear hh
          refine t_nil ?_
          refine hK_33 _ _ ?_
          refine w_seq (fun K hK_38 => ?_)
          refine t_region ?_
          refine t_val (v := .int .i64 0) rfl rfl hE rfl (r_assign hE rfl) (fun a hE => ?_)
          refine t_nil ?_
          refine hK_38 _ _ ?_
          refine w_ret ?_
          exact hret _ _ _ 0 _ hE hR (res_run hE rfl (RV.tmp rfl RV.nil)) rfl H

/-- (*ramble/disk.Disk).Down -/
def disk_Disk_Down (x0 : Option Addr) : M (Bool) := do
  let x4_3 ← disk_Disk_none x0
  let x11_4 ← M.ite (!x4_3) (do
    let x8_5 ← nilP x0
    let x10_6 ← ldB ((x8_5).add 3)
    M.pure x10_6
    ) (do
    M.pure false
    )
  M.pure x11_4
theorem S_disk_Disk_Down (x0 : Option Addr) : Sound Go.Proofs.Try.prog 31 #[.pointer x0] (fun (r : Bool) => .bool r) (disk_Disk_Down x0) := by
  refine sound_of [(0, .pointer x0)] Go.Proofs.Try.func31 rfl rfl (Nat.le_of_ble_eq_true rfl) (args_of ⟨rfl, trivial⟩) (fun w0 w Q R a hret hE hR H => ?_)
  unfold disk_Disk_Down at H
  refine w_seq (fun K hK_1 => ?_)
  refine t_region ?_
  refine t_val (v := .bool false) rfl rfl hE rfl (r_assign hE rfl) (fun a hE => ?_)
  refine t_nil ?_
  refine hK_1 _ _ ?_
  refine w_seq (fun K hK_2 => ?_)
  refine t_region ?_
  refine t_val (v := .pointer x0) rfl rfl hE rfl (r_move hE rfl) (fun a hE => ?_)
  refine t_call hE hR cl_disk_Disk_none rfl (S_disk_Disk_none x0) (M.unbind H) (fun x4_3 a w ea hR H => ?_)
  have hE := Env.put_some hE rfl ea; clear ea
  refine t_val (v := .bool (!x4_3)) rfl rfl hE rfl (r_un hE rfl u_not) (fun a hE => ?_)
  refine t_val (v := .bool (!x4_3)) rfl rfl hE rfl (r_move hE rfl) (fun a hE => ?_)
  refine t_grp (n := (⟨12, []⟩ : Frm)) (w0 := w0) 5 (fun x11_4 : Bool => [(2, .bool false), (11, .bool x11_4)]) (M.unbind H) (fun Kr hKr H => ?_) ?_
  · rcases bool_em (!x4_3) with hb | hb
    · replace H := M.ite_t hb H
      have hE := hE.reb 6 (!x4_3) true hb rfl
      refine t_on rfl hE rfl rfl rfl ?_
      refine t_val (v := .pointer x0) rfl rfl hE rfl (r_move hE rfl) (fun a hE => ?_)
      refine t_on rfl hE rfl rfl rfl ?_
      obtain ⟨x8_5, qx8_5, H⟩ := H
      refine t_val (v := .pointer (some x8_5)) rfl rfl hE rfl (r_nilCheck hE (hx_eq rfl (congrArg Value.pointer qx8_5))) (fun a hE => ?_)
      refine t_on rfl hE rfl rfl rfl ?_
      refine t_val (v := .pointer (some ((x8_5).add 3))) rfl rfl hE rfl (r_fieldAddr hE rfl fd66_3) (fun a hE => ?_)
      refine t_on rfl hE rfl rfl rfl ?_
      obtain ⟨x10_6, qx10_6, H⟩ := H
      refine t_val (v := .bool x10_6) rfl rfl hE rfl (r_load hE rfl sc4 qx10_6) (fun a hE => ?_)
      refine t_val rfl rfl hE rfl (r_pick_t hE rfl rfl) (fun a hE => ?_)
      refine t_nil ?_
      exact hKr _ _ _ (hE.cut (.cons rfl (.cons rfl Subs.nil))) hR H
    · replace H := M.ite_f hb H
      have hE := hE.reb 6 (!x4_3) false hb rfl
      refine t_off rfl hE rfl rfl rfl (fun a ea => ?_)
      have hE := Env.put_some hE rfl ea; clear ea
      refine t_off rfl hE rfl rfl rfl (fun a ea => ?_)
      have hE := Env.put_some hE rfl ea; clear ea
      refine t_off rfl hE rfl rfl rfl (fun a ea => ?_)
      have hE := Env.put_some hE rfl ea; clear ea
      refine t_off rfl hE rfl rfl rfl (fun a ea => ?_)
      have hE := Env.put_some hE rfl ea; clear ea
      refine t_val rfl rfl hE rfl (r_pick_f hE rfl rfl) (fun a hE => ?_)
      refine t_nil ?_
      exact hKr _ _ _ (hE.cut (.cons rfl (.cons rfl Subs.nil))) hR H
  · intro x11_4 a w hE hR H
    refine t_val (v := .bool x11_4) rfl rfl hE rfl (r_assign hE rfl) (fun a hE => ?_)
    refine t_nil ?_
    refine hK_2 _ _ ?_
    refine w_ret ?_
    exact hret _ _ _ x11_4 _ hE hR (res_run hE rfl (RV.tmp rfl RV.nil)) rfl H

/-- (*ramble/disk.Disk).Read -/
def disk_Disk_Read (x0 : Option Addr) (x1 : Int) : M (Array Value × Int) := do
  let x4_2 ← mkB ty_api_Sector (Array.replicate 128 (.int .u8 0) : Array Value)
  let x11_5 ← disk_Disk_can x0
  M.ite (x11_5 != 0) (do
    M.need ((Array.replicate 128 (.int .u8 0) : Array Value).size = 128)
    stG x4_2 (Array.replicate 128 (.int .u8 0) : Array Value)
    let r4_9 ← ldG 128 x4_2
    M.pure (r4_9, x11_5)
    ) (do
    let x18_12 ← disk_Disk_there x0 x1
    M.ite (x18_12 != 0) (do
      M.need ((Array.replicate 128 (.int .u8 0) : Array Value).size = 128)
      stG x4_2 (Array.replicate 128 (.int .u8 0) : Array Value)
      let r4_16 ← ldG 128 x4_2
      M.pure (r4_16, x18_12)
      ) (do
      let x25_19 ← nilP x0
      let x27_20 ← ldMp ((x25_19).add 2)
      let x29_21 ← lkM (fun v : Array Value => .agg v) (.int .i64) (.int .i64 x1) (.agg (Array.replicate 128 (.int .u8 0) : Array Value)) x27_20
      let x8_22 ← mkB ty_api_Sector (Array.replicate 128 (.int .u8 0) : Array Value)
      M.need (x29_21.1.size = 128)
      stG x8_22 x29_21.1
      M.ite x29_21.2 (do
        let x33_26 ← ldG 128 x8_22
        M.need (x33_26.size = 128)
        stG x4_2 x33_26
        let r4_28 ← ldG 128 x4_2
        M.pure (r4_28, 0)
        ) (do
        let x35_31 ← nilP x0
        let x37_32 ← ldL ((x35_31).add 1)
        let x39_33 ← ixL x37_32 x1 1
        let x40_34 ← ldB x39_33
        M.ite x40_34 (do
          M.need ((Array.replicate 128 (.int .u8 0) : Array Value).size = 128)
          stG x4_2 (Array.replicate 128 (.int .u8 0) : Array Value)
          let r4_37 ← ldG 128 x4_2
          M.pure (r4_37, 40)
          ) (do
          let x43_39 ← nilP x0
          let x45_40 ← ldL ((x43_39).add 0)
          let x47_41 ← ixL x45_40 x1 128
          let x48_42 ← ldG 128 x47_41
          M.need (x48_42.size = 128)
          stG x4_2 x48_42
          let r4_44 ← ldG 128 x4_2
          M.pure (r4_44, 0)
          )
        )
      )
    )
theorem S_disk_Disk_Read (x0 : Option Addr) (x1 : Int) : Sound Go.Proofs.Try.prog 27 #[.pointer x0, .int .i64 x1] (fun (r : Array Value × Int) => .tuple #[.agg r.1, .int .i64 r.2]) (disk_Disk_Read x0 x1) := by
  refine sound_of [(0, .pointer x0), (1, .int .i64 x1)] Go.Proofs.Try.func27 rfl rfl (Nat.le_of_ble_eq_true rfl) (args_of ⟨rfl, rfl, trivial⟩) (fun w0 w Q R a hret hE hR H => ?_)
  unfold disk_Disk_Read at H
  refine w_seq (fun K hK_1 => ?_)
  refine t_region ?_
  obtain ⟨x4_2, qx4_2, H⟩ := H
  refine t_valh (v := .pointer (some x4_2)) rfl rfl hE rfl hR (r_alloc zr47 qx4_2) (fun a w hE hR hh => ?_)
  replace H := M.at hh H; clear hh
  refine t_val (v := .int .i64 0) rfl rfl hE rfl (r_assign hE rfl) (fun a hE => ?_)
  refine t_nil ?_
  refine hK_1 _ _ ?_
  refine w_seq (fun K hK_3 => ?_)
  refine w_seq (fun K hK_4 => ?_)
  refine t_region ?_
  refine t_val (v := .pointer x0) rfl rfl hE rfl (r_move hE rfl) (fun a hE => ?_)
  refine t_call hE hR cl_disk_Disk_can rfl (S_disk_Disk_can x0) (M.unbind H) (fun x11_5 a w ea hR H => ?_)
  have hE := Env.put_some hE rfl ea; clear ea
  refine t_val (v := .int .i64 x11_5) rfl rfl hE rfl (r_assign hE rfl) (fun a hE => ?_)
  refine t_nil ?_
  refine hK_4 _ _ ?_
  refine w_seq (fun K hK_6 => ?_)
  refine t_region ?_
  refine t_val (v := .int .i64 x11_5) rfl rfl hE rfl (r_move hE rfl) (fun a hE => ?_)
  refine t_val (v := .bool (x11_5 != 0)) rfl rfl hE rfl (r_bin hE rfl rfl g_int b_neq) (fun a hE => ?_)
  refine t_nil ?_
  refine hK_6 _ _ ?_
  refine w_cond (x11_5 != 0) hE rfl (fun hb => ?_) (fun hb => ?_)
  · replace H := M.ite_t hb H
    refine w_seq (fun K hK_7 => ?_)
    refine t_region ?_
    refine t_val (v := .agg (Array.replicate 128 (.int .u8 0) : Array Value)) rfl rfl hE rfl (r_build0 bd47) (fun a hE => ?_)
    refine t_val (v := .int .i64 x11_5) rfl rfl hE rfl (r_move hE rfl) (fun a hE => ?_)
    obtain ⟨qz, H⟩ := H
    obtain ⟨u_8, qu_8, H⟩ := H
    refine t_sth rfl rfl hE hR (r_storeG hE rfl rfl sz47 qz qu_8) (fun a w hE hR hh => ?_)
    replace H := M.at hh H; clear hh
    refine t_val (v := .int .i64 x11_5) rfl rfl hE rfl (r_assign hE rfl) (fun a hE => ?_)
    refine t_nil ?_
    refine hK_7 _ _ ?_
    refine w_ret ?_
    obtain ⟨r4_9, qr4_9, H⟩ := H
    exact hret _ _ _ (r4_9, x11_5) _ hE hR (res_run hE rfl (RV.cellG rfl ag47 qr4_9 (RV.tmp rfl RV.nil))) rfl H
  · replace H := M.ite_f hb H
    refine w_skip ?_
    refine hK_3 _ _ ?_
    refine w_seq (fun K hK_10 => ?_)
    refine w_seq (fun K hK_11 => ?_)
    refine t_region ?_
    refine t_val (v := .pointer x0) rfl rfl hE rfl (r_move hE rfl) (fun a hE => ?_)
    refine t_val (v := .int .i64 x1) rfl rfl hE rfl (r_move hE rfl) (fun a hE => ?_)
    refine t_call hE hR cl_disk_Disk_there rfl (S_disk_Disk_there x0 x1) (M.unbind H) (fun x18_12 a w ea hR H => ?_)
    have hE := Env.put_some hE rfl ea; clear ea
    refine t_val (v := .int .i64 x18_12) rfl rfl hE rfl (r_assign hE rfl) (fun a hE => ?_)
    refine t_nil ?_
    refine hK_11 _ _ ?_
    refine w_seq (fun K hK_13 => ?_)
    refine t_region ?_
    refine t_val (v := .int .i64 x18_12) rfl rfl hE rfl (r_move hE rfl) (fun a hE => ?_)
    refine t_val (v := .bool (x18_12 != 0)) rfl rfl hE rfl (r_bin hE rfl rfl g_int b_neq) (fun a hE => ?_)
    refine t_nil ?_
    refine hK_13 _ _ ?_
    refine w_cond (x18_12 != 0) hE rfl (fun hb => ?_) (fun hb => ?_)
    · replace H := M.ite_t hb H
      refine w_seq (fun K hK_14 => ?_)
      refine t_region ?_
      refine t_val (v := .agg (Array.replicate 128 (.int .u8 0) : Array Value)) rfl rfl hE rfl (r_build0 bd47) (fun a hE => ?_)
      refine t_val (v := .int .i64 x18_12) rfl rfl hE rfl (r_move hE rfl) (fun a hE => ?_)
      obtain ⟨qz, H⟩ := H
      obtain ⟨u_15, qu_15, H⟩ := H
      refine t_sth rfl rfl hE hR (r_storeG hE rfl rfl sz47 qz qu_15) (fun a w hE hR hh => ?_)
      replace H := M.at hh H; clear hh
      refine t_val (v := .int .i64 x18_12) rfl rfl hE rfl (r_assign hE rfl) (fun a hE => ?_)
      refine t_nil ?_
      refine hK_14 _ _ ?_
      refine w_ret ?_
      obtain ⟨r4_16, qr4_16, H⟩ := H
      exact hret _ _ _ (r4_16, x18_12) _ hE hR (res_run hE rfl (RV.cellG rfl ag47 qr4_16 (RV.tmp rfl RV.nil))) rfl H
    · replace H := M.ite_f hb H
      refine w_skip ?_
      refine hK_10 _ _ ?_
      refine w_seq (fun K hK_17 => ?_)
      refine w_seq (fun K hK_18 => ?_)
      refine t_region ?_
      refine t_val (v := .pointer x0) rfl rfl hE rfl (r_move hE rfl) (fun a hE => ?_)
      obtain ⟨x25_19, qx25_19, H⟩ := H
      refine t_val (v := .pointer (some x25_19)) rfl rfl hE rfl (r_nilCheck hE (hx_eq rfl (congrArg Value.pointer qx25_19))) (fun a hE => ?_)
      refine t_val (v := .pointer (some ((x25_19).add 2))) rfl rfl hE rfl (r_fieldAddr hE rfl fd66_2) (fun a hE => ?_)
      obtain ⟨x27_20, qx27_20, H⟩ := H
      refine t_val (v := .map x27_20) rfl rfl hE rfl (r_load hE rfl sc64 qx27_20) (fun a hE => ?_)
      refine t_val (v := .int .i64 x1) rfl rfl hE rfl (r_move hE rfl) (fun a hE => ?_)
      obtain ⟨x29_21, qx29_21, H⟩ := H
      refine t_val (v := .tuple #[.agg x29_21.1, .bool x29_21.2]) rfl rfl hE rfl (r_lookup2 (dec := (fun v : Array Value => .agg v)) hE rfl rfl un64 un3 rfl zr47 qx29_21) (fun a hE => ?_)
      refine t_val (v := .tuple #[.agg x29_21.1, .bool x29_21.2]) rfl rfl hE rfl (r_move hE rfl) (fun a hE => ?_)
      refine t_val (v := .agg x29_21.1) rfl rfl hE rfl (r_extract hE rfl rfl) (fun a hE => ?_)
      refine t_val (v := .bool x29_21.2) rfl rfl hE rfl (r_extract hE rfl rfl) (fun a hE => ?_)
      obtain ⟨x8_22, qx8_22, H⟩ := H
      refine t_valh (v := .pointer (some x8_22)) rfl rfl hE rfl hR (r_alloc zr47 qx8_22) (fun a w hE hR hh => ?_)
      replace H := M.at hh H; clear hh
      obtain ⟨qz, H⟩ := H
      obtain ⟨u_23, qu_23, H⟩ := H
      refine t_sth rfl rfl hE hR (r_storeG hE rfl rfl sz47 qz qu_23) (fun a w hE hR hh => ?_)
      replace H := M.at hh H; clear hh
      refine t_val (v := .bool x29_21.2) rfl rfl hE rfl (r_assign hE rfl) (fun a hE => ?_)
      refine t_nil ?_
      refine hK_18 _ _ ?_
      refine w_seq (fun K hK_24 => ?_)
      refine t_region ?_
      refine t_val (v := .bool x29_21.2) rfl rfl hE rfl (r_move hE rfl) (fun a hE => ?_)
      refine t_nil ?_
      refine hK_24 _ _ ?_
      refine w_cond x29_21.2 hE rfl (fun hb => ?_) (fun hb => ?_)
      · replace H := M.ite_t hb H
        refine w_seq (fun K hK_25 => ?_)
        refine t_region ?_
        obtain ⟨x33_26, qx33_26, H⟩ := H
        refine t_val (v := .agg x33_26) rfl rfl hE rfl (r_loadG hE rfl ag47 qx33_26) (fun a hE => ?_)
        obtain ⟨qz, H⟩ := H
        obtain ⟨u_27, qu_27, H⟩ := H
        refine t_sth rfl rfl hE hR (r_storeG hE rfl rfl sz47 qz qu_27) (fun a w hE hR hh => ?_)
        replace H := M.at hh H; clear hh
        refine t_val (v := .int .i64 0) rfl rfl hE rfl (r_assign hE rfl) (fun a hE => ?_)
        refine t_nil ?_
        refine hK_25 _ _ ?_
        refine w_ret ?_
        obtain ⟨r4_28, qr4_28, H⟩ := H
        exact hret _ _ _ (r4_28, 0) _ hE hR (res_run hE rfl (RV.cellG rfl ag47 qr4_28 (RV.tmp rfl RV.nil))) rfl H
      · replace H := M.ite_f hb H
        refine w_skip ?_
        refine hK_17 _ _ ?_
        refine w_seq (fun K hK_29 => ?_)
        refine w_seq (fun K hK_30 => ?_)
        refine t_region ?_
        refine t_val (v := .pointer x0) rfl rfl hE rfl (r_move hE rfl) (fun a hE => ?_)
        obtain ⟨x35_31, qx35_31, H⟩ := H
        refine t_val (v := .pointer (some x35_31)) rfl rfl hE rfl (r_nilCheck hE (hx_eq rfl (congrArg Value.pointer qx35_31))) (fun a hE => ?_)
        refine t_val (v := .pointer (some ((x35_31).add 1))) rfl rfl hE rfl (r_fieldAddr hE rfl fd66_1) (fun a hE => ?_)
        obtain ⟨x37_32, qx37_32, H⟩ := H
        refine t_val (v := (x37_32 : Sl).v) rfl rfl hE rfl (r_load hE rfl sc45 qx37_32) (fun a hE => ?_)
        refine t_val (v := .int .i64 x1) rfl rfl hE rfl (r_move hE rfl) (fun a hE => ?_)
        obtain ⟨x39_33, qx39_33, H⟩ := H
        refine t_val (v := .pointer (some x39_33)) rfl rfl hE rfl (r_indexAddrL hE rfl rfl un45 sz4 qx39_33) (fun a hE => ?_)
        obtain ⟨x40_34, qx40_34, H⟩ := H
        refine t_val (v := .bool x40_34) rfl rfl hE rfl (r_load hE rfl sc4 qx40_34) (fun a hE => ?_)
        refine t_nil ?_
        refine hK_30 _ _ ?_
        refine w_cond x40_34 hE rfl (fun hb => ?_) (fun hb => ?_)
        · replace H := M.ite_t hb H
          refine w_seq (fun K hK_35 => ?_)
          refine t_region ?_
          refine t_val (v := .agg (Array.replicate 128 (.int .u8 0) : Array Value)) rfl rfl hE rfl (r_build0 bd47) (fun a hE => ?_)
          obtain ⟨qz, H⟩ := H
          obtain ⟨u_36, qu_36, H⟩ := H
          refine t_sth rfl rfl hE hR (r_storeG hE rfl rfl sz47 qz qu_36) (fun a w hE hR hh => ?_)
          replace H := M.at hh H; clear hh
          refine t_val (v := .int .i64 40) rfl rfl hE rfl (r_assign hE rfl) (fun a hE => ?_)
          refine t_nil ?_
          refine hK_35 _ _ ?_
          refine w_ret ?_
          obtain ⟨r4_37, qr4_37, H⟩ := H
          exact hret _ _ _ (r4_37, 40) _ hE hR (res_run hE rfl (RV.cellG rfl ag47 qr4_37 (RV.tmp rfl RV.nil))) rfl H
        · replace H := M.ite_f hb H
          refine w_skip ?_
          refine hK_29 _ _ ?_
          refine w_seq (fun K hK_38 => ?_)
          refine t_region ?_
          refine t_val (v := .pointer x0) rfl rfl hE rfl (r_move hE rfl) (fun a hE => ?_)
          obtain ⟨x43_39, qx43_39, H⟩ := H
          refine t_val (v := .pointer (some x43_39)) rfl rfl hE rfl (r_nilCheck hE (hx_eq rfl (congrArg Value.pointer qx43_39))) (fun a hE => ?_)
          refine t_val (v := .pointer (some ((x43_39).add 0))) rfl rfl hE rfl (r_fieldAddr hE rfl fd66_0) (fun a hE => ?_)
          obtain ⟨x45_40, qx45_40, H⟩ := H
          refine t_val (v := (x45_40 : Sl).v) rfl rfl hE rfl (r_load hE rfl sc63 qx45_40) (fun a hE => ?_)
          refine t_val (v := .int .i64 x1) rfl rfl hE rfl (r_move hE rfl) (fun a hE => ?_)
          obtain ⟨x47_41, qx47_41, H⟩ := H
          refine t_val (v := .pointer (some x47_41)) rfl rfl hE rfl (r_indexAddrL hE rfl rfl un63 sz47 qx47_41) (fun a hE => ?_)
          obtain ⟨x48_42, qx48_42, H⟩ := H
          refine t_val (v := .agg x48_42) rfl rfl hE rfl (r_loadG hE rfl ag47 qx48_42) (fun a hE => ?_)
          obtain ⟨qz, H⟩ := H
          obtain ⟨u_43, qu_43, H⟩ := H
          refine t_sth rfl rfl hE hR (r_storeG hE rfl rfl sz47 qz qu_43) (fun a w hE hR hh => ?_)
          replace H := M.at hh H; clear hh
          refine t_val (v := .int .i64 0) rfl rfl hE rfl (r_assign hE rfl) (fun a hE => ?_)
          refine t_nil ?_
          refine hK_38 _ _ ?_
          refine w_ret ?_
          obtain ⟨r4_44, qr4_44, H⟩ := H
          exact hret _ _ _ (r4_44, 0) _ hE hR (res_run hE rfl (RV.cellG rfl ag47 qr4_44 (RV.tmp rfl RV.nil))) rfl H

end Gx
namespace Gx
open Go
set_option linter.unusedVariables false
set_option maxRecDepth 100000
/-- ramble/sector.Open -/
theorem tb67_4 : tabAt Go.Proofs.Try.f67 4 [[], [0], [1], [], [3], [4], [5], [2, 6], [], [8, 7, 6, 0, 1, 2, 3, 4, 5, 6, 7, 8]] [[], [0], [1], [], [3], [4], [5], [2, 6], [], [7, 8]] [[], [0], [0, 1], [], [3], [3, 4], [3, 4, 5], [0, 1, 2, 3, 4, 5, 6], [], [0, 1, 2, 3, 4, 5, 6, 7, 8]] = true := by kernel_rfl
def sector_Open_l1 (c1_28 : Addr) (c2_29 : Addr) (c5_30 : Addr) (c25_31 : Sl) (c26_32 : Int) (self1 : (Int × Int) → M (Array Value × Int)) : (Int × Int) → M (Array Value × Int) := fun s => match s with
  | (x6_26, x27_27) => do
    M.ite (decide (x27_27 < c26_32)) (do
      let x29_38 ← ixL c25_31 x27_27 1
      let x30_39 ← ldI .u8 x29_38
      self1 (iOr .u64 (iShl .u64 x6_26 8) (IntKind.wrap .u64 x30_39), IntKind.wrap .i64 (x27_27 + 1))
      ) (do
      stV ((c5_30).add 1) (.int .i64 (IntKind.wrap .i64 x6_26))
      let x41_44 ← ldG 3 c5_30
      let x42_45 ← sector_Seal x41_44
      let x9_46 ← mkB ty_api_Sector (Array.replicate 128 (.int .u8 0) : Array Value)
      M.need (x42_45.1.size = 128)
      stG x9_46 x42_45.1
      let x51_49 ← M.ite (x42_45.2 != 0) (do
        M.pure true
        ) (do
        let x48_50 ← ldG 128 x9_46
        let x49_51 ← ldG 128 c1_28
        let x50_52 ← eqA .u8 128 x48_50 x49_51
        M.pure (!x50_52)
        )
      M.ite x51_49 (do
        M.need ((#[.int .i64 0, .int .i64 0, .slice none 0 0] : Array Value).size = 3)
        stG c2_29 (#[.int .i64 0, .int .i64 0, .slice none 0 0] : Array Value)
        let r2_55 ← ldG 3 c2_29
        M.pure (r2_55, 50)
        ) (do
        let x53_57 ← ldG 3 c5_30
        M.need (x53_57.size = 3)
        stG c2_29 x53_57
        let r2_59 ← ldG 3 c2_29
        M.pure (r2_59, 0)
        )
      )
def sector_Open (x0 : Array Value) : M (Array Value × Int) := do
  let x1_2 ← mkB ty_api_Sector x0
  let x2_3 ← mkB ty_api_Frame (#[.int .i64 0, .int .i64 0, .slice none 0 0] : Array Value)
  let x11_5 ← ixA x1_2 128 1 1
  let x12_6 ← ldI .u8 x11_5
  M.ite (decide ((IntKind.wrap .i64 x12_6) > 112)) (do
    M.need ((#[.int .i64 0, .int .i64 0, .slice none 0 0] : Array Value).size = 3)
    stG x2_3 (#[.int .i64 0, .int .i64 0, .slice none 0 0] : Array Value)
    let r2_11 ← ldG 3 x2_3
    M.pure (r2_11, 50)
    ) (do
    let x17_13 ← ixA x1_2 128 0 1
    let x22_14 ← slA x1_2 128 10 (IntKind.wrap .i64 (10 + (IntKind.wrap .i64 x12_6))) 1
    let x18_15 ← ldI .u8 x17_13
    let y_20 ← do
      M.both (do
        let x23_16 ← slices_Clone_slbyte_byte x22_14
        chk (fun h : Heap => (hcell h x17_13 = some (.int .u8 x18_15)))
        let x5_17 ← mkB ty_api_Frame (#[.int .i64 0, .int .i64 0, .slice none 0 0] : Array Value)
        chk (fun h : Heap => (hcell h x17_13 = some (.int .u8 x18_15)))
        M.pure (x5_17, x23_16, (#[.int .i64 (IntKind.wrap .i64 x18_15), .int .i64 0, (x23_16 : Sl).v] : Array Value))
        ) (do
        let x5_18 ← mkB ty_api_Frame (#[.int .i64 0, .int .i64 0, .slice none 0 0] : Array Value)
        chk (fun h : Heap => (hcell h x17_13 = some (.int .u8 x18_15)))
        let x23_19 ← slices_Clone_slbyte_byte x22_14
        chk (fun h : Heap => (hcell h x17_13 = some (.int .u8 x18_15)))
        M.pure (x5_18, x23_19, (#[.int .i64 (IntKind.wrap .i64 x18_15), .int .i64 0, (x23_19 : Sl).v] : Array Value))
        )
    M.need (y_20.2.2.size = 3)
    stG y_20.1 y_20.2.2
    let x25_25 ← slA x1_2 128 2 10 1
    M.loop (sector_Open_l1 x1_2 x2_3 y_20.1 x25_25 (x25_25.len : Int)) (0, 0)
    )
theorem S_sector_Open (x0 : Array Value) : Sound Go.Proofs.Try.prog 67 #[.agg x0] (fun (r : Array Value × Int) => .tuple #[.agg r.1, .int .i64 r.2]) (sector_Open x0) := by
  refine sound_of [(0, .agg x0)] Go.Proofs.Try.func67 rfl rfl (Nat.le_of_ble_eq_true rfl) (args_of ⟨rfl, trivial⟩) (fun w0 w Q R a hret hE hR H => ?_)
  unfold sector_Open at H
  refine w_seq (fun K hK_1 => ?_)
  refine t_region ?_
  obtain ⟨x1_2, qx1_2, H⟩ := H
  refine t_valh (v := .pointer (some x1_2)) rfl rfl hE rfl hR (r_box hE rfl qx1_2) (fun a w hE hR hh => ?_)
  replace H := M.at hh H; clear hh
  obtain ⟨x2_3, qx2_3, H⟩ := H
  refine t_valh (v := .pointer (some x2_3)) rfl rfl hE rfl hR (r_alloc zr86 qx2_3) (fun a w hE hR hh => ?_)
  replace H := M.at hh H; clear hh
  refine t_val (v := .int .i64 0) rfl rfl hE rfl (r_assign hE rfl) (fun a hE => ?_)
  refine t_nil ?_
  refine hK_1 _ _ ?_
  refine w_seq (fun K hK_4 => ?_)
  refine t_region ?_
  obtain ⟨x11_5, qx11_5, H⟩ := H
  refine t_val (v := .pointer (some x11_5)) rfl rfl hE rfl (r_indexAddrA hE rfl rfl un47 sz5 qx11_5) (fun a hE => ?_)
  obtain ⟨x12_6, qx12_6, H⟩ := H
  refine t_val (v := .int .u8 x12_6) rfl rfl hE rfl (r_load hE rfl sc5 qx12_6) (fun a hE => ?_)
  refine t_val (v := .int .i64 (IntKind.wrap .i64 x12_6)) rfl rfl hE rfl (r_convI hE rfl un5 un3) (fun a hE => ?_)
  refine t_val (v := .int .i64 (IntKind.wrap .i64 x12_6)) rfl rfl hE rfl (r_assign hE rfl) (fun a hE => ?_)
  refine t_nil ?_
  refine hK_4 _ _ ?_
  refine w_seq (fun K hK_7 => ?_)
  refine w_seq (fun K hK_8 => ?_)
  refine t_region ?_
  refine t_val (v := .int .i64 (IntKind.wrap .i64 x12_6)) rfl rfl hE rfl (r_move hE rfl) (fun a hE => ?_)
  refine t_val (v := .bool (decide ((IntKind.wrap .i64 x12_6) > 112))) rfl rfl hE rfl (r_bin hE rfl rfl g_int b_gtr) (fun a hE => ?_)
  refine t_nil ?_
  refine hK_8 _ _ ?_
  refine w_cond (decide ((IntKind.wrap .i64 x12_6) > 112)) hE rfl (fun hb => ?_) (fun hb => ?_)
  · replace H := M.ite_t hb H
    refine w_seq (fun K hK_9 => ?_)
    refine t_region ?_
    refine t_val (v := .agg (#[.int .i64 0, .int .i64 0, .slice none 0 0] : Array Value)) rfl rfl hE rfl (r_build0 bd86) (fun a hE => ?_)
    obtain ⟨qz, H⟩ := H
    obtain ⟨u_10, qu_10, H⟩ := H
    refine t_sth rfl rfl hE hR (r_storeG hE rfl rfl sz86 qz qu_10) (fun a w hE hR hh => ?_)
    replace H := M.at hh H; clear hh
    refine t_val (v := .int .i64 50) rfl rfl hE rfl (r_assign hE rfl) (fun a hE => ?_)
    refine t_nil ?_
    refine hK_9 _ _ ?_
    refine w_ret ?_
    obtain ⟨r2_11, qr2_11, H⟩ := H
    exact hret _ _ _ (r2_11, 50) _ hE hR (res_run hE rfl (RV.cellG rfl ag86 qr2_11 (RV.tmp rfl RV.nil))) rfl H
  · replace H := M.ite_f hb H
    refine w_skip ?_
    refine hK_7 _ _ ?_
    refine w_seq (fun K hK_12 => ?_)
    obtain ⟨x17_13, qx17_13, H⟩ := H
    obtain ⟨x22_14, qx22_14, H⟩ := H
    obtain ⟨x18_15, qx18_15, H⟩ := H
    have hT := tab_of tb67_4 rfl rfl
    refine d_start (fun w : World => (fun h : Heap => (hcell h x17_13 = some (.int .u8 x18_15))) w.heap) [2, 7, 9] #[false, false, false, false, false, false, false, false, false, false] mo hR rfl rfl (fun w' e => by rw [e]; exact qx18_15) (fun w hh hR hs => ?_)
    replace H := M.at hh H; clear hh
    refine d_pureg (i := 0) (v := .pointer (some x17_13)) #[true, false, false, false, false, false, false, false, false, false] rfl rfl hT (by kernel_rfl) hE rfl (wanted_none rfl) (fun w => r_indexAddrA hE rfl rfl un47 sz5 qx17_13) (fun a hE => ?_)
    refine d_pureg (i := 3) (v := .int .i64 (IntKind.wrap .i64 x12_6)) #[true, false, false, true, false, false, false, false, false, false] rfl rfl hT (by kernel_rfl) hE rfl (wanted_none rfl) (fun w => r_move hE rfl) (fun a hE => ?_)
    refine d_pureg (i := 4) (v := .int .i64 (IntKind.wrap .i64 (10 + (IntKind.wrap .i64 x12_6)))) #[true, false, false, true, true, false, false, false, false, false] rfl rfl hT (by kernel_rfl) hE rfl (wanted_none rfl) (fun w => r_bin hE rfl rfl g_int b_add) (fun a hE => ?_)
    refine d_pureg (i := 5) (v := (x22_14 : Sl).v) #[true, false, false, true, true, true, false, false, false, false] rfl rfl hT (by kernel_rfl) hE rfl (wanted_none rfl) (fun w => r_sliceA_lh hE rfl rfl rfl un47 sz5 qx22_14) (fun a hE => ?_)
    refine d_read (i := 1) (v := .int .u8 x18_15) #[true, true, false, true, true, true, false, false, false, false] rfl rfl hT (by kernel_rfl) hE rfl (wanted_none rfl) hs (fun w s => r_load hE rfl sc5 s) (fun a hE => ?_)
    refine d_pureg (i := 2) (v := .int .i64 (IntKind.wrap .i64 x18_15)) #[true, true, true, true, true, true, false, false, false, false] rfl rfl hT (by kernel_rfl) hE rfl (wanted_none rfl) (fun w => r_convI hE rfl un5 un3) (fun a hE => ?_)
    refine d_join (n := (⟨54, []⟩ : Frm)) (w0 := w0) (fun y_20 : Addr × Sl × Array Value => [(0, .agg x0), (1, .pointer (some x1_2)), (2, .pointer (some x2_3)), (3, .int .i64 0), (11, .pointer (some x11_5)), (12, .int .u8 x12_6), (13, .int .i64 (IntKind.wrap .i64 x12_6)), (4, .int .i64 (IntKind.wrap .i64 x12_6)), (14, .int .i64 (IntKind.wrap .i64 x12_6)), (15, .bool (decide ((IntKind.wrap .i64 x12_6) > 112))), (17, .pointer (some x17_13)), (20, .int .i64 (IntKind.wrap .i64 x12_6)), (21, .int .i64 (IntKind.wrap .i64 (10 + (IntKind.wrap .i64 x12_6)))), (22, (x22_14 : Sl).v), (18, .int .u8 x18_15), (19, .int .i64 (IntKind.wrap .i64 x18_15)), (5, .pointer (some y_20.1)), (23, (y_20.2.1 : Sl).v), (24, .agg y_20.2.2)]) 1 #[true, true, true, true, true, true, true, true, true, false] (M.unbind H) ?_ ?_
    · intro y_20 a w hE hR H
      obtain ⟨qz, H⟩ := H
      obtain ⟨u_21, qu_21, H⟩ := H
      refine d_stlh (i := 9) #[true, true, true, true, true, true, true, true, true, true] rfl rfl hT (by kernel_rfl) rfl hE hR (wanted_none rfl) (r_storeG hE rfl rfl sz86 qz qu_21)  (fun a w hE hR hh => ?_)
      replace H := M.at hh H; clear hh
      refine d_done hT (by kernel_rfl) ?_
      refine hK_12 _ _ ?_
      refine w_seq (fun K hK_22 => ?_)
      refine t_region ?_
      refine t_val (v := .int .u64 0) rfl rfl hE rfl (r_assign hE rfl) (fun a hE => ?_)
      refine t_nil ?_
      refine hK_22 _ _ ?_
      refine w_seq (fun K hK_23 => ?_)
      refine w_seq (fun K hK_24 => ?_)
      refine t_region ?_
      obtain ⟨x25_25, qx25_25, H⟩ := H
      refine t_val (v := (x25_25 : Sl).v) rfl rfl hE rfl (r_sliceA_lh hE rfl rfl rfl un47 sz5 qx25_25) (fun a hE => ?_)
      refine t_val (v := .int .i64 (x25_25.len : Int)) rfl rfl hE rfl (r_len hE rfl 5 un30) (fun a hE => ?_)
      refine t_val (v := .int .i64 0) rfl rfl hE rfl (r_move hE rfl) (fun a hE => ?_)
      refine t_nil ?_
      refine hK_24 _ _ ?_
      refine w_block ?_
      refine l_loop (fun (s : Int × Int) => (⟨54, []⟩ : Frm)) (fun (s : Int × Int) => [(1, .pointer (some x1_2)), (2, .pointer (some x2_3)), (5, .pointer (some y_20.1)), (6, .int .u64 s.1), (25, (x25_25 : Sl).v), (26, .int .i64 (x25_25.len : Int)), (27, .int .i64 s.2)]) H (hE.cut (.cons rfl (.cons rfl (.cons rfl (.cons rfl (.cons rfl (.cons rfl (.cons rfl Subs.nil)))))))) hR (fun Y self1 hY_33 s a w hE hR H => ?_)
      rcases s with ⟨x6_26, x27_27⟩
      replace hE : Env (⟨54, []⟩ : Frm) a [(1, .pointer (some x1_2)), (2, .pointer (some x2_3)), (5, .pointer (some y_20.1)), (6, .int .u64 x6_26), (25, (x25_25 : Sl).v), (26, .int .i64 (x25_25.len : Int)), (27, .int .i64 x27_27)] := hE
      replace H : (sector_Open_l1 x1_2 x2_3 y_20.1 x25_25 (x25_25.len : Int) self1 (x6_26, x27_27)).wp w.heap Q := H
      unfold sector_Open_l1 at H
      refine w_seq (fun K hK_34 => ?_)
      refine t_region ?_
      refine t_val (v := .bool (decide (x27_27 < (x25_25.len : Int)))) rfl rfl hE rfl (r_bin hE rfl rfl g_int b_lss) (fun a hE => ?_)
      refine t_nil ?_
      refine hK_34 _ _ ?_
      refine w_seq (fun K hK_35 => ?_)
      refine w_cond (decide (x27_27 < (x25_25.len : Int))) hE rfl (fun hb => ?_) (fun hb => ?_)
      · replace H := M.ite_t hb H
        refine w_skip ?_
        refine hK_35 _ _ ?_
        refine w_seq (fun K hK_36 => ?_)
        refine w_block ?_
        refine w_seq (fun K hK_37 => ?_)
        refine t_region ?_
        obtain ⟨x29_38, qx29_38, H⟩ := H
        refine t_val (v := .pointer (some x29_38)) rfl rfl hE rfl (r_indexAddrL hE rfl rfl un30 sz5 qx29_38) (fun a hE => ?_)
        obtain ⟨x30_39, qx30_39, H⟩ := H
        refine t_val (v := .int .u8 x30_39) rfl rfl hE rfl (r_load hE rfl sc5 qx30_39) (fun a hE => ?_)
        refine t_val (v := .int .u8 x30_39) rfl rfl hE rfl (r_assign hE rfl) (fun a hE => ?_)
        refine t_nil ?_
        refine hK_37 _ _ ?_
        refine t_region ?_
        refine t_val (v := .int .u64 x6_26) rfl rfl hE rfl (r_move hE rfl) (fun a hE => ?_)
        refine t_val (v := .int .u64 (iShl .u64 x6_26 8)) rfl rfl hE rfl (r_bin hE rfl rfl g_int (b_shl ⟨by decide, rfl⟩)) (fun a hE => ?_)
        refine t_val (v := .int .u8 x30_39) rfl rfl hE rfl (r_move hE rfl) (fun a hE => ?_)
        refine t_val (v := .int .u64 (IntKind.wrap .u64 x30_39)) rfl rfl hE rfl (r_convI hE rfl un5 un106) (fun a hE => ?_)
        refine t_val (v := .int .u64 (iOr .u64 (iShl .u64 x6_26 8) (IntKind.wrap .u64 x30_39))) rfl rfl hE rfl (r_bin hE rfl rfl g_int b_or) (fun a hE => ?_)
        refine t_val (v := .int .u64 (iOr .u64 (iShl .u64 x6_26 8) (IntKind.wrap .u64 x30_39))) rfl rfl hE rfl (r_assign hE rfl) (fun a hE => ?_)
        refine t_nil ?_
        refine hK_36 _ _ ?_
        refine t_region ?_
        refine t_val (v := .int .i64 (IntKind.wrap .i64 (x27_27 + 1))) rfl rfl hE rfl (r_bin hE rfl rfl g_int b_add) (fun a hE => ?_)
        refine t_val (v := .int .i64 (IntKind.wrap .i64 (x27_27 + 1))) rfl rfl hE rfl (r_move hE rfl) (fun a hE => ?_)
        refine t_nil ?_
        exact hY_33 (iOr .u64 (iShl .u64 x6_26 8) (IntKind.wrap .u64 x30_39), IntKind.wrap .i64 (x27_27 + 1)) _ _ (hE.cut (.cons rfl (.cons rfl (.cons rfl (.cons rfl (.cons rfl (.cons rfl (.cons rfl Subs.nil)))))))) hR H
      · replace H := M.ite_f hb H
        refine w_exit ?_
        refine Xu.same ?_
        refine hK_23 _ _ ?_
        refine w_seq (fun K hK_40 => ?_)
        refine t_region ?_
        refine t_val (v := .int .u64 x6_26) rfl rfl hE rfl (r_move hE rfl) (fun a hE => ?_)
        refine t_val (v := .int .i64 (IntKind.wrap .i64 x6_26)) rfl rfl hE rfl (r_convI hE rfl un106 un2) (fun a hE => ?_)
        refine t_val (v := .pointer (some ((y_20.1).add 1))) rfl rfl hE rfl (r_fieldAddr hE rfl fd86_1) (fun a hE => ?_)
        obtain ⟨u_41, qu_41, H⟩ := H
        refine t_sth rfl rfl hE hR (r_store hE rfl rfl sz2 qu_41) (fun a w hE hR hh => ?_)
        replace H := M.at hh H; clear hh
        refine t_nil ?_
        refine hK_40 _ _ ?_
        refine w_seq (fun K hK_42 => ?_)
        refine w_seq (fun K hK_43 => ?_)
        refine t_region ?_
        obtain ⟨x41_44, qx41_44, H⟩ := H
        refine t_val (v := .agg x41_44) rfl rfl hE rfl (r_loadG hE rfl ag86 qx41_44) (fun a hE => ?_)
        refine t_call hE hR cl_sector_Seal rfl (S_sector_Seal x41_44) (M.unbind H) (fun x42_45 a w ea hR H => ?_)
        have hE := Env.put_some hE rfl ea; clear ea
        refine t_val (v := .tuple #[.agg x42_45.1, .int .i64 x42_45.2]) rfl rfl hE rfl (r_move hE rfl) (fun a hE => ?_)
        refine t_val (v := .agg x42_45.1) rfl rfl hE rfl (r_extract hE rfl rfl) (fun a hE => ?_)
        refine t_val (v := .int .i64 x42_45.2) rfl rfl hE rfl (r_extract hE rfl rfl) (fun a hE => ?_)
        obtain ⟨x9_46, qx9_46, H⟩ := H
        refine t_valh (v := .pointer (some x9_46)) rfl rfl hE rfl hR (r_alloc zr47 qx9_46) (fun a w hE hR hh => ?_)
        replace H := M.at hh H; clear hh
        obtain ⟨qz, H⟩ := H
        obtain ⟨u_47, qu_47, H⟩ := H
        refine t_sth rfl rfl hE hR (r_storeG hE rfl rfl sz47 qz qu_47) (fun a w hE hR hh => ?_)
        replace H := M.at hh H; clear hh
        refine t_val (v := .int .i64 x42_45.2) rfl rfl hE rfl (r_assign hE rfl) (fun a hE => ?_)
        refine t_nil ?_
        refine hK_43 _ _ ?_
        refine w_seq (fun K hK_48 => ?_)
        refine t_region ?_
        refine t_val (v := .int .i64 x42_45.2) rfl rfl hE rfl (r_move hE rfl) (fun a hE => ?_)
        refine t_val (v := .bool (x42_45.2 != 0)) rfl rfl hE rfl (r_bin hE rfl rfl g_int b_neq) (fun a hE => ?_)
        refine t_val (v := .bool (x42_45.2 != 0)) rfl rfl hE rfl (r_move hE rfl) (fun a hE => ?_)
        refine t_grp (n := (⟨54, []⟩ : Frm)) (w0 := w0) 4 (fun x51_49 : Bool => [(2, .pointer (some x2_3)), (5, .pointer (some y_20.1)), (51, .bool x51_49)]) (M.unbind H) (fun Kr hKr H => ?_) ?_
        · rcases bool_em (x42_45.2 != 0) with hb | hb
          · replace H := M.ite_t hb H
            have hE := hE.reb 47 (x42_45.2 != 0) true hb rfl
            refine t_off rfl hE rfl rfl rfl (fun a ea => ?_)
            have hE := Env.put_some hE rfl ea; clear ea
            refine t_off rfl hE rfl rfl rfl (fun a ea => ?_)
            have hE := Env.put_some hE rfl ea; clear ea
            refine t_off rfl hE rfl rfl rfl (fun a ea => ?_)
            have hE := Env.put_some hE rfl ea; clear ea
            refine t_val rfl rfl hE rfl (r_pick_t hE rfl rfl) (fun a hE => ?_)
            refine t_nil ?_
            exact hKr _ _ _ (hE.cut (.cons rfl (.cons rfl (.cons rfl Subs.nil)))) hR H
          · replace H := M.ite_f hb H
            have hE := hE.reb 47 (x42_45.2 != 0) false hb rfl
            refine t_on rfl hE rfl rfl rfl ?_
            obtain ⟨x48_50, qx48_50, H⟩ := H
            refine t_val (v := .agg x48_50) rfl rfl hE rfl (r_loadG hE rfl ag47 qx48_50) (fun a hE => ?_)
            refine t_on rfl hE rfl rfl rfl ?_
            obtain ⟨x49_51, qx49_51, H⟩ := H
            refine t_val (v := .agg x49_51) rfl rfl hE rfl (r_loadG hE rfl ag47 qx49_51) (fun a hE => ?_)
            refine t_on rfl hE rfl rfl rfl ?_
            obtain ⟨x50_52, qx50_52, H⟩ := H
            refine t_val (v := .bool (!x50_52)) rfl rfl hE rfl (r_bin hE rfl rfl (g_agg eg47) (b_neqA un47 un5 sz5 qx50_52)) (fun a hE => ?_)
            refine t_val rfl rfl hE rfl (r_pick_f hE rfl rfl) (fun a hE => ?_)
            refine t_nil ?_
            exact hKr _ _ _ (hE.cut (.cons rfl (.cons rfl (.cons rfl Subs.nil)))) hR H
        · intro x51_49 a w hE hR H
          refine t_nil ?_
          refine hK_48 _ _ ?_
          refine w_cond x51_49 hE rfl (fun hb => ?_) (fun hb => ?_)
          · replace H := M.ite_t hb H
            refine w_seq (fun K hK_53 => ?_)
            refine t_region ?_
            refine t_val (v := .agg (#[.int .i64 0, .int .i64 0, .slice none 0 0] : Array Value)) rfl rfl hE rfl (r_build0 bd86) (fun a hE => ?_)
            obtain ⟨qz, H⟩ := H
            obtain ⟨u_54, qu_54, H⟩ := H
            refine t_sth rfl rfl hE hR (r_storeG hE rfl rfl sz86 qz qu_54) (fun a w hE hR hh => ?_)
            replace H := M.at hh H; clear hh
            refine t_val (v := .int .i64 50) rfl rfl hE rfl (r_assign hE rfl) (fun a hE => ?_)
            refine t_nil ?_
            refine hK_53 _ _ ?_
            refine w_ret ?_
            obtain ⟨r2_55, qr2_55, H⟩ := H
            exact hret _ _ _ (r2_55, 50) _ hE hR (res_run hE rfl (RV.cellG rfl ag86 qr2_55 (RV.tmp rfl RV.nil))) rfl H
          · replace H := M.ite_f hb H
            refine w_skip ?_
            refine hK_42 _ _ ?_
            refine w_seq (fun K hK_56 => ?_)
            refine t_region ?_
            obtain ⟨x53_57, qx53_57, H⟩ := H
            refine t_val (v := .agg x53_57) rfl rfl hE rfl (r_loadG hE rfl ag86 qx53_57) (fun a hE => ?_)
            obtain ⟨qz, H⟩ := H
            obtain ⟨u_58, qu_58, H⟩ := H
            refine t_sth rfl rfl hE hR (r_storeG hE rfl rfl sz86 qz qu_58) (fun a w hE hR hh => ?_)
            replace H := M.at hh H; clear hh
            refine t_val (v := .int .i64 0) rfl rfl hE rfl (r_assign hE rfl) (fun a hE => ?_)
            refine t_nil ?_
            refine hK_56 _ _ ?_
            refine w_ret ?_
            obtain ⟨r2_59, qr2_59, H⟩ := H
            exact hret _ _ _ (r2_59, 0) _ hE hR (res_run hE rfl (RV.cellG rfl ag86 qr2_59 (RV.tmp rfl RV.nil))) rfl H
    · intro hj H
      refine d_pick [6, 8] hT (by kernel_rfl) rfl (fun i hi => ?_)
      simp only [List.mem_cons, List.not_mem_nil, or_false] at hi
      rcases hi with rfl | rfl
      · replace H := H.1
        refine p_call (S := fun w : World => (fun h : Heap => (hcell h x17_13 = some (.int .u8 x18_15))) w.heap) (i := 6) #[true, true, true, true, true, true, true, false, false, false] rfl rfl rfl (by kernel_rfl) hE hR (wanted_none rfl) cl_slices_Clone_slbyte_byte rfl (S_slices_Clone_slbyte_byte x22_14) (M.unbind H) (fun r h H w' e => by obtain ⟨_, sA, H⟩ := H; rw [e]; exact sA) (fun x23_16 a w ea hR H hs => ?_)
        obtain ⟨_, sA, H⟩ := H; clear sA
        have hE := Env.put_some hE rfl ea; clear ea
        refine d_pureg (i := 7) (v := .agg (#[.int .i64 (IntKind.wrap .i64 x18_15), .int .i64 0, (x23_16 : Sl).v] : Array Value)) #[true, true, true, true, true, true, true, true, false, false] rfl rfl hT (by kernel_rfl) hE rfl (wanted_none rfl) (fun w => r_build hE rfl zr86 pl86 (by rfl)) (fun a hE => ?_)
        obtain ⟨x5_17, qx5_17, H⟩ := H
        obtain ⟨_, sA, H⟩ := H
        refine d_oneh (i := 8) (v := .pointer (some x5_17)) #[true, true, true, true, true, true, true, true, true, false] rfl rfl hT (by kernel_rfl) rfl hE hR rfl (wanted_none rfl) (r_alloc zr86 qx5_17)  (fun w' e => by rw [e]; exact sA) (fun a w hE hR hh hs => ?_)
        replace H := M.at hh H; clear hh
        exact hj _ _ _ (hE.cut (.cons rfl (.cons rfl (.cons rfl (.cons rfl (.cons rfl (.cons rfl (.cons rfl (.cons rfl (.cons rfl (.cons rfl (.cons rfl (.cons rfl (.cons rfl (.cons rfl (.cons rfl (.cons rfl (.cons rfl (.cons rfl (.cons rfl Subs.nil)))))))))))))))))))) hR H
      · replace H := H.2
        obtain ⟨x5_18, qx5_18, H⟩ := H
        obtain ⟨_, sA, H⟩ := H
        refine p_valh (S := fun w : World => (fun h : Heap => (hcell h x17_13 = some (.int .u8 x18_15))) w.heap) (i := 8) (v := .pointer (some x5_18)) #[true, true, true, true, true, true, false, false, true, false] rfl rfl (by kernel_rfl) hE hR rfl (wanted_none rfl) (r_alloc zr86 qx5_18)  (fun w' e => by rw [e]; exact sA) (fun a w hE hR hh hs => ?_)
        replace H := M.at hh H; clear hh
        refine d_call (i := 6) #[true, true, true, true, true, true, true, false, true, false] rfl rfl rfl hT (by kernel_rfl) rfl hE hR (wanted_none rfl) cl_slices_Clone_slbyte_byte rfl (S_slices_Clone_slbyte_byte x22_14) (M.unbind H) (fun r h H w' e => by obtain ⟨_, sA, H⟩ := H; rw [e]; exact sA) (fun x23_19 a w ea hR H hs => ?_)
        obtain ⟨_, sA, H⟩ := H; clear sA
        have hE := Env.put_some hE rfl ea; clear ea
        refine d_pureg (i := 7) (v := .agg (#[.int .i64 (IntKind.wrap .i64 x18_15), .int .i64 0, (x23_19 : Sl).v] : Array Value)) #[true, true, true, true, true, true, true, true, true, false] rfl rfl hT (by kernel_rfl) hE rfl (wanted_none rfl) (fun w => r_build hE rfl zr86 pl86 (by rfl)) (fun a hE => ?_)
        exact hj _ _ _ (hE.cut (.cons rfl (.cons rfl (.cons rfl (.cons rfl (.cons rfl (.cons rfl (.cons rfl (.cons rfl (.cons rfl (.cons rfl (.cons rfl (.cons rfl (.cons rfl (.cons rfl (.cons rfl (.cons rfl (.cons rfl (.cons rfl (.cons rfl Subs.nil)))))))))))))))))))) hR H

/-- ramble/num.Take -/
def num_Take_j1 : M (Int × Int × Int) := do
  M.pure (0, 0, 12)
def num_Take_l1 (c0_7 : Sl) (self1 : (Int × Int) → M (Int × Int × Int)) : (Int × Int) → M (Int × Int × Int) := fun s => match s with
  | (x5_5, x7_6) => do
    M.ite (decide (x7_6 < 10)) (do
      M.ite (x7_6 == (c0_7.len : Int)) (do
        M.pure (0, 0, 11)
        ) (do
        let x17_17 ← ixL c0_7 x7_6 1
        let x18_18 ← ldI .u8 x17_17
        let x23_19 ← pShl .u64 (IntKind.wrap .u64 (iAnd .u8 x18_18 127)) (IntKind.wrap .i64 (7 * x7_6))
        let x27_22 ← ixL c0_7 x7_6 1
        let x28_23 ← ldI .u8 x27_22
        M.ite (decide (x28_23 > 127)) (do
          self1 (iOr .u64 x5_5 x23_19, IntKind.wrap .i64 (x7_6 + 1))
          ) (do
          let x38_26 ← M.ite (decide (x7_6 > 0)) (do
            let x35_27 ← ixL c0_7 x7_6 1
            let x36_28 ← ldI .u8 x35_27
            M.pure (x36_28 == 0)
            ) (do
            M.pure false
            )
          let x49_29 ← M.ite x38_26 (do
            M.pure true
            ) (do
            let x48_30 ← M.ite (x7_6 == 9) (do
              let x45_31 ← ixL c0_7 x7_6 1
              let x46_32 ← ldI .u8 x45_31
              M.pure (decide (x46_32 > 1))
              ) (do
              M.pure false
              )
            M.pure x48_30
            )
          M.ite x49_29 (do
            num_Take_j1
            ) (do
            M.pure (iOr .u64 x5_5 x23_19, IntKind.wrap .i64 (x7_6 + 1), 0)
            )
          )
        )
      ) (do
      num_Take_j1
      )
def num_Take (x0 : Sl) : M (Int × Int × Int) := do
  M.loop (num_Take_l1 x0) (0, 0)
theorem S_num_Take (x0 : Sl) : Sound Go.Proofs.Try.prog 68 #[(x0 : Sl).v] (fun (r : Int × Int × Int) => .tuple #[.int .u64 r.1, .int .i64 r.2.1, .int .i64 r.2.2]) (num_Take x0) := by
  refine sound_of [(0, (x0 : Sl).v)] Go.Proofs.Try.func68 rfl rfl (Nat.le_of_ble_eq_true rfl) (args_of ⟨rfl, trivial⟩) (fun w0 w Q R a hret hE hR H => ?_)
  unfold num_Take at H
  refine w_seq (fun K hK_1 => ?_)
  refine t_region ?_
  refine t_val (v := .int .u64 0) rfl rfl hE rfl (r_assign hE rfl) (fun a hE => ?_)
  refine t_val (v := .int .i64 0) rfl rfl hE rfl (r_assign hE rfl) (fun a hE => ?_)
  refine t_val (v := .int .i64 0) rfl rfl hE rfl (r_assign hE rfl) (fun a hE => ?_)
  refine t_nil ?_
  refine hK_1 _ _ ?_
  refine w_seq (fun K hK_2 => ?_)
  refine t_region ?_
  refine t_val (v := .int .u64 0) rfl rfl hE rfl (r_assign hE rfl) (fun a hE => ?_)
  refine t_nil ?_
  refine hK_2 _ _ ?_
  refine w_seq_join (fun a w => Env (⟨54, []⟩ : Frm) a [] ∧ Rest w0 w ∧ (num_Take_j1).wp w.heap Q) ?_ ?_
  · rintro a w ⟨hE, hR, H⟩
    unfold num_Take_j1 at H
    refine w_seq (fun K hK_3 => ?_)
    refine t_region ?_
    refine t_val (v := .int .u64 0) rfl rfl hE rfl (r_assign hE rfl) (fun a hE => ?_)
    refine t_val (v := .int .i64 0) rfl rfl hE rfl (r_assign hE rfl) (fun a hE => ?_)
    refine t_val (v := .int .i64 12) rfl rfl hE rfl (r_assign hE rfl) (fun a hE => ?_)
    refine t_nil ?_
    refine hK_3 _ _ ?_
    refine w_ret ?_
    exact hret _ _ _ (0, 0, 12) _ hE hR (res_run hE rfl (RV.tmp rfl (RV.tmp rfl (RV.tmp rfl RV.nil)))) rfl H
  · skip
    refine w_seq (fun K hK_4 => ?_)
    refine t_region ?_
    refine t_val (v := .int .i64 0) rfl rfl hE rfl (r_move hE rfl) (fun a hE => ?_)
    refine t_nil ?_
    refine hK_4 _ _ ?_
    refine w_block ?_
    refine l_loop (fun (s : Int × Int) => (⟨54, []⟩ : Frm)) (fun (s : Int × Int) => [(0, (x0 : Sl).v), (5, .int .u64 s.1), (7, .int .i64 s.2)]) H (hE.cut (.cons rfl (.cons rfl (.cons rfl Subs.nil)))) hR (fun Y self1 hY_8 s a w hE hR H => ?_)
    rcases s with ⟨x5_5, x7_6⟩
    replace hE : Env (⟨54, []⟩ : Frm) a [(0, (x0 : Sl).v), (5, .int .u64 x5_5), (7, .int .i64 x7_6)] := hE
    replace H : (num_Take_l1 x0 self1 (x5_5, x7_6)).wp w.heap Q := H
    unfold num_Take_l1 at H
    refine w_seq (fun K hK_9 => ?_)
    refine t_region ?_
    refine t_val (v := .bool (decide (x7_6 < 10))) rfl rfl hE rfl (r_bin hE rfl rfl g_int b_lss) (fun a hE => ?_)
    refine t_nil ?_
    refine hK_9 _ _ ?_
    refine w_seq (fun K hK_10 => ?_)
    refine w_cond (decide (x7_6 < 10)) hE rfl (fun hb => ?_) (fun hb => ?_)
    · replace H := M.ite_t hb H
      refine w_skip ?_
      refine hK_10 _ _ ?_
      refine w_seq (fun K hK_11 => ?_)
      refine w_block ?_
      refine w_seq (fun K hK_12 => ?_)
      refine t_region ?_
      refine t_val (v := .int .i64 x7_6) rfl rfl hE rfl (r_move hE rfl) (fun a hE => ?_)
      refine t_val (v := .int .i64 x7_6) rfl rfl hE rfl (r_assign hE rfl) (fun a hE => ?_)
      refine t_nil ?_
      refine hK_12 _ _ ?_
      refine w_seq (fun K hK_13 => ?_)
      refine w_seq (fun K hK_14 => ?_)
      refine t_region ?_
      refine t_val (v := .int .i64 x7_6) rfl rfl hE rfl (r_move hE rfl) (fun a hE => ?_)
      refine t_val (v := (x0 : Sl).v) rfl rfl hE rfl (r_move hE rfl) (fun a hE => ?_)
      refine t_val (v := .int .i64 (x0.len : Int)) rfl rfl hE rfl (r_len hE rfl 5 un30) (fun a hE => ?_)
      refine t_val (v := .bool (x7_6 == (x0.len : Int))) rfl rfl hE rfl (r_bin hE rfl rfl g_int b_eql) (fun a hE => ?_)
      refine t_nil ?_
      refine hK_14 _ _ ?_
      refine w_cond (x7_6 == (x0.len : Int)) hE rfl (fun hb => ?_) (fun hb => ?_)
      · replace H := M.ite_t hb H
        refine w_seq (fun K hK_15 => ?_)
        refine t_region ?_
        refine t_val (v := .int .u64 0) rfl rfl hE rfl (r_assign hE rfl) (fun a hE => ?_)
        refine t_val (v := .int .i64 0) rfl rfl hE rfl (r_assign hE rfl) (fun a hE => ?_)
        refine t_val (v := .int .i64 11) rfl rfl hE rfl (r_assign hE rfl) (fun a hE => ?_)
        refine t_nil ?_
        refine hK_15 _ _ ?_
        refine w_ret ?_
        exact hret _ _ _ (0, 0, 11) _ hE hR (res_run hE rfl (RV.tmp rfl (RV.tmp rfl (RV.tmp rfl RV.nil)))) rfl H
      · replace H := M.ite_f hb H
        refine w_skip ?_
        refine hK_13 _ _ ?_
        refine w_seq (fun K hK_16 => ?_)
        refine t_region ?_
        refine t_val (v := .int .u64 x5_5) rfl rfl hE rfl (r_move hE rfl) (fun a hE => ?_)
        refine t_val (v := (x0 : Sl).v) rfl rfl hE rfl (r_move hE rfl) (fun a hE => ?_)
        refine t_val (v := .int .i64 x7_6) rfl rfl hE rfl (r_move hE rfl) (fun a hE => ?_)
        obtain ⟨x17_17, qx17_17, H⟩ := H
        refine t_val (v := .pointer (some x17_17)) rfl rfl hE rfl (r_indexAddrL hE rfl rfl un30 sz5 qx17_17) (fun a hE => ?_)
        obtain ⟨x18_18, qx18_18, H⟩ := H
        refine t_val (v := .int .u8 x18_18) rfl rfl hE rfl (r_load hE rfl sc5 qx18_18) (fun a hE => ?_)
        refine t_val (v := .int .u8 (iAnd .u8 x18_18 127)) rfl rfl hE rfl (r_bin hE rfl rfl g_int b_and) (fun a hE => ?_)
        refine t_val (v := .int .u64 (IntKind.wrap .u64 (iAnd .u8 x18_18 127))) rfl rfl hE rfl (r_convI hE rfl un5 un106) (fun a hE => ?_)
        refine t_val (v := .int .i64 x7_6) rfl rfl hE rfl (r_move hE rfl) (fun a hE => ?_)
        refine t_val (v := .int .i64 (IntKind.wrap .i64 (7 * x7_6))) rfl rfl hE rfl (r_bin hE rfl rfl g_int b_mul) (fun a hE => ?_)
        obtain ⟨x23_19, qx23_19, H⟩ := H
        refine t_val (v := .int .u64 x23_19) rfl rfl hE rfl (r_bin hE rfl rfl g_int (b_shl qx23_19)) (fun a hE => ?_)
        refine t_val (v := .int .u64 (iOr .u64 x5_5 x23_19)) rfl rfl hE rfl (r_bin hE rfl rfl g_int b_or) (fun a hE => ?_)
        refine t_val (v := .int .u64 (iOr .u64 x5_5 x23_19)) rfl rfl hE rfl (r_assign hE rfl) (fun a hE => ?_)
        refine t_nil ?_
        refine hK_16 _ _ ?_
        refine w_seq (fun K hK_20 => ?_)
        refine w_seq (fun K hK_21 => ?_)
        refine t_region ?_
        refine t_val (v := (x0 : Sl).v) rfl rfl hE rfl (r_move hE rfl) (fun a hE => ?_)
        refine t_val (v := .int .i64 x7_6) rfl rfl hE rfl (r_move hE rfl) (fun a hE => ?_)
        obtain ⟨x27_22, qx27_22, H⟩ := H
        refine t_val (v := .pointer (some x27_22)) rfl rfl hE rfl (r_indexAddrL hE rfl rfl un30 sz5 qx27_22) (fun a hE => ?_)
        obtain ⟨x28_23, qx28_23, H⟩ := H
        refine t_val (v := .int .u8 x28_23) rfl rfl hE rfl (r_load hE rfl sc5 qx28_23) (fun a hE => ?_)
        refine t_val (v := .bool (decide (x28_23 > 127))) rfl rfl hE rfl (r_bin hE rfl rfl g_int b_gtr) (fun a hE => ?_)
        refine t_nil ?_
        refine hK_21 _ _ ?_
        refine w_cond (decide (x28_23 > 127)) hE rfl (fun hb => ?_) (fun hb => ?_)
        · replace H := M.ite_t hb H
          refine w_exit ?_
          refine Xu.same ?_
          refine hK_11 _ _ ?_
          refine t_region ?_
          refine t_val (v := .int .i64 (IntKind.wrap .i64 (x7_6 + 1))) rfl rfl hE rfl (r_bin hE rfl rfl g_int b_add) (fun a hE => ?_)
          refine t_val (v := .int .i64 (IntKind.wrap .i64 (x7_6 + 1))) rfl rfl hE rfl (r_move hE rfl) (fun a hE => ?_)
          refine t_nil ?_
          exact hY_8 (iOr .u64 x5_5 x23_19, IntKind.wrap .i64 (x7_6 + 1)) _ _ (hE.cut (.cons rfl (.cons rfl (.cons rfl Subs.nil)))) hR H
        · replace H := M.ite_f hb H
          refine w_skip ?_
          refine hK_20 _ _ ?_
          refine w_seq (fun K hK_24 => ?_)
          refine w_seq (fun K hK_25 => ?_)
          refine t_region ?_
          refine t_val (v := .int .i64 x7_6) rfl rfl hE rfl (r_move hE rfl) (fun a hE => ?_)
          refine t_val (v := .bool (decide (x7_6 > 0))) rfl rfl hE rfl (r_bin hE rfl rfl g_int b_gtr) (fun a hE => ?_)
          refine t_val (v := .bool (decide (x7_6 > 0))) rfl rfl hE rfl (r_move hE rfl) (fun a hE => ?_)
          refine t_grp (n := (⟨54, []⟩ : Frm)) (w0 := w0) 6 (fun x38_26 : Bool => [(0, (x0 : Sl).v), (5, .int .u64 (iOr .u64 x5_5 x23_19)), (6, .int .i64 x7_6), (38, .bool x38_26)]) (M.unbind H) (fun Kr hKr H => ?_) ?_
          · rcases bool_em (decide (x7_6 > 0)) with hb | hb
            · replace H := M.ite_t hb H
              have hE := hE.reb 32 (decide (x7_6 > 0)) true hb rfl
              refine t_on rfl hE rfl rfl rfl ?_
              refine t_val (v := (x0 : Sl).v) rfl rfl hE rfl (r_move hE rfl) (fun a hE => ?_)
              refine t_on rfl hE rfl rfl rfl ?_
              refine t_val (v := .int .i64 x7_6) rfl rfl hE rfl (r_move hE rfl) (fun a hE => ?_)
              refine t_on rfl hE rfl rfl rfl ?_
              obtain ⟨x35_27, qx35_27, H⟩ := H
              refine t_val (v := .pointer (some x35_27)) rfl rfl hE rfl (r_indexAddrL hE rfl rfl un30 sz5 qx35_27) (fun a hE => ?_)
              refine t_on rfl hE rfl rfl rfl ?_
              obtain ⟨x36_28, qx36_28, H⟩ := H
              refine t_val (v := .int .u8 x36_28) rfl rfl hE rfl (r_load hE rfl sc5 qx36_28) (fun a hE => ?_)
              refine t_on rfl hE rfl rfl rfl ?_
              refine t_val (v := .bool (x36_28 == 0)) rfl rfl hE rfl (r_bin hE rfl rfl g_int b_eql) (fun a hE => ?_)
              refine t_val rfl rfl hE rfl (r_pick_t hE rfl rfl) (fun a hE => ?_)
              refine t_nil ?_
              exact hKr _ _ _ (hE.cut (.cons rfl (.cons rfl (.cons rfl (.cons rfl Subs.nil))))) hR H
            · replace H := M.ite_f hb H
              have hE := hE.reb 32 (decide (x7_6 > 0)) false hb rfl
              refine t_off rfl hE rfl rfl rfl (fun a ea => ?_)
              have hE := Env.put_some hE rfl ea; clear ea
              refine t_off rfl hE rfl rfl rfl (fun a ea => ?_)
              have hE := Env.put_some hE rfl ea; clear ea
              refine t_off rfl hE rfl rfl rfl (fun a ea => ?_)
              have hE := Env.put_some hE rfl ea; clear ea
              refine t_off rfl hE rfl rfl rfl (fun a ea => ?_)
              have hE := Env.put_some hE rfl ea; clear ea
              refine t_off rfl hE rfl rfl rfl (fun a ea => ?_)
              have hE := Env.put_some hE rfl ea; clear ea
              refine t_val rfl rfl hE rfl (r_pick_f hE rfl rfl) (fun a hE => ?_)
              refine t_nil ?_
              exact hKr _ _ _ (hE.cut (.cons rfl (.cons rfl (.cons rfl (.cons rfl Subs.nil))))) hR H
          · intro x38_26 a w hE hR H
            refine t_val (v := .bool x38_26) rfl rfl hE rfl (r_move hE rfl) (fun a hE => ?_)
            refine t_grp (n := (⟨54, []⟩ : Frm)) (w0 := w0) 10 (fun x49_29 : Bool => [(5, .int .u64 (iOr .u64 x5_5 x23_19)), (6, .int .i64 x7_6), (49, .bool x49_29)]) (M.unbind H) (fun Kr hKr H => ?_) ?_
            · rcases bool_em x38_26 with hb | hb
              · replace H := M.ite_t hb H
                have hE := hE.reb 39 x38_26 true hb rfl
                refine t_off rfl hE rfl rfl rfl (fun a ea => ?_)
                have hE := Env.put_some hE rfl ea; clear ea
                refine t_off rfl hE rfl rfl rfl (fun a ea => ?_)
                have hE := Env.put_some hE rfl ea; clear ea
                refine t_off rfl hE rfl rfl rfl (fun a ea => ?_)
                have hE := Env.put_some hE rfl ea; clear ea
                refine t_off' rfl hE rfl rfl (fun b hb => by cases hb) (fun a ea => ?_)
                have hE := Env.put_some hE rfl ea; clear ea
                refine t_off' rfl hE rfl rfl (fun b hb => by cases hb) (fun a ea => ?_)
                have hE := Env.put_some hE rfl ea; clear ea
                refine t_off' rfl hE rfl rfl (fun b hb => by cases hb) (fun a ea => ?_)
                have hE := Env.put_some hE rfl ea; clear ea
                refine t_off' rfl hE rfl rfl (fun b hb => by cases hb) (fun a ea => ?_)
                have hE := Env.put_some hE rfl ea; clear ea
                refine t_off' rfl hE rfl rfl (fun b hb => by cases hb) (fun a ea => ?_)
                have hE := Env.put_some hE rfl ea; clear ea
                refine t_off rfl hE rfl rfl rfl (fun a ea => ?_)
                have hE := Env.put_some hE rfl ea; clear ea
                refine t_val rfl rfl hE rfl (r_pick_t hE rfl rfl) (fun a hE => ?_)
                refine t_nil ?_
                exact hKr _ _ _ (hE.cut (.cons rfl (.cons rfl (.cons rfl Subs.nil)))) hR H
              · replace H := M.ite_f hb H
                have hE := hE.reb 39 x38_26 false hb rfl
                refine t_on rfl hE rfl rfl rfl ?_
                refine t_val (v := .int .i64 x7_6) rfl rfl hE rfl (r_move hE rfl) (fun a hE => ?_)
                refine t_on rfl hE rfl rfl rfl ?_
                refine t_val (v := .bool (x7_6 == 9)) rfl rfl hE rfl (r_bin hE rfl rfl g_int b_eql) (fun a hE => ?_)
                refine t_on rfl hE rfl rfl rfl ?_
                refine t_val (v := .bool (x7_6 == 9)) rfl rfl hE rfl (r_move hE rfl) (fun a hE => ?_)
                refine t_grp (n := (⟨54, []⟩ : Frm)) (w0 := w0) 6 (fun x48_30 : Bool => [(5, .int .u64 (iOr .u64 x5_5 x23_19)), (6, .int .i64 x7_6), (39, .bool false), (48, .bool x48_30)]) (M.unbind H) (fun Kr hKr H => ?_) ?_
                · rcases bool_em (x7_6 == 9) with hb | hb
                  · replace H := M.ite_t hb H
                    have hE := hE.reb 42 (x7_6 == 9) true hb rfl
                    refine t_on rfl hE rfl rfl rfl ?_
                    refine t_val (v := (x0 : Sl).v) rfl rfl hE rfl (r_move hE rfl) (fun a hE => ?_)
                    refine t_on rfl hE rfl rfl rfl ?_
                    refine t_val (v := .int .i64 x7_6) rfl rfl hE rfl (r_move hE rfl) (fun a hE => ?_)
                    refine t_on rfl hE rfl rfl rfl ?_
                    obtain ⟨x45_31, qx45_31, H⟩ := H
                    refine t_val (v := .pointer (some x45_31)) rfl rfl hE rfl (r_indexAddrL hE rfl rfl un30 sz5 qx45_31) (fun a hE => ?_)
                    refine t_on rfl hE rfl rfl rfl ?_
                    obtain ⟨x46_32, qx46_32, H⟩ := H
                    refine t_val (v := .int .u8 x46_32) rfl rfl hE rfl (r_load hE rfl sc5 qx46_32) (fun a hE => ?_)
                    refine t_on rfl hE rfl rfl rfl ?_
                    refine t_val (v := .bool (decide (x46_32 > 1))) rfl rfl hE rfl (r_bin hE rfl rfl g_int b_gtr) (fun a hE => ?_)
                    refine t_on rfl hE rfl rfl rfl ?_
                    refine t_val rfl rfl hE rfl (r_pick_t hE rfl rfl) (fun a hE => ?_)
                    refine t_nil ?_
                    exact hKr _ _ _ (hE.cut (.cons rfl (.cons rfl (.cons rfl (.cons rfl Subs.nil))))) hR H
                  · replace H := M.ite_f hb H
                    have hE := hE.reb 42 (x7_6 == 9) false hb rfl
                    refine t_off rfl hE rfl rfl rfl (fun a ea => ?_)
                    have hE := Env.put_some hE rfl ea; clear ea
                    refine t_off rfl hE rfl rfl rfl (fun a ea => ?_)
                    have hE := Env.put_some hE rfl ea; clear ea
                    refine t_off rfl hE rfl rfl rfl (fun a ea => ?_)
                    have hE := Env.put_some hE rfl ea; clear ea
                    refine t_off rfl hE rfl rfl rfl (fun a ea => ?_)
                    have hE := Env.put_some hE rfl ea; clear ea
                    refine t_off rfl hE rfl rfl rfl (fun a ea => ?_)
                    have hE := Env.put_some hE rfl ea; clear ea
                    refine t_on rfl hE rfl rfl rfl ?_
                    refine t_val rfl rfl hE rfl (r_pick_f hE rfl rfl) (fun a hE => ?_)
                    refine t_nil ?_
                    exact hKr _ _ _ (hE.cut (.cons rfl (.cons rfl (.cons rfl (.cons rfl Subs.nil))))) hR H
                · intro x48_30 a w hE hR H
                  refine t_val rfl rfl hE rfl (r_pick_f hE rfl rfl) (fun a hE => ?_)
                  refine t_nil ?_
                  exact hKr _ _ _ (hE.cut (.cons rfl (.cons rfl (.cons rfl Subs.nil)))) hR H
            · intro x49_29 a w hE hR H
              refine t_nil ?_
              refine hK_25 _ _ ?_
              refine w_cond x49_29 hE rfl (fun hb => ?_) (fun hb => ?_)
              · replace H := M.ite_t hb H
                refine w_exit ?_
                refine Xu.ne rfl ?_
                refine Xu.same ?_
                exact ⟨hE.cut Subs.nil, hR, H⟩
              · replace H := M.ite_f hb H
                refine w_skip ?_
                refine hK_24 _ _ ?_
                refine w_seq (fun K hK_33 => ?_)
                refine t_region ?_
                refine t_val (v := .int .u64 (iOr .u64 x5_5 x23_19)) rfl rfl hE rfl (r_move hE rfl) (fun a hE => ?_)
                refine t_val (v := .int .i64 x7_6) rfl rfl hE rfl (r_move hE rfl) (fun a hE => ?_)
                refine t_val (v := .int .i64 (IntKind.wrap .i64 (x7_6 + 1))) rfl rfl hE rfl (r_bin hE rfl rfl g_int b_add) (fun a hE => ?_)
                refine t_val (v := .int .u64 (iOr .u64 x5_5 x23_19)) rfl rfl hE rfl (r_assign hE rfl) (fun a hE => ?_)
                refine t_val (v := .int .i64 (IntKind.wrap .i64 (x7_6 + 1))) rfl rfl hE rfl (r_assign hE rfl) (fun a hE => ?_)
                refine t_val (v := .int .i64 0) rfl rfl hE rfl (r_assign hE rfl) (fun a hE => ?_)
                refine t_nil ?_
                refine hK_33 _ _ ?_
                refine w_ret ?_
                exact hret _ _ _ (iOr .u64 x5_5 x23_19, IntKind.wrap .i64 (x7_6 + 1), 0) _ hE hR (res_run hE rfl (RV.tmp rfl (RV.tmp rfl (RV.tmp rfl RV.nil)))) rfl H
    · replace H := M.ite_f hb H
      refine w_exit ?_
      refine Xu.same ?_
      exact ⟨hE.cut Subs.nil, hR, H⟩

end Gx
