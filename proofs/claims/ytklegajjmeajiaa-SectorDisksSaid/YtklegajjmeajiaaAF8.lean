/- Printed by program: Go functions as Lean programs, each tied to its code. No condition. -/
import Derived.Test.YtklegajjmeajiaaAT
import Derived.Test.YtklegajjmeajiaaAF0
import Derived.Test.YtklegajjmeajiaaAF1
import Derived.Test.YtklegajjmeajiaaAF2
import Derived.Test.YtklegajjmeajiaaAF3
import Derived.Test.YtklegajjmeajiaaAF4
import Derived.Test.YtklegajjmeajiaaAF5
import Derived.Test.YtklegajjmeajiaaAF6
import Derived.Test.YtklegajjmeajiaaAF7
namespace Gx
open Go
set_option linter.unusedVariables false
set_option maxRecDepth 100000
/-- (*ramble/rambleref04.Disk).Burst -/
def rambleref04_Disk_Burst_j1 (self1 : (Int) → M (Int)) (c10_36 : Int) : M (Int) := do
  self1 (IntKind.wrap .i64 (c10_36 + 1))
theorem tb31_10 : tabAt Go.Proofs.Try.f31 10 [[], [], [0, 1], [2], [3], [4], [], [], [6, 7], [8], [9], [5, 10], [3, 0, 1, 2, 3, 4, 5, 6, 7, 8, 9, 10, 11], [12, 11, 0, 1, 2, 3, 4, 5, 6, 7, 8, 9, 10, 11]] [[], [], [0, 1], [2], [3], [4], [], [], [6, 7], [8], [9], [5, 10], [3], [11, 12]] [[], [], [0, 1], [0, 1, 2], [0, 1, 2, 3], [0, 1, 2, 3, 4], [], [], [6, 7], [6, 7, 8], [6, 7, 8, 9], [0, 1, 2, 3, 4, 5, 6, 7, 8, 9, 10], [0, 1, 2, 3, 4, 5, 6, 7, 8, 9, 10, 11], [0, 1, 2, 3, 4, 5, 6, 7, 8, 9, 10, 11, 12]] = true := by kernel_rfl
def rambleref04_Disk_Burst_l1 (c0_22 : Option Addr) (c1_23 : Int) (c2_24 : Int) (c3_25 : Int) (c9_26 : Addr) (self1 : (Int) → M (Int)) : (Int) → M (Int) := fun s => match s with
  | x10_21 => do
    let x43_30 ← M.ite (decide (x10_21 < 32)) (do
      M.pure (decide (x10_21 < (IntKind.wrap .i64 (1024 - c2_24))))
      ) (do
      M.pure false
      )
    M.ite x43_30 (do
      let x48_38 ← pShr .u32 c3_25 x10_21
      M.ite ((Int.tmod x48_38 2) == 1) (do
        let x55_39 ← ixA c9_26 128 (IntKind.wrap .i64 (Int.tdiv (IntKind.wrap .i64 (c2_24 + x10_21)) 8)) 1
        let x61_40 ← pShl .u8 1 (Int.tmod (IntKind.wrap .i64 (c2_24 + x10_21)) 8)
        let x56_41 ← ldI .u8 x55_39
        let x63_42 ← ixA c9_26 128 (IntKind.wrap .i64 (Int.tdiv (IntKind.wrap .i64 (c2_24 + x10_21)) 8)) 1
        stV x63_42 (.int .u8 (iXor .u8 x56_41 x61_40))
        rambleref04_Disk_Burst_j1 self1 x10_21
        ) (do
        rambleref04_Disk_Burst_j1 self1 x10_21
        )
      ) (do
      let x65_45 ← nilP c0_22
      let x67_46 ← ldL ((x65_45).add 0)
      let x68_47 ← apL ty_api_Sector 128 128 (Array.replicate 128 (.int .u8 0) : Array Value) Sl.nil x67_46
      let x71_49 ← ldG 128 c9_26
      let x72_50 ← ixL x68_47 c1_23 128
      M.need (x71_49.size = 128)
      stG x72_50 x71_49
      let x75_53 ← nilP c0_22
      stV ((x75_53).add 0) ((x68_47 : Sl).v)
      M.pure 0
      )
def rambleref04_Disk_Burst (x0 : Option Addr) (x1 : Int) (x2 : Int) (x3 : Int) : M (Int) := do
  let x22_4 ← M.ite (decide (x1 < 0)) (do
    M.pure true
    ) (do
    let x17_5 ← nilP x0
    let x19_6 ← ldL ((x17_5).add 0)
    M.pure (decide (x1 ≥ (x19_6.len : Int)))
    )
  M.ite x22_4 (do
    M.pure 41
    ) (do
    let x28_10 ← M.ite (decide (x2 < 0)) (do
      M.pure true
      ) (do
      M.pure (decide (x2 ≥ 1024))
      )
    M.ite x28_10 (do
      M.pure 1
      ) (do
      let x30_13 ← nilP x0
      let x32_14 ← ldL ((x30_13).add 0)
      let x34_15 ← ixL x32_14 x1 128
      let x35_16 ← ldG 128 x34_15
      let x9_17 ← mkB ty_api_Sector (Array.replicate 128 (.int .u8 0) : Array Value)
      M.need (x35_16.size = 128)
      stG x9_17 x35_16
      M.loop (rambleref04_Disk_Burst_l1 x0 x1 x2 x3 x9_17) 0
      )
    )
theorem S_rambleref04_Disk_Burst (x0 : Option Addr) (x1 : Int) (x2 : Int) (x3 : Int) : Sound Go.Proofs.Try.prog 31 #[.pointer x0, .int .i64 x1, .int .i64 x2, .int .u32 x3] (fun (r : Int) => .int .i64 r) (rambleref04_Disk_Burst x0 x1 x2 x3) := by
  refine sound_of [(0, .pointer x0), (1, .int .i64 x1), (2, .int .i64 x2), (3, .int .u32 x3)] Go.Proofs.Try.func31 rfl rfl (Nat.le_of_ble_eq_true rfl) (args_of ⟨rfl, rfl, rfl, rfl, trivial⟩) (fun w0 w Q R a hret hE hR H => ?_)
  unfold rambleref04_Disk_Burst at H
  refine w_seq (fun K hK_1 => ?_)
  refine t_region ?_
  refine t_val (v := .int .i64 0) rfl rfl hE rfl (r_assign hE rfl) (fun a hE => ?_)
  refine t_nil ?_
  refine hK_1 _ _ ?_
  refine w_seq (fun K hK_2 => ?_)
  refine w_seq (fun K hK_3 => ?_)
  refine t_region ?_
  refine t_val (v := .int .i64 x1) rfl rfl hE rfl (r_move hE rfl) (fun a hE => ?_)
  refine t_val (v := .bool (decide (x1 < 0))) rfl rfl hE rfl (r_bin hE rfl rfl g_int b_lss) (fun a hE => ?_)
  refine t_val (v := .bool (decide (x1 < 0))) rfl rfl hE rfl (r_move hE rfl) (fun a hE => ?_)
  refine t_grp (n := 77) (w0 := w0) 8 (fun x22_4 : Bool => [(0, .pointer x0), (1, .int .i64 x1), (2, .int .i64 x2), (3, .int .u32 x3), (22, .bool x22_4)]) (M.unbind H) (fun Kr hKr H => ?_) ?_
  · rcases bool_em (decide (x1 < 0)) with hb | hb
    · replace H := M.ite_t hb H
      have hE := hE.reb 14 (decide (x1 < 0)) true hb rfl
      refine t_off rfl hE rfl rfl rfl (fun a ea => ?_)
      have hE := Env.put_some hE rfl ea; clear ea
      refine t_off rfl hE rfl rfl rfl (fun a ea => ?_)
      have hE := Env.put_some hE rfl ea; clear ea
      refine t_off rfl hE rfl rfl rfl (fun a ea => ?_)
      have hE := Env.put_some hE rfl ea; clear ea
      refine t_off rfl hE rfl rfl rfl (fun a ea => ?_)
      have hE := Env.put_some hE rfl ea; clear ea
      refine t_off rfl hE rfl rfl rfl (fun a ea => ?_)
      have hE := Env.put_some hE rfl ea; clear ea
      refine t_off rfl hE rfl rfl rfl (fun a ea => ?_)
      have hE := Env.put_some hE rfl ea; clear ea
      refine t_off rfl hE rfl rfl rfl (fun a ea => ?_)
      have hE := Env.put_some hE rfl ea; clear ea
      refine t_val rfl rfl hE rfl (r_pick_t hE rfl rfl) (fun a hE => ?_)
      refine t_nil ?_
      exact hKr _ _ _ (hE.cut (.cons rfl (.cons rfl (.cons rfl (.cons rfl (.cons rfl Subs.nil)))))) hR H
    · replace H := M.ite_f hb H
      have hE := hE.reb 14 (decide (x1 < 0)) false hb rfl
      refine t_on rfl hE rfl rfl rfl ?_
      refine t_val (v := .int .i64 x1) rfl rfl hE rfl (r_move hE rfl) (fun a hE => ?_)
      refine t_on rfl hE rfl rfl rfl ?_
      refine t_val (v := .pointer x0) rfl rfl hE rfl (r_move hE rfl) (fun a hE => ?_)
      refine t_on rfl hE rfl rfl rfl ?_
      obtain ⟨x17_5, qx17_5, H⟩ := H
      refine t_val (v := .pointer (some x17_5)) rfl rfl hE rfl (r_nilCheck hE (hx_eq rfl (congrArg Value.pointer qx17_5))) (fun a hE => ?_)
      refine t_on rfl hE rfl rfl rfl ?_
      refine t_val (v := .pointer (some ((x17_5).add 0))) rfl rfl hE rfl (r_fieldAddr hE rfl fd84_0) (fun a hE => ?_)
      refine t_on rfl hE rfl rfl rfl ?_
      obtain ⟨x19_6, qx19_6, H⟩ := H
      refine t_val (v := (x19_6 : Sl).v) rfl rfl hE rfl (r_load hE rfl sc74 qx19_6) (fun a hE => ?_)
      refine t_on rfl hE rfl rfl rfl ?_
      refine t_val (v := .int .i64 (x19_6.len : Int)) rfl rfl hE rfl (r_len hE rfl 26 un74) (fun a hE => ?_)
      refine t_on rfl hE rfl rfl rfl ?_
      refine t_val (v := .bool (decide (x1 ≥ (x19_6.len : Int)))) rfl rfl hE rfl (r_bin hE rfl rfl g_int b_geq) (fun a hE => ?_)
      refine t_val rfl rfl hE rfl (r_pick_f hE rfl rfl) (fun a hE => ?_)
      refine t_nil ?_
      exact hKr _ _ _ (hE.cut (.cons rfl (.cons rfl (.cons rfl (.cons rfl (.cons rfl Subs.nil)))))) hR H
  · intro x22_4 a w hE hR H
    refine t_nil ?_
    refine hK_3 _ _ ?_
    refine w_cond x22_4 hE rfl (fun hb => ?_) (fun hb => ?_)
    · replace H := M.ite_t hb H
      refine w_seq (fun K hK_7 => ?_)
      refine t_region ?_
      refine t_val (v := .int .i64 41) rfl rfl hE rfl (r_assign hE rfl) (fun a hE => ?_)
      refine t_nil ?_
      refine hK_7 _ _ ?_
      refine w_ret ?_
      exact hret _ _ _ 41 _ hE hR (res_run hE rfl (RV.tmp rfl RV.nil)) rfl H
    · replace H := M.ite_f hb H
      refine w_skip ?_
      refine hK_2 _ _ ?_
      refine w_seq (fun K hK_8 => ?_)
      refine w_seq (fun K hK_9 => ?_)
      refine t_region ?_
      refine t_val (v := .int .i64 x2) rfl rfl hE rfl (r_move hE rfl) (fun a hE => ?_)
      refine t_val (v := .bool (decide (x2 < 0))) rfl rfl hE rfl (r_bin hE rfl rfl g_int b_lss) (fun a hE => ?_)
      refine t_val (v := .bool (decide (x2 < 0))) rfl rfl hE rfl (r_move hE rfl) (fun a hE => ?_)
      refine t_grp (n := 77) (w0 := w0) 3 (fun x28_10 : Bool => [(0, .pointer x0), (1, .int .i64 x1), (2, .int .i64 x2), (3, .int .u32 x3), (28, .bool x28_10)]) (M.unbind H) (fun Kr hKr H => ?_) ?_
      · rcases bool_em (decide (x2 < 0)) with hb | hb
        · replace H := M.ite_t hb H
          have hE := hE.reb 25 (decide (x2 < 0)) true hb rfl
          refine t_off rfl hE rfl rfl rfl (fun a ea => ?_)
          have hE := Env.put_some hE rfl ea; clear ea
          refine t_off rfl hE rfl rfl rfl (fun a ea => ?_)
          have hE := Env.put_some hE rfl ea; clear ea
          refine t_val rfl rfl hE rfl (r_pick_t hE rfl rfl) (fun a hE => ?_)
          refine t_nil ?_
          exact hKr _ _ _ (hE.cut (.cons rfl (.cons rfl (.cons rfl (.cons rfl (.cons rfl Subs.nil)))))) hR H
        · replace H := M.ite_f hb H
          have hE := hE.reb 25 (decide (x2 < 0)) false hb rfl
          refine t_on rfl hE rfl rfl rfl ?_
          refine t_val (v := .int .i64 x2) rfl rfl hE rfl (r_move hE rfl) (fun a hE => ?_)
          refine t_on rfl hE rfl rfl rfl ?_
          refine t_val (v := .bool (decide (x2 ≥ 1024))) rfl rfl hE rfl (r_bin hE rfl rfl g_int b_geq) (fun a hE => ?_)
          refine t_val rfl rfl hE rfl (r_pick_f hE rfl rfl) (fun a hE => ?_)
          refine t_nil ?_
          exact hKr _ _ _ (hE.cut (.cons rfl (.cons rfl (.cons rfl (.cons rfl (.cons rfl Subs.nil)))))) hR H
      · intro x28_10 a w hE hR H
        refine t_nil ?_
        refine hK_9 _ _ ?_
        refine w_cond x28_10 hE rfl (fun hb => ?_) (fun hb => ?_)
        · replace H := M.ite_t hb H
          refine w_seq (fun K hK_11 => ?_)
          refine t_region ?_
          refine t_val (v := .int .i64 1) rfl rfl hE rfl (r_assign hE rfl) (fun a hE => ?_)
          refine t_nil ?_
          refine hK_11 _ _ ?_
          refine w_ret ?_
          exact hret _ _ _ 1 _ hE hR (res_run hE rfl (RV.tmp rfl RV.nil)) rfl H
        · replace H := M.ite_f hb H
          refine w_skip ?_
          refine hK_8 _ _ ?_
          refine w_seq (fun K hK_12 => ?_)
          refine t_region ?_
          refine t_val (v := .pointer x0) rfl rfl hE rfl (r_move hE rfl) (fun a hE => ?_)
          obtain ⟨x30_13, qx30_13, H⟩ := H
          refine t_val (v := .pointer (some x30_13)) rfl rfl hE rfl (r_nilCheck hE (hx_eq rfl (congrArg Value.pointer qx30_13))) (fun a hE => ?_)
          refine t_val (v := .pointer (some ((x30_13).add 0))) rfl rfl hE rfl (r_fieldAddr hE rfl fd84_0) (fun a hE => ?_)
          obtain ⟨x32_14, qx32_14, H⟩ := H
          refine t_val (v := (x32_14 : Sl).v) rfl rfl hE rfl (r_load hE rfl sc74 qx32_14) (fun a hE => ?_)
          refine t_val (v := .int .i64 x1) rfl rfl hE rfl (r_move hE rfl) (fun a hE => ?_)
          obtain ⟨x34_15, qx34_15, H⟩ := H
          refine t_val (v := .pointer (some x34_15)) rfl rfl hE rfl (r_indexAddrL hE rfl rfl un74 sz26 qx34_15) (fun a hE => ?_)
          obtain ⟨x35_16, qx35_16, H⟩ := H
          refine t_val (v := .agg x35_16) rfl rfl hE rfl (r_loadG hE rfl ag26 qx35_16) (fun a hE => ?_)
          obtain ⟨x9_17, qx9_17, H⟩ := H
          refine t_valh (v := .pointer (some x9_17)) rfl rfl hE rfl hR (r_alloc zr26 qx9_17) (fun a w hE hR hh => ?_)
          replace H := M.at hh H; clear hh
          obtain ⟨qz, H⟩ := H
          obtain ⟨u_18, qu_18, H⟩ := H
          refine t_sth rfl rfl hE hR (r_storeG hE rfl rfl sz26 qz qu_18) (fun a w hE hR hh => ?_)
          replace H := M.at hh H; clear hh
          refine t_nil ?_
          refine hK_12 _ _ ?_
          refine w_seq (fun K hK_19 => ?_)
          refine w_seq (fun K hK_20 => ?_)
          refine t_region ?_
          refine t_val (v := .int .i64 0) rfl rfl hE rfl (r_assign hE rfl) (fun a hE => ?_)
          refine t_nil ?_
          refine hK_20 _ _ ?_
          refine w_block ?_
          refine l_loop (fun (s : Int) => [(0, .pointer x0), (1, .int .i64 x1), (2, .int .i64 x2), (3, .int .u32 x3), (9, .pointer (some x9_17)), (10, .int .i64 s)]) H (hE.cut (.cons rfl (.cons rfl (.cons rfl (.cons rfl (.cons rfl (.cons rfl Subs.nil))))))) hR (fun Y self1 hY_27 x10_21 a w hE hR H => ?_)
          replace hE : Env 77 a [(0, .pointer x0), (1, .int .i64 x1), (2, .int .i64 x2), (3, .int .u32 x3), (9, .pointer (some x9_17)), (10, .int .i64 x10_21)] := hE
          replace H : (rambleref04_Disk_Burst_l1 x0 x1 x2 x3 x9_17 self1 x10_21).wp w.heap Q := H
          unfold rambleref04_Disk_Burst_l1 at H
          refine w_seq (fun K hK_28 => ?_)
          refine w_seq (fun K hK_29 => ?_)
          refine t_region ?_
          refine t_val (v := .int .i64 x10_21) rfl rfl hE rfl (r_move hE rfl) (fun a hE => ?_)
          refine t_val (v := .bool (decide (x10_21 < 32))) rfl rfl hE rfl (r_bin hE rfl rfl g_int b_lss) (fun a hE => ?_)
          refine t_val (v := .bool (decide (x10_21 < 32))) rfl rfl hE rfl (r_move hE rfl) (fun a hE => ?_)
          refine t_grp (n := 77) (w0 := w0) 5 (fun x43_30 : Bool => [(0, .pointer x0), (1, .int .i64 x1), (2, .int .i64 x2), (3, .int .u32 x3), (9, .pointer (some x9_17)), (10, .int .i64 x10_21), (43, .bool x43_30)]) (M.unbind H) (fun Kr hKr H => ?_) ?_
          · rcases bool_em (decide (x10_21 < 32)) with hb | hb
            · replace H := M.ite_t hb H
              have hE := hE.reb 38 (decide (x10_21 < 32)) true hb rfl
              refine t_on rfl hE rfl rfl rfl ?_
              refine t_val (v := .int .i64 x10_21) rfl rfl hE rfl (r_move hE rfl) (fun a hE => ?_)
              refine t_on rfl hE rfl rfl rfl ?_
              refine t_val (v := .int .i64 x2) rfl rfl hE rfl (r_move hE rfl) (fun a hE => ?_)
              refine t_on rfl hE rfl rfl rfl ?_
              refine t_val (v := .int .i64 (IntKind.wrap .i64 (1024 - x2))) rfl rfl hE rfl (r_bin hE rfl rfl g_int b_sub) (fun a hE => ?_)
              refine t_on rfl hE rfl rfl rfl ?_
              refine t_val (v := .bool (decide (x10_21 < (IntKind.wrap .i64 (1024 - x2))))) rfl rfl hE rfl (r_bin hE rfl rfl g_int b_lss) (fun a hE => ?_)
              refine t_val rfl rfl hE rfl (r_pick_t hE rfl rfl) (fun a hE => ?_)
              refine t_nil ?_
              exact hKr _ _ _ (hE.cut (.cons rfl (.cons rfl (.cons rfl (.cons rfl (.cons rfl (.cons rfl (.cons rfl Subs.nil)))))))) hR H
            · replace H := M.ite_f hb H
              have hE := hE.reb 38 (decide (x10_21 < 32)) false hb rfl
              refine t_off rfl hE rfl rfl rfl (fun a ea => ?_)
              have hE := Env.put_some hE rfl ea; clear ea
              refine t_off rfl hE rfl rfl rfl (fun a ea => ?_)
              have hE := Env.put_some hE rfl ea; clear ea
              refine t_off rfl hE rfl rfl rfl (fun a ea => ?_)
              have hE := Env.put_some hE rfl ea; clear ea
              refine t_off rfl hE rfl rfl rfl (fun a ea => ?_)
              have hE := Env.put_some hE rfl ea; clear ea
              refine t_val rfl rfl hE rfl (r_pick_f hE rfl rfl) (fun a hE => ?_)
              refine t_nil ?_
              exact hKr _ _ _ (hE.cut (.cons rfl (.cons rfl (.cons rfl (.cons rfl (.cons rfl (.cons rfl (.cons rfl Subs.nil)))))))) hR H
          · intro x43_30 a w hE hR H
            refine t_nil ?_
            refine hK_29 _ _ ?_
            refine w_cond x43_30 hE rfl (fun hb => ?_) (fun hb => ?_)
            · replace H := M.ite_t hb H
              refine w_skip ?_
              refine hK_28 _ _ ?_
              refine w_seq_join (fun a w => Env 77 a [(0, .pointer x0), (1, .int .i64 x1), (2, .int .i64 x2), (3, .int .u32 x3), (9, .pointer (some x9_17)), (10, .int .i64 x10_21)] ∧ Rest w0 w ∧ (rambleref04_Disk_Burst_j1 self1 x10_21).wp w.heap Q) ?_ ?_
              · rintro a w ⟨hE, hR, H⟩
                unfold rambleref04_Disk_Burst_j1 at H
                refine t_region ?_
                refine t_val (v := .int .i64 x10_21) rfl rfl hE rfl (r_move hE rfl) (fun a hE => ?_)
                refine t_val (v := .int .i64 (IntKind.wrap .i64 (x10_21 + 1))) rfl rfl hE rfl (r_bin hE rfl rfl g_int b_add) (fun a hE => ?_)
                refine t_val (v := .int .i64 (IntKind.wrap .i64 (x10_21 + 1))) rfl rfl hE rfl (r_assign hE rfl) (fun a hE => ?_)
                refine t_nil ?_
                exact hY_27 (IntKind.wrap .i64 (x10_21 + 1)) _ _ (hE.cut (.cons rfl (.cons rfl (.cons rfl (.cons rfl (.cons rfl (.cons rfl Subs.nil))))))) hR H
              · skip
                refine w_block ?_
                refine w_seq (fun K hK_37 => ?_)
                refine t_region ?_
                refine t_val (v := .int .u32 x3) rfl rfl hE rfl (r_move hE rfl) (fun a hE => ?_)
                refine t_val (v := .int .i64 x10_21) rfl rfl hE rfl (r_move hE rfl) (fun a hE => ?_)
                obtain ⟨x48_38, qx48_38, H⟩ := H
                refine t_val (v := .int .u32 x48_38) rfl rfl hE rfl (r_bin hE rfl rfl g_int (b_shr qx48_38)) (fun a hE => ?_)
                refine t_val (v := .int .u32 (Int.tmod x48_38 2)) rfl rfl hE rfl (r_bin hE rfl rfl g_int (b_rem ⟨by decide, rfl⟩)) (fun a hE => ?_)
                refine t_val (v := .bool ((Int.tmod x48_38 2) == 1)) rfl rfl hE rfl (r_bin hE rfl rfl g_int b_eql) (fun a hE => ?_)
                refine t_nil ?_
                refine hK_37 _ _ ?_
                refine w_cond ((Int.tmod x48_38 2) == 1) hE rfl (fun hb => ?_) (fun hb => ?_)
                · replace H := M.ite_t hb H
                  obtain ⟨x55_39, qx55_39, H⟩ := H
                  obtain ⟨x61_40, qx61_40, H⟩ := H
                  obtain ⟨x56_41, qx56_41, H⟩ := H
                  obtain ⟨x63_42, qx63_42, H⟩ := H
                  have hT := tab_of tb31_10 rfl rfl
                  refine d_start (fun w : World => (fun h : Heap => (hcell h x55_39 = some (.int .u8 x56_41))) w.heap) [11, 12, 13] #[false, false, false, false, false, false, false, false, false, false, false, false, false, false] mo hR rfl rfl (fun w' e => by rw [e]; exact qx56_41) (fun w hh hR hs => ?_)
                  replace H := M.at hh H; clear hh
                  refine d_pureg (i := 0) (v := .int .i64 x2) #[true, false, false, false, false, false, false, false, false, false, false, false, false, false] rfl rfl hT (by kernel_rfl) hE rfl (wanted_none rfl) (fun w => r_move hE rfl) (fun a hE => ?_)
                  refine d_pureg (i := 1) (v := .int .i64 x10_21) #[true, true, false, false, false, false, false, false, false, false, false, false, false, false] rfl rfl hT (by kernel_rfl) hE rfl (wanted_none rfl) (fun w => r_move hE rfl) (fun a hE => ?_)
                  refine d_pureg (i := 2) (v := .int .i64 (IntKind.wrap .i64 (x2 + x10_21))) #[true, true, true, false, false, false, false, false, false, false, false, false, false, false] rfl rfl hT (by kernel_rfl) hE rfl (wanted_none rfl) (fun w => r_bin hE rfl rfl g_int b_add) (fun a hE => ?_)
                  refine d_pureg (i := 3) (v := .int .i64 (IntKind.wrap .i64 (Int.tdiv (IntKind.wrap .i64 (x2 + x10_21)) 8))) #[true, true, true, true, false, false, false, false, false, false, false, false, false, false] rfl rfl hT (by kernel_rfl) hE rfl (wanted_none rfl) (fun w => r_bin hE rfl rfl g_int (b_quo ⟨by decide, rfl⟩)) (fun a hE => ?_)
                  refine d_pureg (i := 4) (v := .pointer (some x55_39)) #[true, true, true, true, true, false, false, false, false, false, false, false, false, false] rfl rfl hT (by kernel_rfl) hE rfl (wanted_none rfl) (fun w => r_indexAddrA hE rfl rfl un26 sz5 qx55_39) (fun a hE => ?_)
                  refine d_pureg (i := 6) (v := .int .i64 x2) #[true, true, true, true, true, false, true, false, false, false, false, false, false, false] rfl rfl hT (by kernel_rfl) hE rfl (wanted_none rfl) (fun w => r_move hE rfl) (fun a hE => ?_)
                  refine d_pureg (i := 7) (v := .int .i64 x10_21) #[true, true, true, true, true, false, true, true, false, false, false, false, false, false] rfl rfl hT (by kernel_rfl) hE rfl (wanted_none rfl) (fun w => r_move hE rfl) (fun a hE => ?_)
                  refine d_pureg (i := 8) (v := .int .i64 (IntKind.wrap .i64 (x2 + x10_21))) #[true, true, true, true, true, false, true, true, true, false, false, false, false, false] rfl rfl hT (by kernel_rfl) hE rfl (wanted_none rfl) (fun w => r_bin hE rfl rfl g_int b_add) (fun a hE => ?_)
                  refine d_pureg (i := 9) (v := .int .i64 (Int.tmod (IntKind.wrap .i64 (x2 + x10_21)) 8)) #[true, true, true, true, true, false, true, true, true, true, false, false, false, false] rfl rfl hT (by kernel_rfl) hE rfl (wanted_none rfl) (fun w => r_bin hE rfl rfl g_int (b_rem ⟨by decide, rfl⟩)) (fun a hE => ?_)
                  refine d_pureg (i := 10) (v := .int .u8 x61_40) #[true, true, true, true, true, false, true, true, true, true, true, false, false, false] rfl rfl hT (by kernel_rfl) hE rfl (wanted_none rfl) (fun w => r_bin hE rfl rfl g_int (b_shl qx61_40)) (fun a hE => ?_)
                  refine d_read (i := 5) (v := .int .u8 x56_41) #[true, true, true, true, true, true, true, true, true, true, true, false, false, false] rfl rfl hT (by kernel_rfl) hE rfl (wanted_none rfl) hs (fun w s => r_load hE rfl sc5 s) (fun a hE => ?_)
                  refine d_pureg (i := 11) (v := .int .u8 (iXor .u8 x56_41 x61_40)) #[true, true, true, true, true, true, true, true, true, true, true, true, false, false] rfl rfl hT (by kernel_rfl) hE rfl (wanted_none rfl) (fun w => r_bin hE rfl rfl g_int b_xor) (fun a hE => ?_)
                  refine d_pureg (i := 12) (v := .pointer (some x63_42)) #[true, true, true, true, true, true, true, true, true, true, true, true, true, false] rfl rfl hT (by kernel_rfl) hE rfl (wanted_none rfl) (fun w => r_indexAddrA hE rfl rfl un26 sz5 qx63_42) (fun a hE => ?_)
                  obtain ⟨u_43, qu_43, H⟩ := H
                  refine d_stlh (i := 13) #[true, true, true, true, true, true, true, true, true, true, true, true, true, true] rfl rfl hT (by kernel_rfl) rfl hE hR (wanted_none rfl) (r_store hE rfl rfl sz5 qu_43)  (fun a w hE hR hh => ?_)
                  replace H := M.at hh H; clear hh
                  refine d_done hT (by kernel_rfl) ?_
                  exact ⟨hE.cut (.cons rfl (.cons rfl (.cons rfl (.cons rfl (.cons rfl (.cons rfl Subs.nil)))))), hR, H⟩
                · replace H := M.ite_f hb H
                  refine w_skip ?_
                  exact ⟨hE.cut (.cons rfl (.cons rfl (.cons rfl (.cons rfl (.cons rfl (.cons rfl Subs.nil)))))), hR, H⟩
            · replace H := M.ite_f hb H
              refine w_exit ?_
              refine Xu.same ?_
              refine hK_19 _ _ ?_
              refine w_seq (fun K hK_44 => ?_)
              refine t_region ?_
              refine t_val (v := .pointer x0) rfl rfl hE rfl (r_move hE rfl) (fun a hE => ?_)
              obtain ⟨x65_45, qx65_45, H⟩ := H
              refine t_val (v := .pointer (some x65_45)) rfl rfl hE rfl (r_nilCheck hE (hx_eq rfl (congrArg Value.pointer qx65_45))) (fun a hE => ?_)
              refine t_val (v := .pointer (some ((x65_45).add 0))) rfl rfl hE rfl (r_fieldAddr hE rfl fd84_0) (fun a hE => ?_)
              obtain ⟨x67_46, qx67_46, H⟩ := H
              refine t_val (v := (x67_46 : Sl).v) rfl rfl hE rfl (r_load hE rfl sc74 qx67_46) (fun a hE => ?_)
              refine t_ex (fun x68_47 => (x68_47 : Sl).v) rfl rfl hR (M.unbind H) (fun Q H => ap_run hE rfl rfl ap74 H) (fun x68_47 a w ea hR H => ?_)
              have hE := Env.put_some hE rfl ea; clear ea
              refine t_val (v := (x68_47 : Sl).v) rfl rfl hE rfl (r_assign hE rfl) (fun a hE => ?_)
              refine t_nil ?_
              refine hK_44 _ _ ?_
              refine w_seq (fun K hK_48 => ?_)
              refine t_region ?_
              refine t_val (v := (x68_47 : Sl).v) rfl rfl hE rfl (r_move hE rfl) (fun a hE => ?_)
              refine t_val (v := .int .i64 x1) rfl rfl hE rfl (r_move hE rfl) (fun a hE => ?_)
              obtain ⟨x71_49, qx71_49, H⟩ := H
              refine t_val (v := .agg x71_49) rfl rfl hE rfl (r_loadG hE rfl ag26 qx71_49) (fun a hE => ?_)
              obtain ⟨x72_50, qx72_50, H⟩ := H
              refine t_val (v := .pointer (some x72_50)) rfl rfl hE rfl (r_indexAddrL hE rfl rfl un74 sz26 qx72_50) (fun a hE => ?_)
              obtain ⟨qz, H⟩ := H
              obtain ⟨u_51, qu_51, H⟩ := H
              refine t_sth rfl rfl hE hR (r_storeG hE rfl rfl sz26 qz qu_51) (fun a w hE hR hh => ?_)
              replace H := M.at hh H; clear hh
              refine t_nil ?_
              refine hK_48 _ _ ?_
              refine w_seq (fun K hK_52 => ?_)
              refine t_region ?_
              refine t_val (v := .pointer x0) rfl rfl hE rfl (r_move hE rfl) (fun a hE => ?_)
              refine t_val (v := (x68_47 : Sl).v) rfl rfl hE rfl (r_move hE rfl) (fun a hE => ?_)
              obtain ⟨x75_53, qx75_53, H⟩ := H
              refine t_val (v := .pointer (some x75_53)) rfl rfl hE rfl (r_nilCheck hE (hx_eq rfl (congrArg Value.pointer qx75_53))) (fun a hE => ?_)
              refine t_val (v := .pointer (some ((x75_53).add 0))) rfl rfl hE rfl (r_fieldAddr hE rfl fd84_0) (fun a hE => ?_)
              obtain ⟨u_54, qu_54, H⟩ := H
              refine t_sth rfl rfl hE hR (r_store hE rfl rfl sz74 qu_54) (fun a w hE hR hh => ?_)
              replace H := M.at hh H; clear hh
              refine t_nil ?_
              refine hK_52 _ _ ?_
              refine w_seq (fun K hK_55 => ?_)
              refine t_region ?_
              refine t_val (v := .int .i64 0) rfl rfl hE rfl (r_assign hE rfl) (fun a hE => ?_)
              refine t_nil ?_
              refine hK_55 _ _ ?_
              refine w_ret ?_
              exact hret _ _ _ 0 _ hE hR (res_run hE rfl (RV.tmp rfl RV.nil)) rfl H

/-- ramble/sector.Get -/
def sector_Get (x0 : Option Addr) (x1 : Int) (x2 : Int) (x3 : Int) : M (Sl × Int) := do
  let x16_3 ← disk_Disk_Read x0 x1
  let x10_4 ← mkB ty_api_Sector (Array.replicate 128 (.int .u8 0) : Array Value)
  M.need (x16_3.1.size = 128)
  stG x10_4 x16_3.1
  M.ite (x16_3.2 != 0) (do
    M.pure (Sl.nil, x16_3.2)
    ) (do
    let x23_10 ← ldG 128 x10_4
    let x24_11 ← sector_Open x23_10
    let x12_12 ← mkB ty_api_Frame (#[.int .i64 0, .int .i64 0, .slice none 0 0] : Array Value)
    M.need (x24_11.1.size = 3)
    stG x12_12 x24_11.1
    let x34_16 ← M.ite (x24_11.2 != 0) (do
      M.pure true
      ) (do
      let x31_17 ← ldI .i64 ((x12_12).add 0)
      M.pure (x31_17 != x2)
      )
    let x40_18 ← M.ite x34_16 (do
      M.pure true
      ) (do
      let x37_19 ← ldI .i64 ((x12_12).add 1)
      M.pure (x37_19 != x3)
      )
    M.ite x40_18 (do
      M.pure (Sl.nil, 50)
      ) (do
      let x42_22 ← ldL ((x12_12).add 2)
      M.pure (x42_22, 0)
      )
    )
theorem S_sector_Get (x0 : Option Addr) (x1 : Int) (x2 : Int) (x3 : Int) : Sound Go.Proofs.Try.prog 32 #[.pointer x0, .int .i64 x1, .int .i64 x2, .int .i64 x3] (fun (r : Sl × Int) => .tuple #[(r.1 : Sl).v, .int .i64 r.2]) (sector_Get x0 x1 x2 x3) := by
  refine sound_of [(0, .pointer x0), (1, .int .i64 x1), (2, .int .i64 x2), (3, .int .i64 x3)] Go.Proofs.Try.func32 rfl rfl (Nat.le_of_ble_eq_true rfl) (args_of ⟨rfl, rfl, rfl, rfl, trivial⟩) (fun w0 w Q R a hret hE hR H => ?_)
  unfold sector_Get at H
  refine w_seq (fun K hK_1 => ?_)
  refine t_region ?_
  refine t_val (v := (Sl.nil : Sl).v) rfl rfl hE rfl (r_assign hE rfl) (fun a hE => ?_)
  refine t_val (v := .int .i64 0) rfl rfl hE rfl (r_assign hE rfl) (fun a hE => ?_)
  refine t_nil ?_
  refine hK_1 _ _ ?_
  refine w_seq (fun K hK_2 => ?_)
  refine t_region ?_
  refine t_val (v := .pointer x0) rfl rfl hE rfl (r_move hE rfl) (fun a hE => ?_)
  refine t_val (v := .int .i64 x1) rfl rfl hE rfl (r_move hE rfl) (fun a hE => ?_)
  refine t_call hE hR cl26 rfl (S_disk_Disk_Read x0 x1) (M.unbind H) (fun x16_3 a w ea hR H => ?_)
  have hE := Env.put_some hE rfl ea; clear ea
  refine t_val (v := .tuple #[.agg x16_3.1, .int .i64 x16_3.2]) rfl rfl hE rfl (r_move hE rfl) (fun a hE => ?_)
  refine t_val (v := .agg x16_3.1) rfl rfl hE rfl (r_extract hE rfl rfl) (fun a hE => ?_)
  refine t_val (v := .int .i64 x16_3.2) rfl rfl hE rfl (r_extract hE rfl rfl) (fun a hE => ?_)
  obtain ⟨x10_4, qx10_4, H⟩ := H
  refine t_valh (v := .pointer (some x10_4)) rfl rfl hE rfl hR (r_alloc zr26 qx10_4) (fun a w hE hR hh => ?_)
  replace H := M.at hh H; clear hh
  obtain ⟨qz, H⟩ := H
  obtain ⟨u_5, qu_5, H⟩ := H
  refine t_sth rfl rfl hE hR (r_storeG hE rfl rfl sz26 qz qu_5) (fun a w hE hR hh => ?_)
  replace H := M.at hh H; clear hh
  refine t_val (v := .int .i64 x16_3.2) rfl rfl hE rfl (r_assign hE rfl) (fun a hE => ?_)
  refine t_nil ?_
  refine hK_2 _ _ ?_
  refine w_seq (fun K hK_6 => ?_)
  refine w_seq (fun K hK_7 => ?_)
  refine t_region ?_
  refine t_val (v := .int .i64 x16_3.2) rfl rfl hE rfl (r_move hE rfl) (fun a hE => ?_)
  refine t_val (v := .bool (x16_3.2 != 0)) rfl rfl hE rfl (r_bin hE rfl rfl g_int b_neq) (fun a hE => ?_)
  refine t_nil ?_
  refine hK_7 _ _ ?_
  refine w_cond (x16_3.2 != 0) hE rfl (fun hb => ?_) (fun hb => ?_)
  · replace H := M.ite_t hb H
    refine w_seq (fun K hK_8 => ?_)
    refine t_region ?_
    refine t_val (v := .int .i64 x16_3.2) rfl rfl hE rfl (r_move hE rfl) (fun a hE => ?_)
    refine t_val (v := (Sl.nil : Sl).v) rfl rfl hE rfl (r_assign hE rfl) (fun a hE => ?_)
    refine t_val (v := .int .i64 x16_3.2) rfl rfl hE rfl (r_assign hE rfl) (fun a hE => ?_)
    refine t_nil ?_
    refine hK_8 _ _ ?_
    refine w_ret ?_
    exact hret _ _ _ (Sl.nil, x16_3.2) _ hE hR (res_run hE rfl (RV.tmp rfl (RV.tmp rfl RV.nil))) rfl H
  · replace H := M.ite_f hb H
    refine w_skip ?_
    refine hK_6 _ _ ?_
    refine w_seq (fun K hK_9 => ?_)
    refine t_region ?_
    obtain ⟨x23_10, qx23_10, H⟩ := H
    refine t_val (v := .agg x23_10) rfl rfl hE rfl (r_loadG hE rfl ag26 qx23_10) (fun a hE => ?_)
    refine t_call hE hR cl10 rfl (S_sector_Open x23_10) (M.unbind H) (fun x24_11 a w ea hR H => ?_)
    have hE := Env.put_some hE rfl ea; clear ea
    refine t_val (v := .tuple #[.agg x24_11.1, .int .i64 x24_11.2]) rfl rfl hE rfl (r_move hE rfl) (fun a hE => ?_)
    refine t_val (v := .agg x24_11.1) rfl rfl hE rfl (r_extract hE rfl rfl) (fun a hE => ?_)
    refine t_val (v := .int .i64 x24_11.2) rfl rfl hE rfl (r_extract hE rfl rfl) (fun a hE => ?_)
    obtain ⟨x12_12, qx12_12, H⟩ := H
    refine t_valh (v := .pointer (some x12_12)) rfl rfl hE rfl hR (r_alloc zr24 qx12_12) (fun a w hE hR hh => ?_)
    replace H := M.at hh H; clear hh
    obtain ⟨qz, H⟩ := H
    obtain ⟨u_13, qu_13, H⟩ := H
    refine t_sth rfl rfl hE hR (r_storeG hE rfl rfl sz24 qz qu_13) (fun a w hE hR hh => ?_)
    replace H := M.at hh H; clear hh
    refine t_val (v := .int .i64 x24_11.2) rfl rfl hE rfl (r_assign hE rfl) (fun a hE => ?_)
    refine t_nil ?_
    refine hK_9 _ _ ?_
    refine w_seq (fun K hK_14 => ?_)
    refine w_seq (fun K hK_15 => ?_)
    refine t_region ?_
    refine t_val (v := .int .i64 x24_11.2) rfl rfl hE rfl (r_move hE rfl) (fun a hE => ?_)
    refine t_val (v := .bool (x24_11.2 != 0)) rfl rfl hE rfl (r_bin hE rfl rfl g_int b_neq) (fun a hE => ?_)
    refine t_val (v := .bool (x24_11.2 != 0)) rfl rfl hE rfl (r_move hE rfl) (fun a hE => ?_)
    refine t_grp (n := 43) (w0 := w0) 5 (fun x34_16 : Bool => [(3, .int .i64 x3), (12, .pointer (some x12_12)), (34, .bool x34_16)]) (M.unbind H) (fun Kr hKr H => ?_) ?_
    · rcases bool_em (x24_11.2 != 0) with hb | hb
      · replace H := M.ite_t hb H
        have hE := hE.reb 29 (x24_11.2 != 0) true hb rfl
        refine t_off rfl hE rfl rfl rfl (fun a ea => ?_)
        have hE := Env.put_some hE rfl ea; clear ea
        refine t_off rfl hE rfl rfl rfl (fun a ea => ?_)
        have hE := Env.put_some hE rfl ea; clear ea
        refine t_off rfl hE rfl rfl rfl (fun a ea => ?_)
        have hE := Env.put_some hE rfl ea; clear ea
        refine t_off rfl hE rfl rfl rfl (fun a ea => ?_)
        have hE := Env.put_some hE rfl ea; clear ea
        refine t_val rfl rfl hE rfl (r_pick_t hE rfl rfl) (fun a hE => ?_)
        refine t_nil ?_
        exact hKr _ _ _ (hE.cut (.cons rfl (.cons rfl (.cons rfl Subs.nil)))) hR H
      · replace H := M.ite_f hb H
        have hE := hE.reb 29 (x24_11.2 != 0) false hb rfl
        refine t_on rfl hE rfl rfl rfl ?_
        refine t_val (v := .pointer (some ((x12_12).add 0))) rfl rfl hE rfl (r_fieldAddr hE rfl fd24_0) (fun a hE => ?_)
        refine t_on rfl hE rfl rfl rfl ?_
        obtain ⟨x31_17, qx31_17, H⟩ := H
        refine t_val (v := .int .i64 x31_17) rfl rfl hE rfl (r_load hE rfl sc3 qx31_17) (fun a hE => ?_)
        refine t_on rfl hE rfl rfl rfl ?_
        refine t_val (v := .int .i64 x2) rfl rfl hE rfl (r_move hE rfl) (fun a hE => ?_)
        refine t_on rfl hE rfl rfl rfl ?_
        refine t_val (v := .bool (x31_17 != x2)) rfl rfl hE rfl (r_bin hE rfl rfl g_int b_neq) (fun a hE => ?_)
        refine t_val rfl rfl hE rfl (r_pick_f hE rfl rfl) (fun a hE => ?_)
        refine t_nil ?_
        exact hKr _ _ _ (hE.cut (.cons rfl (.cons rfl (.cons rfl Subs.nil)))) hR H
    · intro x34_16 a w hE hR H
      refine t_val (v := .bool x34_16) rfl rfl hE rfl (r_move hE rfl) (fun a hE => ?_)
      refine t_grp (n := 43) (w0 := w0) 5 (fun x40_18 : Bool => [(12, .pointer (some x12_12)), (40, .bool x40_18)]) (M.unbind H) (fun Kr hKr H => ?_) ?_
      · rcases bool_em x34_16 with hb | hb
        · replace H := M.ite_t hb H
          have hE := hE.reb 35 x34_16 true hb rfl
          refine t_off rfl hE rfl rfl rfl (fun a ea => ?_)
          have hE := Env.put_some hE rfl ea; clear ea
          refine t_off rfl hE rfl rfl rfl (fun a ea => ?_)
          have hE := Env.put_some hE rfl ea; clear ea
          refine t_off rfl hE rfl rfl rfl (fun a ea => ?_)
          have hE := Env.put_some hE rfl ea; clear ea
          refine t_off rfl hE rfl rfl rfl (fun a ea => ?_)
          have hE := Env.put_some hE rfl ea; clear ea
          refine t_val rfl rfl hE rfl (r_pick_t hE rfl rfl) (fun a hE => ?_)
          refine t_nil ?_
          exact hKr _ _ _ (hE.cut (.cons rfl (.cons rfl Subs.nil))) hR H
        · replace H := M.ite_f hb H
          have hE := hE.reb 35 x34_16 false hb rfl
          refine t_on rfl hE rfl rfl rfl ?_
          refine t_val (v := .pointer (some ((x12_12).add 1))) rfl rfl hE rfl (r_fieldAddr hE rfl fd24_1) (fun a hE => ?_)
          refine t_on rfl hE rfl rfl rfl ?_
          obtain ⟨x37_19, qx37_19, H⟩ := H
          refine t_val (v := .int .i64 x37_19) rfl rfl hE rfl (r_load hE rfl sc2 qx37_19) (fun a hE => ?_)
          refine t_on rfl hE rfl rfl rfl ?_
          refine t_val (v := .int .i64 x3) rfl rfl hE rfl (r_move hE rfl) (fun a hE => ?_)
          refine t_on rfl hE rfl rfl rfl ?_
          refine t_val (v := .bool (x37_19 != x3)) rfl rfl hE rfl (r_bin hE rfl rfl g_int b_neq) (fun a hE => ?_)
          refine t_val rfl rfl hE rfl (r_pick_f hE rfl rfl) (fun a hE => ?_)
          refine t_nil ?_
          exact hKr _ _ _ (hE.cut (.cons rfl (.cons rfl Subs.nil))) hR H
      · intro x40_18 a w hE hR H
        refine t_nil ?_
        refine hK_15 _ _ ?_
        refine w_cond x40_18 hE rfl (fun hb => ?_) (fun hb => ?_)
        · replace H := M.ite_t hb H
          refine w_seq (fun K hK_20 => ?_)
          refine t_region ?_
          refine t_val (v := (Sl.nil : Sl).v) rfl rfl hE rfl (r_assign hE rfl) (fun a hE => ?_)
          refine t_val (v := .int .i64 50) rfl rfl hE rfl (r_assign hE rfl) (fun a hE => ?_)
          refine t_nil ?_
          refine hK_20 _ _ ?_
          refine w_ret ?_
          exact hret _ _ _ (Sl.nil, 50) _ hE hR (res_run hE rfl (RV.tmp rfl (RV.tmp rfl RV.nil))) rfl H
        · replace H := M.ite_f hb H
          refine w_skip ?_
          refine hK_14 _ _ ?_
          refine w_seq (fun K hK_21 => ?_)
          refine t_region ?_
          refine t_val (v := .pointer (some ((x12_12).add 2))) rfl rfl hE rfl (r_fieldAddr hE rfl fd24_2) (fun a hE => ?_)
          obtain ⟨x42_22, qx42_22, H⟩ := H
          refine t_val (v := (x42_22 : Sl).v) rfl rfl hE rfl (r_load hE rfl sc22 qx42_22) (fun a hE => ?_)
          refine t_val (v := (x42_22 : Sl).v) rfl rfl hE rfl (r_assign hE rfl) (fun a hE => ?_)
          refine t_val (v := .int .i64 0) rfl rfl hE rfl (r_assign hE rfl) (fun a hE => ?_)
          refine t_nil ?_
          refine hK_21 _ _ ?_
          refine w_ret ?_
          exact hret _ _ _ (x42_22, 0) _ hE hR (res_run hE rfl (RV.tmp rfl (RV.tmp rfl RV.nil))) rfl H

/-- (*ramble/rambleref04.Disk).Read -/
def rambleref04_Disk_Read_l1 (c0_13 : Option Addr) (c1_14 : Int) (c4_15 : Addr) (self1 : (Int) → M (Array Value × Int)) : (Int) → M (Array Value × Int) := fun s => match s with
  | x7_12 => do
    let x17_19 ← nilP c0_13
    let x19_20 ← ldL ((x17_19).add 2)
    M.ite (decide (x7_12 < (x19_20.len : Int))) (do
      let x25_23 ← nilP c0_13
      let x27_24 ← ldL ((x25_23).add 2)
      let x29_25 ← ixL x27_24 x7_12 129
      let x31_26 ← ldI .i64 ((x29_25).add 0)
      M.ite (x31_26 == c1_14) (do
        let x35_28 ← nilP c0_13
        let x37_29 ← ldL ((x35_28).add 2)
        let x39_30 ← ixL x37_29 x7_12 129
        let x41_31 ← ldG 128 ((x39_30).add 1)
        M.need (x41_31.size = 128)
        stG c4_15 x41_31
        let r4_33 ← ldG 128 c4_15
        M.pure (r4_33, 0)
        ) (do
        self1 (IntKind.wrap .i64 (x7_12 + 1))
        )
      ) (do
      let x43_36 ← nilP c0_13
      let x45_37 ← ldL ((x43_36).add 1)
      let x47_38 ← ixL x45_37 c1_14 1
      let x48_39 ← ldB x47_38
      M.ite x48_39 (do
        M.need ((Array.replicate 128 (.int .u8 0) : Array Value).size = 128)
        stG c4_15 (Array.replicate 128 (.int .u8 0) : Array Value)
        let r4_42 ← ldG 128 c4_15
        M.pure (r4_42, 40)
        ) (do
        let x51_44 ← nilP c0_13
        let x53_45 ← ldL ((x51_44).add 0)
        let x55_46 ← ixL x53_45 c1_14 128
        let x56_47 ← ldG 128 x55_46
        M.need (x56_47.size = 128)
        stG c4_15 x56_47
        let r4_49 ← ldG 128 c4_15
        M.pure (r4_49, 0)
        )
      )
def rambleref04_Disk_Read (x0 : Option Addr) (x1 : Int) : M (Array Value × Int) := do
  let x4_2 ← mkB ty_api_Sector (Array.replicate 128 (.int .u8 0) : Array Value)
  let x10_5 ← rambleref04_Disk_may x0 x1
  M.ite (x10_5 != 0) (do
    M.need ((Array.replicate 128 (.int .u8 0) : Array Value).size = 128)
    stG x4_2 (Array.replicate 128 (.int .u8 0) : Array Value)
    let r4_9 ← ldG 128 x4_2
    M.pure (r4_9, x10_5)
    ) (do
    M.loop (rambleref04_Disk_Read_l1 x0 x1 x4_2) 0
    )
theorem S_rambleref04_Disk_Read (x0 : Option Addr) (x1 : Int) : Sound Go.Proofs.Try.prog 47 #[.pointer x0, .int .i64 x1] (fun (r : Array Value × Int) => .tuple #[.agg r.1, .int .i64 r.2]) (rambleref04_Disk_Read x0 x1) := by
  refine sound_of [(0, .pointer x0), (1, .int .i64 x1)] Go.Proofs.Try.func47 rfl rfl (Nat.le_of_ble_eq_true rfl) (args_of ⟨rfl, rfl, trivial⟩) (fun w0 w Q R a hret hE hR H => ?_)
  unfold rambleref04_Disk_Read at H
  refine w_seq (fun K hK_1 => ?_)
  refine t_region ?_
  obtain ⟨x4_2, qx4_2, H⟩ := H
  refine t_valh (v := .pointer (some x4_2)) rfl rfl hE rfl hR (r_alloc zr26 qx4_2) (fun a w hE hR hh => ?_)
  replace H := M.at hh H; clear hh
  refine t_val (v := .int .i64 0) rfl rfl hE rfl (r_assign hE rfl) (fun a hE => ?_)
  refine t_nil ?_
  refine hK_1 _ _ ?_
  refine w_seq (fun K hK_3 => ?_)
  refine w_seq (fun K hK_4 => ?_)
  refine t_region ?_
  refine t_val (v := .pointer x0) rfl rfl hE rfl (r_move hE rfl) (fun a hE => ?_)
  refine t_val (v := .int .i64 x1) rfl rfl hE rfl (r_move hE rfl) (fun a hE => ?_)
  refine t_call hE hR cl51 rfl (S_rambleref04_Disk_may x0 x1) (M.unbind H) (fun x10_5 a w ea hR H => ?_)
  have hE := Env.put_some hE rfl ea; clear ea
  refine t_val (v := .int .i64 x10_5) rfl rfl hE rfl (r_assign hE rfl) (fun a hE => ?_)
  refine t_nil ?_
  refine hK_4 _ _ ?_
  refine w_seq (fun K hK_6 => ?_)
  refine t_region ?_
  refine t_val (v := .int .i64 x10_5) rfl rfl hE rfl (r_move hE rfl) (fun a hE => ?_)
  refine t_val (v := .bool (x10_5 != 0)) rfl rfl hE rfl (r_bin hE rfl rfl g_int b_neq) (fun a hE => ?_)
  refine t_nil ?_
  refine hK_6 _ _ ?_
  refine w_cond (x10_5 != 0) hE rfl (fun hb => ?_) (fun hb => ?_)
  · replace H := M.ite_t hb H
    refine w_seq (fun K hK_7 => ?_)
    refine t_region ?_
    refine t_val (v := .agg (Array.replicate 128 (.int .u8 0) : Array Value)) rfl rfl hE rfl (r_build0 bd26) (fun a hE => ?_)
    refine t_val (v := .int .i64 x10_5) rfl rfl hE rfl (r_move hE rfl) (fun a hE => ?_)
    obtain ⟨qz, H⟩ := H
    obtain ⟨u_8, qu_8, H⟩ := H
    refine t_sth rfl rfl hE hR (r_storeG hE rfl rfl sz26 qz qu_8) (fun a w hE hR hh => ?_)
    replace H := M.at hh H; clear hh
    refine t_val (v := .int .i64 x10_5) rfl rfl hE rfl (r_assign hE rfl) (fun a hE => ?_)
    refine t_nil ?_
    refine hK_7 _ _ ?_
    refine w_ret ?_
    obtain ⟨r4_9, qr4_9, H⟩ := H
    exact hret _ _ _ (r4_9, x10_5) _ hE hR (res_run hE rfl (RV.cellG rfl ag26 qr4_9 (RV.tmp rfl RV.nil))) rfl H
  · replace H := M.ite_f hb H
    refine w_skip ?_
    refine hK_3 _ _ ?_
    refine w_seq (fun K hK_10 => ?_)
    refine w_seq (fun K hK_11 => ?_)
    refine t_region ?_
    refine t_val (v := .int .i64 0) rfl rfl hE rfl (r_assign hE rfl) (fun a hE => ?_)
    refine t_nil ?_
    refine hK_11 _ _ ?_
    refine w_block ?_
    refine l_loop (fun (s : Int) => [(0, .pointer x0), (1, .int .i64 x1), (4, .pointer (some x4_2)), (7, .int .i64 s)]) H (hE.cut (.cons rfl (.cons rfl (.cons rfl (.cons rfl Subs.nil))))) hR (fun Y self1 hY_16 x7_12 a w hE hR H => ?_)
    replace hE : Env 57 a [(0, .pointer x0), (1, .int .i64 x1), (4, .pointer (some x4_2)), (7, .int .i64 x7_12)] := hE
    replace H : (rambleref04_Disk_Read_l1 x0 x1 x4_2 self1 x7_12).wp w.heap Q := H
    unfold rambleref04_Disk_Read_l1 at H
    refine w_seq (fun K hK_17 => ?_)
    refine w_seq (fun K hK_18 => ?_)
    refine t_region ?_
    refine t_val (v := .int .i64 x7_12) rfl rfl hE rfl (r_move hE rfl) (fun a hE => ?_)
    refine t_val (v := .pointer x0) rfl rfl hE rfl (r_move hE rfl) (fun a hE => ?_)
    obtain ⟨x17_19, qx17_19, H⟩ := H
    refine t_val (v := .pointer (some x17_19)) rfl rfl hE rfl (r_nilCheck hE (hx_eq rfl (congrArg Value.pointer qx17_19))) (fun a hE => ?_)
    refine t_val (v := .pointer (some ((x17_19).add 2))) rfl rfl hE rfl (r_fieldAddr hE rfl fd84_2) (fun a hE => ?_)
    obtain ⟨x19_20, qx19_20, H⟩ := H
    refine t_val (v := (x19_20 : Sl).v) rfl rfl hE rfl (r_load hE rfl sc82 qx19_20) (fun a hE => ?_)
    refine t_val (v := .int .i64 (x19_20.len : Int)) rfl rfl hE rfl (r_len hE rfl 87 un82) (fun a hE => ?_)
    refine t_val (v := .bool (decide (x7_12 < (x19_20.len : Int)))) rfl rfl hE rfl (r_bin hE rfl rfl g_int b_lss) (fun a hE => ?_)
    refine t_nil ?_
    refine hK_18 _ _ ?_
    refine w_cond (decide (x7_12 < (x19_20.len : Int))) hE rfl (fun hb => ?_) (fun hb => ?_)
    · replace H := M.ite_t hb H
      refine w_skip ?_
      refine hK_17 _ _ ?_
      refine w_seq (fun K hK_21 => ?_)
      refine w_block ?_
      refine w_seq (fun K hK_22 => ?_)
      refine t_region ?_
      refine t_val (v := .pointer x0) rfl rfl hE rfl (r_move hE rfl) (fun a hE => ?_)
      obtain ⟨x25_23, qx25_23, H⟩ := H
      refine t_val (v := .pointer (some x25_23)) rfl rfl hE rfl (r_nilCheck hE (hx_eq rfl (congrArg Value.pointer qx25_23))) (fun a hE => ?_)
      refine t_val (v := .pointer (some ((x25_23).add 2))) rfl rfl hE rfl (r_fieldAddr hE rfl fd84_2) (fun a hE => ?_)
      obtain ⟨x27_24, qx27_24, H⟩ := H
      refine t_val (v := (x27_24 : Sl).v) rfl rfl hE rfl (r_load hE rfl sc82 qx27_24) (fun a hE => ?_)
      refine t_val (v := .int .i64 x7_12) rfl rfl hE rfl (r_move hE rfl) (fun a hE => ?_)
      obtain ⟨x29_25, qx29_25, H⟩ := H
      refine t_val (v := .pointer (some x29_25)) rfl rfl hE rfl (r_indexAddrL hE rfl rfl un82 sz87 qx29_25) (fun a hE => ?_)
      refine t_val (v := .pointer (some ((x29_25).add 0))) rfl rfl hE rfl (r_fieldAddr hE rfl fd87_0) (fun a hE => ?_)
      obtain ⟨x31_26, qx31_26, H⟩ := H
      refine t_val (v := .int .i64 x31_26) rfl rfl hE rfl (r_load hE rfl sc3 qx31_26) (fun a hE => ?_)
      refine t_val (v := .int .i64 x1) rfl rfl hE rfl (r_move hE rfl) (fun a hE => ?_)
      refine t_val (v := .bool (x31_26 == x1)) rfl rfl hE rfl (r_bin hE rfl rfl g_int b_eql) (fun a hE => ?_)
      refine t_nil ?_
      refine hK_22 _ _ ?_
      refine w_cond (x31_26 == x1) hE rfl (fun hb => ?_) (fun hb => ?_)
      · replace H := M.ite_t hb H
        refine w_seq (fun K hK_27 => ?_)
        refine t_region ?_
        refine t_val (v := .pointer x0) rfl rfl hE rfl (r_move hE rfl) (fun a hE => ?_)
        obtain ⟨x35_28, qx35_28, H⟩ := H
        refine t_val (v := .pointer (some x35_28)) rfl rfl hE rfl (r_nilCheck hE (hx_eq rfl (congrArg Value.pointer qx35_28))) (fun a hE => ?_)
        refine t_val (v := .pointer (some ((x35_28).add 2))) rfl rfl hE rfl (r_fieldAddr hE rfl fd84_2) (fun a hE => ?_)
        obtain ⟨x37_29, qx37_29, H⟩ := H
        refine t_val (v := (x37_29 : Sl).v) rfl rfl hE rfl (r_load hE rfl sc82 qx37_29) (fun a hE => ?_)
        refine t_val (v := .int .i64 x7_12) rfl rfl hE rfl (r_move hE rfl) (fun a hE => ?_)
        obtain ⟨x39_30, qx39_30, H⟩ := H
        refine t_val (v := .pointer (some x39_30)) rfl rfl hE rfl (r_indexAddrL hE rfl rfl un82 sz87 qx39_30) (fun a hE => ?_)
        refine t_val (v := .pointer (some ((x39_30).add 1))) rfl rfl hE rfl (r_fieldAddr hE rfl fd87_1) (fun a hE => ?_)
        obtain ⟨x41_31, qx41_31, H⟩ := H
        refine t_val (v := .agg x41_31) rfl rfl hE rfl (r_loadG hE rfl ag26 qx41_31) (fun a hE => ?_)
        obtain ⟨qz, H⟩ := H
        obtain ⟨u_32, qu_32, H⟩ := H
        refine t_sth rfl rfl hE hR (r_storeG hE rfl rfl sz26 qz qu_32) (fun a w hE hR hh => ?_)
        replace H := M.at hh H; clear hh
        refine t_val (v := .int .i64 0) rfl rfl hE rfl (r_assign hE rfl) (fun a hE => ?_)
        refine t_nil ?_
        refine hK_27 _ _ ?_
        refine w_ret ?_
        obtain ⟨r4_33, qr4_33, H⟩ := H
        exact hret _ _ _ (r4_33, 0) _ hE hR (res_run hE rfl (RV.cellG rfl ag26 qr4_33 (RV.tmp rfl RV.nil))) rfl H
      · replace H := M.ite_f hb H
        refine w_skip ?_
        refine hK_21 _ _ ?_
        refine t_region ?_
        refine t_val (v := .int .i64 x7_12) rfl rfl hE rfl (r_move hE rfl) (fun a hE => ?_)
        refine t_val (v := .int .i64 (IntKind.wrap .i64 (x7_12 + 1))) rfl rfl hE rfl (r_bin hE rfl rfl g_int b_add) (fun a hE => ?_)
        refine t_val (v := .int .i64 (IntKind.wrap .i64 (x7_12 + 1))) rfl rfl hE rfl (r_assign hE rfl) (fun a hE => ?_)
        refine t_nil ?_
        exact hY_16 (IntKind.wrap .i64 (x7_12 + 1)) _ _ (hE.cut (.cons rfl (.cons rfl (.cons rfl (.cons rfl Subs.nil))))) hR H
    · replace H := M.ite_f hb H
      refine w_exit ?_
      refine Xu.same ?_
      refine hK_10 _ _ ?_
      refine w_seq (fun K hK_34 => ?_)
      refine w_seq (fun K hK_35 => ?_)
      refine t_region ?_
      refine t_val (v := .pointer x0) rfl rfl hE rfl (r_move hE rfl) (fun a hE => ?_)
      obtain ⟨x43_36, qx43_36, H⟩ := H
      refine t_val (v := .pointer (some x43_36)) rfl rfl hE rfl (r_nilCheck hE (hx_eq rfl (congrArg Value.pointer qx43_36))) (fun a hE => ?_)
      refine t_val (v := .pointer (some ((x43_36).add 1))) rfl rfl hE rfl (r_fieldAddr hE rfl fd84_1) (fun a hE => ?_)
      obtain ⟨x45_37, qx45_37, H⟩ := H
      refine t_val (v := (x45_37 : Sl).v) rfl rfl hE rfl (r_load hE rfl sc75 qx45_37) (fun a hE => ?_)
      refine t_val (v := .int .i64 x1) rfl rfl hE rfl (r_move hE rfl) (fun a hE => ?_)
      obtain ⟨x47_38, qx47_38, H⟩ := H
      refine t_val (v := .pointer (some x47_38)) rfl rfl hE rfl (r_indexAddrL hE rfl rfl un75 sz4 qx47_38) (fun a hE => ?_)
      obtain ⟨x48_39, qx48_39, H⟩ := H
      refine t_val (v := .bool x48_39) rfl rfl hE rfl (r_load hE rfl sc4 qx48_39) (fun a hE => ?_)
      refine t_nil ?_
      refine hK_35 _ _ ?_
      refine w_cond x48_39 hE rfl (fun hb => ?_) (fun hb => ?_)
      · replace H := M.ite_t hb H
        refine w_seq (fun K hK_40 => ?_)
        refine t_region ?_
        refine t_val (v := .agg (Array.replicate 128 (.int .u8 0) : Array Value)) rfl rfl hE rfl (r_build0 bd26) (fun a hE => ?_)
        obtain ⟨qz, H⟩ := H
        obtain ⟨u_41, qu_41, H⟩ := H
        refine t_sth rfl rfl hE hR (r_storeG hE rfl rfl sz26 qz qu_41) (fun a w hE hR hh => ?_)
        replace H := M.at hh H; clear hh
        refine t_val (v := .int .i64 40) rfl rfl hE rfl (r_assign hE rfl) (fun a hE => ?_)
        refine t_nil ?_
        refine hK_40 _ _ ?_
        refine w_ret ?_
        obtain ⟨r4_42, qr4_42, H⟩ := H
        exact hret _ _ _ (r4_42, 40) _ hE hR (res_run hE rfl (RV.cellG rfl ag26 qr4_42 (RV.tmp rfl RV.nil))) rfl H
      · replace H := M.ite_f hb H
        refine w_skip ?_
        refine hK_34 _ _ ?_
        refine w_seq (fun K hK_43 => ?_)
        refine t_region ?_
        refine t_val (v := .pointer x0) rfl rfl hE rfl (r_move hE rfl) (fun a hE => ?_)
        obtain ⟨x51_44, qx51_44, H⟩ := H
        refine t_val (v := .pointer (some x51_44)) rfl rfl hE rfl (r_nilCheck hE (hx_eq rfl (congrArg Value.pointer qx51_44))) (fun a hE => ?_)
        refine t_val (v := .pointer (some ((x51_44).add 0))) rfl rfl hE rfl (r_fieldAddr hE rfl fd84_0) (fun a hE => ?_)
        obtain ⟨x53_45, qx53_45, H⟩ := H
        refine t_val (v := (x53_45 : Sl).v) rfl rfl hE rfl (r_load hE rfl sc74 qx53_45) (fun a hE => ?_)
        refine t_val (v := .int .i64 x1) rfl rfl hE rfl (r_move hE rfl) (fun a hE => ?_)
        obtain ⟨x55_46, qx55_46, H⟩ := H
        refine t_val (v := .pointer (some x55_46)) rfl rfl hE rfl (r_indexAddrL hE rfl rfl un74 sz26 qx55_46) (fun a hE => ?_)
        obtain ⟨x56_47, qx56_47, H⟩ := H
        refine t_val (v := .agg x56_47) rfl rfl hE rfl (r_loadG hE rfl ag26 qx56_47) (fun a hE => ?_)
        obtain ⟨qz, H⟩ := H
        obtain ⟨u_48, qu_48, H⟩ := H
        refine t_sth rfl rfl hE hR (r_storeG hE rfl rfl sz26 qz qu_48) (fun a w hE hR hh => ?_)
        replace H := M.at hh H; clear hh
        refine t_val (v := .int .i64 0) rfl rfl hE rfl (r_assign hE rfl) (fun a hE => ?_)
        refine t_nil ?_
        refine hK_43 _ _ ?_
        refine w_ret ?_
        obtain ⟨r4_49, qr4_49, H⟩ := H
        exact hret _ _ _ (r4_49, 0) _ hE hR (res_run hE rfl (RV.cellG rfl ag26 qr4_49 (RV.tmp rfl RV.nil))) rfl H

end Gx
