/- Printed by program: Go functions as Lean programs, each tied to its code. No condition. -/
import Derived.Test.YtklegajjmeajiaaAT
import Derived.Test.YtklegajjmeajiaaAF0
import Derived.Test.YtklegajjmeajiaaAF1
import Derived.Test.YtklegajjmeajiaaAF2
import Derived.Test.YtklegajjmeajiaaAF3
import Derived.Test.YtklegajjmeajiaaAF4
import Derived.Test.YtklegajjmeajiaaAF5
import Derived.Test.YtklegajjmeajiaaAF6
namespace Gx
open Go
set_option linter.unusedVariables false
set_option maxRecDepth 100000
/-- (*ramble/rambleref04.Disk).may -/
def rambleref04_Disk_may (x0 : Option Addr) (x1 : Int) : M (Int) := do
  let x6_4 ← nilP x0
  let x8_5 ← ldB ((x6_4).add 3)
  M.ite x8_5 (do
    M.pure 9
    ) (do
    let x19_9 ← M.ite (decide (x1 < 0)) (do
      M.pure true
      ) (do
      let x14_10 ← nilP x0
      let x16_11 ← ldL ((x14_10).add 0)
      M.pure (decide (x1 ≥ (x16_11.len : Int)))
      )
    M.ite x19_9 (do
      M.pure 41
      ) (do
      M.pure 0
      )
    )
theorem S_rambleref04_Disk_may (x0 : Option Addr) (x1 : Int) : Sound Go.Proofs.Try.prog 51 #[.pointer x0, .int .i64 x1] (fun (r : Int) => .int .i64 r) (rambleref04_Disk_may x0 x1) := by
  refine sound_of [(0, .pointer x0), (1, .int .i64 x1)] Go.Proofs.Try.func51 rfl rfl (Nat.le_of_ble_eq_true rfl) (args_of ⟨rfl, rfl, trivial⟩) (fun w0 w Q R a hret hE hR H => ?_)
  unfold rambleref04_Disk_may at H
  refine w_seq (fun K hK_1 => ?_)
  refine t_region ?_
  refine t_val (v := .int .i64 0) rfl rfl hE rfl (r_assign hE rfl) (fun a hE => ?_)
  refine t_nil ?_
  refine hK_1 _ _ ?_
  refine w_seq (fun K hK_2 => ?_)
  refine w_seq (fun K hK_3 => ?_)
  refine t_region ?_
  refine t_val (v := .pointer x0) rfl rfl hE rfl (r_move hE rfl) (fun a hE => ?_)
  obtain ⟨x6_4, qx6_4, H⟩ := H
  refine t_val (v := .pointer (some x6_4)) rfl rfl hE rfl (r_nilCheck hE (hx_eq rfl (congrArg Value.pointer qx6_4))) (fun a hE => ?_)
  refine t_val (v := .pointer (some ((x6_4).add 3))) rfl rfl hE rfl (r_fieldAddr hE rfl fd84_3) (fun a hE => ?_)
  obtain ⟨x8_5, qx8_5, H⟩ := H
  refine t_val (v := .bool x8_5) rfl rfl hE rfl (r_load hE rfl sc4 qx8_5) (fun a hE => ?_)
  refine t_nil ?_
  refine hK_3 _ _ ?_
  refine w_cond x8_5 hE rfl (fun hb => ?_) (fun hb => ?_)
  · replace H := M.ite_t hb H
    refine w_seq (fun K hK_6 => ?_)
    refine t_region ?_
    refine t_val (v := .int .i64 9) rfl rfl hE rfl (r_assign hE rfl) (fun a hE => ?_)
    refine t_nil ?_
    refine hK_6 _ _ ?_
    refine w_ret ?_
    exact hret _ _ _ 9 _ hE hR (res_run hE rfl (RV.tmp rfl RV.nil)) rfl H
  · replace H := M.ite_f hb H
    refine w_skip ?_
    refine hK_2 _ _ ?_
    refine w_seq (fun K hK_7 => ?_)
    refine w_seq (fun K hK_8 => ?_)
    refine t_region ?_
    refine t_val (v := .int .i64 x1) rfl rfl hE rfl (r_move hE rfl) (fun a hE => ?_)
    refine t_val (v := .bool (decide (x1 < 0))) rfl rfl hE rfl (r_bin hE rfl rfl g_int b_lss) (fun a hE => ?_)
    refine t_val (v := .bool (decide (x1 < 0))) rfl rfl hE rfl (r_move hE rfl) (fun a hE => ?_)
    refine t_grp (n := 20) (w0 := w0) 8 (fun x19_9 : Bool => [(19, .bool x19_9)]) (M.unbind H) (fun Kr hKr H => ?_) ?_
    · rcases bool_em (decide (x1 < 0)) with hb | hb
      · replace H := M.ite_t hb H
        have hE := hE.reb 11 (decide (x1 < 0)) true hb rfl
        refine t_off rfl hE rfl rfl rfl (fun a ea => ?_)
        have hE := Env.put_some hE rfl ea; clear ea
        refine t_off rfl hE rfl rfl rfl (fun a ea => ?_)
        have hE := Env.put_some hE rfl ea; clear ea
        refine t_off rfl hE rfl rfl rfl (fun a ea => ?_)
        have hE := Env.put_some hE rfl ea; clear ea
        refine t_off rfl hE rfl rfl rfl (fun a ea => ?_)
        have hE := Env.put_some hE rfl ea; clear ea
        refine t_off rfl hE rfl rfl rfl (fun a ea => ?_)
        have hE := Env.put_some hE rfl ea; clear ea
        refine t_off rfl hE rfl rfl rfl (fun a ea => ?_)
        have hE := Env.put_some hE rfl ea; clear ea
        refine t_off rfl hE rfl rfl rfl (fun a ea => ?_)
        have hE := Env.put_some hE rfl ea; clear ea
        refine t_val rfl rfl hE rfl (r_pick_t hE rfl rfl) (fun a hE => ?_)
        refine t_nil ?_
        exact hKr _ _ _ (hE.cut (.cons rfl Subs.nil)) hR H
      · replace H := M.ite_f hb H
        have hE := hE.reb 11 (decide (x1 < 0)) false hb rfl
        refine t_on rfl hE rfl rfl rfl ?_
        refine t_val (v := .int .i64 x1) rfl rfl hE rfl (r_move hE rfl) (fun a hE => ?_)
        refine t_on rfl hE rfl rfl rfl ?_
        refine t_val (v := .pointer x0) rfl rfl hE rfl (r_move hE rfl) (fun a hE => ?_)
        refine t_on rfl hE rfl rfl rfl ?_
        obtain ⟨x14_10, qx14_10, H⟩ := H
        refine t_val (v := .pointer (some x14_10)) rfl rfl hE rfl (r_nilCheck hE (hx_eq rfl (congrArg Value.pointer qx14_10))) (fun a hE => ?_)
        refine t_on rfl hE rfl rfl rfl ?_
        refine t_val (v := .pointer (some ((x14_10).add 0))) rfl rfl hE rfl (r_fieldAddr hE rfl fd84_0) (fun a hE => ?_)
        refine t_on rfl hE rfl rfl rfl ?_
        obtain ⟨x16_11, qx16_11, H⟩ := H
        refine t_val (v := (x16_11 : Sl).v) rfl rfl hE rfl (r_load hE rfl sc74 qx16_11) (fun a hE => ?_)
        refine t_on rfl hE rfl rfl rfl ?_
        refine t_val (v := .int .i64 (x16_11.len : Int)) rfl rfl hE rfl (r_len hE rfl 26 un74) (fun a hE => ?_)
        refine t_on rfl hE rfl rfl rfl ?_
        refine t_val (v := .bool (decide (x1 ≥ (x16_11.len : Int)))) rfl rfl hE rfl (r_bin hE rfl rfl g_int b_geq) (fun a hE => ?_)
        refine t_val rfl rfl hE rfl (r_pick_f hE rfl rfl) (fun a hE => ?_)
        refine t_nil ?_
        exact hKr _ _ _ (hE.cut (.cons rfl Subs.nil)) hR H
    · intro x19_9 a w hE hR H
      refine t_nil ?_
      refine hK_8 _ _ ?_
      refine w_cond x19_9 hE rfl (fun hb => ?_) (fun hb => ?_)
      · replace H := M.ite_t hb H
        refine w_seq (fun K hK_12 => ?_)
        refine t_region ?_
        refine t_val (v := .int .i64 41) rfl rfl hE rfl (r_assign hE rfl) (fun a hE => ?_)
        refine t_nil ?_
        refine hK_12 _ _ ?_
        refine w_ret ?_
        exact hret _ _ _ 41 _ hE hR (res_run hE rfl (RV.tmp rfl RV.nil)) rfl H
      · replace H := M.ite_f hb H
        refine w_skip ?_
        refine hK_7 _ _ ?_
        refine w_seq (fun K hK_13 => ?_)
        refine t_region ?_
        refine t_val (v := .int .i64 0) rfl rfl hE rfl (r_assign hE rfl) (fun a hE => ?_)
        refine t_nil ?_
        refine hK_13 _ _ ?_
        refine w_ret ?_
        exact hret _ _ _ 0 _ hE hR (res_run hE rfl (RV.tmp rfl RV.nil)) rfl H

/-- (*ramble/rambleref04.Disk).Write -/
def rambleref04_Disk_Write_j1 (self1 : (Sl × Bool × Int) → M (Int)) (c10_32 : Int) (x8_27 : Sl) (x9_28 : Bool) : M (Int) := do
  self1 (x8_27, x9_28, IntKind.wrap .i64 (c10_32 + 1))
def rambleref04_Disk_Write_j2 (self1 : (Sl × Bool × Int) → M (Int)) (c0_35 : Option Addr) (c1_36 : Int) (c10_38 : Int) (x8_33 : Sl) (x9_34 : Bool) : M (Int) := do
  let x50_40 ← nilP c0_35
  let x52_41 ← ldL ((x50_40).add 2)
  let x54_42 ← ixL x52_41 c10_38 129
  let x56_43 ← ldI .i64 ((x54_42).add 0)
  M.ite (x56_43 != c1_36) (do
    let x61_44 ← nilP c0_35
    let x63_45 ← ldL ((x61_44).add 2)
    let x65_46 ← ixL x63_45 c10_38 129
    let x66_47 ← ldG 129 x65_46
    let y_49 ← fillL 129 1 (#[.int .i64 0] ++ Array.replicate 128 (.int .u8 0) : Array Value) [(0, .agg x66_47)]
    let x67_48 ← bdL ty_rambleref04_Cached 1 y_49
    let x68_50 ← apL ty_rambleref04_Cached 129 136 (#[.int .i64 0] ++ Array.replicate 128 (.int .u8 0) : Array Value) x8_33 x67_48
    rambleref04_Disk_Write_j1 self1 c10_38 x68_50 x9_34
    ) (do
    rambleref04_Disk_Write_j1 self1 c10_38 x8_33 x9_34
    )
def rambleref04_Disk_Write_j3 (c0_64 : Option Addr) (x8_63 : Sl) : M (Int) := do
  let x79_66 ← nilP c0_64
  stV ((x79_66).add 2) ((x8_63 : Sl).v)
  M.pure 0
def rambleref04_Disk_Write_l1 (c0_19 : Option Addr) (c1_20 : Int) (c5_21 : Addr) (self1 : (Sl × Bool × Int) → M (Int)) : (Sl × Bool × Int) → M (Int) := fun s => match s with
  | (x8_16, x9_17, x10_18) => do
    let x22_25 ← nilP c0_19
    let x24_26 ← ldL ((x22_25).add 2)
    M.ite (decide (x10_18 < (x24_26.len : Int))) (do
      let x42_52 ← M.ite (!x9_17) (do
        let x33_53 ← nilP c0_19
        let x35_54 ← ldL ((x33_53).add 2)
        let x37_55 ← ixL x35_54 x10_18 129
        let x39_56 ← ldI .i64 ((x37_55).add 0)
        M.pure (decide (x39_56 ≥ c1_20))
        ) (do
        M.pure false
        )
      M.ite x42_52 (do
        let x45_58 ← ldG 128 c5_21
        let x46_59 ← fillG [(0, 1), (1, 128)] (#[.int .i64 0] ++ Array.replicate 128 (.int .u8 0) : Array Value) [(0, .int .i64 c1_20), (1, .agg x45_58)]
        let y_61 ← fillL 129 1 (#[.int .i64 0] ++ Array.replicate 128 (.int .u8 0) : Array Value) [(0, .agg x46_59)]
        let x47_60 ← bdL ty_rambleref04_Cached 1 y_61
        let x48_62 ← apL ty_rambleref04_Cached 129 136 (#[.int .i64 0] ++ Array.replicate 128 (.int .u8 0) : Array Value) x8_16 x47_60
        rambleref04_Disk_Write_j2 self1 c0_19 c1_20 x10_18 x48_62 true
        ) (do
        rambleref04_Disk_Write_j2 self1 c0_19 c1_20 x10_18 x8_16 x9_17
        )
      ) (do
      M.ite (!x9_17) (do
        let x73_70 ← ldG 128 c5_21
        let x74_71 ← fillG [(0, 1), (1, 128)] (#[.int .i64 0] ++ Array.replicate 128 (.int .u8 0) : Array Value) [(0, .int .i64 c1_20), (1, .agg x73_70)]
        let y_73 ← fillL 129 1 (#[.int .i64 0] ++ Array.replicate 128 (.int .u8 0) : Array Value) [(0, .agg x74_71)]
        let x75_72 ← bdL ty_rambleref04_Cached 1 y_73
        let x76_74 ← apL ty_rambleref04_Cached 129 136 (#[.int .i64 0] ++ Array.replicate 128 (.int .u8 0) : Array Value) x8_16 x75_72
        rambleref04_Disk_Write_j3 c0_19 x76_74
        ) (do
        rambleref04_Disk_Write_j3 c0_19 x8_16
        )
      )
def rambleref04_Disk_Write (x0 : Option Addr) (x1 : Int) (x2 : Array Value) : M (Int) := do
  let x5_2 ← mkB ty_api_Sector x2
  let x13_5 ← rambleref04_Disk_may x0 x1
  M.ite (x13_5 != 0) (do
    M.pure x13_5
    ) (do
    let x18_10 ← rambleref04_Disk_call x0
    M.ite (!x18_10) (do
      M.pure 9
      ) (do
      M.loop (rambleref04_Disk_Write_l1 x0 x1 x5_2) (Sl.nil, false, 0)
      )
    )
theorem S_rambleref04_Disk_Write (x0 : Option Addr) (x1 : Int) (x2 : Array Value) : Sound Go.Proofs.Try.prog 44 #[.pointer x0, .int .i64 x1, .agg x2] (fun (r : Int) => .int .i64 r) (rambleref04_Disk_Write x0 x1 x2) := by
  refine sound_of [(0, .pointer x0), (1, .int .i64 x1), (2, .agg x2)] Go.Proofs.Try.func44 rfl rfl (Nat.le_of_ble_eq_true rfl) (args_of ⟨rfl, rfl, rfl, trivial⟩) (fun w0 w Q R a hret hE hR H => ?_)
  unfold rambleref04_Disk_Write at H
  refine w_seq (fun K hK_1 => ?_)
  refine t_region ?_
  obtain ⟨x5_2, qx5_2, H⟩ := H
  refine t_valh (v := .pointer (some x5_2)) rfl rfl hE rfl hR (r_box hE rfl qx5_2) (fun a w hE hR hh => ?_)
  replace H := M.at hh H; clear hh
  refine t_val (v := .int .i64 0) rfl rfl hE rfl (r_assign hE rfl) (fun a hE => ?_)
  refine t_nil ?_
  refine hK_1 _ _ ?_
  refine w_seq (fun K hK_3 => ?_)
  refine w_seq (fun K hK_4 => ?_)
  refine t_region ?_
  refine t_val (v := .pointer x0) rfl rfl hE rfl (r_move hE rfl) (fun a hE => ?_)
  refine t_val (v := .int .i64 x1) rfl rfl hE rfl (r_move hE rfl) (fun a hE => ?_)
  refine t_call hE hR cl51 rfl (S_rambleref04_Disk_may x0 x1) (M.unbind H) (fun x13_5 a w ea hR H => ?_)
  have hE := Env.put_some hE rfl ea; clear ea
  refine t_val (v := .int .i64 x13_5) rfl rfl hE rfl (r_assign hE rfl) (fun a hE => ?_)
  refine t_nil ?_
  refine hK_4 _ _ ?_
  refine w_seq (fun K hK_6 => ?_)
  refine t_region ?_
  refine t_val (v := .int .i64 x13_5) rfl rfl hE rfl (r_move hE rfl) (fun a hE => ?_)
  refine t_val (v := .bool (x13_5 != 0)) rfl rfl hE rfl (r_bin hE rfl rfl g_int b_neq) (fun a hE => ?_)
  refine t_nil ?_
  refine hK_6 _ _ ?_
  refine w_cond (x13_5 != 0) hE rfl (fun hb => ?_) (fun hb => ?_)
  · replace H := M.ite_t hb H
    refine w_seq (fun K hK_7 => ?_)
    refine t_region ?_
    refine t_val (v := .int .i64 x13_5) rfl rfl hE rfl (r_move hE rfl) (fun a hE => ?_)
    refine t_val (v := .int .i64 x13_5) rfl rfl hE rfl (r_assign hE rfl) (fun a hE => ?_)
    refine t_nil ?_
    refine hK_7 _ _ ?_
    refine w_ret ?_
    exact hret _ _ _ x13_5 _ hE hR (res_run hE rfl (RV.tmp rfl RV.nil)) rfl H
  · replace H := M.ite_f hb H
    refine w_skip ?_
    refine hK_3 _ _ ?_
    refine w_seq (fun K hK_8 => ?_)
    refine w_seq (fun K hK_9 => ?_)
    refine t_region ?_
    refine t_val (v := .pointer x0) rfl rfl hE rfl (r_move hE rfl) (fun a hE => ?_)
    refine t_call hE hR cl45 rfl (S_rambleref04_Disk_call x0) (M.unbind H) (fun x18_10 a w ea hR H => ?_)
    have hE := Env.put_some hE rfl ea; clear ea
    refine t_val (v := .bool (!x18_10)) rfl rfl hE rfl (r_un hE rfl u_not) (fun a hE => ?_)
    refine t_nil ?_
    refine hK_9 _ _ ?_
    refine w_cond (!x18_10) hE rfl (fun hb => ?_) (fun hb => ?_)
    · replace H := M.ite_t hb H
      refine w_seq (fun K hK_11 => ?_)
      refine t_region ?_
      refine t_val (v := .int .i64 9) rfl rfl hE rfl (r_assign hE rfl) (fun a hE => ?_)
      refine t_nil ?_
      refine hK_11 _ _ ?_
      refine w_ret ?_
      exact hret _ _ _ 9 _ hE hR (res_run hE rfl (RV.tmp rfl RV.nil)) rfl H
    · replace H := M.ite_f hb H
      refine w_skip ?_
      refine hK_8 _ _ ?_
      refine w_seq (fun K hK_12 => ?_)
      refine t_region ?_
      refine t_val (v := (Sl.nil : Sl).v) rfl rfl hE rfl (r_assign hE rfl) (fun a hE => ?_)
      refine t_nil ?_
      refine hK_12 _ _ ?_
      refine w_seq (fun K hK_13 => ?_)
      refine t_region ?_
      refine t_val (v := .bool false) rfl rfl hE rfl (r_assign hE rfl) (fun a hE => ?_)
      refine t_nil ?_
      refine hK_13 _ _ ?_
      refine w_seq (fun K hK_14 => ?_)
      refine w_seq (fun K hK_15 => ?_)
      refine t_region ?_
      refine t_val (v := .int .i64 0) rfl rfl hE rfl (r_assign hE rfl) (fun a hE => ?_)
      refine t_nil ?_
      refine hK_15 _ _ ?_
      refine w_block ?_
      refine l_loop (fun (s : Sl × Bool × Int) => [(0, .pointer x0), (1, .int .i64 x1), (5, .pointer (some x5_2)), (8, (s.1 : Sl).v), (9, .bool s.2.1), (10, .int .i64 s.2.2)]) H (hE.cut (.cons rfl (.cons rfl (.cons rfl (.cons rfl (.cons rfl (.cons rfl Subs.nil))))))) hR (fun Y self1 hY_22 s a w hE hR H => ?_)
      rcases s with ⟨x8_16, x9_17, x10_18⟩
      replace hE : Env 81 a [(0, .pointer x0), (1, .int .i64 x1), (5, .pointer (some x5_2)), (8, (x8_16 : Sl).v), (9, .bool x9_17), (10, .int .i64 x10_18)] := hE
      replace H : (rambleref04_Disk_Write_l1 x0 x1 x5_2 self1 (x8_16, x9_17, x10_18)).wp w.heap Q := H
      unfold rambleref04_Disk_Write_l1 at H
      refine w_seq (fun K hK_23 => ?_)
      refine w_seq (fun K hK_24 => ?_)
      refine t_region ?_
      refine t_val (v := .int .i64 x10_18) rfl rfl hE rfl (r_move hE rfl) (fun a hE => ?_)
      refine t_val (v := .pointer x0) rfl rfl hE rfl (r_move hE rfl) (fun a hE => ?_)
      obtain ⟨x22_25, qx22_25, H⟩ := H
      refine t_val (v := .pointer (some x22_25)) rfl rfl hE rfl (r_nilCheck hE (hx_eq rfl (congrArg Value.pointer qx22_25))) (fun a hE => ?_)
      refine t_val (v := .pointer (some ((x22_25).add 2))) rfl rfl hE rfl (r_fieldAddr hE rfl fd84_2) (fun a hE => ?_)
      obtain ⟨x24_26, qx24_26, H⟩ := H
      refine t_val (v := (x24_26 : Sl).v) rfl rfl hE rfl (r_load hE rfl sc82 qx24_26) (fun a hE => ?_)
      refine t_val (v := .int .i64 (x24_26.len : Int)) rfl rfl hE rfl (r_len hE rfl 87 un82) (fun a hE => ?_)
      refine t_val (v := .bool (decide (x10_18 < (x24_26.len : Int)))) rfl rfl hE rfl (r_bin hE rfl rfl g_int b_lss) (fun a hE => ?_)
      refine t_nil ?_
      refine hK_24 _ _ ?_
      refine w_cond (decide (x10_18 < (x24_26.len : Int))) hE rfl (fun hb => ?_) (fun hb => ?_)
      · replace H := M.ite_t hb H
        refine w_skip ?_
        refine hK_23 _ _ ?_
        refine w_seq_join (fun a w => ∃ (x8_27 : Sl), ∃ (x9_28 : Bool), Env 81 a [(0, .pointer x0), (1, .int .i64 x1), (5, .pointer (some x5_2)), (10, .int .i64 x10_18), (8, (x8_27 : Sl).v), (9, .bool x9_28)] ∧ Rest w0 w ∧ (rambleref04_Disk_Write_j1 self1 x10_18 x8_27 x9_28).wp w.heap Q) ?_ ?_
        · rintro a w ⟨x8_27, x9_28, hE, hR, H⟩
          unfold rambleref04_Disk_Write_j1 at H
          refine t_region ?_
          refine t_val (v := .int .i64 x10_18) rfl rfl hE rfl (r_move hE rfl) (fun a hE => ?_)
          refine t_val (v := .int .i64 (IntKind.wrap .i64 (x10_18 + 1))) rfl rfl hE rfl (r_bin hE rfl rfl g_int b_add) (fun a hE => ?_)
          refine t_val (v := .int .i64 (IntKind.wrap .i64 (x10_18 + 1))) rfl rfl hE rfl (r_assign hE rfl) (fun a hE => ?_)
          refine t_nil ?_
          exact hY_22 (x8_27, x9_28, IntKind.wrap .i64 (x10_18 + 1)) _ _ (hE.cut (.cons rfl (.cons rfl (.cons rfl (.cons rfl (.cons rfl (.cons rfl Subs.nil))))))) hR H
        · skip
          refine w_block ?_
          refine w_seq_join (fun a w => ∃ (x8_33 : Sl), ∃ (x9_34 : Bool), Env 81 a [(0, .pointer x0), (1, .int .i64 x1), (5, .pointer (some x5_2)), (10, .int .i64 x10_18), (8, (x8_33 : Sl).v), (9, .bool x9_34)] ∧ Rest w0 w ∧ (rambleref04_Disk_Write_j2 self1 x0 x1 x10_18 x8_33 x9_34).wp w.heap Q) ?_ ?_
          · rintro a w ⟨x8_33, x9_34, hE, hR, H⟩
            unfold rambleref04_Disk_Write_j2 at H
            refine w_seq (fun K hK_39 => ?_)
            refine t_region ?_
            refine t_val (v := .pointer x0) rfl rfl hE rfl (r_move hE rfl) (fun a hE => ?_)
            obtain ⟨x50_40, qx50_40, H⟩ := H
            refine t_val (v := .pointer (some x50_40)) rfl rfl hE rfl (r_nilCheck hE (hx_eq rfl (congrArg Value.pointer qx50_40))) (fun a hE => ?_)
            refine t_val (v := .pointer (some ((x50_40).add 2))) rfl rfl hE rfl (r_fieldAddr hE rfl fd84_2) (fun a hE => ?_)
            obtain ⟨x52_41, qx52_41, H⟩ := H
            refine t_val (v := (x52_41 : Sl).v) rfl rfl hE rfl (r_load hE rfl sc82 qx52_41) (fun a hE => ?_)
            refine t_val (v := .int .i64 x10_18) rfl rfl hE rfl (r_move hE rfl) (fun a hE => ?_)
            obtain ⟨x54_42, qx54_42, H⟩ := H
            refine t_val (v := .pointer (some x54_42)) rfl rfl hE rfl (r_indexAddrL hE rfl rfl un82 sz87 qx54_42) (fun a hE => ?_)
            refine t_val (v := .pointer (some ((x54_42).add 0))) rfl rfl hE rfl (r_fieldAddr hE rfl fd87_0) (fun a hE => ?_)
            obtain ⟨x56_43, qx56_43, H⟩ := H
            refine t_val (v := .int .i64 x56_43) rfl rfl hE rfl (r_load hE rfl sc3 qx56_43) (fun a hE => ?_)
            refine t_val (v := .int .i64 x1) rfl rfl hE rfl (r_move hE rfl) (fun a hE => ?_)
            refine t_val (v := .bool (x56_43 != x1)) rfl rfl hE rfl (r_bin hE rfl rfl g_int b_neq) (fun a hE => ?_)
            refine t_nil ?_
            refine hK_39 _ _ ?_
            refine w_cond (x56_43 != x1) hE rfl (fun hb => ?_) (fun hb => ?_)
            · replace H := M.ite_t hb H
              refine t_region ?_
              refine t_val (v := (x8_33 : Sl).v) rfl rfl hE rfl (r_move hE rfl) (fun a hE => ?_)
              refine t_val (v := .pointer x0) rfl rfl hE rfl (r_move hE rfl) (fun a hE => ?_)
              obtain ⟨x61_44, qx61_44, H⟩ := H
              refine t_val (v := .pointer (some x61_44)) rfl rfl hE rfl (r_nilCheck hE (hx_eq rfl (congrArg Value.pointer qx61_44))) (fun a hE => ?_)
              refine t_val (v := .pointer (some ((x61_44).add 2))) rfl rfl hE rfl (r_fieldAddr hE rfl fd84_2) (fun a hE => ?_)
              obtain ⟨x63_45, qx63_45, H⟩ := H
              refine t_val (v := (x63_45 : Sl).v) rfl rfl hE rfl (r_load hE rfl sc82 qx63_45) (fun a hE => ?_)
              refine t_val (v := .int .i64 x10_18) rfl rfl hE rfl (r_move hE rfl) (fun a hE => ?_)
              obtain ⟨x65_46, qx65_46, H⟩ := H
              refine t_val (v := .pointer (some x65_46)) rfl rfl hE rfl (r_indexAddrL hE rfl rfl un82 sz87 qx65_46) (fun a hE => ?_)
              obtain ⟨x66_47, qx66_47, H⟩ := H
              refine t_val (v := .agg x66_47) rfl rfl hE rfl (r_loadG hE rfl ag87 qx66_47) (fun a hE => ?_)
              obtain ⟨y_49, qy_49, H⟩ := H
              obtain ⟨x67_48, qx67_48, H⟩ := H
              refine t_valh (v := (x67_48 : Sl).v) rfl rfl hE rfl hR (r_buildL hE rfl un82 sz87 zr87 rfl qy_49 qx67_48) (fun a w hE hR hh => ?_)
              replace H := M.at hh H; clear hh
              refine t_ex (fun x68_50 => (x68_50 : Sl).v) rfl rfl hR (M.unbind H) (fun Q H => ap_run hE rfl rfl ap82 H) (fun x68_50 a w ea hR H => ?_)
              have hE := Env.put_some hE rfl ea; clear ea
              refine t_val (v := (x68_50 : Sl).v) rfl rfl hE rfl (r_assign hE rfl) (fun a hE => ?_)
              refine t_nil ?_
              exact ⟨x68_50, x9_34, hE.cut (.cons rfl (.cons rfl (.cons rfl (.cons rfl (.cons rfl (.cons rfl Subs.nil)))))), hR, H⟩
            · replace H := M.ite_f hb H
              refine w_skip ?_
              exact ⟨x8_33, x9_34, hE.cut (.cons rfl (.cons rfl (.cons rfl (.cons rfl (.cons rfl (.cons rfl Subs.nil)))))), hR, H⟩
          · skip
            refine w_seq (fun K hK_51 => ?_)
            refine t_region ?_
            refine t_val (v := .bool x9_17) rfl rfl hE rfl (r_move hE rfl) (fun a hE => ?_)
            refine t_val (v := .bool (!x9_17)) rfl rfl hE rfl (r_un hE rfl u_not) (fun a hE => ?_)
            refine t_val (v := .bool (!x9_17)) rfl rfl hE rfl (r_move hE rfl) (fun a hE => ?_)
            refine t_grp (n := 81) (w0 := w0) 11 (fun x42_52 : Bool => [(0, .pointer x0), (1, .int .i64 x1), (5, .pointer (some x5_2)), (8, (x8_16 : Sl).v), (9, .bool x9_17), (10, .int .i64 x10_18), (42, .bool x42_52)]) (M.unbind H) (fun Kr hKr H => ?_) ?_
            · rcases bool_em (!x9_17) with hb | hb
              · replace H := M.ite_t hb H
                have hE := hE.reb 31 (!x9_17) true hb rfl
                refine t_on rfl hE rfl rfl rfl ?_
                refine t_val (v := .pointer x0) rfl rfl hE rfl (r_move hE rfl) (fun a hE => ?_)
                refine t_on rfl hE rfl rfl rfl ?_
                obtain ⟨x33_53, qx33_53, H⟩ := H
                refine t_val (v := .pointer (some x33_53)) rfl rfl hE rfl (r_nilCheck hE (hx_eq rfl (congrArg Value.pointer qx33_53))) (fun a hE => ?_)
                refine t_on rfl hE rfl rfl rfl ?_
                refine t_val (v := .pointer (some ((x33_53).add 2))) rfl rfl hE rfl (r_fieldAddr hE rfl fd84_2) (fun a hE => ?_)
                refine t_on rfl hE rfl rfl rfl ?_
                obtain ⟨x35_54, qx35_54, H⟩ := H
                refine t_val (v := (x35_54 : Sl).v) rfl rfl hE rfl (r_load hE rfl sc82 qx35_54) (fun a hE => ?_)
                refine t_on rfl hE rfl rfl rfl ?_
                refine t_val (v := .int .i64 x10_18) rfl rfl hE rfl (r_move hE rfl) (fun a hE => ?_)
                refine t_on rfl hE rfl rfl rfl ?_
                obtain ⟨x37_55, qx37_55, H⟩ := H
                refine t_val (v := .pointer (some x37_55)) rfl rfl hE rfl (r_indexAddrL hE rfl rfl un82 sz87 qx37_55) (fun a hE => ?_)
                refine t_on rfl hE rfl rfl rfl ?_
                refine t_val (v := .pointer (some ((x37_55).add 0))) rfl rfl hE rfl (r_fieldAddr hE rfl fd87_0) (fun a hE => ?_)
                refine t_on rfl hE rfl rfl rfl ?_
                obtain ⟨x39_56, qx39_56, H⟩ := H
                refine t_val (v := .int .i64 x39_56) rfl rfl hE rfl (r_load hE rfl sc3 qx39_56) (fun a hE => ?_)
                refine t_on rfl hE rfl rfl rfl ?_
                refine t_val (v := .int .i64 x1) rfl rfl hE rfl (r_move hE rfl) (fun a hE => ?_)
                refine t_on rfl hE rfl rfl rfl ?_
                refine t_val (v := .bool (decide (x39_56 ≥ x1))) rfl rfl hE rfl (r_bin hE rfl rfl g_int b_geq) (fun a hE => ?_)
                refine t_val rfl rfl hE rfl (r_pick_t hE rfl rfl) (fun a hE => ?_)
                refine t_nil ?_
                exact hKr _ _ _ (hE.cut (.cons rfl (.cons rfl (.cons rfl (.cons rfl (.cons rfl (.cons rfl (.cons rfl Subs.nil)))))))) hR H
              · replace H := M.ite_f hb H
                have hE := hE.reb 31 (!x9_17) false hb rfl
                refine t_off rfl hE rfl rfl rfl (fun a ea => ?_)
                have hE := Env.put_some hE rfl ea; clear ea
                refine t_off rfl hE rfl rfl rfl (fun a ea => ?_)
                have hE := Env.put_some hE rfl ea; clear ea
                refine t_off rfl hE rfl rfl rfl (fun a ea => ?_)
                have hE := Env.put_some hE rfl ea; clear ea
                refine t_off rfl hE rfl rfl rfl (fun a ea => ?_)
                have hE := Env.put_some hE rfl ea; clear ea
                refine t_off rfl hE rfl rfl rfl (fun a ea => ?_)
                have hE := Env.put_some hE rfl ea; clear ea
                refine t_off rfl hE rfl rfl rfl (fun a ea => ?_)
                have hE := Env.put_some hE rfl ea; clear ea
                refine t_off rfl hE rfl rfl rfl (fun a ea => ?_)
                have hE := Env.put_some hE rfl ea; clear ea
                refine t_off rfl hE rfl rfl rfl (fun a ea => ?_)
                have hE := Env.put_some hE rfl ea; clear ea
                refine t_off rfl hE rfl rfl rfl (fun a ea => ?_)
                have hE := Env.put_some hE rfl ea; clear ea
                refine t_off rfl hE rfl rfl rfl (fun a ea => ?_)
                have hE := Env.put_some hE rfl ea; clear ea
                refine t_val rfl rfl hE rfl (r_pick_f hE rfl rfl) (fun a hE => ?_)
                refine t_nil ?_
                exact hKr _ _ _ (hE.cut (.cons rfl (.cons rfl (.cons rfl (.cons rfl (.cons rfl (.cons rfl (.cons rfl Subs.nil)))))))) hR H
            · intro x42_52 a w hE hR H
              refine t_nil ?_
              refine hK_51 _ _ ?_
              refine w_cond x42_52 hE rfl (fun hb => ?_) (fun hb => ?_)
              · replace H := M.ite_t hb H
                refine w_seq (fun K hK_57 => ?_)
                refine t_region ?_
                refine t_val (v := (x8_16 : Sl).v) rfl rfl hE rfl (r_move hE rfl) (fun a hE => ?_)
                refine t_val (v := .int .i64 x1) rfl rfl hE rfl (r_move hE rfl) (fun a hE => ?_)
                obtain ⟨x45_58, qx45_58, H⟩ := H
                refine t_val (v := .agg x45_58) rfl rfl hE rfl (r_loadG hE rfl ag26 qx45_58) (fun a hE => ?_)
                obtain ⟨x46_59, qx46_59, H⟩ := H
                refine t_val (v := .agg x46_59) rfl rfl hE rfl (r_build hE rfl zr87 pl87 qx46_59) (fun a hE => ?_)
                obtain ⟨y_61, qy_61, H⟩ := H
                obtain ⟨x47_60, qx47_60, H⟩ := H
                refine t_valh (v := (x47_60 : Sl).v) rfl rfl hE rfl hR (r_buildL hE rfl un82 sz87 zr87 rfl qy_61 qx47_60) (fun a w hE hR hh => ?_)
                replace H := M.at hh H; clear hh
                refine t_ex (fun x48_62 => (x48_62 : Sl).v) rfl rfl hR (M.unbind H) (fun Q H => ap_run hE rfl rfl ap82 H) (fun x48_62 a w ea hR H => ?_)
                have hE := Env.put_some hE rfl ea; clear ea
                refine t_val (v := (x48_62 : Sl).v) rfl rfl hE rfl (r_assign hE rfl) (fun a hE => ?_)
                refine t_nil ?_
                refine hK_57 _ _ ?_
                refine t_region ?_
                refine t_val (v := .bool true) rfl rfl hE rfl (r_assign hE rfl) (fun a hE => ?_)
                refine t_nil ?_
                exact ⟨x48_62, true, hE.cut (.cons rfl (.cons rfl (.cons rfl (.cons rfl (.cons rfl (.cons rfl Subs.nil)))))), hR, H⟩
              · replace H := M.ite_f hb H
                refine w_skip ?_
                exact ⟨x8_16, x9_17, hE.cut (.cons rfl (.cons rfl (.cons rfl (.cons rfl (.cons rfl (.cons rfl Subs.nil)))))), hR, H⟩
      · replace H := M.ite_f hb H
        refine w_exit ?_
        refine Xu.same ?_
        refine hK_14 _ _ ?_
        refine w_seq_join (fun a w => ∃ (x8_63 : Sl), Env 81 a [(0, .pointer x0), (8, (x8_63 : Sl).v)] ∧ Rest w0 w ∧ (rambleref04_Disk_Write_j3 x0 x8_63).wp w.heap Q) ?_ ?_
        · rintro a w ⟨x8_63, hE, hR, H⟩
          unfold rambleref04_Disk_Write_j3 at H
          refine w_seq (fun K hK_65 => ?_)
          refine t_region ?_
          refine t_val (v := .pointer x0) rfl rfl hE rfl (r_move hE rfl) (fun a hE => ?_)
          refine t_val (v := (x8_63 : Sl).v) rfl rfl hE rfl (r_move hE rfl) (fun a hE => ?_)
          obtain ⟨x79_66, qx79_66, H⟩ := H
          refine t_val (v := .pointer (some x79_66)) rfl rfl hE rfl (r_nilCheck hE (hx_eq rfl (congrArg Value.pointer qx79_66))) (fun a hE => ?_)
          refine t_val (v := .pointer (some ((x79_66).add 2))) rfl rfl hE rfl (r_fieldAddr hE rfl fd84_2) (fun a hE => ?_)
          obtain ⟨u_67, qu_67, H⟩ := H
          refine t_sth rfl rfl hE hR (r_store hE rfl rfl sz82 qu_67) (fun a w hE hR hh => ?_)
          replace H := M.at hh H; clear hh
          refine t_nil ?_
          refine hK_65 _ _ ?_
          refine w_seq (fun K hK_68 => ?_)
          refine t_region ?_
          refine t_val (v := .int .i64 0) rfl rfl hE rfl (r_assign hE rfl) (fun a hE => ?_)
          refine t_nil ?_
          refine hK_68 _ _ ?_
          refine w_ret ?_
          exact hret _ _ _ 0 _ hE hR (res_run hE rfl (RV.tmp rfl RV.nil)) rfl H
        · skip
          refine w_seq (fun K hK_69 => ?_)
          refine t_region ?_
          refine t_val (v := .bool x9_17) rfl rfl hE rfl (r_move hE rfl) (fun a hE => ?_)
          refine t_val (v := .bool (!x9_17)) rfl rfl hE rfl (r_un hE rfl u_not) (fun a hE => ?_)
          refine t_nil ?_
          refine hK_69 _ _ ?_
          refine w_cond (!x9_17) hE rfl (fun hb => ?_) (fun hb => ?_)
          · replace H := M.ite_t hb H
            refine t_region ?_
            refine t_val (v := (x8_16 : Sl).v) rfl rfl hE rfl (r_move hE rfl) (fun a hE => ?_)
            refine t_val (v := .int .i64 x1) rfl rfl hE rfl (r_move hE rfl) (fun a hE => ?_)
            obtain ⟨x73_70, qx73_70, H⟩ := H
            refine t_val (v := .agg x73_70) rfl rfl hE rfl (r_loadG hE rfl ag26 qx73_70) (fun a hE => ?_)
            obtain ⟨x74_71, qx74_71, H⟩ := H
            refine t_val (v := .agg x74_71) rfl rfl hE rfl (r_build hE rfl zr87 pl87 qx74_71) (fun a hE => ?_)
            obtain ⟨y_73, qy_73, H⟩ := H
            obtain ⟨x75_72, qx75_72, H⟩ := H
            refine t_valh (v := (x75_72 : Sl).v) rfl rfl hE rfl hR (r_buildL hE rfl un82 sz87 zr87 rfl qy_73 qx75_72) (fun a w hE hR hh => ?_)
            replace H := M.at hh H; clear hh
            refine t_ex (fun x76_74 => (x76_74 : Sl).v) rfl rfl hR (M.unbind H) (fun Q H => ap_run hE rfl rfl ap82 H) (fun x76_74 a w ea hR H => ?_)
            have hE := Env.put_some hE rfl ea; clear ea
            refine t_val (v := (x76_74 : Sl).v) rfl rfl hE rfl (r_assign hE rfl) (fun a hE => ?_)
            refine t_nil ?_
            exact ⟨x76_74, hE.cut (.cons rfl (.cons rfl Subs.nil)), hR, H⟩
          · replace H := M.ite_f hb H
            refine w_skip ?_
            exact ⟨x8_16, hE.cut (.cons rfl (.cons rfl Subs.nil)), hR, H⟩

/-- ramble/rambleref05.Put -/
def rambleref05_Put (x0 : Option Addr) (x1 : Int) (x2 : Array Value) : M (Int) := do
  let x5_2 ← mkB ty_api_Frame x2
  let x10_4 ← ldG 3 x5_2
  let x11_5 ← rambleref05_Seal x10_4
  let x7_6 ← mkB ty_api_Sector (Array.replicate 128 (.int .u8 0) : Array Value)
  M.need (x11_5.1.size = 128)
  stG x7_6 x11_5.1
  M.ite (x11_5.2 != 0) (do
    M.pure x11_5.2
    ) (do
    let x19_12 ← ldG 128 x7_6
    let x20_13 ← rambleref04_Disk_Write x0 x1 x19_12
    M.pure x20_13
    )
theorem S_rambleref05_Put (x0 : Option Addr) (x1 : Int) (x2 : Array Value) : Sound Go.Proofs.Try.prog 29 #[.pointer x0, .int .i64 x1, .agg x2] (fun (r : Int) => .int .i64 r) (rambleref05_Put x0 x1 x2) := by
  refine sound_of [(0, .pointer x0), (1, .int .i64 x1), (2, .agg x2)] Go.Proofs.Try.func29 rfl rfl (Nat.le_of_ble_eq_true rfl) (args_of ⟨rfl, rfl, rfl, trivial⟩) (fun w0 w Q R a hret hE hR H => ?_)
  unfold rambleref05_Put at H
  refine w_seq (fun K hK_1 => ?_)
  refine t_region ?_
  obtain ⟨x5_2, qx5_2, H⟩ := H
  refine t_valh (v := .pointer (some x5_2)) rfl rfl hE rfl hR (r_box hE rfl qx5_2) (fun a w hE hR hh => ?_)
  replace H := M.at hh H; clear hh
  refine t_val (v := .int .i64 0) rfl rfl hE rfl (r_assign hE rfl) (fun a hE => ?_)
  refine t_nil ?_
  refine hK_1 _ _ ?_
  refine w_seq (fun K hK_3 => ?_)
  refine t_region ?_
  obtain ⟨x10_4, qx10_4, H⟩ := H
  refine t_val (v := .agg x10_4) rfl rfl hE rfl (r_loadG hE rfl ag24 qx10_4) (fun a hE => ?_)
  refine t_call hE hR cl9 rfl (S_rambleref05_Seal x10_4) (M.unbind H) (fun x11_5 a w ea hR H => ?_)
  have hE := Env.put_some hE rfl ea; clear ea
  refine t_val (v := .tuple #[.agg x11_5.1, .int .i64 x11_5.2]) rfl rfl hE rfl (r_move hE rfl) (fun a hE => ?_)
  refine t_val (v := .agg x11_5.1) rfl rfl hE rfl (r_extract hE rfl rfl) (fun a hE => ?_)
  refine t_val (v := .int .i64 x11_5.2) rfl rfl hE rfl (r_extract hE rfl rfl) (fun a hE => ?_)
  obtain ⟨x7_6, qx7_6, H⟩ := H
  refine t_valh (v := .pointer (some x7_6)) rfl rfl hE rfl hR (r_alloc zr26 qx7_6) (fun a w hE hR hh => ?_)
  replace H := M.at hh H; clear hh
  obtain ⟨qz, H⟩ := H
  obtain ⟨u_7, qu_7, H⟩ := H
  refine t_sth rfl rfl hE hR (r_storeG hE rfl rfl sz26 qz qu_7) (fun a w hE hR hh => ?_)
  replace H := M.at hh H; clear hh
  refine t_val (v := .int .i64 x11_5.2) rfl rfl hE rfl (r_assign hE rfl) (fun a hE => ?_)
  refine t_nil ?_
  refine hK_3 _ _ ?_
  refine w_seq (fun K hK_8 => ?_)
  refine w_seq (fun K hK_9 => ?_)
  refine t_region ?_
  refine t_val (v := .int .i64 x11_5.2) rfl rfl hE rfl (r_move hE rfl) (fun a hE => ?_)
  refine t_val (v := .bool (x11_5.2 != 0)) rfl rfl hE rfl (r_bin hE rfl rfl g_int b_neq) (fun a hE => ?_)
  refine t_nil ?_
  refine hK_9 _ _ ?_
  refine w_cond (x11_5.2 != 0) hE rfl (fun hb => ?_) (fun hb => ?_)
  · replace H := M.ite_t hb H
    refine w_seq (fun K hK_10 => ?_)
    refine t_region ?_
    refine t_val (v := .int .i64 x11_5.2) rfl rfl hE rfl (r_move hE rfl) (fun a hE => ?_)
    refine t_val (v := .int .i64 x11_5.2) rfl rfl hE rfl (r_assign hE rfl) (fun a hE => ?_)
    refine t_nil ?_
    refine hK_10 _ _ ?_
    refine w_ret ?_
    exact hret _ _ _ x11_5.2 _ hE hR (res_run hE rfl (RV.tmp rfl RV.nil)) rfl H
  · replace H := M.ite_f hb H
    refine w_skip ?_
    refine hK_8 _ _ ?_
    refine w_seq (fun K hK_11 => ?_)
    refine t_region ?_
    refine t_val (v := .pointer x0) rfl rfl hE rfl (r_move hE rfl) (fun a hE => ?_)
    refine t_val (v := .int .i64 x1) rfl rfl hE rfl (r_move hE rfl) (fun a hE => ?_)
    obtain ⟨x19_12, qx19_12, H⟩ := H
    refine t_val (v := .agg x19_12) rfl rfl hE rfl (r_loadG hE rfl ag26 qx19_12) (fun a hE => ?_)
    refine t_call hE hR cl44 rfl (S_rambleref04_Disk_Write x0 x1 x19_12) (M.unbind H) (fun x20_13 a w ea hR H => ?_)
    have hE := Env.put_some hE rfl ea; clear ea
    refine t_val (v := .int .i64 x20_13) rfl rfl hE rfl (r_assign hE rfl) (fun a hE => ?_)
    refine t_nil ?_
    refine hK_11 _ _ ?_
    refine w_ret ?_
    exact hret _ _ _ x20_13 _ hE hR (res_run hE rfl (RV.tmp rfl RV.nil)) rfl H

/-- (*ramble/rambleref04.Disk).stay -/
def rambleref04_Disk_stay (x0 : Option Addr) (x1 : Array Value) : M (Unit) := do
  let x3_2 ← mkB ty_rambleref04_Cached x1
  let x7_4 ← nilP x0
  let x9_5 ← ldL ((x7_4).add 0)
  let x10_6 ← apL ty_api_Sector 128 128 (Array.replicate 128 (.int .u8 0) : Array Value) Sl.nil x9_5
  let x13_8 ← ldI .i64 ((x3_2).add 0)
  let x15_9 ← ldG 128 ((x3_2).add 1)
  let x16_10 ← ixL x10_6 x13_8 128
  M.need (x15_9.size = 128)
  stG x16_10 x15_9
  let x19_13 ← nilP x0
  stV ((x19_13).add 0) ((x10_6 : Sl).v)
  let x22_16 ← nilP x0
  let x24_17 ← ldL ((x22_16).add 1)
  let x25_18 ← apL ty_bool 1 1 (#[.bool false] : Array Value) Sl.nil x24_17
  let x28_20 ← ldI .i64 ((x3_2).add 0)
  let x29_21 ← ixL x25_18 x28_20 1
  stV x29_21 (.bool false)
  let x32_23 ← nilP x0
  stV ((x32_23).add 1) ((x25_18 : Sl).v)
  M.pure ()
theorem S_rambleref04_Disk_stay (x0 : Option Addr) (x1 : Array Value) : Sound Go.Proofs.Try.prog 46 #[.pointer x0, .agg x1] (fun (r : Unit) => .tuple #[]) (rambleref04_Disk_stay x0 x1) := by
  refine sound_of [(0, .pointer x0), (1, .agg x1)] Go.Proofs.Try.func46 rfl rfl (Nat.le_of_ble_eq_true rfl) (args_of ⟨rfl, rfl, trivial⟩) (fun w0 w Q R a hret hE hR H => ?_)
  unfold rambleref04_Disk_stay at H
  refine w_seq (fun K hK_1 => ?_)
  refine t_region ?_
  obtain ⟨x3_2, qx3_2, H⟩ := H
  refine t_valh (v := .pointer (some x3_2)) rfl rfl hE rfl hR (r_box hE rfl qx3_2) (fun a w hE hR hh => ?_)
  replace H := M.at hh H; clear hh
  refine t_nil ?_
  refine hK_1 _ _ ?_
  refine w_seq (fun K hK_3 => ?_)
  refine t_region ?_
  refine t_val (v := .pointer x0) rfl rfl hE rfl (r_move hE rfl) (fun a hE => ?_)
  obtain ⟨x7_4, qx7_4, H⟩ := H
  refine t_val (v := .pointer (some x7_4)) rfl rfl hE rfl (r_nilCheck hE (hx_eq rfl (congrArg Value.pointer qx7_4))) (fun a hE => ?_)
  refine t_val (v := .pointer (some ((x7_4).add 0))) rfl rfl hE rfl (r_fieldAddr hE rfl fd84_0) (fun a hE => ?_)
  obtain ⟨x9_5, qx9_5, H⟩ := H
  refine t_val (v := (x9_5 : Sl).v) rfl rfl hE rfl (r_load hE rfl sc74 qx9_5) (fun a hE => ?_)
  refine t_ex (fun x10_6 => (x10_6 : Sl).v) rfl rfl hR (M.unbind H) (fun Q H => ap_run hE rfl rfl ap74 H) (fun x10_6 a w ea hR H => ?_)
  have hE := Env.put_some hE rfl ea; clear ea
  refine t_val (v := (x10_6 : Sl).v) rfl rfl hE rfl (r_assign hE rfl) (fun a hE => ?_)
  refine t_nil ?_
  refine hK_3 _ _ ?_
  refine w_seq (fun K hK_7 => ?_)
  refine t_region ?_
  refine t_val (v := (x10_6 : Sl).v) rfl rfl hE rfl (r_move hE rfl) (fun a hE => ?_)
  refine t_val (v := .pointer (some ((x3_2).add 0))) rfl rfl hE rfl (r_fieldAddr hE rfl fd87_0) (fun a hE => ?_)
  obtain ⟨x13_8, qx13_8, H⟩ := H
  refine t_val (v := .int .i64 x13_8) rfl rfl hE rfl (r_load hE rfl sc3 qx13_8) (fun a hE => ?_)
  refine t_val (v := .pointer (some ((x3_2).add 1))) rfl rfl hE rfl (r_fieldAddr hE rfl fd87_1) (fun a hE => ?_)
  obtain ⟨x15_9, qx15_9, H⟩ := H
  refine t_val (v := .agg x15_9) rfl rfl hE rfl (r_loadG hE rfl ag26 qx15_9) (fun a hE => ?_)
  obtain ⟨x16_10, qx16_10, H⟩ := H
  refine t_val (v := .pointer (some x16_10)) rfl rfl hE rfl (r_indexAddrL hE rfl rfl un74 sz26 qx16_10) (fun a hE => ?_)
  obtain ⟨qz, H⟩ := H
  obtain ⟨u_11, qu_11, H⟩ := H
  refine t_sth rfl rfl hE hR (r_storeG hE rfl rfl sz26 qz qu_11) (fun a w hE hR hh => ?_)
  replace H := M.at hh H; clear hh
  refine t_nil ?_
  refine hK_7 _ _ ?_
  refine w_seq (fun K hK_12 => ?_)
  refine t_region ?_
  refine t_val (v := .pointer x0) rfl rfl hE rfl (r_move hE rfl) (fun a hE => ?_)
  refine t_val (v := (x10_6 : Sl).v) rfl rfl hE rfl (r_move hE rfl) (fun a hE => ?_)
  obtain ⟨x19_13, qx19_13, H⟩ := H
  refine t_val (v := .pointer (some x19_13)) rfl rfl hE rfl (r_nilCheck hE (hx_eq rfl (congrArg Value.pointer qx19_13))) (fun a hE => ?_)
  refine t_val (v := .pointer (some ((x19_13).add 0))) rfl rfl hE rfl (r_fieldAddr hE rfl fd84_0) (fun a hE => ?_)
  obtain ⟨u_14, qu_14, H⟩ := H
  refine t_sth rfl rfl hE hR (r_store hE rfl rfl sz74 qu_14) (fun a w hE hR hh => ?_)
  replace H := M.at hh H; clear hh
  refine t_nil ?_
  refine hK_12 _ _ ?_
  refine w_seq (fun K hK_15 => ?_)
  refine t_region ?_
  refine t_val (v := .pointer x0) rfl rfl hE rfl (r_move hE rfl) (fun a hE => ?_)
  obtain ⟨x22_16, qx22_16, H⟩ := H
  refine t_val (v := .pointer (some x22_16)) rfl rfl hE rfl (r_nilCheck hE (hx_eq rfl (congrArg Value.pointer qx22_16))) (fun a hE => ?_)
  refine t_val (v := .pointer (some ((x22_16).add 1))) rfl rfl hE rfl (r_fieldAddr hE rfl fd84_1) (fun a hE => ?_)
  obtain ⟨x24_17, qx24_17, H⟩ := H
  refine t_val (v := (x24_17 : Sl).v) rfl rfl hE rfl (r_load hE rfl sc75 qx24_17) (fun a hE => ?_)
  refine t_ex (fun x25_18 => (x25_18 : Sl).v) rfl rfl hR (M.unbind H) (fun Q H => ap_run hE rfl rfl ap75 H) (fun x25_18 a w ea hR H => ?_)
  have hE := Env.put_some hE rfl ea; clear ea
  refine t_val (v := (x25_18 : Sl).v) rfl rfl hE rfl (r_assign hE rfl) (fun a hE => ?_)
  refine t_nil ?_
  refine hK_15 _ _ ?_
  refine w_seq (fun K hK_19 => ?_)
  refine t_region ?_
  refine t_val (v := (x25_18 : Sl).v) rfl rfl hE rfl (r_move hE rfl) (fun a hE => ?_)
  refine t_val (v := .pointer (some ((x3_2).add 0))) rfl rfl hE rfl (r_fieldAddr hE rfl fd87_0) (fun a hE => ?_)
  obtain ⟨x28_20, qx28_20, H⟩ := H
  refine t_val (v := .int .i64 x28_20) rfl rfl hE rfl (r_load hE rfl sc3 qx28_20) (fun a hE => ?_)
  obtain ⟨x29_21, qx29_21, H⟩ := H
  refine t_val (v := .pointer (some x29_21)) rfl rfl hE rfl (r_indexAddrL hE rfl rfl un75 sz4 qx29_21) (fun a hE => ?_)
  obtain ⟨u_22, qu_22, H⟩ := H
  refine t_sth rfl rfl hE hR (r_store hE rfl rfl sz4 qu_22) (fun a w hE hR hh => ?_)
  replace H := M.at hh H; clear hh
  refine t_nil ?_
  refine hK_19 _ _ ?_
  refine t_region ?_
  refine t_val (v := .pointer x0) rfl rfl hE rfl (r_move hE rfl) (fun a hE => ?_)
  refine t_val (v := (x25_18 : Sl).v) rfl rfl hE rfl (r_move hE rfl) (fun a hE => ?_)
  obtain ⟨x32_23, qx32_23, H⟩ := H
  refine t_val (v := .pointer (some x32_23)) rfl rfl hE rfl (r_nilCheck hE (hx_eq rfl (congrArg Value.pointer qx32_23))) (fun a hE => ?_)
  refine t_val (v := .pointer (some ((x32_23).add 1))) rfl rfl hE rfl (r_fieldAddr hE rfl fd84_1) (fun a hE => ?_)
  obtain ⟨u_24, qu_24, H⟩ := H
  refine t_sth rfl rfl hE hR (r_store hE rfl rfl sz75 qu_24) (fun a w hE hR hh => ?_)
  replace H := M.at hh H; clear hh
  refine t_nil ?_
  exact hret _ _ _ () _ hE hR (res_run hE rfl RV.nil) rfl H

/-- (*ramble/rambleref04.Disk).Flush -/
def rambleref04_Disk_Flush_l1 (c0_14 : Option Addr) (self1 : (Int) → M (Int)) : (Int) → M (Int) := fun s => match s with
  | x3_13 => do
    let x13_18 ← nilP c0_14
    let x15_19 ← ldL ((x13_18).add 2)
    M.ite (decide (x3_13 < (x15_19.len : Int))) (do
      let x22_21 ← nilP c0_14
      let x24_22 ← ldL ((x22_21).add 2)
      let x26_23 ← ixL x24_22 x3_13 129
      let x27_24 ← ldG 129 x26_23
      let x28_25 ← rambleref04_Disk_stay c0_14 x27_24
      self1 (IntKind.wrap .i64 (x3_13 + 1))
      ) (do
      let x30_27 ← nilP c0_14
      stV ((x30_27).add 2) ((Sl.nil : Sl).v)
      M.pure 0
      )
def rambleref04_Disk_Flush (x0 : Option Addr) : M (Int) := do
  let x5_4 ← nilP x0
  let x7_5 ← ldB ((x5_4).add 3)
  M.ite x7_5 (do
    M.pure 9
    ) (do
    let x9_9 ← rambleref04_Disk_call x0
    M.ite (!x9_9) (do
      M.pure 9
      ) (do
      M.loop (rambleref04_Disk_Flush_l1 x0) 0
      )
    )
theorem S_rambleref04_Disk_Flush (x0 : Option Addr) : Sound Go.Proofs.Try.prog 30 #[.pointer x0] (fun (r : Int) => .int .i64 r) (rambleref04_Disk_Flush x0) := by
  refine sound_of [(0, .pointer x0)] Go.Proofs.Try.func30 rfl rfl (Nat.le_of_ble_eq_true rfl) (args_of ⟨rfl, trivial⟩) (fun w0 w Q R a hret hE hR H => ?_)
  unfold rambleref04_Disk_Flush at H
  refine w_seq (fun K hK_1 => ?_)
  refine t_region ?_
  refine t_val (v := .int .i64 0) rfl rfl hE rfl (r_assign hE rfl) (fun a hE => ?_)
  refine t_nil ?_
  refine hK_1 _ _ ?_
  refine w_seq (fun K hK_2 => ?_)
  refine w_seq (fun K hK_3 => ?_)
  refine t_region ?_
  refine t_val (v := .pointer x0) rfl rfl hE rfl (r_move hE rfl) (fun a hE => ?_)
  obtain ⟨x5_4, qx5_4, H⟩ := H
  refine t_val (v := .pointer (some x5_4)) rfl rfl hE rfl (r_nilCheck hE (hx_eq rfl (congrArg Value.pointer qx5_4))) (fun a hE => ?_)
  refine t_val (v := .pointer (some ((x5_4).add 3))) rfl rfl hE rfl (r_fieldAddr hE rfl fd84_3) (fun a hE => ?_)
  obtain ⟨x7_5, qx7_5, H⟩ := H
  refine t_val (v := .bool x7_5) rfl rfl hE rfl (r_load hE rfl sc4 qx7_5) (fun a hE => ?_)
  refine t_nil ?_
  refine hK_3 _ _ ?_
  refine w_cond x7_5 hE rfl (fun hb => ?_) (fun hb => ?_)
  · replace H := M.ite_t hb H
    refine w_seq (fun K hK_6 => ?_)
    refine t_region ?_
    refine t_val (v := .int .i64 9) rfl rfl hE rfl (r_assign hE rfl) (fun a hE => ?_)
    refine t_nil ?_
    refine hK_6 _ _ ?_
    refine w_ret ?_
    exact hret _ _ _ 9 _ hE hR (res_run hE rfl (RV.tmp rfl RV.nil)) rfl H
  · replace H := M.ite_f hb H
    refine w_skip ?_
    refine hK_2 _ _ ?_
    refine w_seq (fun K hK_7 => ?_)
    refine w_seq (fun K hK_8 => ?_)
    refine t_region ?_
    refine t_val (v := .pointer x0) rfl rfl hE rfl (r_move hE rfl) (fun a hE => ?_)
    refine t_call hE hR cl45 rfl (S_rambleref04_Disk_call x0) (M.unbind H) (fun x9_9 a w ea hR H => ?_)
    have hE := Env.put_some hE rfl ea; clear ea
    refine t_val (v := .bool (!x9_9)) rfl rfl hE rfl (r_un hE rfl u_not) (fun a hE => ?_)
    refine t_nil ?_
    refine hK_8 _ _ ?_
    refine w_cond (!x9_9) hE rfl (fun hb => ?_) (fun hb => ?_)
    · replace H := M.ite_t hb H
      refine w_seq (fun K hK_10 => ?_)
      refine t_region ?_
      refine t_val (v := .int .i64 9) rfl rfl hE rfl (r_assign hE rfl) (fun a hE => ?_)
      refine t_nil ?_
      refine hK_10 _ _ ?_
      refine w_ret ?_
      exact hret _ _ _ 9 _ hE hR (res_run hE rfl (RV.tmp rfl RV.nil)) rfl H
    · replace H := M.ite_f hb H
      refine w_skip ?_
      refine hK_7 _ _ ?_
      refine w_seq (fun K hK_11 => ?_)
      refine w_seq (fun K hK_12 => ?_)
      refine t_region ?_
      refine t_val (v := .int .i64 0) rfl rfl hE rfl (r_assign hE rfl) (fun a hE => ?_)
      refine t_nil ?_
      refine hK_12 _ _ ?_
      refine w_block ?_
      refine l_loop (fun (s : Int) => [(0, .pointer x0), (3, .int .i64 s)]) H (hE.cut (.cons rfl (.cons rfl Subs.nil))) hR (fun Y self1 hY_15 x3_13 a w hE hR H => ?_)
      replace hE : Env 32 a [(0, .pointer x0), (3, .int .i64 x3_13)] := hE
      replace H : (rambleref04_Disk_Flush_l1 x0 self1 x3_13).wp w.heap Q := H
      unfold rambleref04_Disk_Flush_l1 at H
      refine w_seq (fun K hK_16 => ?_)
      refine w_seq (fun K hK_17 => ?_)
      refine t_region ?_
      refine t_val (v := .int .i64 x3_13) rfl rfl hE rfl (r_move hE rfl) (fun a hE => ?_)
      refine t_val (v := .pointer x0) rfl rfl hE rfl (r_move hE rfl) (fun a hE => ?_)
      obtain ⟨x13_18, qx13_18, H⟩ := H
      refine t_val (v := .pointer (some x13_18)) rfl rfl hE rfl (r_nilCheck hE (hx_eq rfl (congrArg Value.pointer qx13_18))) (fun a hE => ?_)
      refine t_val (v := .pointer (some ((x13_18).add 2))) rfl rfl hE rfl (r_fieldAddr hE rfl fd84_2) (fun a hE => ?_)
      obtain ⟨x15_19, qx15_19, H⟩ := H
      refine t_val (v := (x15_19 : Sl).v) rfl rfl hE rfl (r_load hE rfl sc82 qx15_19) (fun a hE => ?_)
      refine t_val (v := .int .i64 (x15_19.len : Int)) rfl rfl hE rfl (r_len hE rfl 87 un82) (fun a hE => ?_)
      refine t_val (v := .bool (decide (x3_13 < (x15_19.len : Int)))) rfl rfl hE rfl (r_bin hE rfl rfl g_int b_lss) (fun a hE => ?_)
      refine t_nil ?_
      refine hK_17 _ _ ?_
      refine w_cond (decide (x3_13 < (x15_19.len : Int))) hE rfl (fun hb => ?_) (fun hb => ?_)
      · replace H := M.ite_t hb H
        refine w_skip ?_
        refine hK_16 _ _ ?_
        refine w_seq (fun K hK_20 => ?_)
        refine w_block ?_
        refine t_region ?_
        refine t_val (v := .pointer x0) rfl rfl hE rfl (r_move hE rfl) (fun a hE => ?_)
        refine t_val (v := .pointer x0) rfl rfl hE rfl (r_move hE rfl) (fun a hE => ?_)
        obtain ⟨x22_21, qx22_21, H⟩ := H
        refine t_val (v := .pointer (some x22_21)) rfl rfl hE rfl (r_nilCheck hE (hx_eq rfl (congrArg Value.pointer qx22_21))) (fun a hE => ?_)
        refine t_val (v := .pointer (some ((x22_21).add 2))) rfl rfl hE rfl (r_fieldAddr hE rfl fd84_2) (fun a hE => ?_)
        obtain ⟨x24_22, qx24_22, H⟩ := H
        refine t_val (v := (x24_22 : Sl).v) rfl rfl hE rfl (r_load hE rfl sc82 qx24_22) (fun a hE => ?_)
        refine t_val (v := .int .i64 x3_13) rfl rfl hE rfl (r_move hE rfl) (fun a hE => ?_)
        obtain ⟨x26_23, qx26_23, H⟩ := H
        refine t_val (v := .pointer (some x26_23)) rfl rfl hE rfl (r_indexAddrL hE rfl rfl un82 sz87 qx26_23) (fun a hE => ?_)
        obtain ⟨x27_24, qx27_24, H⟩ := H
        refine t_val (v := .agg x27_24) rfl rfl hE rfl (r_loadG hE rfl ag87 qx27_24) (fun a hE => ?_)
        refine t_call hE hR cl46 rfl (S_rambleref04_Disk_stay x0 x27_24) (M.unbind H) (fun x28_25 a w ea hR H => ?_)
        have hE := Env.put_some hE rfl ea; clear ea
        refine t_nil ?_
        refine hK_20 _ _ ?_
        refine t_region ?_
        refine t_val (v := .int .i64 x3_13) rfl rfl hE rfl (r_move hE rfl) (fun a hE => ?_)
        refine t_val (v := .int .i64 (IntKind.wrap .i64 (x3_13 + 1))) rfl rfl hE rfl (r_bin hE rfl rfl g_int b_add) (fun a hE => ?_)
        refine t_val (v := .int .i64 (IntKind.wrap .i64 (x3_13 + 1))) rfl rfl hE rfl (r_assign hE rfl) (fun a hE => ?_)
        refine t_nil ?_
        exact hY_15 (IntKind.wrap .i64 (x3_13 + 1)) _ _ (hE.cut (.cons rfl (.cons rfl Subs.nil))) hR H
      · replace H := M.ite_f hb H
        refine w_exit ?_
        refine Xu.same ?_
        refine hK_11 _ _ ?_
        refine w_seq (fun K hK_26 => ?_)
        refine t_region ?_
        refine t_val (v := .pointer x0) rfl rfl hE rfl (r_move hE rfl) (fun a hE => ?_)
        obtain ⟨x30_27, qx30_27, H⟩ := H
        refine t_val (v := .pointer (some x30_27)) rfl rfl hE rfl (r_nilCheck hE (hx_eq rfl (congrArg Value.pointer qx30_27))) (fun a hE => ?_)
        refine t_val (v := .pointer (some ((x30_27).add 2))) rfl rfl hE rfl (r_fieldAddr hE rfl fd84_2) (fun a hE => ?_)
        obtain ⟨u_28, qu_28, H⟩ := H
        refine t_sth rfl rfl hE hR (r_store hE rfl rfl sz82 qu_28) (fun a w hE hR hh => ?_)
        replace H := M.at hh H; clear hh
        refine t_nil ?_
        refine hK_26 _ _ ?_
        refine w_seq (fun K hK_29 => ?_)
        refine t_region ?_
        refine t_val (v := .int .i64 0) rfl rfl hE rfl (r_assign hE rfl) (fun a hE => ?_)
        refine t_nil ?_
        refine hK_29 _ _ ?_
        refine w_ret ?_
        exact hret _ _ _ 0 _ hE hR (res_run hE rfl (RV.tmp rfl RV.nil)) rfl H

end Gx
