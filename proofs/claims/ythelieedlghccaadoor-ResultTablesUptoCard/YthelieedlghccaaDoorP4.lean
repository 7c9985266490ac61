/- Printed by program: Go functions as Lean programs, each tied to its code. No condition. -/
import Derived.Test.YthelieedlghccaaDoorP0
import Derived.Test.YthelieedlghccaaDoorP1
import Derived.Test.YthelieedlghccaaDoorP2
import Derived.Test.YthelieedlghccaaDoorP3
set_option linter.unusedVariables false
set_option linter.unusedSimpArgs false
namespace Gx
open Go
set_option linter.unusedVariables false
set_option maxRecDepth 100000
/-- ramble/rambleref23.check -/
def rambleref23_check_l1 (c0_5 : Sl) (self1 : (Int) → M (Int)) : (Int) → M (Int) := fun s => match s with
  | x3_4 => do
    M.ite (decide (x3_4 < (c0_5.len : Int))) (do
      let x13_11 ← ixL c0_5 x3_4 4
      let x14_12 ← ldG 4 x13_11
      let x15_13 ← rambleref02_Check x14_12
      M.ite (x15_13 != 0) (do
        M.pure x15_13
        ) (do
        self1 (IntKind.wrap .i64 (x3_4 + 1))
        )
      ) (do
      M.pure 0
      )
def rambleref23_check (x0 : Sl) : M (Int) := do
  M.loop (rambleref23_check_l1 x0) 0
theorem S_rambleref23_check (x0 : Sl) : Sound Go.Proofs.Tryd.prog 26 #[(x0 : Sl).v] (fun (r : Int) => .int .i64 r) (rambleref23_check x0) := by
  refine sound_of [(0, (x0 : Sl).v)] Go.Proofs.Tryd.func26 rfl rfl (Nat.le_of_ble_eq_true rfl) (args_of ⟨rfl, trivial⟩) (fun w0 w Q R a hret hE hR H => ?_)
  unfold rambleref23_check at H
  refine w_seq (fun K hK_1 => ?_)
  refine t_region ?_
  refine t_val (v := .int .i64 0) rfl rfl hE rfl (r_assign hE rfl) (fun a hE => ?_)
  refine t_nil ?_
  refine hK_1 _ _ ?_
  refine w_seq (fun K hK_2 => ?_)
  refine w_seq (fun K hK_3 => ?_)
  refine t_region ?_
  refine t_val (v := .int .i64 0) rfl rfl hE rfl (r_assign hE rfl) (fun a hE => ?_)
  refine t_nil ?_
  refine hK_3 _ _ ?_
  refine w_block ?_
  refine l_loop (fun (s : Int) => (⟨19, []⟩ : Frm)) (fun (s : Int) => [(0, (x0 : Sl).v), (3, .int .i64 s)]) H (hE.cut (.cons rfl (.cons rfl Subs.nil))) hR (fun Y self1 hY_6 x3_4 a w hE hR H => ?_)
  replace hE : Env (⟨19, []⟩ : Frm) a [(0, (x0 : Sl).v), (3, .int .i64 x3_4)] := hE
  replace H : (rambleref23_check_l1 x0 self1 x3_4).wp w.heap Q := H
  unfold rambleref23_check_l1 at H
  refine w_seq (fun K hK_7 => ?_)
  refine w_seq (fun K hK_8 => ?_)
  refine t_region ?_
  refine t_val (v := .int .i64 x3_4) rfl rfl hE rfl (r_move hE rfl) (fun a hE => ?_)
  refine t_val (v := (x0 : Sl).v) rfl rfl hE rfl (r_move hE rfl) (fun a hE => ?_)
  refine t_val (v := .int .i64 (x0.len : Int)) rfl rfl hE rfl (r_len hE rfl 42 un22) (fun a hE => ?_)
  refine t_val (v := .bool (decide (x3_4 < (x0.len : Int)))) rfl rfl hE rfl (r_bin hE rfl rfl g_int b_lss) (fun a hE => ?_)
  refine t_nil ?_
  refine hK_8 _ _ ?_
  refine w_cond (decide (x3_4 < (x0.len : Int))) hE rfl (fun hb => ?_) (fun hb => ?_)
  · replace H := M.ite_t hb H
    refine w_skip ?_
    refine hK_7 _ _ ?_
    refine w_seq (fun K hK_9 => ?_)
    refine w_block ?_
    refine w_seq (fun K hK_10 => ?_)
    refine t_region ?_
    refine t_val (v := (x0 : Sl).v) rfl rfl hE rfl (r_move hE rfl) (fun a hE => ?_)
    refine t_val (v := .int .i64 x3_4) rfl rfl hE rfl (r_move hE rfl) (fun a hE => ?_)
    obtain ⟨x13_11, qx13_11, H⟩ := H
    refine t_val (v := .pointer (some x13_11)) rfl rfl hE rfl (r_indexAddrL hE rfl rfl un22 sz42 qx13_11) (fun a hE => ?_)
    obtain ⟨x14_12, qx14_12, H⟩ := H
    refine t_val (v := .agg x14_12) rfl rfl hE rfl (r_loadG hE rfl ag42 qx14_12) (fun a hE => ?_)
    refine t_call hE hR cl_rambleref02_Check rfl (S_rambleref02_Check x14_12) (M.unbind H) (fun x15_13 a w ea hR H => ?_)
    have hE := Env.put_some hE rfl ea; clear ea
    refine t_val (v := .int .i64 x15_13) rfl rfl hE rfl (r_assign hE rfl) (fun a hE => ?_)
    refine t_nil ?_
    refine hK_10 _ _ ?_
    refine w_seq (fun K hK_14 => ?_)
    refine t_region ?_
    refine t_val (v := .int .i64 x15_13) rfl rfl hE rfl (r_move hE rfl) (fun a hE => ?_)
    refine t_val (v := .bool (x15_13 != 0)) rfl rfl hE rfl (r_bin hE rfl rfl g_int b_neq) (fun a hE => ?_)
    refine t_nil ?_
    refine hK_14 _ _ ?_
    refine w_cond (x15_13 != 0) hE rfl (fun hb => ?_) (fun hb => ?_)
    · replace H := M.ite_t hb H
      refine w_seq (fun K hK_15 => ?_)
      refine t_region ?_
      refine t_val (v := .int .i64 x15_13) rfl rfl hE rfl (r_move hE rfl) (fun a hE => ?_)
      refine t_val (v := .int .i64 x15_13) rfl rfl hE rfl (r_assign hE rfl) (fun a hE => ?_)
      refine t_nil ?_
      refine hK_15 _ _ ?_
      refine w_ret ?_
      exact hret _ _ _ x15_13 _ hE hR (res_run hE rfl (RV.tmp rfl RV.nil)) rfl H
    · replace H := M.ite_f hb H
      refine w_skip ?_
      refine hK_9 _ _ ?_
      refine t_region ?_
      refine t_val (v := .int .i64 x3_4) rfl rfl hE rfl (r_move hE rfl) (fun a hE => ?_)
      refine t_val (v := .int .i64 (IntKind.wrap .i64 (x3_4 + 1))) rfl rfl hE rfl (r_bin hE rfl rfl g_int b_add) (fun a hE => ?_)
      refine t_val (v := .int .i64 (IntKind.wrap .i64 (x3_4 + 1))) rfl rfl hE rfl (r_assign hE rfl) (fun a hE => ?_)
      refine t_nil ?_
      exact hY_6 (IntKind.wrap .i64 (x3_4 + 1)) _ _ (hE.cut (.cons rfl (.cons rfl Subs.nil))) hR H
  · replace H := M.ite_f hb H
    refine w_exit ?_
    refine Xu.same ?_
    refine hK_2 _ _ ?_
    refine w_seq (fun K hK_16 => ?_)
    refine t_region ?_
    refine t_val (v := .int .i64 0) rfl rfl hE rfl (r_assign hE rfl) (fun a hE => ?_)
    refine t_nil ?_
    refine hK_16 _ _ ?_
    refine w_ret ?_
    exact hret _ _ _ 0 _ hE hR (res_run hE rfl (RV.tmp rfl RV.nil)) rfl H

/-- ramble/rambleref02.Same -/
def rambleref02_Same (x0 : Array Value) (x1 : Array Value) : M (Bool) := do
  let x2_2 ← mkB ty_api_Value x0
  let x3_3 ← mkB ty_api_Value x1
  let x5_5 ← ldG 4 x2_2
  let x6_6 ← ldG 4 x3_3
  let x7_7 ← rambleref02_Compare x5_5 x6_6
  M.pure (x7_7 == 0)
theorem S_rambleref02_Same (x0 : Array Value) (x1 : Array Value) : Sound Go.Proofs.Tryd.prog 49 #[.agg x0, .agg x1] (fun (r : Bool) => .bool r) (rambleref02_Same x0 x1) := by
  refine sound_of [(0, .agg x0), (1, .agg x1)] Go.Proofs.Tryd.func49 rfl rfl (Nat.le_of_ble_eq_true rfl) (args_of ⟨rfl, rfl, trivial⟩) (fun w0 w Q R a hret hE hR H => ?_)
  unfold rambleref02_Same at H
  refine w_seq (fun K hK_1 => ?_)
  refine t_region ?_
  obtain ⟨x2_2, qx2_2, H⟩ := H
  refine t_valh (v := .pointer (some x2_2)) rfl rfl hE rfl hR (r_box hE rfl qx2_2) (fun a w hE hR hh => ?_)
  replace H := M.at hh H; clear hh
  obtain ⟨x3_3, qx3_3, H⟩ := H
  refine t_valh (v := .pointer (some x3_3)) rfl rfl hE rfl hR (r_box hE rfl qx3_3) (fun a w hE hR hh => ?_)
  replace H := M.at hh H; clear hh
  refine t_val (v := .bool false) rfl rfl hE rfl (r_assign hE rfl) (fun a hE => ?_)
  refine t_nil ?_
  refine hK_1 _ _ ?_
  refine w_seq (fun K hK_4 => ?_)
  refine t_region ?_
  obtain ⟨x5_5, qx5_5, H⟩ := H
  refine t_val (v := .agg x5_5) rfl rfl hE rfl (r_loadG hE rfl ag42 qx5_5) (fun a hE => ?_)
  obtain ⟨x6_6, qx6_6, H⟩ := H
  refine t_val (v := .agg x6_6) rfl rfl hE rfl (r_loadG hE rfl ag42 qx6_6) (fun a hE => ?_)
  refine t_call hE hR cl_rambleref02_Compare rfl (S_rambleref02_Compare x5_5 x6_6) (M.unbind H) (fun x7_7 a w ea hR H => ?_)
  have hE := Env.put_some hE rfl ea; clear ea
  refine t_val (v := .bool (x7_7 == 0)) rfl rfl hE rfl (r_bin hE rfl rfl g_int b_eql) (fun a hE => ?_)
  refine t_val (v := .bool (x7_7 == 0)) rfl rfl hE rfl (r_assign hE rfl) (fun a hE => ?_)
  refine t_nil ?_
  refine hK_4 _ _ ?_
  refine w_ret ?_
  exact hret _ _ _ (x7_7 == 0) _ hE hR (res_run hE rfl (RV.tmp rfl RV.nil)) rfl H

/-- ramble/rambleref23.columns -/
def rambleref23_columns_j1 (self2 : (Sl × Int) → M (Sl × Bool)) (c6_30 : Int) (x4_27 : Sl) : M (Sl × Bool) := do
  self2 (x4_27, IntKind.wrap .i64 (c6_30 + 2))
theorem tb27_17 : tabAt Go.Proofs.Tryd.f27 17 [[], [], [0, 1], [2], [], [4], [3, 5, 3], [], [], [7, 8], [6, 9, 6], [10, 10, 0, 1, 2, 3, 4, 5, 6, 7, 8, 9, 10]] [[], [], [0, 1], [2], [], [4], [3, 5], [], [], [7, 8], [6, 9], [0, 7, 10]] [[], [], [0, 1], [0, 1, 2], [], [4], [0, 1, 2, 3, 4, 5], [], [], [7, 8], [0, 1, 2, 3, 4, 5, 6, 7, 8, 9], [0, 1, 2, 3, 4, 5, 6, 7, 8, 9, 10]] = true := by kernel_rfl
def rambleref23_columns_j3 (self2 : (Sl × Int) → M (Sl × Bool)) (c4_61 : Sl) (c6_63 : Int) (c7_64 : Addr) (c8_65 : Int) (x70_59 : Bool) : M (Sl × Bool) := do
  M.ite x70_59 (do
    let x73_66 ← slL c4_61 0 c8_65 4
    let x80_67 ← slL c4_61 c8_65 c4_61.len 4
    let x75_68 ← ldG 4 c7_64
    let y_75 ← do
      M.both (do
        let x74_69 ← apL ty_api_Value 4 56 (#[.int .i64 0, .int .i64 0, .string ByteArray.empty, .slice none 0 0] : Array Value) Sl.nil x73_66
        chk (fun h : Heap => (x75_68.size = 4 ∧ ∀ i, i < 4 → hcell h (Addr.add c7_64 i) = x75_68[i]?))
        let y_71 ← fillL 4 1 (#[.int .i64 0, .int .i64 0, .string ByteArray.empty, .slice none 0 0] : Array Value) [(0, .agg x75_68)]
        let x76_70 ← bdL ty_api_Value 1 y_71
        M.pure (x74_69, x76_70)
        ) (do
        let y_73 ← fillL 4 1 (#[.int .i64 0, .int .i64 0, .string ByteArray.empty, .slice none 0 0] : Array Value) [(0, .agg x75_68)]
        let x76_72 ← bdL ty_api_Value 1 y_73
        chk (fun h : Heap => (x75_68.size = 4 ∧ ∀ i, i < 4 → hcell h (Addr.add c7_64 i) = x75_68[i]?))
        let x74_74 ← apL ty_api_Value 4 56 (#[.int .i64 0, .int .i64 0, .string ByteArray.empty, .slice none 0 0] : Array Value) Sl.nil x73_66
        chk (fun h : Heap => (x75_68.size = 4 ∧ ∀ i, i < 4 → hcell h (Addr.add c7_64 i) = x75_68[i]?))
        M.pure (x74_74, x76_72)
        )
    let x77_76 ← apL ty_api_Value 4 56 (#[.int .i64 0, .int .i64 0, .string ByteArray.empty, .slice none 0 0] : Array Value) y_75.1 y_75.2
    let x81_77 ← apL ty_api_Value 4 56 (#[.int .i64 0, .int .i64 0, .string ByteArray.empty, .slice none 0 0] : Array Value) x77_76 x80_67
    rambleref23_columns_j1 self2 c6_63 x81_77
    ) (do
    rambleref23_columns_j1 self2 c6_63 c4_61
    )
theorem tb27_16 : tabAt Go.Proofs.Tryd.f27 16 [[], [], [1], [0, 2], [3], [4], [4], [5, 6, 4], [7, 4], [4], [8, 9, 4, 4], [10, 4], [4, 11]] [[], [], [1], [0, 2], [3], [4], [4], [4, 5, 6], [4, 7], [4], [4, 8, 9], [4, 10], [4, 11]] [[], [], [1], [0, 1, 2], [0, 1, 2, 3], [0, 1, 2, 3, 4], [0, 1, 2, 3, 4], [0, 1, 2, 3, 4, 5, 6], [0, 1, 2, 3, 4, 5, 6, 7], [0, 1, 2, 3, 4], [0, 1, 2, 3, 4, 5, 6, 7, 8, 9], [0, 1, 2, 3, 4, 5, 6, 7, 8, 9, 10], [0, 1, 2, 3, 4, 5, 6, 7, 8, 9, 10, 11]] = true := by kernel_rfl
def rambleref23_columns_j2 (self2 : (Sl × Int) → M (Sl × Bool)) (self3 : (Int) → M (Sl × Bool)) (c4_54 : Sl) (c6_56 : Int) (c7_57 : Addr) (c8_58 : Int) (x55_52 : Bool) : M (Sl × Bool) := do
  M.ite x55_52 (do
    self3 (IntKind.wrap .i64 (c8_58 + 1))
    ) (do
    M.ite (c8_58 == (c4_54.len : Int)) (do
      rambleref23_columns_j3 self2 c4_54 c6_56 c7_57 c8_58 true
      ) (do
      let x65_79 ← ixL c4_54 c8_58 4
      let x66_80 ← ldG 4 x65_79
      let x67_81 ← ldG 4 c7_57
      let x68_82 ← rambleref02_Same x66_80 x67_81
      rambleref23_columns_j3 self2 c4_54 c6_56 c7_57 c8_58 (!x68_82)
      )
    )
theorem tb27_14 : tabAt Go.Proofs.Tryd.f27 14 [[], [], [1], [0, 2], [3], [4], [4], [5, 6, 4], [7, 4], [4], [8, 9, 4, 4], [10, 4], [4, 11]] [[], [], [1], [0, 2], [3], [4], [4], [4, 5, 6], [4, 7], [4], [4, 8, 9], [4, 10], [4, 11]] [[], [], [1], [0, 1, 2], [0, 1, 2, 3], [0, 1, 2, 3, 4], [0, 1, 2, 3, 4], [0, 1, 2, 3, 4, 5, 6], [0, 1, 2, 3, 4, 5, 6, 7], [0, 1, 2, 3, 4], [0, 1, 2, 3, 4, 5, 6, 7, 8, 9], [0, 1, 2, 3, 4, 5, 6, 7, 8, 9, 10], [0, 1, 2, 3, 4, 5, 6, 7, 8, 9, 10, 11]] = true := by kernel_rfl
def rambleref23_columns_l3 (self2 : (Sl × Int) → M (Sl × Bool)) (c4_46 : Sl) (c6_48 : Int) (c7_49 : Addr) (self3 : (Int) → M (Sl × Bool)) : (Int) → M (Sl × Bool) := fun s => match s with
  | x8_44 => do
    M.ite (decide (x8_44 < (c4_46.len : Int))) (do
      let x50_84 ← ixL c4_46 x8_44 4
      let x51_85 ← ldG 4 x50_84
      let x52_86 ← ldG 4 c7_49
      let x53_87 ← rambleref02_Compare x51_85 x52_86
      rambleref23_columns_j2 self2 self3 c4_46 c6_48 c7_49 x8_44 (decide (x53_87 < 0))
      ) (do
      rambleref23_columns_j2 self2 self3 c4_46 c6_48 c7_49 x8_44 false
      )
def rambleref23_columns_l2 (self1 : (Sl × Int) → M (Sl × Bool)) (c0_20 : Sl) (c5_21 : Int) (self2 : (Sl × Int) → M (Sl × Bool)) : (Sl × Int) → M (Sl × Bool) := fun s => match s with
  | (x4_18, x6_19) => do
    let x25_25 ← ixL c0_20 c5_21 4
    let x27_26 ← ldL ((x25_25).add 3)
    M.ite (decide ((IntKind.wrap .i64 (x6_19 + 1)) < (x27_26.len : Int))) (do
      let x34_32 ← ixL c0_20 c5_21 4
      let x36_33 ← ldL ((x34_32).add 3)
      let x38_34 ← ixL x36_33 x6_19 4
      let x39_35 ← ldG 4 x38_34
      let x7_36 ← mkB ty_api_Value (#[.int .i64 0, .int .i64 0, .string ByteArray.empty, .slice none 0 0] : Array Value)
      M.need (x39_35.size = 4)
      stG x7_36 x39_35
      let x41_40 ← ldI .i64 ((x7_36).add 0)
      M.ite (x41_40 != 2) (do
        M.pure (Sl.nil, false)
        ) (do
        M.loop (rambleref23_columns_l3 self2 x4_18 x6_19 x7_36) 0
        )
      ) (do
      self1 (x4_18, IntKind.wrap .i64 (c5_21 + 1))
      )
def rambleref23_columns_l1 (c0_7 : Sl) (self1 : (Sl × Int) → M (Sl × Bool)) : (Sl × Int) → M (Sl × Bool) := fun s => match s with
  | (x4_5, x5_6) => do
    M.ite (decide (x5_6 < (c0_7.len : Int))) (do
      let x17_14 ← ixL c0_7 x5_6 4
      let x19_15 ← ldI .i64 ((x17_14).add 0)
      M.ite (x19_15 != 5) (do
        M.pure (Sl.nil, false)
        ) (do
        M.loop (rambleref23_columns_l2 self1 c0_7 x5_6) (x4_5, 0)
        )
      ) (do
      M.pure (x4_5, true)
      )
def rambleref23_columns (x0 : Sl) : M (Sl × Bool) := do
  M.loop (rambleref23_columns_l1 x0) (Sl.nil, 0)
theorem S_rambleref23_columns (x0 : Sl) : Sound Go.Proofs.Tryd.prog 27 #[(x0 : Sl).v] (fun (r : Sl × Bool) => .tuple #[(r.1 : Sl).v, .bool r.2]) (rambleref23_columns x0) := by
  refine sound_of [(0, (x0 : Sl).v)] Go.Proofs.Tryd.func27 rfl rfl (Nat.le_of_ble_eq_true rfl) (args_of ⟨rfl, trivial⟩) (fun w0 w Q R a hret hE hR H => ?_)
  unfold rambleref23_columns at H
  refine w_seq (fun K hK_1 => ?_)
  refine t_region ?_
  refine t_val (v := (Sl.nil : Sl).v) rfl rfl hE rfl (r_assign hE rfl) (fun a hE => ?_)
  refine t_val (v := .bool false) rfl rfl hE rfl (r_assign hE rfl) (fun a hE => ?_)
  refine t_nil ?_
  refine hK_1 _ _ ?_
  refine w_seq (fun K hK_2 => ?_)
  refine t_region ?_
  refine t_val (v := (Sl.nil : Sl).v) rfl rfl hE rfl (r_assign hE rfl) (fun a hE => ?_)
  refine t_nil ?_
  refine hK_2 _ _ ?_
  refine w_seq (fun K hK_3 => ?_)
  refine w_seq (fun K hK_4 => ?_)
  refine t_region ?_
  refine t_val (v := .int .i64 0) rfl rfl hE rfl (r_assign hE rfl) (fun a hE => ?_)
  refine t_nil ?_
  refine hK_4 _ _ ?_
  refine w_block ?_
  refine l_loop (fun (s : Sl × Int) => (⟨83, []⟩ : Frm)) (fun (s : Sl × Int) => [(0, (x0 : Sl).v), (4, (s.1 : Sl).v), (5, .int .i64 s.2)]) H (hE.cut (.cons rfl (.cons rfl (.cons rfl Subs.nil)))) hR (fun Y self1 hY_8 s a w hE hR H => ?_)
  rcases s with ⟨x4_5, x5_6⟩
  replace hE : Env (⟨83, []⟩ : Frm) a [(0, (x0 : Sl).v), (4, (x4_5 : Sl).v), (5, .int .i64 x5_6)] := hE
  replace H : (rambleref23_columns_l1 x0 self1 (x4_5, x5_6)).wp w.heap Q := H
  unfold rambleref23_columns_l1 at H
  refine w_seq (fun K hK_9 => ?_)
  refine w_seq (fun K hK_10 => ?_)
  refine t_region ?_
  refine t_val (v := .int .i64 x5_6) rfl rfl hE rfl (r_move hE rfl) (fun a hE => ?_)
  refine t_val (v := (x0 : Sl).v) rfl rfl hE rfl (r_move hE rfl) (fun a hE => ?_)
  refine t_val (v := .int .i64 (x0.len : Int)) rfl rfl hE rfl (r_len hE rfl 42 un22) (fun a hE => ?_)
  refine t_val (v := .bool (decide (x5_6 < (x0.len : Int)))) rfl rfl hE rfl (r_bin hE rfl rfl g_int b_lss) (fun a hE => ?_)
  refine t_nil ?_
  refine hK_10 _ _ ?_
  refine w_cond (decide (x5_6 < (x0.len : Int))) hE rfl (fun hb => ?_) (fun hb => ?_)
  · replace H := M.ite_t hb H
    refine w_skip ?_
    refine hK_9 _ _ ?_
    refine w_seq (fun K hK_11 => ?_)
    refine w_block ?_
    refine w_seq (fun K hK_12 => ?_)
    refine w_seq (fun K hK_13 => ?_)
    refine t_region ?_
    refine t_val (v := (x0 : Sl).v) rfl rfl hE rfl (r_move hE rfl) (fun a hE => ?_)
    refine t_val (v := .int .i64 x5_6) rfl rfl hE rfl (r_move hE rfl) (fun a hE => ?_)
    obtain ⟨x17_14, qx17_14, H⟩ := H
    refine t_val (v := .pointer (some x17_14)) rfl rfl hE rfl (r_indexAddrL hE rfl rfl un22 sz42 qx17_14) (fun a hE => ?_)
    refine t_val (v := .pointer (some ((x17_14).add 0))) rfl rfl hE rfl (r_fieldAddr hE rfl fd42_0) (fun a hE => ?_)
    obtain ⟨x19_15, qx19_15, H⟩ := H
    refine t_val (v := .int .i64 x19_15) rfl rfl hE rfl (r_load hE rfl sc3 qx19_15) (fun a hE => ?_)
    refine t_val (v := .bool (x19_15 != 5)) rfl rfl hE rfl (r_bin hE rfl rfl g_int b_neq) (fun a hE => ?_)
    refine t_nil ?_
    refine hK_13 _ _ ?_
    refine w_cond (x19_15 != 5) hE rfl (fun hb => ?_) (fun hb => ?_)
    · replace H := M.ite_t hb H
      refine w_seq (fun K hK_16 => ?_)
      refine t_region ?_
      refine t_val (v := (Sl.nil : Sl).v) rfl rfl hE rfl (r_assign hE rfl) (fun a hE => ?_)
      refine t_val (v := .bool false) rfl rfl hE rfl (r_assign hE rfl) (fun a hE => ?_)
      refine t_nil ?_
      refine hK_16 _ _ ?_
      refine w_ret ?_
      exact hret _ _ _ (Sl.nil, false) _ hE hR (res_run hE rfl (RV.tmp rfl (RV.tmp rfl RV.nil))) rfl H
    · replace H := M.ite_f hb H
      refine w_skip ?_
      refine hK_12 _ _ ?_
      refine w_seq (fun K hK_17 => ?_)
      refine t_region ?_
      refine t_val (v := .int .i64 0) rfl rfl hE rfl (r_assign hE rfl) (fun a hE => ?_)
      refine t_nil ?_
      refine hK_17 _ _ ?_
      refine w_block ?_
      refine l_loop (fun (s : Sl × Int) => (⟨83, []⟩ : Frm)) (fun (s : Sl × Int) => [(0, (x0 : Sl).v), (4, (s.1 : Sl).v), (5, .int .i64 x5_6), (6, .int .i64 s.2)]) H (hE.cut (.cons rfl (.cons rfl (.cons rfl (.cons rfl Subs.nil))))) hR (fun Y self2 hY_22 s a w hE hR H => ?_)
      rcases s with ⟨x4_18, x6_19⟩
      replace hE : Env (⟨83, []⟩ : Frm) a [(0, (x0 : Sl).v), (4, (x4_18 : Sl).v), (5, .int .i64 x5_6), (6, .int .i64 x6_19)] := hE
      replace H : (rambleref23_columns_l2 self1 x0 x5_6 self2 (x4_18, x6_19)).wp w.heap Q := H
      unfold rambleref23_columns_l2 at H
      refine w_seq (fun K hK_23 => ?_)
      refine w_seq (fun K hK_24 => ?_)
      refine t_region ?_
      refine t_val (v := .int .i64 x6_19) rfl rfl hE rfl (r_move hE rfl) (fun a hE => ?_)
      refine t_val (v := .int .i64 (IntKind.wrap .i64 (x6_19 + 1))) rfl rfl hE rfl (r_bin hE rfl rfl g_int b_add) (fun a hE => ?_)
      refine t_val (v := (x0 : Sl).v) rfl rfl hE rfl (r_move hE rfl) (fun a hE => ?_)
      refine t_val (v := .int .i64 x5_6) rfl rfl hE rfl (r_move hE rfl) (fun a hE => ?_)
      obtain ⟨x25_25, qx25_25, H⟩ := H
      refine t_val (v := .pointer (some x25_25)) rfl rfl hE rfl (r_indexAddrL hE rfl rfl un22 sz42 qx25_25) (fun a hE => ?_)
      refine t_val (v := .pointer (some ((x25_25).add 3))) rfl rfl hE rfl (r_fieldAddr hE rfl fd42_3) (fun a hE => ?_)
      obtain ⟨x27_26, qx27_26, H⟩ := H
      refine t_val (v := (x27_26 : Sl).v) rfl rfl hE rfl (r_load hE rfl sc22 qx27_26) (fun a hE => ?_)
      refine t_val (v := .int .i64 (x27_26.len : Int)) rfl rfl hE rfl (r_len hE rfl 42 un22) (fun a hE => ?_)
      refine t_val (v := .bool (decide ((IntKind.wrap .i64 (x6_19 + 1)) < (x27_26.len : Int)))) rfl rfl hE rfl (r_bin hE rfl rfl g_int b_lss) (fun a hE => ?_)
      refine t_nil ?_
      refine hK_24 _ _ ?_
      refine w_cond (decide ((IntKind.wrap .i64 (x6_19 + 1)) < (x27_26.len : Int))) hE rfl (fun hb => ?_) (fun hb => ?_)
      · replace H := M.ite_t hb H
        refine w_skip ?_
        refine hK_23 _ _ ?_
        refine w_seq_join (fun a w => ∃ (x4_27 : Sl), Env (⟨83, []⟩ : Frm) a [(0, (x0 : Sl).v), (5, .int .i64 x5_6), (6, .int .i64 x6_19), (4, (x4_27 : Sl).v)] ∧ Rest w0 w ∧ (rambleref23_columns_j1 self2 x6_19 x4_27).wp w.heap Q) ?_ ?_
        · rintro a w ⟨x4_27, hE, hR, H⟩
          unfold rambleref23_columns_j1 at H
          refine t_region ?_
          refine t_val (v := .int .i64 x6_19) rfl rfl hE rfl (r_move hE rfl) (fun a hE => ?_)
          refine t_val (v := .int .i64 (IntKind.wrap .i64 (x6_19 + 2))) rfl rfl hE rfl (r_bin hE rfl rfl g_int b_add) (fun a hE => ?_)
          refine t_val (v := .int .i64 (IntKind.wrap .i64 (x6_19 + 2))) rfl rfl hE rfl (r_assign hE rfl) (fun a hE => ?_)
          refine t_nil ?_
          exact hY_22 (x4_27, IntKind.wrap .i64 (x6_19 + 2)) _ _ (hE.cut (.cons rfl (.cons rfl (.cons rfl (.cons rfl Subs.nil))))) hR H
        · skip
          refine w_block ?_
          refine w_seq (fun K hK_31 => ?_)
          refine t_region ?_
          refine t_val (v := (x0 : Sl).v) rfl rfl hE rfl (r_move hE rfl) (fun a hE => ?_)
          refine t_val (v := .int .i64 x5_6) rfl rfl hE rfl (r_move hE rfl) (fun a hE => ?_)
          obtain ⟨x34_32, qx34_32, H⟩ := H
          refine t_val (v := .pointer (some x34_32)) rfl rfl hE rfl (r_indexAddrL hE rfl rfl un22 sz42 qx34_32) (fun a hE => ?_)
          refine t_val (v := .pointer (some ((x34_32).add 3))) rfl rfl hE rfl (r_fieldAddr hE rfl fd42_3) (fun a hE => ?_)
          obtain ⟨x36_33, qx36_33, H⟩ := H
          refine t_val (v := (x36_33 : Sl).v) rfl rfl hE rfl (r_load hE rfl sc22 qx36_33) (fun a hE => ?_)
          refine t_val (v := .int .i64 x6_19) rfl rfl hE rfl (r_move hE rfl) (fun a hE => ?_)
          obtain ⟨x38_34, qx38_34, H⟩ := H
          refine t_val (v := .pointer (some x38_34)) rfl rfl hE rfl (r_indexAddrL hE rfl rfl un22 sz42 qx38_34) (fun a hE => ?_)
          obtain ⟨x39_35, qx39_35, H⟩ := H
          refine t_val (v := .agg x39_35) rfl rfl hE rfl (r_loadG hE rfl ag42 qx39_35) (fun a hE => ?_)
          obtain ⟨x7_36, qx7_36, H⟩ := H
          refine t_valh (v := .pointer (some x7_36)) rfl rfl hE rfl hR (r_alloc zr42 qx7_36) (fun a w hE hR hh => ?_)
          replace H := M.at hh H; clear hh
          obtain ⟨qz, H⟩ := H
          obtain ⟨u_37, qu_37, H⟩ := H
          refine t_sth rfl rfl hE hR (r_storeG hE rfl rfl sz42 qz qu_37) (fun a w hE hR hh => ?_)
          replace H := M.at hh H; clear hh
          refine t_nil ?_
          refine hK_31 _ _ ?_
          refine w_seq (fun K hK_38 => ?_)
          refine w_seq (fun K hK_39 => ?_)
          refine t_region ?_
          refine t_val (v := .pointer (some ((x7_36).add 0))) rfl rfl hE rfl (r_fieldAddr hE rfl fd42_0) (fun a hE => ?_)
          obtain ⟨x41_40, qx41_40, H⟩ := H
          refine t_val (v := .int .i64 x41_40) rfl rfl hE rfl (r_load hE rfl sc3 qx41_40) (fun a hE => ?_)
          refine t_val (v := .bool (x41_40 != 2)) rfl rfl hE rfl (r_bin hE rfl rfl g_int b_neq) (fun a hE => ?_)
          refine t_nil ?_
          refine hK_39 _ _ ?_
          refine w_cond (x41_40 != 2) hE rfl (fun hb => ?_) (fun hb => ?_)
          · replace H := M.ite_t hb H
            refine w_seq (fun K hK_41 => ?_)
            refine t_region ?_
            refine t_val (v := (Sl.nil : Sl).v) rfl rfl hE rfl (r_assign hE rfl) (fun a hE => ?_)
            refine t_val (v := .bool false) rfl rfl hE rfl (r_assign hE rfl) (fun a hE => ?_)
            refine t_nil ?_
            refine hK_41 _ _ ?_
            refine w_ret ?_
            exact hret _ _ _ (Sl.nil, false) _ hE hR (res_run hE rfl (RV.tmp rfl (RV.tmp rfl RV.nil))) rfl H
          · replace H := M.ite_f hb H
            refine w_skip ?_
            refine hK_38 _ _ ?_
            refine w_seq (fun K hK_42 => ?_)
            refine t_region ?_
            refine t_val (v := .int .i64 0) rfl rfl hE rfl (r_assign hE rfl) (fun a hE => ?_)
            refine t_nil ?_
            refine hK_42 _ _ ?_
            refine w_seq (fun K hK_43 => ?_)
            refine w_block ?_
            refine l_loop (fun (s : Int) => (⟨83, []⟩ : Frm)) (fun (s : Int) => [(0, (x0 : Sl).v), (4, (x4_18 : Sl).v), (5, .int .i64 x5_6), (6, .int .i64 x6_19), (7, .pointer (some x7_36)), (8, .int .i64 s)]) H (hE.cut (.cons rfl (.cons rfl (.cons rfl (.cons rfl (.cons rfl (.cons rfl Subs.nil))))))) hR (fun Y self3 hY_50 x8_44 a w hE hR H => ?_)
            replace hE : Env (⟨83, []⟩ : Frm) a [(0, (x0 : Sl).v), (4, (x4_18 : Sl).v), (5, .int .i64 x5_6), (6, .int .i64 x6_19), (7, .pointer (some x7_36)), (8, .int .i64 x8_44)] := hE
            replace H : (rambleref23_columns_l3 self2 x4_18 x6_19 x7_36 self3 x8_44).wp w.heap Q := H
            unfold rambleref23_columns_l3 at H
            refine w_seq (fun K hK_51 => ?_)
            refine w_seq_join (fun a w => ∃ (x55_52 : Bool), Env (⟨83, []⟩ : Frm) a [(0, (x0 : Sl).v), (4, (x4_18 : Sl).v), (5, .int .i64 x5_6), (6, .int .i64 x6_19), (7, .pointer (some x7_36)), (8, .int .i64 x8_44), (55, .bool x55_52)] ∧ Rest w0 w ∧ (rambleref23_columns_j2 self2 self3 x4_18 x6_19 x7_36 x8_44 x55_52).wp w.heap Q) ?_ ?_
            · rintro a w ⟨x55_52, hE, hR, H⟩
              unfold rambleref23_columns_j2 at H
              refine w_cond x55_52 hE rfl (fun hb => ?_) (fun hb => ?_)
              · replace H := M.ite_t hb H
                refine w_skip ?_
                refine hK_51 _ _ ?_
                refine w_block ?_
                refine t_region ?_
                refine t_val (v := .int .i64 x8_44) rfl rfl hE rfl (r_move hE rfl) (fun a hE => ?_)
                refine t_val (v := .int .i64 (IntKind.wrap .i64 (x8_44 + 1))) rfl rfl hE rfl (r_bin hE rfl rfl g_int b_add) (fun a hE => ?_)
                refine t_val (v := .int .i64 (IntKind.wrap .i64 (x8_44 + 1))) rfl rfl hE rfl (r_assign hE rfl) (fun a hE => ?_)
                refine t_nil ?_
                exact hY_50 (IntKind.wrap .i64 (x8_44 + 1)) _ _ (hE.cut (.cons rfl (.cons rfl (.cons rfl (.cons rfl (.cons rfl (.cons rfl Subs.nil))))))) hR H
              · replace H := M.ite_f hb H
                refine w_exit ?_
                refine Xu.same ?_
                refine hK_43 _ _ ?_
                refine w_seq_join (fun a w => ∃ (x70_59 : Bool), Env (⟨83, []⟩ : Frm) a [(0, (x0 : Sl).v), (4, (x4_18 : Sl).v), (5, .int .i64 x5_6), (6, .int .i64 x6_19), (7, .pointer (some x7_36)), (8, .int .i64 x8_44), (70, .bool x70_59)] ∧ Rest w0 w ∧ (rambleref23_columns_j3 self2 x4_18 x6_19 x7_36 x8_44 x70_59).wp w.heap Q) ?_ ?_
                · rintro a w ⟨x70_59, hE, hR, H⟩
                  unfold rambleref23_columns_j3 at H
                  refine w_cond x70_59 hE rfl (fun hb => ?_) (fun hb => ?_)
                  · replace H := M.ite_t hb H
                    obtain ⟨x73_66, qx73_66, H⟩ := H
                    obtain ⟨x80_67, qx80_67, H⟩ := H
                    obtain ⟨x75_68, qx75_68, H⟩ := H
                    have hT := tab_of tb27_17 rfl rfl
                    refine d_start (fun w : World => (fun h : Heap => (x75_68.size = 4 ∧ ∀ i, i < 4 → hcell h (Addr.add x7_36 i) = x75_68[i]?)) w.heap) [5, 6, 10, 11] #[false, false, false, false, false, false, false, false, false, false, false, false] mo hR rfl rfl (fun w' e => by rw [e]; exact qx75_68) (fun w hh hR hs => ?_)
                    replace H := M.at hh H; clear hh
                    refine d_pureg (i := 0) (v := (x4_18 : Sl).v) #[true, false, false, false, false, false, false, false, false, false, false, false] rfl rfl hT (by kernel_rfl) hE rfl (wanted_none rfl) (fun w => r_move hE rfl) (fun a hE => ?_)
                    refine d_pureg (i := 1) (v := .int .i64 x8_44) #[true, true, false, false, false, false, false, false, false, false, false, false] rfl rfl hT (by kernel_rfl) hE rfl (wanted_none rfl) (fun w => r_move hE rfl) (fun a hE => ?_)
                    refine d_pureg (i := 2) (v := (x73_66 : Sl).v) #[true, true, true, false, false, false, false, false, false, false, false, false] rfl rfl hT (by kernel_rfl) hE rfl (wanted_none rfl) (fun w => r_sliceL_h hE rfl rfl un22 sz42 qx73_66) (fun a hE => ?_)
                    refine d_pureg (i := 7) (v := (x4_18 : Sl).v) #[true, true, true, false, false, false, false, true, false, false, false, false] rfl rfl hT (by kernel_rfl) hE rfl (wanted_none rfl) (fun w => r_move hE rfl) (fun a hE => ?_)
                    refine d_pureg (i := 8) (v := .int .i64 x8_44) #[true, true, true, false, false, false, false, true, true, false, false, false] rfl rfl hT (by kernel_rfl) hE rfl (wanted_none rfl) (fun w => r_move hE rfl) (fun a hE => ?_)
                    refine d_pureg (i := 9) (v := (x80_67 : Sl).v) #[true, true, true, false, false, false, false, true, true, true, false, false] rfl rfl hT (by kernel_rfl) hE rfl (wanted_none rfl) (fun w => r_sliceL_l hE rfl rfl un22 sz42 qx80_67) (fun a hE => ?_)
                    refine d_read (i := 4) (v := .agg x75_68) #[true, true, true, false, true, false, false, true, true, true, false, false] rfl rfl hT (by kernel_rfl) hE rfl (wanted_none rfl) hs (fun w s => r_loadG hE rfl ag42 s) (fun a hE => ?_)
                    refine d_join (n := (⟨83, []⟩ : Frm)) (w0 := w0) (fun y_75 : Sl × Sl => [(0, (x0 : Sl).v), (4, (x4_18 : Sl).v), (5, .int .i64 x5_6), (6, .int .i64 x6_19), (7, .pointer (some x7_36)), (8, .int .i64 x8_44), (70, .bool x70_59), (71, (x4_18 : Sl).v), (72, .int .i64 x8_44), (73, (x73_66 : Sl).v), (78, (x4_18 : Sl).v), (79, .int .i64 x8_44), (80, (x80_67 : Sl).v), (75, .agg x75_68), (74, (y_75.1 : Sl).v), (76, (y_75.2 : Sl).v)]) 3 #[true, true, true, true, true, true, false, true, true, true, false, false] (M.unbind H) ?_ ?_
                    · intro y_75 a w hE hR H
                      refine d_exl (i := 6) (fun x77_76 => (x77_76 : Sl).v) #[true, true, true, true, true, true, true, true, true, true, false, false] rfl rfl hT (by kernel_rfl) rfl hR (wanted_none rfl) (M.unbind H) (fun Q H => ap_run hE rfl rfl ap22 H) (fun x77_76 a w ea hR H => ?_)
                      have hE := Env.put_some hE rfl ea; clear ea
                      refine d_exl (i := 10) (fun x81_77 => (x81_77 : Sl).v) #[true, true, true, true, true, true, true, true, true, true, true, false] rfl rfl hT (by kernel_rfl) rfl hR (wanted_none rfl) (M.unbind H) (fun Q H => ap_run hE rfl rfl ap22 H) (fun x81_77 a w ea hR H => ?_)
                      have hE := Env.put_some hE rfl ea; clear ea
                      refine d_pureg (i := 11) (v := (x81_77 : Sl).v) #[true, true, true, true, true, true, true, true, true, true, true, true] rfl rfl hT (by kernel_rfl) hE rfl (wanted_none rfl) (fun w => r_assign hE rfl) (fun a hE => ?_)
                      refine d_done hT (by kernel_rfl) ?_
                      exact ⟨x81_77, hE.cut (.cons rfl (.cons rfl (.cons rfl (.cons rfl Subs.nil)))), hR, H⟩
                    · intro hj H
                      refine d_pick [3, 5] hT (by kernel_rfl) rfl (fun i hi => ?_)
                      simp only [List.mem_cons, List.not_mem_nil, or_false] at hi
                      rcases hi with rfl | rfl
                      · replace H := H.1
                        refine p_ex (S := fun w : World => (fun h : Heap => (x75_68.size = 4 ∧ ∀ i, i < 4 → hcell h (Addr.add x7_36 i) = x75_68[i]?)) w.heap) (i := 3) (fun x74_69 => (x74_69 : Sl).v) #[true, true, true, true, true, false, false, true, true, true, false, false] rfl rfl (by kernel_rfl) hR (wanted_none rfl) (M.unbind H) (fun Q H => ap_run hE rfl rfl ap22 H) (fun r h H w' e => by obtain ⟨_, sA, H⟩ := H; rw [e]; exact sA) (fun x74_69 a w ea hR H hs => ?_)
                        obtain ⟨_, sA, H⟩ := H; clear sA
                        have hE := Env.put_some hE rfl ea; clear ea
                        obtain ⟨y_71, qy_71, H⟩ := H
                        obtain ⟨x76_70, qx76_70, H⟩ := H
                        refine d_lasth (i := 5) (v := (x76_70 : Sl).v) #[true, true, true, true, true, true, false, true, true, true, false, false] rfl rfl hT (by kernel_rfl) rfl hE hR rfl (wanted_none rfl) (r_buildL hE rfl un22 sz42 zr42 rfl qy_71 qx76_70)  (fun a w hE hR hh => ?_)
                        replace H := M.at hh H; clear hh
                        exact hj _ _ _ (hE.cut (.cons rfl (.cons rfl (.cons rfl (.cons rfl (.cons rfl (.cons rfl (.cons rfl (.cons rfl (.cons rfl (.cons rfl (.cons rfl (.cons rfl (.cons rfl (.cons rfl (.cons rfl (.cons rfl Subs.nil))))))))))))))))) hR H
                      · replace H := H.2
                        obtain ⟨y_73, qy_73, H⟩ := H
                        obtain ⟨x76_72, qx76_72, H⟩ := H
                        obtain ⟨_, sA, H⟩ := H
                        refine p_valh (S := fun w : World => (fun h : Heap => (x75_68.size = 4 ∧ ∀ i, i < 4 → hcell h (Addr.add x7_36 i) = x75_68[i]?)) w.heap) (i := 5) (v := (x76_72 : Sl).v) #[true, true, true, false, true, true, false, true, true, true, false, false] rfl rfl (by kernel_rfl) hE hR rfl (wanted_none rfl) (r_buildL hE rfl un22 sz42 zr42 rfl qy_73 qx76_72)  (fun w' e => by rw [e]; exact sA) (fun a w hE hR hh hs => ?_)
                        replace H := M.at hh H; clear hh
                        refine d_ex (i := 3) (fun x74_74 => (x74_74 : Sl).v) #[true, true, true, true, true, true, false, true, true, true, false, false] rfl rfl hT (by kernel_rfl) rfl hR (wanted_none rfl) (M.unbind H) (fun Q H => ap_run hE rfl rfl ap22 H) (fun r h H w' e => by obtain ⟨_, sA, H⟩ := H; rw [e]; exact sA) (fun x74_74 a w ea hR H hs => ?_)
                        obtain ⟨_, sA, H⟩ := H; clear sA
                        have hE := Env.put_some hE rfl ea; clear ea
                        exact hj _ _ _ (hE.cut (.cons rfl (.cons rfl (.cons rfl (.cons rfl (.cons rfl (.cons rfl (.cons rfl (.cons rfl (.cons rfl (.cons rfl (.cons rfl (.cons rfl (.cons rfl (.cons rfl (.cons rfl (.cons rfl Subs.nil))))))))))))))))) hR H
                  · replace H := M.ite_f hb H
                    refine w_skip ?_
                    exact ⟨x4_18, hE.cut (.cons rfl (.cons rfl (.cons rfl (.cons rfl Subs.nil)))), hR, H⟩
                · skip
                  rcases bool_em (x8_44 == (x4_18.len : Int)) with hb_78 | hb_78
                  · replace H := M.ite_t hb_78 H
                    have hT := tab_of tb27_16 rfl rfl
                    refine d_start (fun w : World => (fun h : Heap => True) w.heap) [0, 1, 2, 3, 4, 5, 6, 7, 8, 9, 10, 11, 12] #[false, false, false, false, false, false, false, false, false, false, false, false, false] mo hR rfl rfl (fun w' e => by rw [e]; exact trivial) (fun w hh hR hs => ?_)
                    replace H := M.at hh H; clear hh
                    refine d_pureg (i := 0) (v := .int .i64 x8_44) #[true, false, false, false, false, false, false, false, false, false, false, false, false] rfl rfl hT (by kernel_rfl) hE rfl (wanted_none rfl) (fun w => r_move hE rfl) (fun a hE => ?_)
                    refine d_pureg (i := 1) (v := (x4_18 : Sl).v) #[true, true, false, false, false, false, false, false, false, false, false, false, false] rfl rfl hT (by kernel_rfl) hE rfl (wanted_none rfl) (fun w => r_move hE rfl) (fun a hE => ?_)
                    refine d_pureg (i := 2) (v := .int .i64 (x4_18.len : Int)) #[true, true, true, false, false, false, false, false, false, false, false, false, false] rfl rfl hT (by kernel_rfl) hE rfl (wanted_none rfl) (fun w => r_len hE rfl 42 un22) (fun a hE => ?_)
                    refine d_pureg (i := 3) (v := .bool (x8_44 == (x4_18.len : Int))) #[true, true, true, true, false, false, false, false, false, false, false, false, false] rfl rfl hT (by kernel_rfl) hE rfl (wanted_none rfl) (fun w => r_bin hE rfl rfl g_int b_eql) (fun a hE => ?_)
                    refine d_pureg (i := 4) (v := .bool (x8_44 == (x4_18.len : Int))) #[true, true, true, true, true, false, false, false, false, false, false, false, false] rfl rfl hT (by kernel_rfl) hE rfl (wanted_none rfl) (fun w => r_move hE rfl) (fun a hE => ?_)
                    have hE := hE.reb 62 (x8_44 == (x4_18.len : Int)) true hb_78 rfl
                    refine d_offs [(5, some 63), (6, some 64), (7, some 65), (8, some 66), (9, some 67), (10, some 68), (11, some 69)] 1 hT hE (by kernel_rfl) (fun a hE => ?_)
                    refine d_pureg (i := 12) (v := .bool true) #[true, true, true, true, true, true, true, true, true, true, true, true, true] rfl rfl hT (by kernel_rfl) hE rfl (wanted_none rfl) (fun w => r_pick_t hE rfl rfl) (fun a hE => ?_)
                    refine d_done hT (by kernel_rfl) ?_
                    exact ⟨true, hE.cut (.cons rfl (.cons rfl (.cons rfl (.cons rfl (.cons rfl (.cons rfl (.cons rfl Subs.nil))))))), hR, H⟩
                  · replace H := M.ite_f hb_78 H
                    obtain ⟨x65_79, qx65_79, H⟩ := H
                    obtain ⟨x66_80, qx66_80, H⟩ := H
                    obtain ⟨x67_81, qx67_81, H⟩ := H
                    have hT := tab_of tb27_16 rfl rfl
                    refine d_start (fun w : World => (fun h : Heap => (x66_80.size = 4 ∧ ∀ i, i < 4 → hcell h (Addr.add x65_79 i) = x66_80[i]?) ∧ (x67_81.size = 4 ∧ ∀ i, i < 4 → hcell h (Addr.add x7_36 i) = x67_81[i]?)) w.heap) [10, 11, 12] #[false, false, false, false, false, false, false, false, false, false, false, false, false] mo hR rfl rfl (fun w' e => by rw [e]; exact ⟨qx66_80, qx67_81⟩) (fun w hh hR hs => ?_)
                    replace H := M.at hh H; clear hh
                    refine d_pureg (i := 0) (v := .int .i64 x8_44) #[true, false, false, false, false, false, false, false, false, false, false, false, false] rfl rfl hT (by kernel_rfl) hE rfl (wanted_none rfl) (fun w => r_move hE rfl) (fun a hE => ?_)
                    refine d_pureg (i := 1) (v := (x4_18 : Sl).v) #[true, true, false, false, false, false, false, false, false, false, false, false, false] rfl rfl hT (by kernel_rfl) hE rfl (wanted_none rfl) (fun w => r_move hE rfl) (fun a hE => ?_)
                    refine d_pureg (i := 2) (v := .int .i64 (x4_18.len : Int)) #[true, true, true, false, false, false, false, false, false, false, false, false, false] rfl rfl hT (by kernel_rfl) hE rfl (wanted_none rfl) (fun w => r_len hE rfl 42 un22) (fun a hE => ?_)
                    refine d_pureg (i := 3) (v := .bool (x8_44 == (x4_18.len : Int))) #[true, true, true, true, false, false, false, false, false, false, false, false, false] rfl rfl hT (by kernel_rfl) hE rfl (wanted_none rfl) (fun w => r_bin hE rfl rfl g_int b_eql) (fun a hE => ?_)
                    refine d_pureg (i := 4) (v := .bool (x8_44 == (x4_18.len : Int))) #[true, true, true, true, true, false, false, false, false, false, false, false, false] rfl rfl hT (by kernel_rfl) hE rfl (wanted_none rfl) (fun w => r_move hE rfl) (fun a hE => ?_)
                    have hE := hE.reb 62 (x8_44 == (x4_18.len : Int)) false hb_78 rfl
                    refine d_pureg (i := 5) (v := (x4_18 : Sl).v) #[true, true, true, true, true, true, false, false, false, false, false, false, false] rfl rfl hT (by kernel_rfl) hE rfl (wanted_of rfl hE rfl rfl rfl) (fun w => r_move hE rfl) (fun a hE => ?_)
                    refine d_pureg (i := 6) (v := .int .i64 x8_44) #[true, true, true, true, true, true, true, false, false, false, false, false, false] rfl rfl hT (by kernel_rfl) hE rfl (wanted_of rfl hE rfl rfl rfl) (fun w => r_move hE rfl) (fun a hE => ?_)
                    refine d_pureg (i := 7) (v := .pointer (some x65_79)) #[true, true, true, true, true, true, true, true, false, false, false, false, false] rfl rfl hT (by kernel_rfl) hE rfl (wanted_of rfl hE rfl rfl rfl) (fun w => r_indexAddrL hE rfl rfl un22 sz42 qx65_79) (fun a hE => ?_)
                    refine d_read (i := 8) (v := .agg x66_80) #[true, true, true, true, true, true, true, true, true, false, false, false, false] rfl rfl hT (by kernel_rfl) hE rfl (wanted_of rfl hE rfl rfl rfl) hs (fun w s => r_loadG hE rfl ag42 s.1) (fun a hE => ?_)
                    refine d_read (i := 9) (v := .agg x67_81) #[true, true, true, true, true, true, true, true, true, true, false, false, false] rfl rfl hT (by kernel_rfl) hE rfl (wanted_of rfl hE rfl rfl rfl) hs (fun w s => r_loadG hE rfl ag42 s.2) (fun a hE => ?_)
                    refine d_calll (i := 10) #[true, true, true, true, true, true, true, true, true, true, true, false, false] rfl rfl rfl hT (by kernel_rfl) rfl hE hR (wanted_of rfl hE rfl rfl rfl) cl_rambleref02_Same rfl (S_rambleref02_Same x66_80 x67_81) (M.unbind H) (fun x68_82 a w ea hR H => ?_)
                    have hE := Env.put_some hE rfl ea; clear ea
                    refine d_pureg (i := 11) (v := .bool (!x68_82)) #[true, true, true, true, true, true, true, true, true, true, true, true, false] rfl rfl hT (by kernel_rfl) hE rfl (wanted_of rfl hE rfl rfl rfl) (fun w => r_un hE rfl u_not) (fun a hE => ?_)
                    refine d_pureg (i := 12) (v := .bool (!x68_82)) #[true, true, true, true, true, true, true, true, true, true, true, true, true] rfl rfl hT (by kernel_rfl) hE rfl (wanted_none rfl) (fun w => r_pick_f hE rfl rfl) (fun a hE => ?_)
                    refine d_done hT (by kernel_rfl) ?_
                    exact ⟨!x68_82, hE.cut (.cons rfl (.cons rfl (.cons rfl (.cons rfl (.cons rfl (.cons rfl (.cons rfl Subs.nil))))))), hR, H⟩
            · skip
              rcases bool_em (decide (x8_44 < (x4_18.len : Int))) with hb_83 | hb_83
              · replace H := M.ite_t hb_83 H
                obtain ⟨x50_84, qx50_84, H⟩ := H
                obtain ⟨x51_85, qx51_85, H⟩ := H
                obtain ⟨x52_86, qx52_86, H⟩ := H
                have hT := tab_of tb27_14 rfl rfl
                refine d_start (fun w : World => (fun h : Heap => (x51_85.size = 4 ∧ ∀ i, i < 4 → hcell h (Addr.add x50_84 i) = x51_85[i]?) ∧ (x52_86.size = 4 ∧ ∀ i, i < 4 → hcell h (Addr.add x7_36 i) = x52_86[i]?)) w.heap) [10, 11, 12] #[false, false, false, false, false, false, false, false, false, false, false, false, false] mo hR rfl rfl (fun w' e => by rw [e]; exact ⟨qx51_85, qx52_86⟩) (fun w hh hR hs => ?_)
                replace H := M.at hh H; clear hh
                refine d_pureg (i := 0) (v := .int .i64 x8_44) #[true, false, false, false, false, false, false, false, false, false, false, false, false] rfl rfl hT (by kernel_rfl) hE rfl (wanted_none rfl) (fun w => r_move hE rfl) (fun a hE => ?_)
                refine d_pureg (i := 1) (v := (x4_18 : Sl).v) #[true, true, false, false, false, false, false, false, false, false, false, false, false] rfl rfl hT (by kernel_rfl) hE rfl (wanted_none rfl) (fun w => r_move hE rfl) (fun a hE => ?_)
                refine d_pureg (i := 2) (v := .int .i64 (x4_18.len : Int)) #[true, true, true, false, false, false, false, false, false, false, false, false, false] rfl rfl hT (by kernel_rfl) hE rfl (wanted_none rfl) (fun w => r_len hE rfl 42 un22) (fun a hE => ?_)
                refine d_pureg (i := 3) (v := .bool (decide (x8_44 < (x4_18.len : Int)))) #[true, true, true, true, false, false, false, false, false, false, false, false, false] rfl rfl hT (by kernel_rfl) hE rfl (wanted_none rfl) (fun w => r_bin hE rfl rfl g_int b_lss) (fun a hE => ?_)
                refine d_pureg (i := 4) (v := .bool (decide (x8_44 < (x4_18.len : Int)))) #[true, true, true, true, true, false, false, false, false, false, false, false, false] rfl rfl hT (by kernel_rfl) hE rfl (wanted_none rfl) (fun w => r_move hE rfl) (fun a hE => ?_)
                have hE := hE.reb 47 (decide (x8_44 < (x4_18.len : Int))) true hb_83 rfl
                refine d_pureg (i := 5) (v := (x4_18 : Sl).v) #[true, true, true, true, true, true, false, false, false, false, false, false, false] rfl rfl hT (by kernel_rfl) hE rfl (wanted_of rfl hE rfl rfl rfl) (fun w => r_move hE rfl) (fun a hE => ?_)
                refine d_pureg (i := 6) (v := .int .i64 x8_44) #[true, true, true, true, true, true, true, false, false, false, false, false, false] rfl rfl hT (by kernel_rfl) hE rfl (wanted_of rfl hE rfl rfl rfl) (fun w => r_move hE rfl) (fun a hE => ?_)
                refine d_pureg (i := 7) (v := .pointer (some x50_84)) #[true, true, true, true, true, true, true, true, false, false, false, false, false] rfl rfl hT (by kernel_rfl) hE rfl (wanted_of rfl hE rfl rfl rfl) (fun w => r_indexAddrL hE rfl rfl un22 sz42 qx50_84) (fun a hE => ?_)
                refine d_read (i := 8) (v := .agg x51_85) #[true, true, true, true, true, true, true, true, true, false, false, false, false] rfl rfl hT (by kernel_rfl) hE rfl (wanted_of rfl hE rfl rfl rfl) hs (fun w s => r_loadG hE rfl ag42 s.1) (fun a hE => ?_)
                refine d_read (i := 9) (v := .agg x52_86) #[true, true, true, true, true, true, true, true, true, true, false, false, false] rfl rfl hT (by kernel_rfl) hE rfl (wanted_of rfl hE rfl rfl rfl) hs (fun w s => r_loadG hE rfl ag42 s.2) (fun a hE => ?_)
                refine d_calll (i := 10) #[true, true, true, true, true, true, true, true, true, true, true, false, false] rfl rfl rfl hT (by kernel_rfl) rfl hE hR (wanted_of rfl hE rfl rfl rfl) cl_rambleref02_Compare rfl (S_rambleref02_Compare x51_85 x52_86) (M.unbind H) (fun x53_87 a w ea hR H => ?_)
                have hE := Env.put_some hE rfl ea; clear ea
                refine d_pureg (i := 11) (v := .bool (decide (x53_87 < 0))) #[true, true, true, true, true, true, true, true, true, true, true, true, false] rfl rfl hT (by kernel_rfl) hE rfl (wanted_of rfl hE rfl rfl rfl) (fun w => r_bin hE rfl rfl g_int b_lss) (fun a hE => ?_)
                refine d_pureg (i := 12) (v := .bool (decide (x53_87 < 0))) #[true, true, true, true, true, true, true, true, true, true, true, true, true] rfl rfl hT (by kernel_rfl) hE rfl (wanted_none rfl) (fun w => r_pick_t hE rfl rfl) (fun a hE => ?_)
                refine d_done hT (by kernel_rfl) ?_
                exact ⟨decide (x53_87 < 0), hE.cut (.cons rfl (.cons rfl (.cons rfl (.cons rfl (.cons rfl (.cons rfl (.cons rfl Subs.nil))))))), hR, H⟩
              · replace H := M.ite_f hb_83 H
                have hT := tab_of tb27_14 rfl rfl
                refine d_start (fun w : World => (fun h : Heap => True) w.heap) [0, 1, 2, 3, 4, 5, 6, 7, 8, 9, 10, 11, 12] #[false, false, false, false, false, false, false, false, false, false, false, false, false] mo hR rfl rfl (fun w' e => by rw [e]; exact trivial) (fun w hh hR hs => ?_)
                replace H := M.at hh H; clear hh
                refine d_pureg (i := 0) (v := .int .i64 x8_44) #[true, false, false, false, false, false, false, false, false, false, false, false, false] rfl rfl hT (by kernel_rfl) hE rfl (wanted_none rfl) (fun w => r_move hE rfl) (fun a hE => ?_)
                refine d_pureg (i := 1) (v := (x4_18 : Sl).v) #[true, true, false, false, false, false, false, false, false, false, false, false, false] rfl rfl hT (by kernel_rfl) hE rfl (wanted_none rfl) (fun w => r_move hE rfl) (fun a hE => ?_)
                refine d_pureg (i := 2) (v := .int .i64 (x4_18.len : Int)) #[true, true, true, false, false, false, false, false, false, false, false, false, false] rfl rfl hT (by kernel_rfl) hE rfl (wanted_none rfl) (fun w => r_len hE rfl 42 un22) (fun a hE => ?_)
                refine d_pureg (i := 3) (v := .bool (decide (x8_44 < (x4_18.len : Int)))) #[true, true, true, true, false, false, false, false, false, false, false, false, false] rfl rfl hT (by kernel_rfl) hE rfl (wanted_none rfl) (fun w => r_bin hE rfl rfl g_int b_lss) (fun a hE => ?_)
                refine d_pureg (i := 4) (v := .bool (decide (x8_44 < (x4_18.len : Int)))) #[true, true, true, true, true, false, false, false, false, false, false, false, false] rfl rfl hT (by kernel_rfl) hE rfl (wanted_none rfl) (fun w => r_move hE rfl) (fun a hE => ?_)
                have hE := hE.reb 47 (decide (x8_44 < (x4_18.len : Int))) false hb_83 rfl
                refine d_offs [(5, some 48), (6, some 49), (7, some 50), (8, some 51), (9, some 52), (10, some 53), (11, some 54)] 1 hT hE (by kernel_rfl) (fun a hE => ?_)
                refine d_pureg (i := 12) (v := .bool false) #[true, true, true, true, true, true, true, true, true, true, true, true, true] rfl rfl hT (by kernel_rfl) hE rfl (wanted_none rfl) (fun w => r_pick_f hE rfl rfl) (fun a hE => ?_)
                refine d_done hT (by kernel_rfl) ?_
                exact ⟨false, hE.cut (.cons rfl (.cons rfl (.cons rfl (.cons rfl (.cons rfl (.cons rfl (.cons rfl Subs.nil))))))), hR, H⟩
      · replace H := M.ite_f hb H
        refine w_exit ?_
        refine Xu.same ?_
        refine hK_11 _ _ ?_
        refine t_region ?_
        refine t_val (v := .int .i64 x5_6) rfl rfl hE rfl (r_move hE rfl) (fun a hE => ?_)
        refine t_val (v := .int .i64 (IntKind.wrap .i64 (x5_6 + 1))) rfl rfl hE rfl (r_bin hE rfl rfl g_int b_add) (fun a hE => ?_)
        refine t_val (v := .int .i64 (IntKind.wrap .i64 (x5_6 + 1))) rfl rfl hE rfl (r_assign hE rfl) (fun a hE => ?_)
        refine t_nil ?_
        exact hY_8 (x4_18, IntKind.wrap .i64 (x5_6 + 1)) _ _ (hE.cut (.cons rfl (.cons rfl (.cons rfl Subs.nil)))) hR H
  · replace H := M.ite_f hb H
    refine w_exit ?_
    refine Xu.same ?_
    refine hK_3 _ _ ?_
    refine w_seq (fun K hK_88 => ?_)
    refine t_region ?_
    refine t_val (v := (x4_5 : Sl).v) rfl rfl hE rfl (r_move hE rfl) (fun a hE => ?_)
    refine t_val (v := (x4_5 : Sl).v) rfl rfl hE rfl (r_assign hE rfl) (fun a hE => ?_)
    refine t_val (v := .bool true) rfl rfl hE rfl (r_assign hE rfl) (fun a hE => ?_)
    refine t_nil ?_
    refine hK_88 _ _ ?_
    refine w_ret ?_
    exact hret _ _ _ (x4_5, true) _ hE hR (res_run hE rfl (RV.tmp rfl (RV.tmp rfl RV.nil))) rfl H

/-- ramble/rambleref01.bare -/
def rambleref01_bare (x0 : Int) : M (Int) := do
  M.ite (decide (x0 < 0)) (do
    M.pure (IntKind.wrap .u64 (0 - (IntKind.wrap .u64 x0)))
    ) (do
    M.pure (IntKind.wrap .u64 x0)
    )
theorem S_rambleref01_bare (x0 : Int) : Sound Go.Proofs.Tryd.prog 99 #[.int .i64 x0] (fun (r : Int) => .int .u64 r) (rambleref01_bare x0) := by
  refine sound_of [(0, .int .i64 x0)] Go.Proofs.Tryd.func99 rfl rfl (Nat.le_of_ble_eq_true rfl) (args_of ⟨rfl, trivial⟩) (fun w0 w Q R a hret hE hR H => ?_)
  unfold rambleref01_bare at H
  refine w_seq (fun K hK_1 => ?_)
  refine t_region ?_
  refine t_val (v := .int .u64 0) rfl rfl hE rfl (r_assign hE rfl) (fun a hE => ?_)
  refine t_nil ?_
  refine hK_1 _ _ ?_
  refine w_seq (fun K hK_2 => ?_)
  refine w_seq (fun K hK_3 => ?_)
  refine t_region ?_
  refine t_val (v := .int .i64 x0) rfl rfl hE rfl (r_move hE rfl) (fun a hE => ?_)
  refine t_val (v := .bool (decide (x0 < 0))) rfl rfl hE rfl (r_bin hE rfl rfl g_int b_lss) (fun a hE => ?_)
  refine t_nil ?_
  refine hK_3 _ _ ?_
  refine w_cond (decide (x0 < 0)) hE rfl (fun hb => ?_) (fun hb => ?_)
  · replace H := M.ite_t hb H
    refine w_seq (fun K hK_4 => ?_)
    refine t_region ?_
    refine t_val (v := .int .i64 x0) rfl rfl hE rfl (r_move hE rfl) (fun a hE => ?_)
    refine t_val (v := .int .u64 (IntKind.wrap .u64 x0)) rfl rfl hE rfl (r_convI hE rfl un2 un95) (fun a hE => ?_)
    refine t_val (v := .int .u64 (IntKind.wrap .u64 (0 - (IntKind.wrap .u64 x0)))) rfl rfl hE rfl (r_bin hE rfl rfl g_int b_sub) (fun a hE => ?_)
    refine t_val (v := .int .u64 (IntKind.wrap .u64 (0 - (IntKind.wrap .u64 x0)))) rfl rfl hE rfl (r_assign hE rfl) (fun a hE => ?_)
    refine t_nil ?_
    refine hK_4 _ _ ?_
    refine w_ret ?_
    exact hret _ _ _ (IntKind.wrap .u64 (0 - (IntKind.wrap .u64 x0))) _ hE hR (res_run hE rfl (RV.tmp rfl RV.nil)) rfl H
  · replace H := M.ite_f hb H
    refine w_skip ?_
    refine hK_2 _ _ ?_
    refine w_seq (fun K hK_5 => ?_)
    refine t_region ?_
    refine t_val (v := .int .i64 x0) rfl rfl hE rfl (r_move hE rfl) (fun a hE => ?_)
    refine t_val (v := .int .u64 (IntKind.wrap .u64 x0)) rfl rfl hE rfl (r_convI hE rfl un2 un95) (fun a hE => ?_)
    refine t_val (v := .int .u64 (IntKind.wrap .u64 x0)) rfl rfl hE rfl (r_assign hE rfl) (fun a hE => ?_)
    refine t_nil ?_
    refine hK_5 _ _ ?_
    refine w_ret ?_
    exact hret _ _ _ (IntKind.wrap .u64 x0) _ hE hR (res_run hE rfl (RV.tmp rfl RV.nil)) rfl H

/-- ramble/rambleref01.Digits -/
def rambleref01_Digits_l1 (self1 : (Int × Sl) → M (Sl)) : (Int × Sl) → M (Sl) := fun s => match s with
  | (x3_6, x4_7) => do
    let x13_11 ← M.ite (decide (x3_6 > 0)) (do
      M.pure true
      ) (do
      M.pure ((x4_7.len : Int) == 0)
      )
    M.ite x13_11 (do
      let x17_13 ← bdL ty_int 1 #[.int .i64 (IntKind.wrap .i64 (Int.tmod x3_6 10))]
      let x19_14 ← apL ty_int 1 8 (#[.int .i64 0] : Array Value) x17_13 x4_7
      self1 (IntKind.wrap .u64 (Int.tdiv x3_6 10), x19_14)
      ) (do
      M.pure x4_7
      )
def rambleref01_Digits (x0 : Int) : M (Sl) := do
  let x6_3 ← rambleref01_bare x0
  M.loop rambleref01_Digits_l1 (x6_3, Sl.nil)
theorem S_rambleref01_Digits (x0 : Int) : Sound Go.Proofs.Tryd.prog 90 #[.int .i64 x0] (fun (r : Sl) => (r : Sl).v) (rambleref01_Digits x0) := by
  refine sound_of [(0, .int .i64 x0)] Go.Proofs.Tryd.func90 rfl rfl (Nat.le_of_ble_eq_true rfl) (args_of ⟨rfl, trivial⟩) (fun w0 w Q R a hret hE hR H => ?_)
  unfold rambleref01_Digits at H
  refine w_seq (fun K hK_1 => ?_)
  refine t_region ?_
  refine t_val (v := (Sl.nil : Sl).v) rfl rfl hE rfl (r_assign hE rfl) (fun a hE => ?_)
  refine t_nil ?_
  refine hK_1 _ _ ?_
  refine w_seq (fun K hK_2 => ?_)
  refine t_region ?_
  refine t_val (v := .int .i64 x0) rfl rfl hE rfl (r_move hE rfl) (fun a hE => ?_)
  refine t_call hE hR cl_rambleref01_bare rfl (S_rambleref01_bare x0) (M.unbind H) (fun x6_3 a w ea hR H => ?_)
  have hE := Env.put_some hE rfl ea; clear ea
  refine t_val (v := .int .u64 x6_3) rfl rfl hE rfl (r_assign hE rfl) (fun a hE => ?_)
  refine t_nil ?_
  refine hK_2 _ _ ?_
  refine w_seq (fun K hK_4 => ?_)
  refine t_region ?_
  refine t_val (v := (Sl.nil : Sl).v) rfl rfl hE rfl (r_assign hE rfl) (fun a hE => ?_)
  refine t_nil ?_
  refine hK_4 _ _ ?_
  refine w_seq (fun K hK_5 => ?_)
  refine w_block ?_
  refine l_loop (fun (s : Int × Sl) => (⟨23, []⟩ : Frm)) (fun (s : Int × Sl) => [(3, .int .u64 s.1), (4, (s.2 : Sl).v)]) H (hE.cut (.cons rfl (.cons rfl Subs.nil))) hR (fun Y self1 hY_8 s a w hE hR H => ?_)
  rcases s with ⟨x3_6, x4_7⟩
  replace hE : Env (⟨23, []⟩ : Frm) a [(3, .int .u64 x3_6), (4, (x4_7 : Sl).v)] := hE
  replace H : (rambleref01_Digits_l1 self1 (x3_6, x4_7)).wp w.heap Q := H
  unfold rambleref01_Digits_l1 at H
  refine w_seq (fun K hK_9 => ?_)
  refine w_seq (fun K hK_10 => ?_)
  refine t_region ?_
  refine t_val (v := .int .u64 x3_6) rfl rfl hE rfl (r_move hE rfl) (fun a hE => ?_)
  refine t_val (v := .bool (decide (x3_6 > 0))) rfl rfl hE rfl (r_bin hE rfl rfl g_int b_gtr) (fun a hE => ?_)
  refine t_val (v := .bool (decide (x3_6 > 0))) rfl rfl hE rfl (r_move hE rfl) (fun a hE => ?_)
  refine t_grp (n := (⟨23, []⟩ : Frm)) (w0 := w0) 4 (fun x13_11 : Bool => [(3, .int .u64 x3_6), (4, (x4_7 : Sl).v), (13, .bool x13_11)]) (M.unbind H) (fun Kr hKr H => ?_) ?_
  · rcases bool_em (decide (x3_6 > 0)) with hb | hb
    · replace H := M.ite_t hb H
      have hE := hE.reb 9 (decide (x3_6 > 0)) true hb rfl
      refine t_off rfl hE rfl rfl rfl (fun a ea => ?_)
      have hE := Env.put_some hE rfl ea; clear ea
      refine t_off rfl hE rfl rfl rfl (fun a ea => ?_)
      have hE := Env.put_some hE rfl ea; clear ea
      refine t_off rfl hE rfl rfl rfl (fun a ea => ?_)
      have hE := Env.put_some hE rfl ea; clear ea
      refine t_val rfl rfl hE rfl (r_pick_t hE rfl rfl) (fun a hE => ?_)
      refine t_nil ?_
      exact hKr _ _ _ (hE.cut (.cons rfl (.cons rfl (.cons rfl Subs.nil)))) hR H
    · replace H := M.ite_f hb H
      have hE := hE.reb 9 (decide (x3_6 > 0)) false hb rfl
      refine t_on rfl hE rfl rfl rfl ?_
      refine t_val (v := (x4_7 : Sl).v) rfl rfl hE rfl (r_move hE rfl) (fun a hE => ?_)
      refine t_on rfl hE rfl rfl rfl ?_
      refine t_val (v := .int .i64 (x4_7.len : Int)) rfl rfl hE rfl (r_len hE rfl 3 un96) (fun a hE => ?_)
      refine t_on rfl hE rfl rfl rfl ?_
      refine t_val (v := .bool ((x4_7.len : Int) == 0)) rfl rfl hE rfl (r_bin hE rfl rfl g_int b_eql) (fun a hE => ?_)
      refine t_val rfl rfl hE rfl (r_pick_f hE rfl rfl) (fun a hE => ?_)
      refine t_nil ?_
      exact hKr _ _ _ (hE.cut (.cons rfl (.cons rfl (.cons rfl Subs.nil)))) hR H
  · intro x13_11 a w hE hR H
    refine t_nil ?_
    refine hK_10 _ _ ?_
    refine w_cond x13_11 hE rfl (fun hb => ?_) (fun hb => ?_)
    · replace H := M.ite_t hb H
      refine w_skip ?_
      refine hK_9 _ _ ?_
      refine w_block ?_
      refine w_seq (fun K hK_12 => ?_)
      refine t_region ?_
      refine t_val (v := .int .u64 x3_6) rfl rfl hE rfl (r_move hE rfl) (fun a hE => ?_)
      refine t_val (v := .int .u64 (Int.tmod x3_6 10)) rfl rfl hE rfl (r_bin hE rfl rfl g_int (b_rem ⟨by decide, rfl⟩)) (fun a hE => ?_)
      refine t_val (v := .int .i64 (IntKind.wrap .i64 (Int.tmod x3_6 10))) rfl rfl hE rfl (r_convI hE rfl un95 un3) (fun a hE => ?_)
      obtain ⟨x17_13, qx17_13, H⟩ := H
      refine t_valh (v := (x17_13 : Sl).v) rfl rfl hE rfl hR (r_buildL (cells := #[.int .i64 (IntKind.wrap .i64 (Int.tmod x3_6 10))]) hE rfl un96 sz3 zr3 rfl rfl qx17_13) (fun a w hE hR hh => ?_)
      replace H := M.at hh H; clear hh
      refine t_val (v := (x4_7 : Sl).v) rfl rfl hE rfl (r_move hE rfl) (fun a hE => ?_)
      refine t_ex (fun x19_14 => (x19_14 : Sl).v) rfl rfl hR (M.unbind H) (fun Q H => ap_run hE rfl rfl ap96 H) (fun x19_14 a w ea hR H => ?_)
      have hE := Env.put_some hE rfl ea; clear ea
      refine t_val (v := (x19_14 : Sl).v) rfl rfl hE rfl (r_assign hE rfl) (fun a hE => ?_)
      refine t_nil ?_
      refine hK_12 _ _ ?_
      refine t_region ?_
      refine t_val (v := .int .u64 x3_6) rfl rfl hE rfl (r_move hE rfl) (fun a hE => ?_)
      refine t_val (v := .int .u64 (IntKind.wrap .u64 (Int.tdiv x3_6 10))) rfl rfl hE rfl (r_bin hE rfl rfl g_int (b_quo ⟨by decide, rfl⟩)) (fun a hE => ?_)
      refine t_val (v := .int .u64 (IntKind.wrap .u64 (Int.tdiv x3_6 10))) rfl rfl hE rfl (r_assign hE rfl) (fun a hE => ?_)
      refine t_nil ?_
      exact hY_8 (IntKind.wrap .u64 (Int.tdiv x3_6 10), x19_14) _ _ (hE.cut (.cons rfl (.cons rfl Subs.nil))) hR H
    · replace H := M.ite_f hb H
      refine w_exit ?_
      refine Xu.same ?_
      refine hK_5 _ _ ?_
      refine w_seq (fun K hK_15 => ?_)
      refine t_region ?_
      refine t_val (v := (x4_7 : Sl).v) rfl rfl hE rfl (r_move hE rfl) (fun a hE => ?_)
      refine t_val (v := (x4_7 : Sl).v) rfl rfl hE rfl (r_assign hE rfl) (fun a hE => ?_)
      refine t_nil ?_
      refine hK_15 _ _ ?_
      refine w_ret ?_
      exact hret _ _ _ x4_7 _ hE hR (res_run hE rfl (RV.tmp rfl RV.nil)) rfl H

end Gx
namespace Gx
open Go
set_option linter.unusedVariables false
set_option maxRecDepth 100000
/-- ramble/rambleref01.Text -/
def rambleref01_Text_l1 (c4_11 : Sl) (self1 : (ByteArray × Int) → M (ByteArray)) : (ByteArray × Int) → M (ByteArray) := fun s => match s with
  | (x3_9, x5_10) => do
    M.ite (decide (x5_10 < (c4_11.len : Int))) (do
      let x19_16 ← ixL c4_11 x5_10 1
      let x20_17 ← ldI .i64 x19_16
      let x23_18 ← bdL ty_uint8 1 #[.int .u8 (IntKind.wrap .u8 (IntKind.wrap .i64 (48 + x20_17)))]
      let x24_19 ← b2s x23_18
      let x25_20 ← sCat x3_9 x24_19
      self1 (x25_20, IntKind.wrap .i64 (x5_10 + 1))
      ) (do
      M.pure x3_9
      )
def rambleref01_Text_j1 (c0_4 : Int) (x3_3 : ByteArray) : M (ByteArray) := do
  let x9_6 ← rambleref01_Digits c0_4
  M.loop (rambleref01_Text_l1 x9_6) (x3_3, 0)
def rambleref01_Text (x0 : Int) : M (ByteArray) := do
  M.ite (decide (x0 < 0)) (do
    rambleref01_Text_j1 x0 (⟨#[45]⟩ : ByteArray)
    ) (do
    rambleref01_Text_j1 x0 ByteArray.empty
    )
theorem S_rambleref01_Text (x0 : Int) : Sound Go.Proofs.Tryd.prog 74 #[.int .i64 x0] (fun (r : ByteArray) => .string r) (rambleref01_Text x0) := by
  refine sound_of [(0, .int .i64 x0)] Go.Proofs.Tryd.func74 rfl rfl (Nat.le_of_ble_eq_true rfl) (args_of ⟨rfl, trivial⟩) (fun w0 w Q R a hret hE hR H => ?_)
  unfold rambleref01_Text at H
  refine w_seq (fun K hK_1 => ?_)
  refine t_region ?_
  refine t_val (v := .string ByteArray.empty) rfl rfl hE rfl (r_assign hE rfl) (fun a hE => ?_)
  refine t_nil ?_
  refine hK_1 _ _ ?_
  refine w_seq (fun K hK_2 => ?_)
  refine t_region ?_
  refine t_val (v := .string ByteArray.empty) rfl rfl hE rfl (r_assign hE rfl) (fun a hE => ?_)
  refine t_nil ?_
  refine hK_2 _ _ ?_
  refine w_seq_join (fun a w => ∃ (x3_3 : ByteArray), Env (⟨27, []⟩ : Frm) a [(0, .int .i64 x0), (3, .string x3_3)] ∧ Rest w0 w ∧ (rambleref01_Text_j1 x0 x3_3).wp w.heap Q) ?_ ?_
  · rintro a w ⟨x3_3, hE, hR, H⟩
    unfold rambleref01_Text_j1 at H
    refine w_seq (fun K hK_5 => ?_)
    refine t_region ?_
    refine t_val (v := .int .i64 x0) rfl rfl hE rfl (r_move hE rfl) (fun a hE => ?_)
    refine t_call hE hR cl_rambleref01_Digits rfl (S_rambleref01_Digits x0) (M.unbind H) (fun x9_6 a w ea hR H => ?_)
    have hE := Env.put_some hE rfl ea; clear ea
    refine t_val (v := (x9_6 : Sl).v) rfl rfl hE rfl (r_assign hE rfl) (fun a hE => ?_)
    refine t_nil ?_
    refine hK_5 _ _ ?_
    refine w_seq (fun K hK_7 => ?_)
    refine w_seq (fun K hK_8 => ?_)
    refine t_region ?_
    refine t_val (v := .int .i64 0) rfl rfl hE rfl (r_assign hE rfl) (fun a hE => ?_)
    refine t_nil ?_
    refine hK_8 _ _ ?_
    refine w_block ?_
    refine l_loop (fun (s : ByteArray × Int) => (⟨27, []⟩ : Frm)) (fun (s : ByteArray × Int) => [(3, .string s.1), (4, (x9_6 : Sl).v), (5, .int .i64 s.2)]) H (hE.cut (.cons rfl (.cons rfl (.cons rfl Subs.nil)))) hR (fun Y self1 hY_12 s a w hE hR H => ?_)
    rcases s with ⟨x3_9, x5_10⟩
    replace hE : Env (⟨27, []⟩ : Frm) a [(3, .string x3_9), (4, (x9_6 : Sl).v), (5, .int .i64 x5_10)] := hE
    replace H : (rambleref01_Text_l1 x9_6 self1 (x3_9, x5_10)).wp w.heap Q := H
    unfold rambleref01_Text_l1 at H
    refine w_seq (fun K hK_13 => ?_)
    refine w_seq (fun K hK_14 => ?_)
    refine t_region ?_
    refine t_val (v := .int .i64 x5_10) rfl rfl hE rfl (r_move hE rfl) (fun a hE => ?_)
    refine t_val (v := (x9_6 : Sl).v) rfl rfl hE rfl (r_move hE rfl) (fun a hE => ?_)
    refine t_val (v := .int .i64 (x9_6.len : Int)) rfl rfl hE rfl (r_len hE rfl 3 un96) (fun a hE => ?_)
    refine t_val (v := .bool (decide (x5_10 < (x9_6.len : Int)))) rfl rfl hE rfl (r_bin hE rfl rfl g_int b_lss) (fun a hE => ?_)
    refine t_nil ?_
    refine hK_14 _ _ ?_
    refine w_cond (decide (x5_10 < (x9_6.len : Int))) hE rfl (fun hb => ?_) (fun hb => ?_)
    · replace H := M.ite_t hb H
      refine w_skip ?_
      refine hK_13 _ _ ?_
      refine w_seq (fun K hK_15 => ?_)
      refine w_block ?_
      refine t_region ?_
      refine t_val (v := .string x3_9) rfl rfl hE rfl (r_move hE rfl) (fun a hE => ?_)
      refine t_val (v := (x9_6 : Sl).v) rfl rfl hE rfl (r_move hE rfl) (fun a hE => ?_)
      refine t_val (v := .int .i64 x5_10) rfl rfl hE rfl (r_move hE rfl) (fun a hE => ?_)
      obtain ⟨x19_16, qx19_16, H⟩ := H
      refine t_val (v := .pointer (some x19_16)) rfl rfl hE rfl (r_indexAddrL hE rfl rfl un96 sz3 qx19_16) (fun a hE => ?_)
      obtain ⟨x20_17, qx20_17, H⟩ := H
      refine t_val (v := .int .i64 x20_17) rfl rfl hE rfl (r_load hE rfl sc3 qx20_17) (fun a hE => ?_)
      refine t_val (v := .int .i64 (IntKind.wrap .i64 (48 + x20_17))) rfl rfl hE rfl (r_bin hE rfl rfl g_int b_add) (fun a hE => ?_)
      refine t_val (v := .int .u8 (IntKind.wrap .u8 (IntKind.wrap .i64 (48 + x20_17)))) rfl rfl hE rfl (r_convI hE rfl un3 un5) (fun a hE => ?_)
      obtain ⟨x23_18, qx23_18, H⟩ := H
      refine t_valh (v := (x23_18 : Sl).v) rfl rfl hE rfl hR (r_buildL (cells := #[.int .u8 (IntKind.wrap .u8 (IntKind.wrap .i64 (48 + x20_17)))]) hE rfl un51 sz5 zr5 rfl rfl qx23_18) (fun a w hE hR hh => ?_)
      replace H := M.at hh H; clear hh
      obtain ⟨x24_19, qx24_19, H⟩ := H
      refine t_val (v := .string x24_19) rfl rfl hE rfl (b2s_run hE rfl un51 un9 un5 qx24_19) (fun a hE => ?_)
      obtain ⟨x25_20, qx25_20, H⟩ := H
      refine t_val (v := .string x25_20) rfl rfl hE rfl (r_bin hE rfl rfl g_str (b_addS qx25_20)) (fun a hE => ?_)
      refine t_val (v := .string x25_20) rfl rfl hE rfl (r_assign hE rfl) (fun a hE => ?_)
      refine t_nil ?_
      refine hK_15 _ _ ?_
      refine t_region ?_
      refine t_val (v := .int .i64 x5_10) rfl rfl hE rfl (r_move hE rfl) (fun a hE => ?_)
      refine t_val (v := .int .i64 (IntKind.wrap .i64 (x5_10 + 1))) rfl rfl hE rfl (r_bin hE rfl rfl g_int b_add) (fun a hE => ?_)
      refine t_val (v := .int .i64 (IntKind.wrap .i64 (x5_10 + 1))) rfl rfl hE rfl (r_assign hE rfl) (fun a hE => ?_)
      refine t_nil ?_
      exact hY_12 (x25_20, IntKind.wrap .i64 (x5_10 + 1)) _ _ (hE.cut (.cons rfl (.cons rfl (.cons rfl Subs.nil)))) hR H
    · replace H := M.ite_f hb H
      refine w_exit ?_
      refine Xu.same ?_
      refine hK_7 _ _ ?_
      refine w_seq (fun K hK_21 => ?_)
      refine t_region ?_
      refine t_val (v := .string x3_9) rfl rfl hE rfl (r_move hE rfl) (fun a hE => ?_)
      refine t_val (v := .string x3_9) rfl rfl hE rfl (r_assign hE rfl) (fun a hE => ?_)
      refine t_nil ?_
      refine hK_21 _ _ ?_
      refine w_ret ?_
      exact hret _ _ _ x3_9 _ hE hR (res_run hE rfl (RV.tmp rfl RV.nil)) rfl H
  · skip
    refine w_seq (fun K hK_22 => ?_)
    refine t_region ?_
    refine t_val (v := .int .i64 x0) rfl rfl hE rfl (r_move hE rfl) (fun a hE => ?_)
    refine t_val (v := .bool (decide (x0 < 0))) rfl rfl hE rfl (r_bin hE rfl rfl g_int b_lss) (fun a hE => ?_)
    refine t_nil ?_
    refine hK_22 _ _ ?_
    refine w_cond (decide (x0 < 0)) hE rfl (fun hb => ?_) (fun hb => ?_)
    · replace H := M.ite_t hb H
      refine t_region ?_
      refine t_val (v := .string (⟨#[45]⟩ : ByteArray)) rfl rfl hE rfl (r_assign hE rfl) (fun a hE => ?_)
      refine t_nil ?_
      exact ⟨(⟨#[45]⟩ : ByteArray), hE.cut (.cons rfl (.cons rfl Subs.nil)), hR, H⟩
    · replace H := M.ite_f hb H
      refine w_skip ?_
      exact ⟨ByteArray.empty, hE.cut (.cons rfl (.cons rfl Subs.nil)), hR, H⟩

/-- ramble/rambleref02.Quote -/
def rambleref02_Quote_j1 (self1 : (Sl × Int) → M (ByteArray)) (c4_14 : Int) (x3_12 : Sl) : M (ByteArray) := do
  self1 (x3_12, IntKind.wrap .i64 (c4_14 + 1))
theorem tb75_10 : tabAt Go.Proofs.Tryd.f75 10 [[], [], [1], [2], [], [4], [5], [3, 6], [0, 7], [8, 8, 0, 1, 2, 3, 4, 5, 6, 7, 8]] [[], [], [1], [2], [], [4], [5], [3, 6], [0, 7], [0, 8]] [[], [], [1], [1, 2], [], [4], [4, 5], [1, 2, 3, 4, 5, 6], [0, 1, 2, 3, 4, 5, 6, 7], [0, 1, 2, 3, 4, 5, 6, 7, 8]] = true := by kernel_rfl
def rambleref02_Quote_l1 (c0_8 : ByteArray) (self1 : (Sl × Int) → M (ByteArray)) : (Sl × Int) → M (ByteArray) := fun s => match s with
  | (x3_6, x4_7) => do
    M.ite (decide (x4_7 < (c0_8.size : Int))) (do
      let x15_16 ← ixS c0_8 x4_7
      let x26_18 ← M.ite (x15_16 == 39) (do
        M.pure true
        ) (do
        M.pure (x15_16 == 92)
        )
      M.ite x26_18 (do
        let x29_19 ← bdL ty_uint8 2 #[.int .u8 92, .int .u8 x15_16]
        let x30_20 ← apL ty_uint8 1 1 (#[.int .u8 0] : Array Value) x3_6 x29_19
        rambleref02_Quote_j1 self1 x4_7 x30_20
        ) (do
        let x37_22 ← M.ite (decide (x15_16 < 32)) (do
          M.pure true
          ) (do
          M.pure (decide (x15_16 > 126))
          )
        M.ite x37_22 (do
          let x41_23 ← ixS (⟨#[48, 49, 50, 51, 52, 53, 54, 55, 56, 57, 97, 98, 99, 100, 101, 102]⟩ : ByteArray) (IntKind.wrap .u8 (Int.tdiv x15_16 16))
          let x44_24 ← ixS (⟨#[48, 49, 50, 51, 52, 53, 54, 55, 56, 57, 97, 98, 99, 100, 101, 102]⟩ : ByteArray) (Int.tmod x15_16 16)
          let x45_25 ← bdL ty_uint8 4 #[.int .u8 92, .int .u8 120, .int .u8 x41_23, .int .u8 x44_24]
          let x46_26 ← apL ty_uint8 1 1 (#[.int .u8 0] : Array Value) x3_6 x45_25
          rambleref02_Quote_j1 self1 x4_7 x46_26
          ) (do
          let x18_27 ← bdL ty_uint8 1 #[.int .u8 x15_16]
          let x19_28 ← apL ty_uint8 1 1 (#[.int .u8 0] : Array Value) x3_6 x18_27
          rambleref02_Quote_j1 self1 x4_7 x19_28
          )
        )
      ) (do
      let x48_30 ← bdL ty_uint8 1 #[.int .u8 39]
      let x49_31 ← apL ty_uint8 1 1 (#[.int .u8 0] : Array Value) x3_6 x48_30
      let x50_32 ← b2s x49_31
      M.pure x50_32
      )
def rambleref02_Quote (x0 : ByteArray) : M (ByteArray) := do
  let x6_3 ← bdL ty_uint8 1 #[.int .u8 39]
  M.loop (rambleref02_Quote_l1 x0) (x6_3, 0)
theorem S_rambleref02_Quote (x0 : ByteArray) : Sound Go.Proofs.Tryd.prog 75 #[.string x0] (fun (r : ByteArray) => .string r) (rambleref02_Quote x0) := by
  refine sound_of [(0, .string x0)] Go.Proofs.Tryd.func75 rfl rfl (Nat.le_of_ble_eq_true rfl) (args_of ⟨rfl, trivial⟩) (fun w0 w Q R a hret hE hR H => ?_)
  unfold rambleref02_Quote at H
  refine w_seq (fun K hK_1 => ?_)
  refine t_region ?_
  refine t_val (v := .string ByteArray.empty) rfl rfl hE rfl (r_assign hE rfl) (fun a hE => ?_)
  refine t_nil ?_
  refine hK_1 _ _ ?_
  refine w_seq (fun K hK_2 => ?_)
  refine t_region ?_
  obtain ⟨x6_3, qx6_3, H⟩ := H
  refine t_valh (v := (x6_3 : Sl).v) rfl rfl hE rfl hR (r_buildL (cells := #[.int .u8 39]) hE rfl un51 sz5 zr5 rfl rfl qx6_3) (fun a w hE hR hh => ?_)
  replace H := M.at hh H; clear hh
  refine t_val (v := (x6_3 : Sl).v) rfl rfl hE rfl (r_assign hE rfl) (fun a hE => ?_)
  refine t_nil ?_
  refine hK_2 _ _ ?_
  refine w_seq (fun K hK_4 => ?_)
  refine w_seq (fun K hK_5 => ?_)
  refine t_region ?_
  refine t_val (v := .int .i64 0) rfl rfl hE rfl (r_assign hE rfl) (fun a hE => ?_)
  refine t_nil ?_
  refine hK_5 _ _ ?_
  refine w_block ?_
  refine l_loop (fun (s : Sl × Int) => (⟨51, []⟩ : Frm)) (fun (s : Sl × Int) => [(0, .string x0), (3, (s.1 : Sl).v), (4, .int .i64 s.2)]) H (hE.cut (.cons rfl (.cons rfl (.cons rfl Subs.nil)))) hR (fun Y self1 hY_9 s a w hE hR H => ?_)
  rcases s with ⟨x3_6, x4_7⟩
  replace hE : Env (⟨51, []⟩ : Frm) a [(0, .string x0), (3, (x3_6 : Sl).v), (4, .int .i64 x4_7)] := hE
  replace H : (rambleref02_Quote_l1 x0 self1 (x3_6, x4_7)).wp w.heap Q := H
  unfold rambleref02_Quote_l1 at H
  refine w_seq (fun K hK_10 => ?_)
  refine w_seq (fun K hK_11 => ?_)
  refine t_region ?_
  refine t_val (v := .int .i64 x4_7) rfl rfl hE rfl (r_move hE rfl) (fun a hE => ?_)
  refine t_val (v := .string x0) rfl rfl hE rfl (r_move hE rfl) (fun a hE => ?_)
  refine t_val (v := .int .i64 (x0.size : Int)) rfl rfl hE rfl (r_lenS hE rfl un9) (fun a hE => ?_)
  refine t_val (v := .bool (decide (x4_7 < (x0.size : Int)))) rfl rfl hE rfl (r_bin hE rfl rfl g_int b_lss) (fun a hE => ?_)
  refine t_nil ?_
  refine hK_11 _ _ ?_
  refine w_cond (decide (x4_7 < (x0.size : Int))) hE rfl (fun hb => ?_) (fun hb => ?_)
  · replace H := M.ite_t hb H
    refine w_skip ?_
    refine hK_10 _ _ ?_
    refine w_seq_join (fun a w => ∃ (x3_12 : Sl), Env (⟨51, []⟩ : Frm) a [(0, .string x0), (4, .int .i64 x4_7), (3, (x3_12 : Sl).v)] ∧ Rest w0 w ∧ (rambleref02_Quote_j1 self1 x4_7 x3_12).wp w.heap Q) ?_ ?_
    · rintro a w ⟨x3_12, hE, hR, H⟩
      unfold rambleref02_Quote_j1 at H
      refine t_region ?_
      refine t_val (v := .int .i64 x4_7) rfl rfl hE rfl (r_move hE rfl) (fun a hE => ?_)
      refine t_val (v := .int .i64 (IntKind.wrap .i64 (x4_7 + 1))) rfl rfl hE rfl (r_bin hE rfl rfl g_int b_add) (fun a hE => ?_)
      refine t_val (v := .int .i64 (IntKind.wrap .i64 (x4_7 + 1))) rfl rfl hE rfl (r_assign hE rfl) (fun a hE => ?_)
      refine t_nil ?_
      exact hY_9 (x3_12, IntKind.wrap .i64 (x4_7 + 1)) _ _ (hE.cut (.cons rfl (.cons rfl (.cons rfl Subs.nil)))) hR H
    · skip
      refine w_block ?_
      refine w_seq (fun K hK_15 => ?_)
      refine t_region ?_
      refine t_val (v := .string x0) rfl rfl hE rfl (r_move hE rfl) (fun a hE => ?_)
      refine t_val (v := .int .i64 x4_7) rfl rfl hE rfl (r_move hE rfl) (fun a hE => ?_)
      obtain ⟨x15_16, qx15_16, H⟩ := H
      refine t_val (v := .int .u8 x15_16) rfl rfl hE rfl (r_indexS hE rfl rfl un9 qx15_16) (fun a hE => ?_)
      refine t_val (v := .int .u8 x15_16) rfl rfl hE rfl (r_assign hE rfl) (fun a hE => ?_)
      refine t_nil ?_
      refine hK_15 _ _ ?_
      refine w_block ?_
      refine w_seq (fun K hK_17 => ?_)
      refine t_region ?_
      refine t_val (v := .int .u8 x15_16) rfl rfl hE rfl (r_move hE rfl) (fun a hE => ?_)
      refine t_val (v := .bool (x15_16 == 39)) rfl rfl hE rfl (r_bin hE rfl rfl g_int b_eql) (fun a hE => ?_)
      refine t_val (v := .bool (x15_16 == 39)) rfl rfl hE rfl (r_move hE rfl) (fun a hE => ?_)
      refine t_grp (n := (⟨51, []⟩ : Frm)) (w0 := w0) 3 (fun x26_18 : Bool => [(0, .string x0), (3, (x3_6 : Sl).v), (4, .int .i64 x4_7), (5, .int .u8 x15_16), (26, .bool x26_18)]) (M.unbind H) (fun Kr hKr H => ?_) ?_
      · rcases bool_em (x15_16 == 39) with hb | hb
        · replace H := M.ite_t hb H
          have hE := hE.reb 23 (x15_16 == 39) true hb rfl
          refine t_off rfl hE rfl rfl rfl (fun a ea => ?_)
          have hE := Env.put_some hE rfl ea; clear ea
          refine t_off rfl hE rfl rfl rfl (fun a ea => ?_)
          have hE := Env.put_some hE rfl ea; clear ea
          refine t_val rfl rfl hE rfl (r_pick_t hE rfl rfl) (fun a hE => ?_)
          refine t_nil ?_
          exact hKr _ _ _ (hE.cut (.cons rfl (.cons rfl (.cons rfl (.cons rfl (.cons rfl Subs.nil)))))) hR H
        · replace H := M.ite_f hb H
          have hE := hE.reb 23 (x15_16 == 39) false hb rfl
          refine t_on rfl hE rfl rfl rfl ?_
          refine t_val (v := .int .u8 x15_16) rfl rfl hE rfl (r_move hE rfl) (fun a hE => ?_)
          refine t_on rfl hE rfl rfl rfl ?_
          refine t_val (v := .bool (x15_16 == 92)) rfl rfl hE rfl (r_bin hE rfl rfl g_int b_eql) (fun a hE => ?_)
          refine t_val rfl rfl hE rfl (r_pick_f hE rfl rfl) (fun a hE => ?_)
          refine t_nil ?_
          exact hKr _ _ _ (hE.cut (.cons rfl (.cons rfl (.cons rfl (.cons rfl (.cons rfl Subs.nil)))))) hR H
      · intro x26_18 a w hE hR H
        refine t_val (v := .bool x26_18) rfl rfl hE rfl (r_assign hE rfl) (fun a hE => ?_)
        refine t_nil ?_
        refine hK_17 _ _ ?_
        refine w_cond x26_18 hE rfl (fun hb => ?_) (fun hb => ?_)
        · replace H := M.ite_t hb H
          refine t_region ?_
          refine t_val (v := (x3_6 : Sl).v) rfl rfl hE rfl (r_move hE rfl) (fun a hE => ?_)
          refine t_val (v := .int .u8 x15_16) rfl rfl hE rfl (r_move hE rfl) (fun a hE => ?_)
          obtain ⟨x29_19, qx29_19, H⟩ := H
          refine t_valh (v := (x29_19 : Sl).v) rfl rfl hE rfl hR (r_buildL (cells := #[.int .u8 92, .int .u8 x15_16]) hE rfl un51 sz5 zr5 rfl rfl qx29_19) (fun a w hE hR hh => ?_)
          replace H := M.at hh H; clear hh
          refine t_ex (fun x30_20 => (x30_20 : Sl).v) rfl rfl hR (M.unbind H) (fun Q H => ap_run hE rfl rfl ap51 H) (fun x30_20 a w ea hR H => ?_)
          have hE := Env.put_some hE rfl ea; clear ea
          refine t_val (v := (x30_20 : Sl).v) rfl rfl hE rfl (r_assign hE rfl) (fun a hE => ?_)
          refine t_nil ?_
          exact ⟨x30_20, hE.cut (.cons rfl (.cons rfl (.cons rfl Subs.nil))), hR, H⟩
        · replace H := M.ite_f hb H
          refine w_seq (fun K hK_21 => ?_)
          refine t_region ?_
          refine t_val (v := .int .u8 x15_16) rfl rfl hE rfl (r_move hE rfl) (fun a hE => ?_)
          refine t_val (v := .bool (decide (x15_16 < 32))) rfl rfl hE rfl (r_bin hE rfl rfl g_int b_lss) (fun a hE => ?_)
          refine t_val (v := .bool (decide (x15_16 < 32))) rfl rfl hE rfl (r_move hE rfl) (fun a hE => ?_)
          refine t_grp (n := (⟨51, []⟩ : Frm)) (w0 := w0) 3 (fun x37_22 : Bool => [(0, .string x0), (3, (x3_6 : Sl).v), (4, .int .i64 x4_7), (5, .int .u8 x15_16), (37, .bool x37_22)]) (M.unbind H) (fun Kr hKr H => ?_) ?_
          · rcases bool_em (decide (x15_16 < 32)) with hb | hb
            · replace H := M.ite_t hb H
              have hE := hE.reb 34 (decide (x15_16 < 32)) true hb rfl
              refine t_off rfl hE rfl rfl rfl (fun a ea => ?_)
              have hE := Env.put_some hE rfl ea; clear ea
              refine t_off rfl hE rfl rfl rfl (fun a ea => ?_)
              have hE := Env.put_some hE rfl ea; clear ea
              refine t_val rfl rfl hE rfl (r_pick_t hE rfl rfl) (fun a hE => ?_)
              refine t_nil ?_
              exact hKr _ _ _ (hE.cut (.cons rfl (.cons rfl (.cons rfl (.cons rfl (.cons rfl Subs.nil)))))) hR H
            · replace H := M.ite_f hb H
              have hE := hE.reb 34 (decide (x15_16 < 32)) false hb rfl
              refine t_on rfl hE rfl rfl rfl ?_
              refine t_val (v := .int .u8 x15_16) rfl rfl hE rfl (r_move hE rfl) (fun a hE => ?_)
              refine t_on rfl hE rfl rfl rfl ?_
              refine t_val (v := .bool (decide (x15_16 > 126))) rfl rfl hE rfl (r_bin hE rfl rfl g_int b_gtr) (fun a hE => ?_)
              refine t_val rfl rfl hE rfl (r_pick_f hE rfl rfl) (fun a hE => ?_)
              refine t_nil ?_
              exact hKr _ _ _ (hE.cut (.cons rfl (.cons rfl (.cons rfl (.cons rfl (.cons rfl Subs.nil)))))) hR H
          · intro x37_22 a w hE hR H
            refine t_val (v := .bool x37_22) rfl rfl hE rfl (r_assign hE rfl) (fun a hE => ?_)
            refine t_nil ?_
            refine hK_21 _ _ ?_
            refine w_cond x37_22 hE rfl (fun hb => ?_) (fun hb => ?_)
            · replace H := M.ite_t hb H
              obtain ⟨x41_23, qx41_23, H⟩ := H
              obtain ⟨x44_24, qx44_24, H⟩ := H
              have hT := tab_of tb75_10 rfl rfl
              refine d_start (fun w : World => (fun h : Heap => True) w.heap) [0, 1, 2, 3, 4, 5, 6, 7, 8, 9] #[false, false, false, false, false, false, false, false, false, false] mo hR rfl rfl (fun w' e => by rw [e]; exact trivial) (fun w hh hR hs => ?_)
              replace H := M.at hh H; clear hh
              refine d_pureg (i := 0) (v := (x3_6 : Sl).v) #[true, false, false, false, false, false, false, false, false, false] rfl rfl hT (by kernel_rfl) hE rfl (wanted_none rfl) (fun w => r_move hE rfl) (fun a hE => ?_)
              refine d_pureg (i := 1) (v := .int .u8 x15_16) #[true, true, false, false, false, false, false, false, false, false] rfl rfl hT (by kernel_rfl) hE rfl (wanted_none rfl) (fun w => r_move hE rfl) (fun a hE => ?_)
              refine d_pureg (i := 2) (v := .int .u8 (IntKind.wrap .u8 (Int.tdiv x15_16 16))) #[true, true, true, false, false, false, false, false, false, false] rfl rfl hT (by kernel_rfl) hE rfl (wanted_none rfl) (fun w => r_bin hE rfl rfl g_int (b_quo ⟨by decide, rfl⟩)) (fun a hE => ?_)
              refine d_pureg (i := 3) (v := .int .u8 x41_23) #[true, true, true, true, false, false, false, false, false, false] rfl rfl hT (by kernel_rfl) hE rfl (wanted_none rfl) (fun w => r_indexS hE rfl rfl un9 qx41_23) (fun a hE => ?_)
              refine d_pureg (i := 4) (v := .int .u8 x15_16) #[true, true, true, true, true, false, false, false, false, false] rfl rfl hT (by kernel_rfl) hE rfl (wanted_none rfl) (fun w => r_move hE rfl) (fun a hE => ?_)
              refine d_pureg (i := 5) (v := .int .u8 (Int.tmod x15_16 16)) #[true, true, true, true, true, true, false, false, false, false] rfl rfl hT (by kernel_rfl) hE rfl (wanted_none rfl) (fun w => r_bin hE rfl rfl g_int (b_rem ⟨by decide, rfl⟩)) (fun a hE => ?_)
              refine d_pureg (i := 6) (v := .int .u8 x44_24) #[true, true, true, true, true, true, true, false, false, false] rfl rfl hT (by kernel_rfl) hE rfl (wanted_none rfl) (fun w => r_indexS hE rfl rfl un9 qx44_24) (fun a hE => ?_)
              obtain ⟨x45_25, qx45_25, H⟩ := H
              refine d_lasth (i := 7) (v := (x45_25 : Sl).v) #[true, true, true, true, true, true, true, true, false, false] rfl rfl hT (by kernel_rfl) rfl hE hR rfl (wanted_none rfl) (r_buildL (cells := #[.int .u8 92, .int .u8 120, .int .u8 x41_23, .int .u8 x44_24]) hE rfl un51 sz5 zr5 rfl rfl qx45_25)  (fun a w hE hR hh => ?_)
              replace H := M.at hh H; clear hh
              refine d_exl (i := 8) (fun x46_26 => (x46_26 : Sl).v) #[true, true, true, true, true, true, true, true, true, false] rfl rfl hT (by kernel_rfl) rfl hR (wanted_none rfl) (M.unbind H) (fun Q H => ap_run hE rfl rfl ap51 H) (fun x46_26 a w ea hR H => ?_)
              have hE := Env.put_some hE rfl ea; clear ea
              refine d_pureg (i := 9) (v := (x46_26 : Sl).v) #[true, true, true, true, true, true, true, true, true, true] rfl rfl hT (by kernel_rfl) hE rfl (wanted_none rfl) (fun w => r_assign hE rfl) (fun a hE => ?_)
              refine d_done hT (by kernel_rfl) ?_
              exact ⟨x46_26, hE.cut (.cons rfl (.cons rfl (.cons rfl Subs.nil))), hR, H⟩
            · replace H := M.ite_f hb H
              refine t_region ?_
              refine t_val (v := (x3_6 : Sl).v) rfl rfl hE rfl (r_move hE rfl) (fun a hE => ?_)
              refine t_val (v := .int .u8 x15_16) rfl rfl hE rfl (r_move hE rfl) (fun a hE => ?_)
              obtain ⟨x18_27, qx18_27, H⟩ := H
              refine t_valh (v := (x18_27 : Sl).v) rfl rfl hE rfl hR (r_buildL (cells := #[.int .u8 x15_16]) hE rfl un51 sz5 zr5 rfl rfl qx18_27) (fun a w hE hR hh => ?_)
              replace H := M.at hh H; clear hh
              refine t_ex (fun x19_28 => (x19_28 : Sl).v) rfl rfl hR (M.unbind H) (fun Q H => ap_run hE rfl rfl ap51 H) (fun x19_28 a w ea hR H => ?_)
              have hE := Env.put_some hE rfl ea; clear ea
              refine t_val (v := (x19_28 : Sl).v) rfl rfl hE rfl (r_assign hE rfl) (fun a hE => ?_)
              refine t_nil ?_
              exact ⟨x19_28, hE.cut (.cons rfl (.cons rfl (.cons rfl Subs.nil))), hR, H⟩
  · replace H := M.ite_f hb H
    refine w_exit ?_
    refine Xu.same ?_
    refine hK_4 _ _ ?_
    refine w_seq (fun K hK_29 => ?_)
    refine t_region ?_
    refine t_val (v := (x3_6 : Sl).v) rfl rfl hE rfl (r_move hE rfl) (fun a hE => ?_)
    obtain ⟨x48_30, qx48_30, H⟩ := H
    refine t_valh (v := (x48_30 : Sl).v) rfl rfl hE rfl hR (r_buildL (cells := #[.int .u8 39]) hE rfl un51 sz5 zr5 rfl rfl qx48_30) (fun a w hE hR hh => ?_)
    replace H := M.at hh H; clear hh
    refine t_ex (fun x49_31 => (x49_31 : Sl).v) rfl rfl hR (M.unbind H) (fun Q H => ap_run hE rfl rfl ap51 H) (fun x49_31 a w ea hR H => ?_)
    have hE := Env.put_some hE rfl ea; clear ea
    obtain ⟨x50_32, qx50_32, H⟩ := H
    refine t_val (v := .string x50_32) rfl rfl hE rfl (b2s_run hE rfl un51 un9 un5 qx50_32) (fun a hE => ?_)
    refine t_val (v := .string x50_32) rfl rfl hE rfl (r_assign hE rfl) (fun a hE => ?_)
    refine t_nil ?_
    refine hK_29 _ _ ?_
    refine w_ret ?_
    exact hret _ _ _ x50_32 _ hE hR (res_run hE rfl (RV.tmp rfl RV.nil)) rfl H

/-- ramble/rambleref02.show -/
def rambleref02_show (x0 : Array Value) (x1 : Int) : M (ByteArray) := do
  let x2_2 ← mkB ty_api_Value x0
  M.ite (decide (x1 ≥ 8)) (do
    M.pure (⟨#[63]⟩ : ByteArray)
    ) (do
    let x8_8 ← ldI .i64 ((x2_2).add 0)
    M.ite (x8_8 == 1) (do
      let x12_11 ← ldI .i64 ((x2_2).add 1)
      let x13_12 ← rambleref01_Text x12_11
      M.pure x13_12
      ) (do
      M.ite (x8_8 == 2) (do
        let x17_15 ← ldS ((x2_2).add 2)
        let x18_16 ← rambleref02_Quote x17_15
        M.pure x18_16
        ) (do
        M.ite (x8_8 == 3) (do
          let x22_20 ← ldI .i64 ((x2_2).add 1)
          M.ite (x22_20 == 1) (do
            M.pure (⟨#[116, 114, 117, 101]⟩ : ByteArray)
            ) (do
            M.pure (⟨#[102, 97, 108, 115, 101]⟩ : ByteArray)
            )
          ) (do
          M.ite (x8_8 == 6) (do
            let x27_25 ← ldI .i64 ((x2_2).add 1)
            let x28_26 ← rambleref01_Text x27_25
            let x29_27 ← sCat (⟨#[118, 91]⟩ : ByteArray) x28_26
            let x30_28 ← sCat x29_27 (⟨#[93]⟩ : ByteArray)
            M.pure x30_28
            ) (do
            M.ite (x8_8 == 7) (do
              let x34_31 ← ldI .i64 ((x2_2).add 1)
              let x35_32 ← rambleref01_Text x34_31
              let x36_33 ← sCat (⟨#[101, 91]⟩ : ByteArray) x35_32
              let x37_34 ← sCat x36_33 (⟨#[93]⟩ : ByteArray)
              M.pure x37_34
              ) (do
              M.ite (x8_8 == 4) (do
                let x41_37 ← ldL ((x2_2).add 3)
                let x43_38 ← callF Go.Proofs.Tryd.prog fn_rambleref02_shows #[(x41_37 : Sl).v, .int .i64 x1, .string (⟨#[44, 32]⟩ : ByteArray), .string (⟨#[44, 32]⟩ : ByteArray)] (fun r : ByteArray => .string r)
                let x44_39 ← sCat (⟨#[91]⟩ : ByteArray) x43_38
                let x45_40 ← sCat x44_39 (⟨#[93]⟩ : ByteArray)
                M.pure x45_40
                ) (do
                M.ite (x8_8 == 5) (do
                  let x49_43 ← ldL ((x2_2).add 3)
                  let x51_44 ← callF Go.Proofs.Tryd.prog fn_rambleref02_shows #[(x49_43 : Sl).v, .int .i64 x1, .string (⟨#[58, 32]⟩ : ByteArray), .string (⟨#[44, 32]⟩ : ByteArray)] (fun r : ByteArray => .string r)
                  let x52_45 ← sCat (⟨#[123]⟩ : ByteArray) x51_44
                  let x53_46 ← sCat x52_45 (⟨#[125]⟩ : ByteArray)
                  M.pure x53_46
                  ) (do
                  M.pure (⟨#[63]⟩ : ByteArray)
                  )
                )
              )
            )
          )
        )
      )
    )
theorem S_rambleref02_show (x0 : Array Value) (x1 : Int) : Sound Go.Proofs.Tryd.prog 50 #[.agg x0, .int .i64 x1] (fun (r : ByteArray) => .string r) (rambleref02_show x0 x1) := by
  refine sound_of [(0, .agg x0), (1, .int .i64 x1)] Go.Proofs.Tryd.func50 rfl rfl (Nat.le_of_ble_eq_true rfl) (args_of ⟨rfl, rfl, trivial⟩) (fun w0 w Q R a hret hE hR H => ?_)
  unfold rambleref02_show at H
  refine w_seq (fun K hK_1 => ?_)
  refine t_region ?_
  obtain ⟨x2_2, qx2_2, H⟩ := H
  refine t_valh (v := .pointer (some x2_2)) rfl rfl hE rfl hR (r_box hE rfl qx2_2) (fun a w hE hR hh => ?_)
  replace H := M.at hh H; clear hh
  refine t_val (v := .string ByteArray.empty) rfl rfl hE rfl (r_assign hE rfl) (fun a hE => ?_)
  refine t_nil ?_
  refine hK_1 _ _ ?_
  refine w_seq (fun K hK_3 => ?_)
  refine w_seq (fun K hK_4 => ?_)
  refine t_region ?_
  refine t_val (v := .int .i64 x1) rfl rfl hE rfl (r_move hE rfl) (fun a hE => ?_)
  refine t_val (v := .bool (decide (x1 ≥ 8))) rfl rfl hE rfl (r_bin hE rfl rfl g_int b_geq) (fun a hE => ?_)
  refine t_nil ?_
  refine hK_4 _ _ ?_
  refine w_cond (decide (x1 ≥ 8)) hE rfl (fun hb => ?_) (fun hb => ?_)
  · replace H := M.ite_t hb H
    refine w_seq (fun K hK_5 => ?_)
    refine t_region ?_
    refine t_val (v := .string (⟨#[63]⟩ : ByteArray)) rfl rfl hE rfl (r_assign hE rfl) (fun a hE => ?_)
    refine t_nil ?_
    refine hK_5 _ _ ?_
    refine w_ret ?_
    exact hret _ _ _ (⟨#[63]⟩ : ByteArray) _ hE hR (res_run hE rfl (RV.tmp rfl RV.nil)) rfl H
  · replace H := M.ite_f hb H
    refine w_skip ?_
    refine hK_3 _ _ ?_
    refine w_seq (fun K hK_6 => ?_)
    refine w_seq (fun K hK_7 => ?_)
    refine t_region ?_
    refine t_val (v := .pointer (some ((x2_2).add 0))) rfl rfl hE rfl (r_fieldAddr hE rfl fd42_0) (fun a hE => ?_)
    obtain ⟨x8_8, qx8_8, H⟩ := H
    refine t_val (v := .int .i64 x8_8) rfl rfl hE rfl (r_load hE rfl sc3 qx8_8) (fun a hE => ?_)
    refine t_nil ?_
    refine hK_7 _ _ ?_
    refine w_block ?_
    refine w_seq (fun K hK_9 => ?_)
    refine t_region ?_
    refine t_val (v := .bool (x8_8 == 1)) rfl rfl hE rfl (r_bin hE rfl rfl g_int b_eql) (fun a hE => ?_)
    refine t_val (v := .bool (x8_8 == 1)) rfl rfl hE rfl (r_assign hE rfl) (fun a hE => ?_)
    refine t_nil ?_
    refine hK_9 _ _ ?_
    refine w_cond (x8_8 == 1) hE rfl (fun hb => ?_) (fun hb => ?_)
    · replace H := M.ite_t hb H
      refine w_seq (fun K hK_10 => ?_)
      refine t_region ?_
      refine t_val (v := .pointer (some ((x2_2).add 1))) rfl rfl hE rfl (r_fieldAddr hE rfl fd42_1) (fun a hE => ?_)
      obtain ⟨x12_11, qx12_11, H⟩ := H
      refine t_val (v := .int .i64 x12_11) rfl rfl hE rfl (r_load hE rfl sc2 qx12_11) (fun a hE => ?_)
      refine t_call hE hR cl_rambleref01_Text rfl (S_rambleref01_Text x12_11) (M.unbind H) (fun x13_12 a w ea hR H => ?_)
      have hE := Env.put_some hE rfl ea; clear ea
      refine t_val (v := .string x13_12) rfl rfl hE rfl (r_assign hE rfl) (fun a hE => ?_)
      refine t_nil ?_
      refine hK_10 _ _ ?_
      refine w_ret ?_
      exact hret _ _ _ x13_12 _ hE hR (res_run hE rfl (RV.tmp rfl RV.nil)) rfl H
    · replace H := M.ite_f hb H
      refine w_seq (fun K hK_13 => ?_)
      refine t_region ?_
      refine t_val (v := .bool (x8_8 == 2)) rfl rfl hE rfl (r_bin hE rfl rfl g_int b_eql) (fun a hE => ?_)
      refine t_val (v := .bool (x8_8 == 2)) rfl rfl hE rfl (r_assign hE rfl) (fun a hE => ?_)
      refine t_nil ?_
      refine hK_13 _ _ ?_
      refine w_cond (x8_8 == 2) hE rfl (fun hb => ?_) (fun hb => ?_)
      · replace H := M.ite_t hb H
        refine w_seq (fun K hK_14 => ?_)
        refine t_region ?_
        refine t_val (v := .pointer (some ((x2_2).add 2))) rfl rfl hE rfl (r_fieldAddr hE rfl fd42_2) (fun a hE => ?_)
        obtain ⟨x17_15, qx17_15, H⟩ := H
        refine t_val (v := .string x17_15) rfl rfl hE rfl (r_load hE rfl sc9 qx17_15) (fun a hE => ?_)
        refine t_call hE hR cl_rambleref02_Quote rfl (S_rambleref02_Quote x17_15) (M.unbind H) (fun x18_16 a w ea hR H => ?_)
        have hE := Env.put_some hE rfl ea; clear ea
        refine t_val (v := .string x18_16) rfl rfl hE rfl (r_assign hE rfl) (fun a hE => ?_)
        refine t_nil ?_
        refine hK_14 _ _ ?_
        refine w_ret ?_
        exact hret _ _ _ x18_16 _ hE hR (res_run hE rfl (RV.tmp rfl RV.nil)) rfl H
      · replace H := M.ite_f hb H
        refine w_seq (fun K hK_17 => ?_)
        refine t_region ?_
        refine t_val (v := .bool (x8_8 == 3)) rfl rfl hE rfl (r_bin hE rfl rfl g_int b_eql) (fun a hE => ?_)
        refine t_val (v := .bool (x8_8 == 3)) rfl rfl hE rfl (r_assign hE rfl) (fun a hE => ?_)
        refine t_nil ?_
        refine hK_17 _ _ ?_
        refine w_cond (x8_8 == 3) hE rfl (fun hb => ?_) (fun hb => ?_)
        · replace H := M.ite_t hb H
          refine w_seq (fun K hK_18 => ?_)
          refine w_seq (fun K hK_19 => ?_)
          refine t_region ?_
          refine t_val (v := .pointer (some ((x2_2).add 1))) rfl rfl hE rfl (r_fieldAddr hE rfl fd42_1) (fun a hE => ?_)
          obtain ⟨x22_20, qx22_20, H⟩ := H
          refine t_val (v := .int .i64 x22_20) rfl rfl hE rfl (r_load hE rfl sc2 qx22_20) (fun a hE => ?_)
          refine t_val (v := .bool (x22_20 == 1)) rfl rfl hE rfl (r_bin hE rfl rfl g_int b_eql) (fun a hE => ?_)
          refine t_nil ?_
          refine hK_19 _ _ ?_
          refine w_cond (x22_20 == 1) hE rfl (fun hb => ?_) (fun hb => ?_)
          · replace H := M.ite_t hb H
            refine w_seq (fun K hK_21 => ?_)
            refine t_region ?_
            refine t_val (v := .string (⟨#[116, 114, 117, 101]⟩ : ByteArray)) rfl rfl hE rfl (r_assign hE rfl) (fun a hE => ?_)
            refine t_nil ?_
            refine hK_21 _ _ ?_
            refine w_ret ?_
            exact hret _ _ _ (⟨#[116, 114, 117, 101]⟩ : ByteArray) _ hE hR (res_run hE rfl (RV.tmp rfl RV.nil)) rfl H
          · replace H := M.ite_f hb H
            refine w_skip ?_
            refine hK_18 _ _ ?_
            refine w_seq (fun K hK_22 => ?_)
            refine t_region ?_
            refine t_val (v := .string (⟨#[102, 97, 108, 115, 101]⟩ : ByteArray)) rfl rfl hE rfl (r_assign hE rfl) (fun a hE => ?_)
            refine t_nil ?_
            refine hK_22 _ _ ?_
            refine w_ret ?_
            exact hret _ _ _ (⟨#[102, 97, 108, 115, 101]⟩ : ByteArray) _ hE hR (res_run hE rfl (RV.tmp rfl RV.nil)) rfl H
        · replace H := M.ite_f hb H
          refine w_seq (fun K hK_23 => ?_)
          refine t_region ?_
          refine t_val (v := .bool (x8_8 == 6)) rfl rfl hE rfl (r_bin hE rfl rfl g_int b_eql) (fun a hE => ?_)
          refine t_val (v := .bool (x8_8 == 6)) rfl rfl hE rfl (r_assign hE rfl) (fun a hE => ?_)
          refine t_nil ?_
          refine hK_23 _ _ ?_
          refine w_cond (x8_8 == 6) hE rfl (fun hb => ?_) (fun hb => ?_)
          · replace H := M.ite_t hb H
            refine w_seq (fun K hK_24 => ?_)
            refine t_region ?_
            refine t_val (v := .pointer (some ((x2_2).add 1))) rfl rfl hE rfl (r_fieldAddr hE rfl fd42_1) (fun a hE => ?_)
            obtain ⟨x27_25, qx27_25, H⟩ := H
            refine t_val (v := .int .i64 x27_25) rfl rfl hE rfl (r_load hE rfl sc2 qx27_25) (fun a hE => ?_)
            refine t_call hE hR cl_rambleref01_Text rfl (S_rambleref01_Text x27_25) (M.unbind H) (fun x28_26 a w ea hR H => ?_)
            have hE := Env.put_some hE rfl ea; clear ea
            obtain ⟨x29_27, qx29_27, H⟩ := H
            refine t_val (v := .string x29_27) rfl rfl hE rfl (r_bin hE rfl rfl g_str (b_addS qx29_27)) (fun a hE => ?_)
            obtain ⟨x30_28, qx30_28, H⟩ := H
            refine t_val (v := .string x30_28) rfl rfl hE rfl (r_bin hE rfl rfl g_str (b_addS qx30_28)) (fun a hE => ?_)
            refine t_val (v := .string x30_28) rfl rfl hE rfl (r_assign hE rfl) (fun a hE => ?_)
            refine t_nil ?_
            refine hK_24 _ _ ?_
            refine w_ret ?_
            exact hret _ _ _ x30_28 _ hE hR (res_run hE rfl (RV.tmp rfl RV.nil)) rfl H
          · replace H := M.ite_f hb H
            refine w_seq (fun K hK_29 => ?_)
            refine t_region ?_
            refine t_val (v := .bool (x8_8 == 7)) rfl rfl hE rfl (r_bin hE rfl rfl g_int b_eql) (fun a hE => ?_)
            refine t_val (v := .bool (x8_8 == 7)) rfl rfl hE rfl (r_assign hE rfl) (fun a hE => ?_)
            refine t_nil ?_
            refine hK_29 _ _ ?_
            refine w_cond (x8_8 == 7) hE rfl (fun hb => ?_) (fun hb => ?_)
            · replace H := M.ite_t hb H
              refine w_seq (fun K hK_30 => ?_)
              refine t_region ?_
              refine t_val (v := .pointer (some ((x2_2).add 1))) rfl rfl hE rfl (r_fieldAddr hE rfl fd42_1) (fun a hE => ?_)
              obtain ⟨x34_31, qx34_31, H⟩ := H
              refine t_val (v := .int .i64 x34_31) rfl rfl hE rfl (r_load hE rfl sc2 qx34_31) (fun a hE => ?_)
              refine t_call hE hR cl_rambleref01_Text rfl (S_rambleref01_Text x34_31) (M.unbind H) (fun x35_32 a w ea hR H => ?_)
              have hE := Env.put_some hE rfl ea; clear ea
              obtain ⟨x36_33, qx36_33, H⟩ := H
              refine t_val (v := .string x36_33) rfl rfl hE rfl (r_bin hE rfl rfl g_str (b_addS qx36_33)) (fun a hE => ?_)
              obtain ⟨x37_34, qx37_34, H⟩ := H
              refine t_val (v := .string x37_34) rfl rfl hE rfl (r_bin hE rfl rfl g_str (b_addS qx37_34)) (fun a hE => ?_)
              refine t_val (v := .string x37_34) rfl rfl hE rfl (r_assign hE rfl) (fun a hE => ?_)
              refine t_nil ?_
              refine hK_30 _ _ ?_
              refine w_ret ?_
              exact hret _ _ _ x37_34 _ hE hR (res_run hE rfl (RV.tmp rfl RV.nil)) rfl H
            · replace H := M.ite_f hb H
              refine w_seq (fun K hK_35 => ?_)
              refine t_region ?_
              refine t_val (v := .bool (x8_8 == 4)) rfl rfl hE rfl (r_bin hE rfl rfl g_int b_eql) (fun a hE => ?_)
              refine t_val (v := .bool (x8_8 == 4)) rfl rfl hE rfl (r_assign hE rfl) (fun a hE => ?_)
              refine t_nil ?_
              refine hK_35 _ _ ?_
              refine w_cond (x8_8 == 4) hE rfl (fun hb => ?_) (fun hb => ?_)
              · replace H := M.ite_t hb H
                refine w_seq (fun K hK_36 => ?_)
                refine t_region ?_
                refine t_val (v := .pointer (some ((x2_2).add 3))) rfl rfl hE rfl (r_fieldAddr hE rfl fd42_3) (fun a hE => ?_)
                obtain ⟨x41_37, qx41_37, H⟩ := H
                refine t_val (v := (x41_37 : Sl).v) rfl rfl hE rfl (r_load hE rfl sc22 qx41_37) (fun a hE => ?_)
                refine t_val (v := .int .i64 x1) rfl rfl hE rfl (r_move hE rfl) (fun a hE => ?_)
                refine t_call hE hR cl_rambleref02_shows rfl (sound_callF) (M.unbind H) (fun x43_38 a w ea hR H => ?_)
                have hE := Env.put_some hE rfl ea; clear ea
                obtain ⟨x44_39, qx44_39, H⟩ := H
                refine t_val (v := .string x44_39) rfl rfl hE rfl (r_bin hE rfl rfl g_str (b_addS qx44_39)) (fun a hE => ?_)
                obtain ⟨x45_40, qx45_40, H⟩ := H
                refine t_val (v := .string x45_40) rfl rfl hE rfl (r_bin hE rfl rfl g_str (b_addS qx45_40)) (fun a hE => ?_)
                refine t_val (v := .string x45_40) rfl rfl hE rfl (r_assign hE rfl) (fun a hE => ?_)
                refine t_nil ?_
                refine hK_36 _ _ ?_
                refine w_ret ?_
                exact hret _ _ _ x45_40 _ hE hR (res_run hE rfl (RV.tmp rfl RV.nil)) rfl H
              · replace H := M.ite_f hb H
                refine w_seq (fun K hK_41 => ?_)
                refine t_region ?_
                refine t_val (v := .bool (x8_8 == 5)) rfl rfl hE rfl (r_bin hE rfl rfl g_int b_eql) (fun a hE => ?_)
                refine t_val (v := .bool (x8_8 == 5)) rfl rfl hE rfl (r_assign hE rfl) (fun a hE => ?_)
                refine t_nil ?_
                refine hK_41 _ _ ?_
                refine w_cond (x8_8 == 5) hE rfl (fun hb => ?_) (fun hb => ?_)
                · replace H := M.ite_t hb H
                  refine w_seq (fun K hK_42 => ?_)
                  refine t_region ?_
                  refine t_val (v := .pointer (some ((x2_2).add 3))) rfl rfl hE rfl (r_fieldAddr hE rfl fd42_3) (fun a hE => ?_)
                  obtain ⟨x49_43, qx49_43, H⟩ := H
                  refine t_val (v := (x49_43 : Sl).v) rfl rfl hE rfl (r_load hE rfl sc22 qx49_43) (fun a hE => ?_)
                  refine t_val (v := .int .i64 x1) rfl rfl hE rfl (r_move hE rfl) (fun a hE => ?_)
                  refine t_call hE hR cl_rambleref02_shows rfl (sound_callF) (M.unbind H) (fun x51_44 a w ea hR H => ?_)
                  have hE := Env.put_some hE rfl ea; clear ea
                  obtain ⟨x52_45, qx52_45, H⟩ := H
                  refine t_val (v := .string x52_45) rfl rfl hE rfl (r_bin hE rfl rfl g_str (b_addS qx52_45)) (fun a hE => ?_)
                  obtain ⟨x53_46, qx53_46, H⟩ := H
                  refine t_val (v := .string x53_46) rfl rfl hE rfl (r_bin hE rfl rfl g_str (b_addS qx53_46)) (fun a hE => ?_)
                  refine t_val (v := .string x53_46) rfl rfl hE rfl (r_assign hE rfl) (fun a hE => ?_)
                  refine t_nil ?_
                  refine hK_42 _ _ ?_
                  refine w_ret ?_
                  exact hret _ _ _ x53_46 _ hE hR (res_run hE rfl (RV.tmp rfl RV.nil)) rfl H
                · replace H := M.ite_f hb H
                  refine w_skip ?_
                  refine hK_6 _ _ ?_
                  refine w_seq (fun K hK_47 => ?_)
                  refine t_region ?_
                  refine t_val (v := .string (⟨#[63]⟩ : ByteArray)) rfl rfl hE rfl (r_assign hE rfl) (fun a hE => ?_)
                  refine t_nil ?_
                  refine hK_47 _ _ ?_
                  refine w_ret ?_
                  exact hret _ _ _ (⟨#[63]⟩ : ByteArray) _ hE hR (res_run hE rfl (RV.tmp rfl RV.nil)) rfl H

/-- ramble/rambleref02.Text -/
def rambleref02_Text (x0 : Array Value) : M (ByteArray) := do
  let x1_2 ← mkB ty_api_Value x0
  let x3_4 ← ldG 4 x1_2
  let x4_5 ← rambleref02_show x3_4 0
  M.pure x4_5
theorem S_rambleref02_Text (x0 : Array Value) : Sound Go.Proofs.Tryd.prog 28 #[.agg x0] (fun (r : ByteArray) => .string r) (rambleref02_Text x0) := by
  refine sound_of [(0, .agg x0)] Go.Proofs.Tryd.func28 rfl rfl (Nat.le_of_ble_eq_true rfl) (args_of ⟨rfl, trivial⟩) (fun w0 w Q R a hret hE hR H => ?_)
  unfold rambleref02_Text at H
  refine w_seq (fun K hK_1 => ?_)
  refine t_region ?_
  obtain ⟨x1_2, qx1_2, H⟩ := H
  refine t_valh (v := .pointer (some x1_2)) rfl rfl hE rfl hR (r_box hE rfl qx1_2) (fun a w hE hR hh => ?_)
  replace H := M.at hh H; clear hh
  refine t_val (v := .string ByteArray.empty) rfl rfl hE rfl (r_assign hE rfl) (fun a hE => ?_)
  refine t_nil ?_
  refine hK_1 _ _ ?_
  refine w_seq (fun K hK_3 => ?_)
  refine t_region ?_
  obtain ⟨x3_4, qx3_4, H⟩ := H
  refine t_val (v := .agg x3_4) rfl rfl hE rfl (r_loadG hE rfl ag42 qx3_4) (fun a hE => ?_)
  refine t_call hE hR cl_rambleref02_show rfl (S_rambleref02_show x3_4 0) (M.unbind H) (fun x4_5 a w ea hR H => ?_)
  have hE := Env.put_some hE rfl ea; clear ea
  refine t_val (v := .string x4_5) rfl rfl hE rfl (r_assign hE rfl) (fun a hE => ?_)
  refine t_nil ?_
  refine hK_3 _ _ ?_
  refine w_ret ?_
  exact hret _ _ _ x4_5 _ hE hR (res_run hE rfl (RV.tmp rfl RV.nil)) rfl H

/-- ramble/rambleref02.Get -/
theorem tb29_6 : tabAt Go.Proofs.Tryd.f29 6 [[], [0], [], [1, 2], [3], [], [4, 5]] [[], [0], [], [1, 2], [3], [], [4, 5]] [[], [0], [], [0, 1, 2], [0, 1, 2, 3], [], [0, 1, 2, 3, 4, 5]] = true := by kernel_rfl
def rambleref02_Get_l1 (c2_14 : Addr) (c3_15 : Addr) (c4_16 : Addr) (self1 : (Int) → M (Array Value × Bool)) : (Int) → M (Array Value × Bool) := fun s => match s with
  | x6_13 => do
    let x14_20 ← ldL ((c2_14).add 3)
    M.ite (decide ((IntKind.wrap .i64 (x6_13 + 1)) < (x14_20.len : Int))) (do
      let x20_23 ← ldL ((c2_14).add 3)
      let x22_24 ← ixL x20_23 x6_13 4
      let x23_25 ← ldG 4 x22_24
      let x24_26 ← ldG 4 c3_15
      let x25_27 ← rambleref02_Same x23_25 x24_26
      M.ite x25_27 (do
        let x27_29 ← ldL ((c2_14).add 3)
        let x30_30 ← ixL x27_29 (IntKind.wrap .i64 (x6_13 + 1)) 4
        let x31_31 ← ldG 4 x30_30
        M.need (x31_31.size = 4)
        stG c4_16 x31_31
        let r4_33 ← ldG 4 c4_16
        M.pure (r4_33, true)
        ) (do
        self1 (IntKind.wrap .i64 (x6_13 + 2))
        )
      ) (do
      M.need ((#[.int .i64 0, .int .i64 0, .string ByteArray.empty, .slice none 0 0] : Array Value).size = 4)
      stG c4_16 (#[.int .i64 0, .int .i64 0, .string ByteArray.empty, .slice none 0 0] : Array Value)
      let r4_36 ← ldG 4 c4_16
      M.pure (r4_36, false)
      )
def rambleref02_Get (x0 : Array Value) (x1 : Array Value) : M (Array Value × Bool) := do
  let x2_2 ← mkB ty_api_Value x0
  let x3_3 ← mkB ty_api_Value x1
  let x4_4 ← mkB ty_api_Value (#[.int .i64 0, .int .i64 0, .string ByteArray.empty, .slice none 0 0] : Array Value)
  let x8_7 ← ldI .i64 ((x2_2).add 0)
  M.ite (x8_7 != 5) (do
    M.need ((#[.int .i64 0, .int .i64 0, .string ByteArray.empty, .slice none 0 0] : Array Value).size = 4)
    stG x4_4 (#[.int .i64 0, .int .i64 0, .string ByteArray.empty, .slice none 0 0] : Array Value)
    let r4_10 ← ldG 4 x4_4
    M.pure (r4_10, false)
    ) (do
    M.loop (rambleref02_Get_l1 x2_2 x3_3 x4_4) 0
    )
theorem S_rambleref02_Get (x0 : Array Value) (x1 : Array Value) : Sound Go.Proofs.Tryd.prog 29 #[.agg x0, .agg x1] (fun (r : Array Value × Bool) => .tuple #[.agg r.1, .bool r.2]) (rambleref02_Get x0 x1) := by
  refine sound_of [(0, .agg x0), (1, .agg x1)] Go.Proofs.Tryd.func29 rfl rfl (Nat.le_of_ble_eq_true rfl) (args_of ⟨rfl, rfl, trivial⟩) (fun w0 w Q R a hret hE hR H => ?_)
  unfold rambleref02_Get at H
  refine w_seq (fun K hK_1 => ?_)
  refine t_region ?_
  obtain ⟨x2_2, qx2_2, H⟩ := H
  refine t_valh (v := .pointer (some x2_2)) rfl rfl hE rfl hR (r_box hE rfl qx2_2) (fun a w hE hR hh => ?_)
  replace H := M.at hh H; clear hh
  obtain ⟨x3_3, qx3_3, H⟩ := H
  refine t_valh (v := .pointer (some x3_3)) rfl rfl hE rfl hR (r_box hE rfl qx3_3) (fun a w hE hR hh => ?_)
  replace H := M.at hh H; clear hh
  obtain ⟨x4_4, qx4_4, H⟩ := H
  refine t_valh (v := .pointer (some x4_4)) rfl rfl hE rfl hR (r_alloc zr42 qx4_4) (fun a w hE hR hh => ?_)
  replace H := M.at hh H; clear hh
  refine t_val (v := .bool false) rfl rfl hE rfl (r_assign hE rfl) (fun a hE => ?_)
  refine t_nil ?_
  refine hK_1 _ _ ?_
  refine w_seq (fun K hK_5 => ?_)
  refine w_seq (fun K hK_6 => ?_)
  refine t_region ?_
  refine t_val (v := .pointer (some ((x2_2).add 0))) rfl rfl hE rfl (r_fieldAddr hE rfl fd42_0) (fun a hE => ?_)
  obtain ⟨x8_7, qx8_7, H⟩ := H
  refine t_val (v := .int .i64 x8_7) rfl rfl hE rfl (r_load hE rfl sc3 qx8_7) (fun a hE => ?_)
  refine t_val (v := .bool (x8_7 != 5)) rfl rfl hE rfl (r_bin hE rfl rfl g_int b_neq) (fun a hE => ?_)
  refine t_nil ?_
  refine hK_6 _ _ ?_
  refine w_cond (x8_7 != 5) hE rfl (fun hb => ?_) (fun hb => ?_)
  · replace H := M.ite_t hb H
    refine w_seq (fun K hK_8 => ?_)
    refine t_region ?_
    refine t_val (v := .agg (#[.int .i64 0, .int .i64 0, .string ByteArray.empty, .slice none 0 0] : Array Value)) rfl rfl hE rfl (r_build0 bd42) (fun a hE => ?_)
    obtain ⟨qz, H⟩ := H
    obtain ⟨u_9, qu_9, H⟩ := H
    refine t_sth rfl rfl hE hR (r_storeG hE rfl rfl sz42 qz qu_9) (fun a w hE hR hh => ?_)
    replace H := M.at hh H; clear hh
    refine t_val (v := .bool false) rfl rfl hE rfl (r_assign hE rfl) (fun a hE => ?_)
    refine t_nil ?_
    refine hK_8 _ _ ?_
    refine w_ret ?_
    obtain ⟨r4_10, qr4_10, H⟩ := H
    exact hret _ _ _ (r4_10, false) _ hE hR (res_run hE rfl (RV.cellG rfl ag42 qr4_10 (RV.tmp rfl RV.nil))) rfl H
  · replace H := M.ite_f hb H
    refine w_skip ?_
    refine hK_5 _ _ ?_
    refine w_seq (fun K hK_11 => ?_)
    refine w_seq (fun K hK_12 => ?_)
    refine t_region ?_
    refine t_val (v := .int .i64 0) rfl rfl hE rfl (r_assign hE rfl) (fun a hE => ?_)
    refine t_nil ?_
    refine hK_12 _ _ ?_
    refine w_block ?_
    refine l_loop (fun (s : Int) => (⟨33, []⟩ : Frm)) (fun (s : Int) => [(2, .pointer (some x2_2)), (3, .pointer (some x3_3)), (4, .pointer (some x4_4)), (6, .int .i64 s)]) H (hE.cut (.cons rfl (.cons rfl (.cons rfl (.cons rfl Subs.nil))))) hR (fun Y self1 hY_17 x6_13 a w hE hR H => ?_)
    replace hE : Env (⟨33, []⟩ : Frm) a [(2, .pointer (some x2_2)), (3, .pointer (some x3_3)), (4, .pointer (some x4_4)), (6, .int .i64 x6_13)] := hE
    replace H : (rambleref02_Get_l1 x2_2 x3_3 x4_4 self1 x6_13).wp w.heap Q := H
    unfold rambleref02_Get_l1 at H
    refine w_seq (fun K hK_18 => ?_)
    refine w_seq (fun K hK_19 => ?_)
    refine t_region ?_
    refine t_val (v := .int .i64 x6_13) rfl rfl hE rfl (r_move hE rfl) (fun a hE => ?_)
    refine t_val (v := .int .i64 (IntKind.wrap .i64 (x6_13 + 1))) rfl rfl hE rfl (r_bin hE rfl rfl g_int b_add) (fun a hE => ?_)
    refine t_val (v := .pointer (some ((x2_2).add 3))) rfl rfl hE rfl (r_fieldAddr hE rfl fd42_3) (fun a hE => ?_)
    obtain ⟨x14_20, qx14_20, H⟩ := H
    refine t_val (v := (x14_20 : Sl).v) rfl rfl hE rfl (r_load hE rfl sc22 qx14_20) (fun a hE => ?_)
    refine t_val (v := .int .i64 (x14_20.len : Int)) rfl rfl hE rfl (r_len hE rfl 42 un22) (fun a hE => ?_)
    refine t_val (v := .bool (decide ((IntKind.wrap .i64 (x6_13 + 1)) < (x14_20.len : Int)))) rfl rfl hE rfl (r_bin hE rfl rfl g_int b_lss) (fun a hE => ?_)
    refine t_nil ?_
    refine hK_19 _ _ ?_
    refine w_cond (decide ((IntKind.wrap .i64 (x6_13 + 1)) < (x14_20.len : Int))) hE rfl (fun hb => ?_) (fun hb => ?_)
    · replace H := M.ite_t hb H
      refine w_skip ?_
      refine hK_18 _ _ ?_
      refine w_seq (fun K hK_21 => ?_)
      refine w_block ?_
      refine w_seq (fun K hK_22 => ?_)
      obtain ⟨x20_23, qx20_23, H⟩ := H
      obtain ⟨x22_24, qx22_24, H⟩ := H
      obtain ⟨x23_25, qx23_25, H⟩ := H
      obtain ⟨x24_26, qx24_26, H⟩ := H
      have hT := tab_of tb29_6 rfl rfl
      refine d_start (fun w : World => (fun h : Heap => (hcell h ((x2_2).add 3) = some ((x20_23 : Sl).v)) ∧ (x23_25.size = 4 ∧ ∀ i, i < 4 → hcell h (Addr.add x22_24 i) = x23_25[i]?) ∧ (x24_26.size = 4 ∧ ∀ i, i < 4 → hcell h (Addr.add x3_3 i) = x24_26[i]?)) w.heap) [6] #[false, false, false, false, false, false, false] mo hR rfl rfl (fun w' e => by rw [e]; exact ⟨qx20_23, qx23_25, qx24_26⟩) (fun w hh hR hs => ?_)
      replace H := M.at hh H; clear hh
      refine d_pureg (i := 0) (v := .pointer (some ((x2_2).add 3))) #[true, false, false, false, false, false, false] rfl rfl hT (by kernel_rfl) hE rfl (wanted_none rfl) (fun w => r_fieldAddr hE rfl fd42_3) (fun a hE => ?_)
      refine d_pureg (i := 2) (v := .int .i64 x6_13) #[true, false, true, false, false, false, false] rfl rfl hT (by kernel_rfl) hE rfl (wanted_none rfl) (fun w => r_move hE rfl) (fun a hE => ?_)
      refine d_read (i := 1) (v := (x20_23 : Sl).v) #[true, true, true, false, false, false, false] rfl rfl hT (by kernel_rfl) hE rfl (wanted_none rfl) hs (fun w s => r_load hE rfl sc22 s.1) (fun a hE => ?_)
      refine d_pureg (i := 3) (v := .pointer (some x22_24)) #[true, true, true, true, false, false, false] rfl rfl hT (by kernel_rfl) hE rfl (wanted_none rfl) (fun w => r_indexAddrL hE rfl rfl un22 sz42 qx22_24) (fun a hE => ?_)
      refine d_read (i := 4) (v := .agg x23_25) #[true, true, true, true, true, false, false] rfl rfl hT (by kernel_rfl) hE rfl (wanted_none rfl) hs (fun w s => r_loadG hE rfl ag42 s.2.1) (fun a hE => ?_)
      refine d_read (i := 5) (v := .agg x24_26) #[true, true, true, true, true, true, false] rfl rfl hT (by kernel_rfl) hE rfl (wanted_none rfl) hs (fun w s => r_loadG hE rfl ag42 s.2.2) (fun a hE => ?_)
      refine d_calll (i := 6) #[true, true, true, true, true, true, true] rfl rfl rfl hT (by kernel_rfl) rfl hE hR (wanted_none rfl) cl_rambleref02_Same rfl (S_rambleref02_Same x23_25 x24_26) (M.unbind H) (fun x25_27 a w ea hR H => ?_)
      have hE := Env.put_some hE rfl ea; clear ea
      refine d_done hT (by kernel_rfl) ?_
      refine hK_22 _ _ ?_
      refine w_cond x25_27 hE rfl (fun hb => ?_) (fun hb => ?_)
      · replace H := M.ite_t hb H
        refine w_seq (fun K hK_28 => ?_)
        refine t_region ?_
        refine t_val (v := .pointer (some ((x2_2).add 3))) rfl rfl hE rfl (r_fieldAddr hE rfl fd42_3) (fun a hE => ?_)
        obtain ⟨x27_29, qx27_29, H⟩ := H
        refine t_val (v := (x27_29 : Sl).v) rfl rfl hE rfl (r_load hE rfl sc22 qx27_29) (fun a hE => ?_)
        refine t_val (v := .int .i64 x6_13) rfl rfl hE rfl (r_move hE rfl) (fun a hE => ?_)
        refine t_val (v := .int .i64 (IntKind.wrap .i64 (x6_13 + 1))) rfl rfl hE rfl (r_bin hE rfl rfl g_int b_add) (fun a hE => ?_)
        obtain ⟨x30_30, qx30_30, H⟩ := H
        refine t_val (v := .pointer (some x30_30)) rfl rfl hE rfl (r_indexAddrL hE rfl rfl un22 sz42 qx30_30) (fun a hE => ?_)
        obtain ⟨x31_31, qx31_31, H⟩ := H
        refine t_val (v := .agg x31_31) rfl rfl hE rfl (r_loadG hE rfl ag42 qx31_31) (fun a hE => ?_)
        obtain ⟨qz, H⟩ := H
        obtain ⟨u_32, qu_32, H⟩ := H
        refine t_sth rfl rfl hE hR (r_storeG hE rfl rfl sz42 qz qu_32) (fun a w hE hR hh => ?_)
        replace H := M.at hh H; clear hh
        refine t_val (v := .bool true) rfl rfl hE rfl (r_assign hE rfl) (fun a hE => ?_)
        refine t_nil ?_
        refine hK_28 _ _ ?_
        refine w_ret ?_
        obtain ⟨r4_33, qr4_33, H⟩ := H
        exact hret _ _ _ (r4_33, true) _ hE hR (res_run hE rfl (RV.cellG rfl ag42 qr4_33 (RV.tmp rfl RV.nil))) rfl H
      · replace H := M.ite_f hb H
        refine w_skip ?_
        refine hK_21 _ _ ?_
        refine t_region ?_
        refine t_val (v := .int .i64 x6_13) rfl rfl hE rfl (r_move hE rfl) (fun a hE => ?_)
        refine t_val (v := .int .i64 (IntKind.wrap .i64 (x6_13 + 2))) rfl rfl hE rfl (r_bin hE rfl rfl g_int b_add) (fun a hE => ?_)
        refine t_val (v := .int .i64 (IntKind.wrap .i64 (x6_13 + 2))) rfl rfl hE rfl (r_assign hE rfl) (fun a hE => ?_)
        refine t_nil ?_
        exact hY_17 (IntKind.wrap .i64 (x6_13 + 2)) _ _ (hE.cut (.cons rfl (.cons rfl (.cons rfl (.cons rfl Subs.nil))))) hR H
    · replace H := M.ite_f hb H
      refine w_exit ?_
      refine Xu.same ?_
      refine hK_11 _ _ ?_
      refine w_seq (fun K hK_34 => ?_)
      refine t_region ?_
      refine t_val (v := .agg (#[.int .i64 0, .int .i64 0, .string ByteArray.empty, .slice none 0 0] : Array Value)) rfl rfl hE rfl (r_build0 bd42) (fun a hE => ?_)
      obtain ⟨qz, H⟩ := H
      obtain ⟨u_35, qu_35, H⟩ := H
      refine t_sth rfl rfl hE hR (r_storeG hE rfl rfl sz42 qz qu_35) (fun a w hE hR hh => ?_)
      replace H := M.at hh H; clear hh
      refine t_val (v := .bool false) rfl rfl hE rfl (r_assign hE rfl) (fun a hE => ?_)
      refine t_nil ?_
      refine hK_34 _ _ ?_
      refine w_ret ?_
      obtain ⟨r4_36, qr4_36, H⟩ := H
      exact hret _ _ _ (r4_36, false) _ hE hR (res_run hE rfl (RV.cellG rfl ag42 qr4_36 (RV.tmp rfl RV.nil))) rfl H

end Gx
namespace Gx
open Go
set_option linter.unusedVariables false
set_option maxRecDepth 100000
/-- ramble/rambleref23.Table -/
def rambleref23_Table_j1 (self2 : (ByteArray × Int) → M (ByteArray × Int)) (c9_37 : Int) (x7_33 : ByteArray) : M (ByteArray × Int) := do
  self2 (x7_33, IntKind.wrap .i64 (c9_37 + 1))
theorem tb7_18 : tabAt Go.Proofs.Tryd.f7 18 [[], [], [0, 1], [2], [], [], [4, 5], [6], [3, 7], [8], [9], [9], [], [12, 10, 8, 0, 1, 2, 3, 4, 5, 6, 7, 8, 9, 10, 12], [11, 13, 0, 1, 2, 3, 4, 5, 6, 7, 8, 9, 10, 11, 12, 13]] [[], [], [0, 1], [2], [], [], [4, 5], [6], [3, 7], [8], [9], [9], [], [10, 12], [11]] [[], [], [0, 1], [0, 1, 2], [], [], [4, 5], [4, 5, 6], [0, 1, 2, 3, 4, 5, 6, 7], [0, 1, 2, 3, 4, 5, 6, 7, 8], [0, 1, 2, 3, 4, 5, 6, 7, 8, 9], [0, 1, 2, 3, 4, 5, 6, 7, 8, 9], [], [0, 1, 2, 3, 4, 5, 6, 7, 8, 9, 10, 12], [0, 1, 2, 3, 4, 5, 6, 7, 8, 9, 10, 11, 12, 13]] = true := by kernel_rfl
def rambleref23_Table_j2 (self2 : (ByteArray × Int) → M (ByteArray × Int)) (c0_39 : Sl) (c5_40 : Sl) (c8_41 : Int) (c9_42 : Int) (x7_38 : ByteArray) : M (ByteArray × Int) := do
  M.ite (decide (c8_41 < 0)) (do
    let x45_46 ← ixL c5_40 c9_42 4
    let x46_47 ← ldG 4 x45_46
    let x47_48 ← rambleref02_Text x46_47
    let x48_49 ← sCat x7_38 x47_48
    rambleref23_Table_j1 self2 c9_42 x48_49
    ) (do
    let x52_51 ← ixL c0_39 c8_41 4
    let x56_52 ← ixL c5_40 c9_42 4
    let x53_53 ← ldG 4 x52_51
    let x57_54 ← ldG 4 x56_52
    let y_59 ← do
      M.both (do
        let x58_55 ← rambleref02_Get x53_53 x57_54
        chk (fun h : Heap => (x53_53.size = 4 ∧ ∀ i, i < 4 → hcell h (Addr.add x52_51 i) = x53_53[i]?) ∧ (x57_54.size = 4 ∧ ∀ i, i < 4 → hcell h (Addr.add x56_52 i) = x57_54[i]?))
        let x10_56 ← mkB ty_api_Value (#[.int .i64 0, .int .i64 0, .string ByteArray.empty, .slice none 0 0] : Array Value)
        chk (fun h : Heap => (x53_53.size = 4 ∧ ∀ i, i < 4 → hcell h (Addr.add x52_51 i) = x53_53[i]?) ∧ (x57_54.size = 4 ∧ ∀ i, i < 4 → hcell h (Addr.add x56_52 i) = x57_54[i]?))
        M.pure (x10_56, x58_55, x58_55, x58_55.1, x58_55.2)
        ) (do
        let x10_57 ← mkB ty_api_Value (#[.int .i64 0, .int .i64 0, .string ByteArray.empty, .slice none 0 0] : Array Value)
        chk (fun h : Heap => (x53_53.size = 4 ∧ ∀ i, i < 4 → hcell h (Addr.add x52_51 i) = x53_53[i]?) ∧ (x57_54.size = 4 ∧ ∀ i, i < 4 → hcell h (Addr.add x56_52 i) = x57_54[i]?))
        let x58_58 ← rambleref02_Get x53_53 x57_54
        M.pure (x10_57, x58_58, x58_58, x58_58.1, x58_58.2)
        )
    M.need (y_59.2.2.2.1.size = 4)
    stG y_59.1 y_59.2.2.2.1
    M.ite y_59.2.2.2.2 (do
      let x63_62 ← ldG 4 y_59.1
      let x64_63 ← rambleref02_Text x63_62
      let x65_64 ← sCat x7_38 x64_63
      rambleref23_Table_j1 self2 c9_42 x65_64
      ) (do
      let x67_65 ← sCat x7_38 (⟨#[45]⟩ : ByteArray)
      rambleref23_Table_j1 self2 c9_42 x67_65
      )
    )
def rambleref23_Table_l2 (self1 : (ByteArray × Int) → M (ByteArray × Int)) (c0_27 : Sl) (c5_28 : Sl) (c8_29 : Int) (self2 : (ByteArray × Int) → M (ByteArray × Int)) : (ByteArray × Int) → M (ByteArray × Int) := fun s => match s with
  | (x7_25, x9_26) => do
    M.ite (decide (x9_26 < (c5_28.len : Int))) (do
      M.ite (decide (x9_26 > 0)) (do
        let x39_67 ← sCat x7_25 (⟨#[32, 124, 32]⟩ : ByteArray)
        rambleref23_Table_j2 self2 c0_27 c5_28 c8_29 x9_26 x39_67
        ) (do
        rambleref23_Table_j2 self2 c0_27 c5_28 c8_29 x9_26 x7_25
        )
      ) (do
      let x69_68 ← sCat x7_25 (⟨#[10]⟩ : ByteArray)
      self1 (x69_68, IntKind.wrap .i64 (c8_29 + 1))
      )
def rambleref23_Table_l1 (c0_17 : Sl) (c5_18 : Sl) (self1 : (ByteArray × Int) → M (ByteArray × Int)) : (ByteArray × Int) → M (ByteArray × Int) := fun s => match s with
  | (x7_15, x8_16) => do
    M.ite (decide (x8_16 < (c0_17.len : Int))) (do
      M.loop (rambleref23_Table_l2 self1 c0_17 c5_18 x8_16) (x7_15, 0)
      ) (do
      M.pure (x7_15, 0)
      )
def rambleref23_Table (x0 : Sl) : M (ByteArray × Int) := do
  let x13_4 ← rambleref23_check x0
  M.ite (x13_4 != 0) (do
    M.pure (ByteArray.empty, x13_4)
    ) (do
    let x19_8 ← rambleref23_columns x0
    M.ite (!x19_8.2) (do
      M.pure (ByteArray.empty, 21)
      ) (do
      M.loop (rambleref23_Table_l1 x0 x19_8.1) (ByteArray.empty, (-1))
      )
    )
theorem S_rambleref23_Table (x0 : Sl) : Sound Go.Proofs.Tryd.prog 7 #[(x0 : Sl).v] (fun (r : ByteArray × Int) => .tuple #[.string r.1, .int .i64 r.2]) (rambleref23_Table x0) := by
  refine sound_of [(0, (x0 : Sl).v)] Go.Proofs.Tryd.func7 rfl rfl (Nat.le_of_ble_eq_true rfl) (args_of ⟨rfl, trivial⟩) (fun w0 w Q R a hret hE hR H => ?_)
  unfold rambleref23_Table at H
  refine w_seq (fun K hK_1 => ?_)
  refine t_region ?_
  refine t_val (v := .string ByteArray.empty) rfl rfl hE rfl (r_assign hE rfl) (fun a hE => ?_)
  refine t_val (v := .int .i64 0) rfl rfl hE rfl (r_assign hE rfl) (fun a hE => ?_)
  refine t_nil ?_
  refine hK_1 _ _ ?_
  refine w_seq (fun K hK_2 => ?_)
  refine w_seq (fun K hK_3 => ?_)
  refine t_region ?_
  refine t_val (v := (x0 : Sl).v) rfl rfl hE rfl (r_move hE rfl) (fun a hE => ?_)
  refine t_call hE hR cl_rambleref23_check rfl (S_rambleref23_check x0) (M.unbind H) (fun x13_4 a w ea hR H => ?_)
  have hE := Env.put_some hE rfl ea; clear ea
  refine t_val (v := .int .i64 x13_4) rfl rfl hE rfl (r_assign hE rfl) (fun a hE => ?_)
  refine t_nil ?_
  refine hK_3 _ _ ?_
  refine w_seq (fun K hK_5 => ?_)
  refine t_region ?_
  refine t_val (v := .int .i64 x13_4) rfl rfl hE rfl (r_move hE rfl) (fun a hE => ?_)
  refine t_val (v := .bool (x13_4 != 0)) rfl rfl hE rfl (r_bin hE rfl rfl g_int b_neq) (fun a hE => ?_)
  refine t_nil ?_
  refine hK_5 _ _ ?_
  refine w_cond (x13_4 != 0) hE rfl (fun hb => ?_) (fun hb => ?_)
  · replace H := M.ite_t hb H
    refine w_seq (fun K hK_6 => ?_)
    refine t_region ?_
    refine t_val (v := .int .i64 x13_4) rfl rfl hE rfl (r_move hE rfl) (fun a hE => ?_)
    refine t_val (v := .string ByteArray.empty) rfl rfl hE rfl (r_assign hE rfl) (fun a hE => ?_)
    refine t_val (v := .int .i64 x13_4) rfl rfl hE rfl (r_assign hE rfl) (fun a hE => ?_)
    refine t_nil ?_
    refine hK_6 _ _ ?_
    refine w_ret ?_
    exact hret _ _ _ (ByteArray.empty, x13_4) _ hE hR (res_run hE rfl (RV.tmp rfl (RV.tmp rfl RV.nil))) rfl H
  · replace H := M.ite_f hb H
    refine w_skip ?_
    refine hK_2 _ _ ?_
    refine w_seq (fun K hK_7 => ?_)
    refine t_region ?_
    refine t_val (v := (x0 : Sl).v) rfl rfl hE rfl (r_move hE rfl) (fun a hE => ?_)
    refine t_call hE hR cl_rambleref23_columns rfl (S_rambleref23_columns x0) (M.unbind H) (fun x19_8 a w ea hR H => ?_)
    have hE := Env.put_some hE rfl ea; clear ea
    refine t_val (v := .tuple #[(x19_8.1 : Sl).v, .bool x19_8.2]) rfl rfl hE rfl (r_move hE rfl) (fun a hE => ?_)
    refine t_val (v := (x19_8.1 : Sl).v) rfl rfl hE rfl (r_extract hE rfl rfl) (fun a hE => ?_)
    refine t_val (v := .bool x19_8.2) rfl rfl hE rfl (r_extract hE rfl rfl) (fun a hE => ?_)
    refine t_val (v := (x19_8.1 : Sl).v) rfl rfl hE rfl (r_assign hE rfl) (fun a hE => ?_)
    refine t_val (v := .bool x19_8.2) rfl rfl hE rfl (r_assign hE rfl) (fun a hE => ?_)
    refine t_nil ?_
    refine hK_7 _ _ ?_
    refine w_seq (fun K hK_9 => ?_)
    refine w_seq (fun K hK_10 => ?_)
    refine t_region ?_
    refine t_val (v := .bool x19_8.2) rfl rfl hE rfl (r_move hE rfl) (fun a hE => ?_)
    refine t_val (v := .bool (!x19_8.2)) rfl rfl hE rfl (r_un hE rfl u_not) (fun a hE => ?_)
    refine t_nil ?_
    refine hK_10 _ _ ?_
    refine w_cond (!x19_8.2) hE rfl (fun hb => ?_) (fun hb => ?_)
    · replace H := M.ite_t hb H
      refine w_seq (fun K hK_11 => ?_)
      refine t_region ?_
      refine t_val (v := .string ByteArray.empty) rfl rfl hE rfl (r_assign hE rfl) (fun a hE => ?_)
      refine t_val (v := .int .i64 21) rfl rfl hE rfl (r_assign hE rfl) (fun a hE => ?_)
      refine t_nil ?_
      refine hK_11 _ _ ?_
      refine w_ret ?_
      exact hret _ _ _ (ByteArray.empty, 21) _ hE hR (res_run hE rfl (RV.tmp rfl (RV.tmp rfl RV.nil))) rfl H
    · replace H := M.ite_f hb H
      refine w_skip ?_
      refine hK_9 _ _ ?_
      refine w_seq (fun K hK_12 => ?_)
      refine t_region ?_
      refine t_val (v := .string ByteArray.empty) rfl rfl hE rfl (r_assign hE rfl) (fun a hE => ?_)
      refine t_nil ?_
      refine hK_12 _ _ ?_
      refine w_seq (fun K hK_13 => ?_)
      refine w_seq (fun K hK_14 => ?_)
      refine t_region ?_
      refine t_val (v := .int .i64 (-1)) rfl rfl hE rfl (r_assign hE rfl) (fun a hE => ?_)
      refine t_nil ?_
      refine hK_14 _ _ ?_
      refine w_block ?_
      refine l_loop (fun (s : ByteArray × Int) => (⟨71, []⟩ : Frm)) (fun (s : ByteArray × Int) => [(0, (x0 : Sl).v), (5, (x19_8.1 : Sl).v), (7, .string s.1), (8, .int .i64 s.2)]) H (hE.cut (.cons rfl (.cons rfl (.cons rfl (.cons rfl Subs.nil))))) hR (fun Y self1 hY_19 s a w hE hR H => ?_)
      rcases s with ⟨x7_15, x8_16⟩
      replace hE : Env (⟨71, []⟩ : Frm) a [(0, (x0 : Sl).v), (5, (x19_8.1 : Sl).v), (7, .string x7_15), (8, .int .i64 x8_16)] := hE
      replace H : (rambleref23_Table_l1 x0 x19_8.1 self1 (x7_15, x8_16)).wp w.heap Q := H
      unfold rambleref23_Table_l1 at H
      refine w_seq (fun K hK_20 => ?_)
      refine w_seq (fun K hK_21 => ?_)
      refine t_region ?_
      refine t_val (v := .int .i64 x8_16) rfl rfl hE rfl (r_move hE rfl) (fun a hE => ?_)
      refine t_val (v := (x0 : Sl).v) rfl rfl hE rfl (r_move hE rfl) (fun a hE => ?_)
      refine t_val (v := .int .i64 (x0.len : Int)) rfl rfl hE rfl (r_len hE rfl 42 un22) (fun a hE => ?_)
      refine t_val (v := .bool (decide (x8_16 < (x0.len : Int)))) rfl rfl hE rfl (r_bin hE rfl rfl g_int b_lss) (fun a hE => ?_)
      refine t_nil ?_
      refine hK_21 _ _ ?_
      refine w_cond (decide (x8_16 < (x0.len : Int))) hE rfl (fun hb => ?_) (fun hb => ?_)
      · replace H := M.ite_t hb H
        refine w_skip ?_
        refine hK_20 _ _ ?_
        refine w_seq (fun K hK_22 => ?_)
        refine w_block ?_
        refine w_seq (fun K hK_23 => ?_)
        refine w_seq (fun K hK_24 => ?_)
        refine t_region ?_
        refine t_val (v := .int .i64 0) rfl rfl hE rfl (r_assign hE rfl) (fun a hE => ?_)
        refine t_nil ?_
        refine hK_24 _ _ ?_
        refine w_block ?_
        refine l_loop (fun (s : ByteArray × Int) => (⟨71, []⟩ : Frm)) (fun (s : ByteArray × Int) => [(0, (x0 : Sl).v), (5, (x19_8.1 : Sl).v), (7, .string s.1), (8, .int .i64 x8_16), (9, .int .i64 s.2)]) H (hE.cut (.cons rfl (.cons rfl (.cons rfl (.cons rfl (.cons rfl Subs.nil)))))) hR (fun Y self2 hY_30 s a w hE hR H => ?_)
        rcases s with ⟨x7_25, x9_26⟩
        replace hE : Env (⟨71, []⟩ : Frm) a [(0, (x0 : Sl).v), (5, (x19_8.1 : Sl).v), (7, .string x7_25), (8, .int .i64 x8_16), (9, .int .i64 x9_26)] := hE
        replace H : (rambleref23_Table_l2 self1 x0 x19_8.1 x8_16 self2 (x7_25, x9_26)).wp w.heap Q := H
        unfold rambleref23_Table_l2 at H
        refine w_seq (fun K hK_31 => ?_)
        refine w_seq (fun K hK_32 => ?_)
        refine t_region ?_
        refine t_val (v := .int .i64 x9_26) rfl rfl hE rfl (r_move hE rfl) (fun a hE => ?_)
        refine t_val (v := (x19_8.1 : Sl).v) rfl rfl hE rfl (r_move hE rfl) (fun a hE => ?_)
        refine t_val (v := .int .i64 (x19_8.1.len : Int)) rfl rfl hE rfl (r_len hE rfl 42 un22) (fun a hE => ?_)
        refine t_val (v := .bool (decide (x9_26 < (x19_8.1.len : Int)))) rfl rfl hE rfl (r_bin hE rfl rfl g_int b_lss) (fun a hE => ?_)
        refine t_nil ?_
        refine hK_32 _ _ ?_
        refine w_cond (decide (x9_26 < (x19_8.1.len : Int))) hE rfl (fun hb => ?_) (fun hb => ?_)
        · replace H := M.ite_t hb H
          refine w_skip ?_
          refine hK_31 _ _ ?_
          refine w_seq_join (fun a w => ∃ (x7_33 : ByteArray), Env (⟨71, []⟩ : Frm) a [(0, (x0 : Sl).v), (5, (x19_8.1 : Sl).v), (8, .int .i64 x8_16), (9, .int .i64 x9_26), (7, .string x7_33)] ∧ Rest w0 w ∧ (rambleref23_Table_j1 self2 x9_26 x7_33).wp w.heap Q) ?_ ?_
          · rintro a w ⟨x7_33, hE, hR, H⟩
            unfold rambleref23_Table_j1 at H
            refine t_region ?_
            refine t_val (v := .int .i64 x9_26) rfl rfl hE rfl (r_move hE rfl) (fun a hE => ?_)
            refine t_val (v := .int .i64 (IntKind.wrap .i64 (x9_26 + 1))) rfl rfl hE rfl (r_bin hE rfl rfl g_int b_add) (fun a hE => ?_)
            refine t_val (v := .int .i64 (IntKind.wrap .i64 (x9_26 + 1))) rfl rfl hE rfl (r_assign hE rfl) (fun a hE => ?_)
            refine t_nil ?_
            exact hY_30 (x7_33, IntKind.wrap .i64 (x9_26 + 1)) _ _ (hE.cut (.cons rfl (.cons rfl (.cons rfl (.cons rfl (.cons rfl Subs.nil)))))) hR H
          · skip
            refine w_block ?_
            refine w_seq_join (fun a w => ∃ (x7_38 : ByteArray), Env (⟨71, []⟩ : Frm) a [(0, (x0 : Sl).v), (5, (x19_8.1 : Sl).v), (8, .int .i64 x8_16), (9, .int .i64 x9_26), (7, .string x7_38)] ∧ Rest w0 w ∧ (rambleref23_Table_j2 self2 x0 x19_8.1 x8_16 x9_26 x7_38).wp w.heap Q) ?_ ?_
            · rintro a w ⟨x7_38, hE, hR, H⟩
              unfold rambleref23_Table_j2 at H
              refine w_seq (fun K hK_43 => ?_)
              refine w_seq (fun K hK_44 => ?_)
              refine t_region ?_
              refine t_val (v := .int .i64 x8_16) rfl rfl hE rfl (r_move hE rfl) (fun a hE => ?_)
              refine t_val (v := .bool (decide (x8_16 < 0))) rfl rfl hE rfl (r_bin hE rfl rfl g_int b_lss) (fun a hE => ?_)
              refine t_nil ?_
              refine hK_44 _ _ ?_
              refine w_cond (decide (x8_16 < 0)) hE rfl (fun hb => ?_) (fun hb => ?_)
              · replace H := M.ite_t hb H
                refine w_seq (fun K hK_45 => ?_)
                refine t_region ?_
                refine t_val (v := .string x7_38) rfl rfl hE rfl (r_move hE rfl) (fun a hE => ?_)
                refine t_val (v := (x19_8.1 : Sl).v) rfl rfl hE rfl (r_move hE rfl) (fun a hE => ?_)
                refine t_val (v := .int .i64 x9_26) rfl rfl hE rfl (r_move hE rfl) (fun a hE => ?_)
                obtain ⟨x45_46, qx45_46, H⟩ := H
                refine t_val (v := .pointer (some x45_46)) rfl rfl hE rfl (r_indexAddrL hE rfl rfl un22 sz42 qx45_46) (fun a hE => ?_)
                obtain ⟨x46_47, qx46_47, H⟩ := H
                refine t_val (v := .agg x46_47) rfl rfl hE rfl (r_loadG hE rfl ag42 qx46_47) (fun a hE => ?_)
                refine t_call hE hR cl_rambleref02_Text rfl (S_rambleref02_Text x46_47) (M.unbind H) (fun x47_48 a w ea hR H => ?_)
                have hE := Env.put_some hE rfl ea; clear ea
                obtain ⟨x48_49, qx48_49, H⟩ := H
                refine t_val (v := .string x48_49) rfl rfl hE rfl (r_bin hE rfl rfl g_str (b_addS qx48_49)) (fun a hE => ?_)
                refine t_val (v := .string x48_49) rfl rfl hE rfl (r_assign hE rfl) (fun a hE => ?_)
                refine t_nil ?_
                refine hK_45 _ _ ?_
                refine w_exit ?_
                refine Xu.same ?_
                exact ⟨x48_49, hE.cut (.cons rfl (.cons rfl (.cons rfl (.cons rfl (.cons rfl Subs.nil))))), hR, H⟩
              · replace H := M.ite_f hb H
                refine w_skip ?_
                refine hK_43 _ _ ?_
                refine w_seq (fun K hK_50 => ?_)
                obtain ⟨x52_51, qx52_51, H⟩ := H
                obtain ⟨x56_52, qx56_52, H⟩ := H
                obtain ⟨x53_53, qx53_53, H⟩ := H
                obtain ⟨x57_54, qx57_54, H⟩ := H
                have hT := tab_of tb7_18 rfl rfl
                refine d_start (fun w : World => (fun h : Heap => (x53_53.size = 4 ∧ ∀ i, i < 4 → hcell h (Addr.add x52_51 i) = x53_53[i]?) ∧ (x57_54.size = 4 ∧ ∀ i, i < 4 → hcell h (Addr.add x56_52 i) = x57_54[i]?)) w.heap) [8, 9, 10, 11, 13, 14] #[false, false, false, false, false, false, false, false, false, false, false, false, false, false, false] mo hR rfl rfl (fun w' e => by rw [e]; exact ⟨qx53_53, qx57_54⟩) (fun w hh hR hs => ?_)
                replace H := M.at hh H; clear hh
                refine d_pureg (i := 0) (v := (x0 : Sl).v) #[true, false, false, false, false, false, false, false, false, false, false, false, false, false, false] rfl rfl hT (by kernel_rfl) hE rfl (wanted_none rfl) (fun w => r_move hE rfl) (fun a hE => ?_)
                refine d_pureg (i := 1) (v := .int .i64 x8_16) #[true, true, false, false, false, false, false, false, false, false, false, false, false, false, false] rfl rfl hT (by kernel_rfl) hE rfl (wanted_none rfl) (fun w => r_move hE rfl) (fun a hE => ?_)
                refine d_pureg (i := 2) (v := .pointer (some x52_51)) #[true, true, true, false, false, false, false, false, false, false, false, false, false, false, false] rfl rfl hT (by kernel_rfl) hE rfl (wanted_none rfl) (fun w => r_indexAddrL hE rfl rfl un22 sz42 qx52_51) (fun a hE => ?_)
                refine d_pureg (i := 4) (v := (x19_8.1 : Sl).v) #[true, true, true, false, true, false, false, false, false, false, false, false, false, false, false] rfl rfl hT (by kernel_rfl) hE rfl (wanted_none rfl) (fun w => r_move hE rfl) (fun a hE => ?_)
                refine d_pureg (i := 5) (v := .int .i64 x9_26) #[true, true, true, false, true, true, false, false, false, false, false, false, false, false, false] rfl rfl hT (by kernel_rfl) hE rfl (wanted_none rfl) (fun w => r_move hE rfl) (fun a hE => ?_)
                refine d_pureg (i := 6) (v := .pointer (some x56_52)) #[true, true, true, false, true, true, true, false, false, false, false, false, false, false, false] rfl rfl hT (by kernel_rfl) hE rfl (wanted_none rfl) (fun w => r_indexAddrL hE rfl rfl un22 sz42 qx56_52) (fun a hE => ?_)
                refine d_read (i := 3) (v := .agg x53_53) #[true, true, true, true, true, true, true, false, false, false, false, false, false, false, false] rfl rfl hT (by kernel_rfl) hE rfl (wanted_none rfl) hs (fun w s => r_loadG hE rfl ag42 s.1) (fun a hE => ?_)
                refine d_read (i := 7) (v := .agg x57_54) #[true, true, true, true, true, true, true, true, false, false, false, false, false, false, false] rfl rfl hT (by kernel_rfl) hE rfl (wanted_none rfl) hs (fun w s => r_loadG hE rfl ag42 s.2) (fun a hE => ?_)
                refine d_join (n := (⟨71, []⟩ : Frm)) (w0 := w0) (fun y_59 : Addr × (Array Value × Bool) × (Array Value × Bool) × Array Value × Bool => [(0, (x0 : Sl).v), (5, (x19_8.1 : Sl).v), (8, .int .i64 x8_16), (9, .int .i64 x9_26), (7, .string x7_38), (40, .int .i64 x8_16), (41, .bool (decide (x8_16 < 0))), (50, (x0 : Sl).v), (51, .int .i64 x8_16), (52, .pointer (some x52_51)), (54, (x19_8.1 : Sl).v), (55, .int .i64 x9_26), (56, .pointer (some x56_52)), (53, .agg x53_53), (57, .agg x57_54), (10, .pointer (some y_59.1)), (49, .tuple #[.agg y_59.2.1.1, .bool y_59.2.1.2]), (58, .tuple #[.agg y_59.2.2.1.1, .bool y_59.2.2.1.2]), (59, .agg y_59.2.2.2.1), (60, .bool y_59.2.2.2.2)]) 2 #[true, true, true, true, true, true, true, true, true, true, true, true, true, false, false] (M.unbind H) ?_ ?_
                · intro y_59 a w hE hR H
                  obtain ⟨qz, H⟩ := H
                  obtain ⟨u_60, qu_60, H⟩ := H
                  refine d_stlh (i := 13) #[true, true, true, true, true, true, true, true, true, true, true, true, true, true, false] rfl rfl hT (by kernel_rfl) rfl hE hR (wanted_none rfl) (r_storeG hE rfl rfl sz42 qz qu_60)  (fun a w hE hR hh => ?_)
                  replace H := M.at hh H; clear hh
                  refine d_pureg (i := 14) (v := .bool y_59.2.2.2.2) #[true, true, true, true, true, true, true, true, true, true, true, true, true, true, true] rfl rfl hT (by kernel_rfl) hE rfl (wanted_none rfl) (fun w => r_assign hE rfl) (fun a hE => ?_)
                  refine d_done hT (by kernel_rfl) ?_
                  refine hK_50 _ _ ?_
                  refine w_seq (fun K hK_61 => ?_)
                  refine t_region ?_
                  refine t_val (v := .bool y_59.2.2.2.2) rfl rfl hE rfl (r_move hE rfl) (fun a hE => ?_)
                  refine t_nil ?_
                  refine hK_61 _ _ ?_
                  refine w_cond y_59.2.2.2.2 hE rfl (fun hb => ?_) (fun hb => ?_)
                  · replace H := M.ite_t hb H
                    refine t_region ?_
                    refine t_val (v := .string x7_38) rfl rfl hE rfl (r_move hE rfl) (fun a hE => ?_)
                    obtain ⟨x63_62, qx63_62, H⟩ := H
                    refine t_val (v := .agg x63_62) rfl rfl hE rfl (r_loadG hE rfl ag42 qx63_62) (fun a hE => ?_)
                    refine t_call hE hR cl_rambleref02_Text rfl (S_rambleref02_Text x63_62) (M.unbind H) (fun x64_63 a w ea hR H => ?_)
                    have hE := Env.put_some hE rfl ea; clear ea
                    obtain ⟨x65_64, qx65_64, H⟩ := H
                    refine t_val (v := .string x65_64) rfl rfl hE rfl (r_bin hE rfl rfl g_str (b_addS qx65_64)) (fun a hE => ?_)
                    refine t_val (v := .string x65_64) rfl rfl hE rfl (r_assign hE rfl) (fun a hE => ?_)
                    refine t_nil ?_
                    exact ⟨x65_64, hE.cut (.cons rfl (.cons rfl (.cons rfl (.cons rfl (.cons rfl Subs.nil))))), hR, H⟩
                  · replace H := M.ite_f hb H
                    refine t_region ?_
                    refine t_val (v := .string x7_38) rfl rfl hE rfl (r_move hE rfl) (fun a hE => ?_)
                    obtain ⟨x67_65, qx67_65, H⟩ := H
                    refine t_val (v := .string x67_65) rfl rfl hE rfl (r_bin hE rfl rfl g_str (b_addS qx67_65)) (fun a hE => ?_)
                    refine t_val (v := .string x67_65) rfl rfl hE rfl (r_assign hE rfl) (fun a hE => ?_)
                    refine t_nil ?_
                    exact ⟨x67_65, hE.cut (.cons rfl (.cons rfl (.cons rfl (.cons rfl (.cons rfl Subs.nil))))), hR, H⟩
                · intro hj H
                  refine d_pick [8, 12] hT (by kernel_rfl) rfl (fun i hi => ?_)
                  simp only [List.mem_cons, List.not_mem_nil, or_false] at hi
                  rcases hi with rfl | rfl
                  · replace H := H.1
                    refine p_call (S := fun w : World => (fun h : Heap => (x53_53.size = 4 ∧ ∀ i, i < 4 → hcell h (Addr.add x52_51 i) = x53_53[i]?) ∧ (x57_54.size = 4 ∧ ∀ i, i < 4 → hcell h (Addr.add x56_52 i) = x57_54[i]?)) w.heap) (i := 8) #[true, true, true, true, true, true, true, true, true, false, false, false, false, false, false] rfl rfl rfl (by kernel_rfl) hE hR (wanted_none rfl) cl_rambleref02_Get rfl (S_rambleref02_Get x53_53 x57_54) (M.unbind H) (fun r h H w' e => by obtain ⟨_, sA, H⟩ := H; rw [e]; exact sA) (fun x58_55 a w ea hR H hs => ?_)
                    obtain ⟨_, sA, H⟩ := H; clear sA
                    have hE := Env.put_some hE rfl ea; clear ea
                    refine d_pureg (i := 9) (v := .tuple #[.agg x58_55.1, .bool x58_55.2]) #[true, true, true, true, true, true, true, true, true, true, false, false, false, false, false] rfl rfl hT (by kernel_rfl) hE rfl (wanted_none rfl) (fun w => r_move hE rfl) (fun a hE => ?_)
                    refine d_pureg (i := 10) (v := .agg x58_55.1) #[true, true, true, true, true, true, true, true, true, true, true, false, false, false, false] rfl rfl hT (by kernel_rfl) hE rfl (wanted_none rfl) (fun w => r_extract hE rfl rfl) (fun a hE => ?_)
                    refine d_pureg (i := 11) (v := .bool x58_55.2) #[true, true, true, true, true, true, true, true, true, true, true, true, false, false, false] rfl rfl hT (by kernel_rfl) hE rfl (wanted_none rfl) (fun w => r_extract hE rfl rfl) (fun a hE => ?_)
                    obtain ⟨x10_56, qx10_56, H⟩ := H
                    obtain ⟨_, sA, H⟩ := H
                    refine d_oneh (i := 12) (v := .pointer (some x10_56)) #[true, true, true, true, true, true, true, true, true, true, true, true, true, false, false] rfl rfl hT (by kernel_rfl) rfl hE hR rfl (wanted_none rfl) (r_alloc zr42 qx10_56)  (fun w' e => by rw [e]; exact sA) (fun a w hE hR hh hs => ?_)
                    replace H := M.at hh H; clear hh
                    exact hj _ _ _ (hE.cut (.cons rfl (.cons rfl (.cons rfl (.cons rfl (.cons rfl (.cons rfl (.cons rfl (.cons rfl (.cons rfl (.cons rfl (.cons rfl (.cons rfl (.cons rfl (.cons rfl (.cons rfl (.cons rfl (.cons rfl (.cons rfl (.cons rfl (.cons rfl Subs.nil))))))))))))))))))))) hR H
                  · replace H := H.2
                    obtain ⟨x10_57, qx10_57, H⟩ := H
                    obtain ⟨_, sA, H⟩ := H
                    refine p_valh (S := fun w : World => (fun h : Heap => (x53_53.size = 4 ∧ ∀ i, i < 4 → hcell h (Addr.add x52_51 i) = x53_53[i]?) ∧ (x57_54.size = 4 ∧ ∀ i, i < 4 → hcell h (Addr.add x56_52 i) = x57_54[i]?)) w.heap) (i := 12) (v := .pointer (some x10_57)) #[true, true, true, true, true, true, true, true, false, false, false, false, true, false, false] rfl rfl (by kernel_rfl) hE hR rfl (wanted_none rfl) (r_alloc zr42 qx10_57)  (fun w' e => by rw [e]; exact sA) (fun a w hE hR hh hs => ?_)
                    replace H := M.at hh H; clear hh
                    refine d_calll (i := 8) #[true, true, true, true, true, true, true, true, true, false, false, false, true, false, false] rfl rfl rfl hT (by kernel_rfl) rfl hE hR (wanted_none rfl) cl_rambleref02_Get rfl (S_rambleref02_Get x53_53 x57_54) (M.unbind H) (fun x58_58 a w ea hR H => ?_)
                    have hE := Env.put_some hE rfl ea; clear ea
                    refine d_pureg (i := 9) (v := .tuple #[.agg x58_58.1, .bool x58_58.2]) #[true, true, true, true, true, true, true, true, true, true, false, false, true, false, false] rfl rfl hT (by kernel_rfl) hE rfl (wanted_none rfl) (fun w => r_move hE rfl) (fun a hE => ?_)
                    refine d_pureg (i := 10) (v := .agg x58_58.1) #[true, true, true, true, true, true, true, true, true, true, true, false, true, false, false] rfl rfl hT (by kernel_rfl) hE rfl (wanted_none rfl) (fun w => r_extract hE rfl rfl) (fun a hE => ?_)
                    refine d_pureg (i := 11) (v := .bool x58_58.2) #[true, true, true, true, true, true, true, true, true, true, true, true, true, false, false] rfl rfl hT (by kernel_rfl) hE rfl (wanted_none rfl) (fun w => r_extract hE rfl rfl) (fun a hE => ?_)
                    exact hj _ _ _ (hE.cut (.cons rfl (.cons rfl (.cons rfl (.cons rfl (.cons rfl (.cons rfl (.cons rfl (.cons rfl (.cons rfl (.cons rfl (.cons rfl (.cons rfl (.cons rfl (.cons rfl (.cons rfl (.cons rfl (.cons rfl (.cons rfl (.cons rfl (.cons rfl Subs.nil))))))))))))))))))))) hR H
            · skip
              refine w_seq (fun K hK_66 => ?_)
              refine t_region ?_
              refine t_val (v := .int .i64 x9_26) rfl rfl hE rfl (r_move hE rfl) (fun a hE => ?_)
              refine t_val (v := .bool (decide (x9_26 > 0))) rfl rfl hE rfl (r_bin hE rfl rfl g_int b_gtr) (fun a hE => ?_)
              refine t_nil ?_
              refine hK_66 _ _ ?_
              refine w_cond (decide (x9_26 > 0)) hE rfl (fun hb => ?_) (fun hb => ?_)
              · replace H := M.ite_t hb H
                refine t_region ?_
                refine t_val (v := .string x7_25) rfl rfl hE rfl (r_move hE rfl) (fun a hE => ?_)
                obtain ⟨x39_67, qx39_67, H⟩ := H
                refine t_val (v := .string x39_67) rfl rfl hE rfl (r_bin hE rfl rfl g_str (b_addS qx39_67)) (fun a hE => ?_)
                refine t_val (v := .string x39_67) rfl rfl hE rfl (r_assign hE rfl) (fun a hE => ?_)
                refine t_nil ?_
                exact ⟨x39_67, hE.cut (.cons rfl (.cons rfl (.cons rfl (.cons rfl (.cons rfl Subs.nil))))), hR, H⟩
              · replace H := M.ite_f hb H
                refine w_skip ?_
                exact ⟨x7_25, hE.cut (.cons rfl (.cons rfl (.cons rfl (.cons rfl (.cons rfl Subs.nil))))), hR, H⟩
        · replace H := M.ite_f hb H
          refine w_exit ?_
          refine Xu.same ?_
          refine hK_23 _ _ ?_
          refine t_region ?_
          refine t_val (v := .string x7_25) rfl rfl hE rfl (r_move hE rfl) (fun a hE => ?_)
          obtain ⟨x69_68, qx69_68, H⟩ := H
          refine t_val (v := .string x69_68) rfl rfl hE rfl (r_bin hE rfl rfl g_str (b_addS qx69_68)) (fun a hE => ?_)
          refine t_val (v := .string x69_68) rfl rfl hE rfl (r_assign hE rfl) (fun a hE => ?_)
          refine t_nil ?_
          refine hK_22 _ _ ?_
          refine t_region ?_
          refine t_val (v := .int .i64 x8_16) rfl rfl hE rfl (r_move hE rfl) (fun a hE => ?_)
          refine t_val (v := .int .i64 (IntKind.wrap .i64 (x8_16 + 1))) rfl rfl hE rfl (r_bin hE rfl rfl g_int b_add) (fun a hE => ?_)
          refine t_val (v := .int .i64 (IntKind.wrap .i64 (x8_16 + 1))) rfl rfl hE rfl (r_assign hE rfl) (fun a hE => ?_)
          refine t_nil ?_
          exact hY_19 (x69_68, IntKind.wrap .i64 (x8_16 + 1)) _ _ (hE.cut (.cons rfl (.cons rfl (.cons rfl (.cons rfl Subs.nil))))) hR H
      · replace H := M.ite_f hb H
        refine w_exit ?_
        refine Xu.same ?_
        refine hK_13 _ _ ?_
        refine w_seq (fun K hK_69 => ?_)
        refine t_region ?_
        refine t_val (v := .string x7_15) rfl rfl hE rfl (r_move hE rfl) (fun a hE => ?_)
        refine t_val (v := .string x7_15) rfl rfl hE rfl (r_assign hE rfl) (fun a hE => ?_)
        refine t_val (v := .int .i64 0) rfl rfl hE rfl (r_assign hE rfl) (fun a hE => ?_)
        refine t_nil ?_
        refine hK_69 _ _ ?_
        refine w_ret ?_
        exact hret _ _ _ (x7_15, 0) _ hE hR (res_run hE rfl (RV.tmp rfl (RV.tmp rfl RV.nil))) rfl H

/-- ramble/rambleref02.Str -/
def rambleref02_Str (x0 : ByteArray) : M (Array Value) := do
  let x2_2 ← mkB ty_api_Value (#[.int .i64 0, .int .i64 0, .string ByteArray.empty, .slice none 0 0] : Array Value)
  M.need ((#[.int .i64 2, .int .i64 0, .string x0, .slice none 0 0] : Array Value).size = 4)
  stG x2_2 (#[.int .i64 2, .int .i64 0, .string x0, .slice none 0 0] : Array Value)
  let r2_5 ← ldG 4 x2_2
  M.pure r2_5
theorem S_rambleref02_Str (x0 : ByteArray) : Sound Go.Proofs.Tryd.prog 30 #[.string x0] (fun (r : Array Value) => .agg r) (rambleref02_Str x0) := by
  refine sound_of [(0, .string x0)] Go.Proofs.Tryd.func30 rfl rfl (Nat.le_of_ble_eq_true rfl) (args_of ⟨rfl, trivial⟩) (fun w0 w Q R a hret hE hR H => ?_)
  unfold rambleref02_Str at H
  refine w_seq (fun K hK_1 => ?_)
  refine t_region ?_
  obtain ⟨x2_2, qx2_2, H⟩ := H
  refine t_valh (v := .pointer (some x2_2)) rfl rfl hE rfl hR (r_alloc zr42 qx2_2) (fun a w hE hR hh => ?_)
  replace H := M.at hh H; clear hh
  refine t_nil ?_
  refine hK_1 _ _ ?_
  refine w_seq (fun K hK_3 => ?_)
  refine t_region ?_
  refine t_val (v := .string x0) rfl rfl hE rfl (r_move hE rfl) (fun a hE => ?_)
  refine t_val (v := .agg (#[.int .i64 2, .int .i64 0, .string x0, .slice none 0 0] : Array Value)) rfl rfl hE rfl (r_build hE rfl zr42 pl42 (by rfl)) (fun a hE => ?_)
  obtain ⟨qz, H⟩ := H
  obtain ⟨u_4, qu_4, H⟩ := H
  refine t_sth rfl rfl hE hR (r_storeG hE rfl rfl sz42 qz qu_4) (fun a w hE hR hh => ?_)
  replace H := M.at hh H; clear hh
  refine t_nil ?_
  refine hK_3 _ _ ?_
  refine w_ret ?_
  obtain ⟨r2_5, qr2_5, H⟩ := H
  exact hret _ _ _ r2_5 _ hE hR (res_run hE rfl (RV.cellG rfl ag42 qr2_5 RV.nil)) rfl H

/-- ramble/rambleref02.Int -/
def rambleref02_Int (x0 : Int) : M (Array Value) := do
  let x2_2 ← mkB ty_api_Value (#[.int .i64 0, .int .i64 0, .string ByteArray.empty, .slice none 0 0] : Array Value)
  M.need ((#[.int .i64 1, .int .i64 x0, .string ByteArray.empty, .slice none 0 0] : Array Value).size = 4)
  stG x2_2 (#[.int .i64 1, .int .i64 x0, .string ByteArray.empty, .slice none 0 0] : Array Value)
  let r2_5 ← ldG 4 x2_2
  M.pure r2_5
theorem S_rambleref02_Int (x0 : Int) : Sound Go.Proofs.Tryd.prog 31 #[.int .i64 x0] (fun (r : Array Value) => .agg r) (rambleref02_Int x0) := by
  refine sound_of [(0, .int .i64 x0)] Go.Proofs.Tryd.func31 rfl rfl (Nat.le_of_ble_eq_true rfl) (args_of ⟨rfl, trivial⟩) (fun w0 w Q R a hret hE hR H => ?_)
  unfold rambleref02_Int at H
  refine w_seq (fun K hK_1 => ?_)
  refine t_region ?_
  obtain ⟨x2_2, qx2_2, H⟩ := H
  refine t_valh (v := .pointer (some x2_2)) rfl rfl hE rfl hR (r_alloc zr42 qx2_2) (fun a w hE hR hh => ?_)
  replace H := M.at hh H; clear hh
  refine t_nil ?_
  refine hK_1 _ _ ?_
  refine w_seq (fun K hK_3 => ?_)
  refine t_region ?_
  refine t_val (v := .int .i64 x0) rfl rfl hE rfl (r_move hE rfl) (fun a hE => ?_)
  refine t_val (v := .agg (#[.int .i64 1, .int .i64 x0, .string ByteArray.empty, .slice none 0 0] : Array Value)) rfl rfl hE rfl (r_build hE rfl zr42 pl42 (by rfl)) (fun a hE => ?_)
  obtain ⟨qz, H⟩ := H
  obtain ⟨u_4, qu_4, H⟩ := H
  refine t_sth rfl rfl hE hR (r_storeG hE rfl rfl sz42 qz qu_4) (fun a w hE hR hh => ?_)
  replace H := M.at hh H; clear hh
  refine t_nil ?_
  refine hK_3 _ _ ?_
  refine w_ret ?_
  obtain ⟨r2_5, qr2_5, H⟩ := H
  exact hret _ _ _ r2_5 _ hE hR (res_run hE rfl (RV.cellG rfl ag42 qr2_5 RV.nil)) rfl H

/-- (*strings.Builder).WriteString -/
def strings_Builder_WriteString (x0 : Option Addr) (x1 : ByteArray) : M (Int × Value) := do
  let x7_3 ← strings_Builder_copyCheck x0
  let x10_5 ← nilP x0
  let x12_6 ← ldL ((x10_5).add 1)
  let x14_7 ← apS ty_uint8 x12_6 x1
  let x15_8 ← nilP x0
  stV ((x15_8).add 1) ((x14_7 : Sl).v)
  M.pure ((x1.size : Int), Value.nilIface)
theorem S_strings_Builder_WriteString (x0 : Option Addr) (x1 : ByteArray) : Sound Go.Proofs.Tryd.prog 20 #[.pointer x0, .string x1] (fun (r : Int × Value) => .tuple #[.int .i64 r.1, r.2]) (strings_Builder_WriteString x0 x1) := by
  refine sound_of [(0, .pointer x0), (1, .string x1)] Go.Proofs.Tryd.func20 rfl rfl (Nat.le_of_ble_eq_true rfl) (args_of ⟨rfl, rfl, trivial⟩) (fun w0 w Q R a hret hE hR H => ?_)
  unfold strings_Builder_WriteString at H
  refine w_seq (fun K hK_1 => ?_)
  refine t_region ?_
  refine t_val (v := .int .i64 0) rfl rfl hE rfl (r_assign hE rfl) (fun a hE => ?_)
  refine t_val (v := Value.nilIface) rfl rfl hE rfl (r_assign hE rfl) (fun a hE => ?_)
  refine t_nil ?_
  refine hK_1 _ _ ?_
  refine w_seq (fun K hK_2 => ?_)
  refine t_region ?_
  refine t_val (v := .pointer x0) rfl rfl hE rfl (r_move hE rfl) (fun a hE => ?_)
  refine t_call hE hR cl_strings_Builder_copyCheck rfl (S_strings_Builder_copyCheck x0) (M.unbind H) (fun x7_3 a w ea hR H => ?_)
  have hE := Env.put_some hE rfl ea; clear ea
  refine t_nil ?_
  refine hK_2 _ _ ?_
  refine w_seq (fun K hK_4 => ?_)
  refine t_region ?_
  refine t_val (v := .pointer x0) rfl rfl hE rfl (r_move hE rfl) (fun a hE => ?_)
  refine t_val (v := .pointer x0) rfl rfl hE rfl (r_move hE rfl) (fun a hE => ?_)
  obtain ⟨x10_5, qx10_5, H⟩ := H
  refine t_val (v := .pointer (some x10_5)) rfl rfl hE rfl (r_nilCheck hE (hx_eq rfl (congrArg Value.pointer qx10_5))) (fun a hE => ?_)
  refine t_val (v := .pointer (some ((x10_5).add 1))) rfl rfl hE rfl (r_fieldAddr hE rfl fd53_1) (fun a hE => ?_)
  obtain ⟨x12_6, qx12_6, H⟩ := H
  refine t_val (v := (x12_6 : Sl).v) rfl rfl hE rfl (r_load hE rfl sc51 qx12_6) (fun a hE => ?_)
  refine t_val (v := .string x1) rfl rfl hE rfl (r_move hE rfl) (fun a hE => ?_)
  refine t_ex (fun x14_7 => (x14_7 : Sl).v) rfl rfl hR (M.unbind H) (fun Q H => apS_run hE rfl rfl ap51 un9 H) (fun x14_7 a w ea hR H => ?_)
  have hE := Env.put_some hE rfl ea; clear ea
  obtain ⟨x15_8, qx15_8, H⟩ := H
  refine t_val (v := .pointer (some x15_8)) rfl rfl hE rfl (r_nilCheck hE (hx_eq rfl (congrArg Value.pointer qx15_8))) (fun a hE => ?_)
  refine t_val (v := .pointer (some ((x15_8).add 1))) rfl rfl hE rfl (r_fieldAddr hE rfl fd53_1) (fun a hE => ?_)
  obtain ⟨u_9, qu_9, H⟩ := H
  refine t_sth rfl rfl hE hR (r_store hE rfl rfl sz51 qu_9) (fun a w hE hR hh => ?_)
  replace H := M.at hh H; clear hh
  refine t_nil ?_
  refine hK_4 _ _ ?_
  refine w_seq (fun K hK_10 => ?_)
  refine t_region ?_
  refine t_val (v := .string x1) rfl rfl hE rfl (r_move hE rfl) (fun a hE => ?_)
  refine t_val (v := .int .i64 (x1.size : Int)) rfl rfl hE rfl (r_lenS hE rfl un9) (fun a hE => ?_)
  refine t_val (v := .int .i64 (x1.size : Int)) rfl rfl hE rfl (r_assign hE rfl) (fun a hE => ?_)
  refine t_val (v := Value.nilIface) rfl rfl hE rfl (r_assign hE rfl) (fun a hE => ?_)
  refine t_nil ?_
  refine hK_10 _ _ ?_
  refine w_ret ?_
  exact hret _ _ _ ((x1.size : Int), Value.nilIface) _ hE hR (res_run hE rfl (RV.tmp rfl (RV.tmp rfl RV.nil))) rfl H

/-- (*strings.Builder).WriteByte -/
def strings_Builder_WriteByte (x0 : Option Addr) (x1 : Int) : M (Value) := do
  let x6_3 ← strings_Builder_copyCheck x0
  let x9_5 ← nilP x0
  let x11_6 ← ldL ((x9_5).add 1)
  let x13_7 ← bdL ty_uint8 1 #[.int .u8 x1]
  let x14_8 ← apL ty_uint8 1 1 (#[.int .u8 0] : Array Value) x11_6 x13_7
  let x15_9 ← nilP x0
  stV ((x15_9).add 1) ((x14_8 : Sl).v)
  M.pure Value.nilIface
theorem S_strings_Builder_WriteByte (x0 : Option Addr) (x1 : Int) : Sound Go.Proofs.Tryd.prog 21 #[.pointer x0, .int .u8 x1] (fun (r : Value) => r) (strings_Builder_WriteByte x0 x1) := by
  refine sound_of [(0, .pointer x0), (1, .int .u8 x1)] Go.Proofs.Tryd.func21 rfl rfl (Nat.le_of_ble_eq_true rfl) (args_of ⟨rfl, rfl, trivial⟩) (fun w0 w Q R a hret hE hR H => ?_)
  unfold strings_Builder_WriteByte at H
  refine w_seq (fun K hK_1 => ?_)
  refine t_region ?_
  refine t_val (v := Value.nilIface) rfl rfl hE rfl (r_assign hE rfl) (fun a hE => ?_)
  refine t_nil ?_
  refine hK_1 _ _ ?_
  refine w_seq (fun K hK_2 => ?_)
  refine t_region ?_
  refine t_val (v := .pointer x0) rfl rfl hE rfl (r_move hE rfl) (fun a hE => ?_)
  refine t_call hE hR cl_strings_Builder_copyCheck rfl (S_strings_Builder_copyCheck x0) (M.unbind H) (fun x6_3 a w ea hR H => ?_)
  have hE := Env.put_some hE rfl ea; clear ea
  refine t_nil ?_
  refine hK_2 _ _ ?_
  refine w_seq (fun K hK_4 => ?_)
  refine t_region ?_
  refine t_val (v := .pointer x0) rfl rfl hE rfl (r_move hE rfl) (fun a hE => ?_)
  refine t_val (v := .pointer x0) rfl rfl hE rfl (r_move hE rfl) (fun a hE => ?_)
  obtain ⟨x9_5, qx9_5, H⟩ := H
  refine t_val (v := .pointer (some x9_5)) rfl rfl hE rfl (r_nilCheck hE (hx_eq rfl (congrArg Value.pointer qx9_5))) (fun a hE => ?_)
  refine t_val (v := .pointer (some ((x9_5).add 1))) rfl rfl hE rfl (r_fieldAddr hE rfl fd53_1) (fun a hE => ?_)
  obtain ⟨x11_6, qx11_6, H⟩ := H
  refine t_val (v := (x11_6 : Sl).v) rfl rfl hE rfl (r_load hE rfl sc51 qx11_6) (fun a hE => ?_)
  refine t_val (v := .int .u8 x1) rfl rfl hE rfl (r_move hE rfl) (fun a hE => ?_)
  obtain ⟨x13_7, qx13_7, H⟩ := H
  refine t_valh (v := (x13_7 : Sl).v) rfl rfl hE rfl hR (r_buildL (cells := #[.int .u8 x1]) hE rfl un51 sz5 zr5 rfl rfl qx13_7) (fun a w hE hR hh => ?_)
  replace H := M.at hh H; clear hh
  refine t_ex (fun x14_8 => (x14_8 : Sl).v) rfl rfl hR (M.unbind H) (fun Q H => ap_run hE rfl rfl ap51 H) (fun x14_8 a w ea hR H => ?_)
  have hE := Env.put_some hE rfl ea; clear ea
  obtain ⟨x15_9, qx15_9, H⟩ := H
  refine t_val (v := .pointer (some x15_9)) rfl rfl hE rfl (r_nilCheck hE (hx_eq rfl (congrArg Value.pointer qx15_9))) (fun a hE => ?_)
  refine t_val (v := .pointer (some ((x15_9).add 1))) rfl rfl hE rfl (r_fieldAddr hE rfl fd53_1) (fun a hE => ?_)
  obtain ⟨u_10, qu_10, H⟩ := H
  refine t_sth rfl rfl hE hR (r_store hE rfl rfl sz51 qu_10) (fun a w hE hR hh => ?_)
  replace H := M.at hh H; clear hh
  refine t_nil ?_
  refine hK_4 _ _ ?_
  refine w_seq (fun K hK_11 => ?_)
  refine t_region ?_
  refine t_val (v := Value.nilIface) rfl rfl hE rfl (r_assign hE rfl) (fun a hE => ?_)
  refine t_nil ?_
  refine hK_11 _ _ ?_
  refine w_ret ?_
  exact hret _ _ _ Value.nilIface _ hE hR (res_run hE rfl (RV.tmp rfl RV.nil)) rfl H

/-- strconv.FormatInt -/
def strconv_FormatInt (x0 : Int) (x1 : Int) : M (ByteArray) := do
  let x7_3 ← callF Go.Proofs.Tryd.prog fn_internal_strconv_FormatInt #[.int .i64 x0, .int .i64 x1] (fun r : ByteArray => .string r)
  M.pure x7_3
theorem S_strconv_FormatInt (x0 : Int) (x1 : Int) : Sound Go.Proofs.Tryd.prog 86 #[.int .i64 x0, .int .i64 x1] (fun (r : ByteArray) => .string r) (strconv_FormatInt x0 x1) := by
  refine sound_of [(0, .int .i64 x0), (1, .int .i64 x1)] Go.Proofs.Tryd.func86 rfl rfl (Nat.le_of_ble_eq_true rfl) (args_of ⟨rfl, rfl, trivial⟩) (fun w0 w Q R a hret hE hR H => ?_)
  unfold strconv_FormatInt at H
  refine w_seq (fun K hK_1 => ?_)
  refine t_region ?_
  refine t_val (v := .string ByteArray.empty) rfl rfl hE rfl (r_assign hE rfl) (fun a hE => ?_)
  refine t_nil ?_
  refine hK_1 _ _ ?_
  refine w_seq (fun K hK_2 => ?_)
  refine t_region ?_
  refine t_val (v := .int .i64 x0) rfl rfl hE rfl (r_move hE rfl) (fun a hE => ?_)
  refine t_val (v := .int .i64 x1) rfl rfl hE rfl (r_move hE rfl) (fun a hE => ?_)
  refine t_call hE hR cl_internal_strconv_FormatInt rfl (sound_callF) (M.unbind H) (fun x7_3 a w ea hR H => ?_)
  have hE := Env.put_some hE rfl ea; clear ea
  refine t_val (v := .string x7_3) rfl rfl hE rfl (r_assign hE rfl) (fun a hE => ?_)
  refine t_nil ?_
  refine hK_2 _ _ ?_
  refine w_ret ?_
  exact hret _ _ _ x7_3 _ hE hR (res_run hE rfl (RV.tmp rfl RV.nil)) rfl H

/-- ramble/num.Text -/
def num_Text (x0 : Int) : M (ByteArray) := do
  let x4_3 ← strconv_FormatInt x0 10
  M.pure x4_3
theorem S_num_Text (x0 : Int) : Sound Go.Proofs.Tryd.prog 67 #[.int .i64 x0] (fun (r : ByteArray) => .string r) (num_Text x0) := by
  refine sound_of [(0, .int .i64 x0)] Go.Proofs.Tryd.func67 rfl rfl (Nat.le_of_ble_eq_true rfl) (args_of ⟨rfl, trivial⟩) (fun w0 w Q R a hret hE hR H => ?_)
  unfold num_Text at H
  refine w_seq (fun K hK_1 => ?_)
  refine t_region ?_
  refine t_val (v := .string ByteArray.empty) rfl rfl hE rfl (r_assign hE rfl) (fun a hE => ?_)
  refine t_nil ?_
  refine hK_1 _ _ ?_
  refine w_seq (fun K hK_2 => ?_)
  refine t_region ?_
  refine t_val (v := .int .i64 x0) rfl rfl hE rfl (r_move hE rfl) (fun a hE => ?_)
  refine t_call hE hR cl_strconv_FormatInt rfl (S_strconv_FormatInt x0 10) (M.unbind H) (fun x4_3 a w ea hR H => ?_)
  have hE := Env.put_some hE rfl ea; clear ea
  refine t_val (v := .string x4_3) rfl rfl hE rfl (r_assign hE rfl) (fun a hE => ?_)
  refine t_nil ?_
  refine hK_2 _ _ ?_
  refine w_ret ?_
  exact hret _ _ _ x4_3 _ hE hR (res_run hE rfl (RV.tmp rfl RV.nil)) rfl H

/-- ramble/value.quote -/
def value_quote_j1 (self1 : (Int) → M (ByteArray)) (c10_19 : Int) : M (ByteArray) := do
  self1 (IntKind.wrap .i64 (c10_19 + 1))
def value_quote_l1 (c3_10 : Addr) (c8_11 : Sl) (c9_12 : Int) (self1 : (Int) → M (ByteArray)) : (Int) → M (ByteArray) := fun s => match s with
  | x10_9 => do
    M.ite (decide (x10_9 < c9_12)) (do
      let x12_21 ← ixL c8_11 x10_9 1
      let x13_22 ← ldI .u8 x12_21
      let x22_24 ← M.ite (decide (x13_22 < 32)) (do
        M.pure true
        ) (do
        M.pure (decide (x13_22 > 126))
        )
      M.ite x22_24 (do
        let x23_26 ← strings_Builder_WriteString (some c3_10) (⟨#[92, 120]⟩ : ByteArray)
        let x27_28 ← strconv_FormatInt (IntKind.wrap .i64 (iShr .u8 x13_22 4)) 16
        let x28_29 ← strings_Builder_WriteString (some c3_10) x27_28
        let x32_30 ← strconv_FormatInt (IntKind.wrap .i64 (iAnd .u8 x13_22 15)) 16
        let x33_31 ← strings_Builder_WriteString (some c3_10) x32_30
        value_quote_j1 self1 x10_9
        ) (do
        let x40_33 ← M.ite (x13_22 == 39) (do
          M.pure true
          ) (do
          M.pure (x13_22 == 92)
          )
        M.ite x40_33 (do
          let x41_35 ← strings_Builder_WriteByte (some c3_10) 92
          let x43_36 ← strings_Builder_WriteByte (some c3_10) x13_22
          value_quote_j1 self1 x10_9
          ) (do
          let x15_37 ← strings_Builder_WriteByte (some c3_10) x13_22
          value_quote_j1 self1 x10_9
          )
        )
      ) (do
      let x45_39 ← strings_Builder_WriteByte (some c3_10) 39
      let x46_41 ← strings_Builder_String (some c3_10)
      M.pure x46_41
      )
def value_quote (x0 : ByteArray) : M (ByteArray) := do
  let x3_3 ← mkB ty_strings_Builder (#[.pointer none, .slice none 0 0] : Array Value)
  let x6_5 ← strings_Builder_WriteByte (some x3_3) 39
  let x8_8 ← s2b ty_uint8 x0
  M.loop (value_quote_l1 x3_3 x8_8 (x8_8.len : Int)) 0
theorem S_value_quote (x0 : ByteArray) : Sound Go.Proofs.Tryd.prog 68 #[.string x0] (fun (r : ByteArray) => .string r) (value_quote x0) := by
  refine sound_of [(0, .string x0)] Go.Proofs.Tryd.func68 rfl rfl (Nat.le_of_ble_eq_true rfl) (args_of ⟨rfl, trivial⟩) (fun w0 w Q R a hret hE hR H => ?_)
  unfold value_quote at H
  refine w_seq (fun K hK_1 => ?_)
  refine t_region ?_
  refine t_val (v := .string ByteArray.empty) rfl rfl hE rfl (r_assign hE rfl) (fun a hE => ?_)
  refine t_nil ?_
  refine hK_1 _ _ ?_
  refine w_seq (fun K hK_2 => ?_)
  refine t_region ?_
  obtain ⟨x3_3, qx3_3, H⟩ := H
  refine t_valh (v := .pointer (some x3_3)) rfl rfl hE rfl hR (r_alloc zr53 qx3_3) (fun a w hE hR hh => ?_)
  replace H := M.at hh H; clear hh
  refine t_nil ?_
  refine hK_2 _ _ ?_
  refine w_seq (fun K hK_4 => ?_)
  refine t_region ?_
  refine t_call hE hR cl_strings_Builder_WriteByte rfl (S_strings_Builder_WriteByte (some x3_3) 39) (M.unbind H) (fun x6_5 a w ea hR H => ?_)
  have hE := Env.put_some hE rfl ea; clear ea
  refine t_nil ?_
  refine hK_4 _ _ ?_
  refine w_seq (fun K hK_6 => ?_)
  refine w_seq (fun K hK_7 => ?_)
  refine t_region ?_
  refine t_val (v := .string x0) rfl rfl hE rfl (r_move hE rfl) (fun a hE => ?_)
  refine t_ex (fun x8_8 => (x8_8 : Sl).v) rfl rfl hR (M.unbind H) (fun Q H => s2b_run hE rfl un9 un51 un5 H) (fun x8_8 a w ea hR H => ?_)
  have hE := Env.put_some hE rfl ea; clear ea
  refine t_val (v := .int .i64 (x8_8.len : Int)) rfl rfl hE rfl (r_len hE rfl 5 un51) (fun a hE => ?_)
  refine t_val (v := .int .i64 0) rfl rfl hE rfl (r_move hE rfl) (fun a hE => ?_)
  refine t_nil ?_
  refine hK_7 _ _ ?_
  refine w_block ?_
  refine l_loop (fun (s : Int) => (⟨47, []⟩ : Frm)) (fun (s : Int) => [(3, .pointer (some x3_3)), (8, (x8_8 : Sl).v), (9, .int .i64 (x8_8.len : Int)), (10, .int .i64 s)]) H (hE.cut (.cons rfl (.cons rfl (.cons rfl (.cons rfl Subs.nil))))) hR (fun Y self1 hY_13 x10_9 a w hE hR H => ?_)
  replace hE : Env (⟨47, []⟩ : Frm) a [(3, .pointer (some x3_3)), (8, (x8_8 : Sl).v), (9, .int .i64 (x8_8.len : Int)), (10, .int .i64 x10_9)] := hE
  replace H : (value_quote_l1 x3_3 x8_8 (x8_8.len : Int) self1 x10_9).wp w.heap Q := H
  unfold value_quote_l1 at H
  refine w_seq (fun K hK_14 => ?_)
  refine t_region ?_
  refine t_val (v := .bool (decide (x10_9 < (x8_8.len : Int)))) rfl rfl hE rfl (r_bin hE rfl rfl g_int b_lss) (fun a hE => ?_)
  refine t_nil ?_
  refine hK_14 _ _ ?_
  refine w_seq (fun K hK_15 => ?_)
  refine w_cond (decide (x10_9 < (x8_8.len : Int))) hE rfl (fun hb => ?_) (fun hb => ?_)
  · replace H := M.ite_t hb H
    refine w_skip ?_
    refine hK_15 _ _ ?_
    refine w_seq_join (fun a w => Env (⟨47, []⟩ : Frm) a [(3, .pointer (some x3_3)), (8, (x8_8 : Sl).v), (9, .int .i64 (x8_8.len : Int)), (10, .int .i64 x10_9)] ∧ Rest w0 w ∧ (value_quote_j1 self1 x10_9).wp w.heap Q) ?_ ?_
    · rintro a w ⟨hE, hR, H⟩
      unfold value_quote_j1 at H
      refine t_region ?_
      refine t_val (v := .int .i64 (IntKind.wrap .i64 (x10_9 + 1))) rfl rfl hE rfl (r_bin hE rfl rfl g_int b_add) (fun a hE => ?_)
      refine t_val (v := .int .i64 (IntKind.wrap .i64 (x10_9 + 1))) rfl rfl hE rfl (r_move hE rfl) (fun a hE => ?_)
      refine t_nil ?_
      exact hY_13 (IntKind.wrap .i64 (x10_9 + 1)) _ _ (hE.cut (.cons rfl (.cons rfl (.cons rfl (.cons rfl Subs.nil))))) hR H
    · skip
      refine w_block ?_
      refine w_seq (fun K hK_20 => ?_)
      refine t_region ?_
      obtain ⟨x12_21, qx12_21, H⟩ := H
      refine t_val (v := .pointer (some x12_21)) rfl rfl hE rfl (r_indexAddrL hE rfl rfl un51 sz5 qx12_21) (fun a hE => ?_)
      obtain ⟨x13_22, qx13_22, H⟩ := H
      refine t_val (v := .int .u8 x13_22) rfl rfl hE rfl (r_load hE rfl sc5 qx13_22) (fun a hE => ?_)
      refine t_val (v := .int .u8 x13_22) rfl rfl hE rfl (r_assign hE rfl) (fun a hE => ?_)
      refine t_nil ?_
      refine hK_20 _ _ ?_
      refine w_block ?_
      refine w_seq (fun K hK_23 => ?_)
      refine t_region ?_
      refine t_val (v := .int .u8 x13_22) rfl rfl hE rfl (r_move hE rfl) (fun a hE => ?_)
      refine t_val (v := .bool (decide (x13_22 < 32))) rfl rfl hE rfl (r_bin hE rfl rfl g_int b_lss) (fun a hE => ?_)
      refine t_val (v := .bool (decide (x13_22 < 32))) rfl rfl hE rfl (r_move hE rfl) (fun a hE => ?_)
      refine t_grp (n := (⟨47, []⟩ : Frm)) (w0 := w0) 3 (fun x22_24 : Bool => [(3, .pointer (some x3_3)), (8, (x8_8 : Sl).v), (9, .int .i64 (x8_8.len : Int)), (10, .int .i64 x10_9), (5, .int .u8 x13_22), (22, .bool x22_24)]) (M.unbind H) (fun Kr hKr H => ?_) ?_
      · rcases bool_em (decide (x13_22 < 32)) with hb | hb
        · replace H := M.ite_t hb H
          have hE := hE.reb 19 (decide (x13_22 < 32)) true hb rfl
          refine t_off rfl hE rfl rfl rfl (fun a ea => ?_)
          have hE := Env.put_some hE rfl ea; clear ea
          refine t_off rfl hE rfl rfl rfl (fun a ea => ?_)
          have hE := Env.put_some hE rfl ea; clear ea
          refine t_val rfl rfl hE rfl (r_pick_t hE rfl rfl) (fun a hE => ?_)
          refine t_nil ?_
          exact hKr _ _ _ (hE.cut (.cons rfl (.cons rfl (.cons rfl (.cons rfl (.cons rfl (.cons rfl Subs.nil))))))) hR H
        · replace H := M.ite_f hb H
          have hE := hE.reb 19 (decide (x13_22 < 32)) false hb rfl
          refine t_on rfl hE rfl rfl rfl ?_
          refine t_val (v := .int .u8 x13_22) rfl rfl hE rfl (r_move hE rfl) (fun a hE => ?_)
          refine t_on rfl hE rfl rfl rfl ?_
          refine t_val (v := .bool (decide (x13_22 > 126))) rfl rfl hE rfl (r_bin hE rfl rfl g_int b_gtr) (fun a hE => ?_)
          refine t_val rfl rfl hE rfl (r_pick_f hE rfl rfl) (fun a hE => ?_)
          refine t_nil ?_
          exact hKr _ _ _ (hE.cut (.cons rfl (.cons rfl (.cons rfl (.cons rfl (.cons rfl (.cons rfl Subs.nil))))))) hR H
      · intro x22_24 a w hE hR H
        refine t_val (v := .bool x22_24) rfl rfl hE rfl (r_assign hE rfl) (fun a hE => ?_)
        refine t_nil ?_
        refine hK_23 _ _ ?_
        refine w_cond x22_24 hE rfl (fun hb => ?_) (fun hb => ?_)
        · replace H := M.ite_t hb H
          refine w_seq (fun K hK_25 => ?_)
          refine t_region ?_
          refine t_call hE hR cl_strings_Builder_WriteString rfl (S_strings_Builder_WriteString (some x3_3) (⟨#[92, 120]⟩ : ByteArray)) (M.unbind H) (fun x23_26 a w ea hR H => ?_)
          have hE := Env.put_some hE rfl ea; clear ea
          refine t_nil ?_
          refine hK_25 _ _ ?_
          refine w_seq (fun K hK_27 => ?_)
          refine t_region ?_
          refine t_val (v := .int .u8 x13_22) rfl rfl hE rfl (r_move hE rfl) (fun a hE => ?_)
          refine t_val (v := .int .u8 (iShr .u8 x13_22 4)) rfl rfl hE rfl (r_bin hE rfl rfl g_int (b_shr ⟨by decide, rfl⟩)) (fun a hE => ?_)
          refine t_val (v := .int .i64 (IntKind.wrap .i64 (iShr .u8 x13_22 4))) rfl rfl hE rfl (r_convI hE rfl un5 un2) (fun a hE => ?_)
          refine t_call hE hR cl_strconv_FormatInt rfl (S_strconv_FormatInt (IntKind.wrap .i64 (iShr .u8 x13_22 4)) 16) (M.unbind H) (fun x27_28 a w ea hR H => ?_)
          have hE := Env.put_some hE rfl ea; clear ea
          refine t_call hE hR cl_strings_Builder_WriteString rfl (S_strings_Builder_WriteString (some x3_3) x27_28) (M.unbind H) (fun x28_29 a w ea hR H => ?_)
          have hE := Env.put_some hE rfl ea; clear ea
          refine t_nil ?_
          refine hK_27 _ _ ?_
          refine t_region ?_
          refine t_val (v := .int .u8 x13_22) rfl rfl hE rfl (r_move hE rfl) (fun a hE => ?_)
          refine t_val (v := .int .u8 (iAnd .u8 x13_22 15)) rfl rfl hE rfl (r_bin hE rfl rfl g_int b_and) (fun a hE => ?_)
          refine t_val (v := .int .i64 (IntKind.wrap .i64 (iAnd .u8 x13_22 15))) rfl rfl hE rfl (r_convI hE rfl un5 un2) (fun a hE => ?_)
          refine t_call hE hR cl_strconv_FormatInt rfl (S_strconv_FormatInt (IntKind.wrap .i64 (iAnd .u8 x13_22 15)) 16) (M.unbind H) (fun x32_30 a w ea hR H => ?_)
          have hE := Env.put_some hE rfl ea; clear ea
          refine t_call hE hR cl_strings_Builder_WriteString rfl (S_strings_Builder_WriteString (some x3_3) x32_30) (M.unbind H) (fun x33_31 a w ea hR H => ?_)
          have hE := Env.put_some hE rfl ea; clear ea
          refine t_nil ?_
          exact ⟨hE.cut (.cons rfl (.cons rfl (.cons rfl (.cons rfl Subs.nil)))), hR, H⟩
        · replace H := M.ite_f hb H
          refine w_seq (fun K hK_32 => ?_)
          refine t_region ?_
          refine t_val (v := .int .u8 x13_22) rfl rfl hE rfl (r_move hE rfl) (fun a hE => ?_)
          refine t_val (v := .bool (x13_22 == 39)) rfl rfl hE rfl (r_bin hE rfl rfl g_int b_eql) (fun a hE => ?_)
          refine t_val (v := .bool (x13_22 == 39)) rfl rfl hE rfl (r_move hE rfl) (fun a hE => ?_)
          refine t_grp (n := (⟨47, []⟩ : Frm)) (w0 := w0) 3 (fun x40_33 : Bool => [(3, .pointer (some x3_3)), (8, (x8_8 : Sl).v), (9, .int .i64 (x8_8.len : Int)), (10, .int .i64 x10_9), (5, .int .u8 x13_22), (40, .bool x40_33)]) (M.unbind H) (fun Kr hKr H => ?_) ?_
          · rcases bool_em (x13_22 == 39) with hb | hb
            · replace H := M.ite_t hb H
              have hE := hE.reb 37 (x13_22 == 39) true hb rfl
              refine t_off rfl hE rfl rfl rfl (fun a ea => ?_)
              have hE := Env.put_some hE rfl ea; clear ea
              refine t_off rfl hE rfl rfl rfl (fun a ea => ?_)
              have hE := Env.put_some hE rfl ea; clear ea
              refine t_val rfl rfl hE rfl (r_pick_t hE rfl rfl) (fun a hE => ?_)
              refine t_nil ?_
              exact hKr _ _ _ (hE.cut (.cons rfl (.cons rfl (.cons rfl (.cons rfl (.cons rfl (.cons rfl Subs.nil))))))) hR H
            · replace H := M.ite_f hb H
              have hE := hE.reb 37 (x13_22 == 39) false hb rfl
              refine t_on rfl hE rfl rfl rfl ?_
              refine t_val (v := .int .u8 x13_22) rfl rfl hE rfl (r_move hE rfl) (fun a hE => ?_)
              refine t_on rfl hE rfl rfl rfl ?_
              refine t_val (v := .bool (x13_22 == 92)) rfl rfl hE rfl (r_bin hE rfl rfl g_int b_eql) (fun a hE => ?_)
              refine t_val rfl rfl hE rfl (r_pick_f hE rfl rfl) (fun a hE => ?_)
              refine t_nil ?_
              exact hKr _ _ _ (hE.cut (.cons rfl (.cons rfl (.cons rfl (.cons rfl (.cons rfl (.cons rfl Subs.nil))))))) hR H
          · intro x40_33 a w hE hR H
            refine t_val (v := .bool x40_33) rfl rfl hE rfl (r_assign hE rfl) (fun a hE => ?_)
            refine t_nil ?_
            refine hK_32 _ _ ?_
            refine w_cond x40_33 hE rfl (fun hb => ?_) (fun hb => ?_)
            · replace H := M.ite_t hb H
              refine w_seq (fun K hK_34 => ?_)
              refine t_region ?_
              refine t_call hE hR cl_strings_Builder_WriteByte rfl (S_strings_Builder_WriteByte (some x3_3) 92) (M.unbind H) (fun x41_35 a w ea hR H => ?_)
              have hE := Env.put_some hE rfl ea; clear ea
              refine t_nil ?_
              refine hK_34 _ _ ?_
              refine t_region ?_
              refine t_val (v := .int .u8 x13_22) rfl rfl hE rfl (r_move hE rfl) (fun a hE => ?_)
              refine t_call hE hR cl_strings_Builder_WriteByte rfl (S_strings_Builder_WriteByte (some x3_3) x13_22) (M.unbind H) (fun x43_36 a w ea hR H => ?_)
              have hE := Env.put_some hE rfl ea; clear ea
              refine t_nil ?_
              exact ⟨hE.cut (.cons rfl (.cons rfl (.cons rfl (.cons rfl Subs.nil)))), hR, H⟩
            · replace H := M.ite_f hb H
              refine t_region ?_
              refine t_val (v := .int .u8 x13_22) rfl rfl hE rfl (r_move hE rfl) (fun a hE => ?_)
              refine t_call hE hR cl_strings_Builder_WriteByte rfl (S_strings_Builder_WriteByte (some x3_3) x13_22) (M.unbind H) (fun x15_37 a w ea hR H => ?_)
              have hE := Env.put_some hE rfl ea; clear ea
              refine t_nil ?_
              exact ⟨hE.cut (.cons rfl (.cons rfl (.cons rfl (.cons rfl Subs.nil)))), hR, H⟩
  · replace H := M.ite_f hb H
    refine w_exit ?_
    refine Xu.same ?_
    refine hK_6 _ _ ?_
    refine w_seq (fun K hK_38 => ?_)
    refine t_region ?_
    refine t_call hE hR cl_strings_Builder_WriteByte rfl (S_strings_Builder_WriteByte (some x3_3) 39) (M.unbind H) (fun x45_39 a w ea hR H => ?_)
    have hE := Env.put_some hE rfl ea; clear ea
    refine t_nil ?_
    refine hK_38 _ _ ?_
    refine w_seq (fun K hK_40 => ?_)
    refine t_region ?_
    refine t_call hE hR cl_strings_Builder_String rfl (S_strings_Builder_String (some x3_3)) (M.unbind H) (fun x46_41 a w ea hR H => ?_)
    have hE := Env.put_some hE rfl ea; clear ea
    refine t_val (v := .string x46_41) rfl rfl hE rfl (r_assign hE rfl) (fun a hE => ?_)
    refine t_nil ?_
    refine hK_40 _ _ ?_
    refine w_ret ?_
    exact hret _ _ _ x46_41 _ hE hR (res_run hE rfl (RV.tmp rfl RV.nil)) rfl H

end Gx
