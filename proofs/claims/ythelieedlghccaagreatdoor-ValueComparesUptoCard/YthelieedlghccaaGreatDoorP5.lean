/- Printed by program: Go functions as Lean programs, each tied to its code. No condition. -/
import Derived.Test.YthelieedlghccaaGreatDoorP0
import Derived.Test.YthelieedlghccaaGreatDoorP1
import Derived.Test.YthelieedlghccaaGreatDoorP2
import Derived.Test.YthelieedlghccaaGreatDoorP3
import Derived.Test.YthelieedlghccaaGreatDoorP4
set_option linter.unusedVariables false
set_option linter.unusedSimpArgs false
namespace Gx
open Go
set_option linter.unusedVariables false
set_option maxRecDepth 100000
def ramblelaw02_ValueCompares_l2 (self1 : (Int) → M (Bool)) (c9_55 : Addr) (c10_56 : Int) (c64_58 : Int) (c82_59 : Int) (self2 : (Int) → M (Bool)) : (Int) → M (Bool) := fun s => match s with
  | x83_53 => do
    M.ite (decide (x83_53 < c82_59)) (do
      let x87_65 ← ldL ((c9_55).add 3)
      let x89_66 ← ixL x87_65 c10_56 4
      let x91_67 ← ldL ((x89_66).add 3)
      let x93_68 ← ixL x91_67 x83_53 4
      let x95_69 ← ldI .i64 ((x93_68).add 0)
      let x97_70 ← ixL x91_67 x83_53 4
      stV ((x97_70).add 0) (.int .i64 (IntKind.wrap .i64 (x95_69 + 1)))
      self2 (IntKind.wrap .i64 (x83_53 + 1))
      ) (do
      self1 (IntKind.wrap .i64 (c64_58 + 1))
      )
theorem tb7_18 : tabAt Go.Proofs.Tryz.f7 18 [[], [], [1], [0, 2, 2], [3, 3, 0, 1, 2, 3]] [[], [], [1], [0, 2], [3]] [[], [], [1], [0, 1, 2], [0, 1, 2, 3]] = true := by kernel_rfl
def ramblelaw02_ValueCompares_l1 (c2_35 : Addr) (c9_36 : Addr) (c63_37 : Int) (self1 : (Int) → M (Bool)) : (Int) → M (Bool) := fun s => match s with
  | x64_34 => do
    M.ite (decide (x64_34 < c63_37)) (do
      let x68_44 ← ldL ((c9_36).add 3)
      let x70_45 ← ixL x68_44 x64_34 4
      let x72_46 ← ldI .i64 ((x70_45).add 1)
      let x74_47 ← ixL x68_44 x64_34 4
      stV ((x74_47).add 1) (.int .i64 (IntKind.wrap .i64 (x72_46 + 1)))
      let x77_50 ← ldL ((c9_36).add 3)
      let x79_51 ← ixL x77_50 x64_34 4
      let x81_52 ← ldL ((x79_51).add 3)
      M.loop (ramblelaw02_ValueCompares_l2 self1 c9_36 x64_34 x64_34 (x81_52.len : Int)) 0
      ) (do
      let x101_73 ← ldG 4 c2_35
      let x102_74 ← ldG 4 c2_35
      let x103_75 ← value_Clone x102_74
      chk (fun h : Heap => (x101_73.size = 4 ∧ ∀ i, i < 4 → hcell h (Addr.add c2_35 i) = x101_73[i]?) ∧ (x102_74.size = 4 ∧ ∀ i, i < 4 → hcell h (Addr.add c2_35 i) = x102_74[i]?))
      let x104_76 ← rambleref02_Same x101_73 x103_75
      M.pure x104_76
      )
def ramblelaw02_ValueCompares_j1 (c2_18 : Addr) (x54_17 : Bool) : M (Bool) := do
  M.ite x54_17 (do
    M.pure false
    ) (do
    let x55_21 ← ldG 4 c2_18
    let x56_22 ← value_Clone x55_21
    let x9_23 ← mkB ty_api_Value (#[.int .i64 0, .int .i64 0, .string ByteArray.empty, .slice none 0 0] : Array Value)
    M.need (x56_22.size = 4)
    stG x9_23 x56_22
    let x57_27 ← ldG 4 c2_18
    let x58_28 ← ldG 4 x9_23
    let x59_29 ← rambleref02_Same x57_27 x58_28
    M.ite (!x59_29) (do
      M.pure false
      ) (do
      let x62_33 ← ldL ((x9_23).add 3)
      M.loop (ramblelaw02_ValueCompares_l1 c2_18 x9_23 (x62_33.len : Int)) 0
      )
    )
noncomputable def ro7_3 : Array Oper := opsOf Go.Proofs.Tryz.f7 3
def tE7_3 : List (List Nat) := [[], [0], [1, 0], [2], [2], [3, 4, 2, 2], [2], [2], [6, 7, 5, 2], [5, 8, 2], [2, 9], [10, 8], [11], [11], [12, 13, 11, 11], [11], [11], [15, 16, 14, 11], [14, 17, 11], [11, 18], [19, 17], [20], [20], [21, 22, 20, 20], [23, 20], [20, 24], [25, 23], [26], [26], [27, 28, 26], [26, 29]]
def tC7_3 : List (List Nat) := [[], [0], [1], [2], [2], [2, 3, 4], [2], [2], [2, 6, 7], [2, 5, 8], [2, 9], [10], [11], [11], [11, 12, 13], [11], [11], [11, 15, 16], [11, 14, 17], [11, 18], [19], [20], [20], [20, 21, 22], [20, 23], [20, 24], [25], [26], [26], [26, 27, 28], [26, 29]]
def tW7_3 : List (List Nat) := [[], [0], [0, 1], [0, 1, 2], [0, 1, 2], [0, 1, 2, 3, 4], [0, 1, 2], [0, 1, 2], [0, 1, 2, 3, 4, 5, 6, 7], [0, 1, 2, 3, 4, 5, 6, 7, 8], [0, 1, 2, 3, 4, 5, 6, 7, 8, 9], [0, 1, 2, 3, 4, 5, 6, 7, 8, 9, 10], [0, 1, 2, 3, 4, 5, 6, 7, 8, 9, 10, 11], [0, 1, 2, 3, 4, 5, 6, 7, 8, 9, 10, 11], [0, 1, 2, 3, 4, 5, 6, 7, 8, 9, 10, 11, 12, 13], [0, 1, 2, 3, 4, 5, 6, 7, 8, 9, 10, 11], [0, 1, 2, 3, 4, 5, 6, 7, 8, 9, 10, 11], [0, 1, 2, 3, 4, 5, 6, 7, 8, 9, 10, 11, 12, 13, 14, 15, 16], [0, 1, 2, 3, 4, 5, 6, 7, 8, 9, 10, 11, 12, 13, 14, 15, 16, 17], [0, 1, 2, 3, 4, 5, 6, 7, 8, 9, 10, 11, 12, 13, 14, 15, 16, 17, 18], [0, 1, 2, 3, 4, 5, 6, 7, 8, 9, 10, 11, 12, 13, 14, 15, 16, 17, 18, 19], [0, 1, 2, 3, 4, 5, 6, 7, 8, 9, 10, 11, 12, 13, 14, 15, 16, 17, 18, 19, 20], [0, 1, 2, 3, 4, 5, 6, 7, 8, 9, 10, 11, 12, 13, 14, 15, 16, 17, 18, 19, 20], [0, 1, 2, 3, 4, 5, 6, 7, 8, 9, 10, 11, 12, 13, 14, 15, 16, 17, 18, 19, 20, 21, 22], [0, 1, 2, 3, 4, 5, 6, 7, 8, 9, 10, 11, 12, 13, 14, 15, 16, 17, 18, 19, 20, 21, 22, 23], [0, 1, 2, 3, 4, 5, 6, 7, 8, 9, 10, 11, 12, 13, 14, 15, 16, 17, 18, 19, 20, 21, 22, 23, 24], [0, 1, 2, 3, 4, 5, 6, 7, 8, 9, 10, 11, 12, 13, 14, 15, 16, 17, 18, 19, 20, 21, 22, 23, 24, 25], [0, 1, 2, 3, 4, 5, 6, 7, 8, 9, 10, 11, 12, 13, 14, 15, 16, 17, 18, 19, 20, 21, 22, 23, 24, 25, 26], [0, 1, 2, 3, 4, 5, 6, 7, 8, 9, 10, 11, 12, 13, 14, 15, 16, 17, 18, 19, 20, 21, 22, 23, 24, 25, 26], [0, 1, 2, 3, 4, 5, 6, 7, 8, 9, 10, 11, 12, 13, 14, 15, 16, 17, 18, 19, 20, 21, 22, 23, 24, 25, 26, 27, 28], [0, 1, 2, 3, 4, 5, 6, 7, 8, 9, 10, 11, 12, 13, 14, 15, 16, 17, 18, 19, 20, 21, 22, 23, 24, 25, 26, 27, 28, 29]]
theorem tb7_3 : tabAt Go.Proofs.Tryz.f7 3 tE7_3 tC7_3 tW7_3 = true := by kernel_rfl
theorem tb7_3m : tabMB 31 tE7_3 tC7_3 tW7_3 [0, 1, 3, 4, 4, 28, 4, 4, 228, 292, 516, 1280, 2048, 2048, 14336, 2048, 2048, 116736, 149504, 264192, 655360, 1048576, 1048576, 7340032, 9437184, 17825792, 41943040, 67108864, 67108864, 469762048, 603979776] [0, 1, 2, 4, 4, 28, 4, 4, 196, 292, 516, 1024, 2048, 2048, 14336, 2048, 2048, 100352, 149504, 264192, 524288, 1048576, 1048576, 7340032, 9437184, 17825792, 33554432, 67108864, 67108864, 469762048, 603979776] [0, 1, 3, 7, 7, 31, 7, 7, 255, 511, 1023, 2047, 4095, 4095, 16383, 4095, 4095, 131071, 262143, 524287, 1048575, 2097151, 2097151, 8388607, 16777215, 33554431, 67108863, 134217727, 134217727, 536870911, 1073741823] = true := by kernel_rfl
def ramblelaw02_ValueCompares (x0 : Array Value) (x1 : Array Value) : M (Bool) := do
  let x2_2 ← mkB ty_api_Value x0
  let x3_3 ← mkB ty_api_Value x1
  let x13_5 ← ldG 4 x2_2
  let x14_6 ← ldG 4 x3_3
  let x15_7 ← value_Get x13_5 x14_6
  let x5_8 ← mkB ty_api_Value (#[.int .i64 0, .int .i64 0, .string ByteArray.empty, .slice none 0 0] : Array Value)
  M.need (x15_7.1.size = 4)
  stG x5_8 x15_7.1
  let x19_11 ← ldG 4 x2_2
  let x20_12 ← ldG 4 x3_3
  let x21_13 ← rambleref02_Get x19_11 x20_12
  let x7_14 ← mkB ty_api_Value (#[.int .i64 0, .int .i64 0, .string ByteArray.empty, .slice none 0 0] : Array Value)
  M.need (x21_13.1.size = 4)
  stG x7_14 x21_13.1
  let x24_77 ← ramblelaw02_begun
  M.ite (!x24_77) (do
    ramblelaw02_ValueCompares_j1 x2_2 true
    ) (do
    let x27_79 ← ldG 4 x2_2
    let x28_80 ← ldG 4 x3_3
    let x30_81 ← ldG 4 x2_2
    let x31_82 ← ldG 4 x3_3
    let x29_83 ← value_Compare x27_79 x28_80
    chk (fun h : Heap => (x27_79.size = 4 ∧ ∀ i, i < 4 → hcell h (Addr.add x2_2 i) = x27_79[i]?) ∧ (x28_80.size = 4 ∧ ∀ i, i < 4 → hcell h (Addr.add x3_3 i) = x28_80[i]?) ∧ (x30_81.size = 4 ∧ ∀ i, i < 4 → hcell h (Addr.add x2_2 i) = x30_81[i]?) ∧ (x31_82.size = 4 ∧ ∀ i, i < 4 → hcell h (Addr.add x3_3 i) = x31_82[i]?))
    let x32_84 ← rambleref02_Compare x30_81 x31_82
    M.ite (x29_83 != x32_84) (do
      ramblelaw02_ValueCompares_j1 x2_2 true
      ) (do
      let x36_86 ← ldG 4 x2_2
      let x37_87 ← ldG 4 x3_3
      let x39_88 ← ldG 4 x2_2
      let x40_89 ← ldG 4 x3_3
      let x38_90 ← value_Same x36_86 x37_87
      chk (fun h : Heap => (x36_86.size = 4 ∧ ∀ i, i < 4 → hcell h (Addr.add x2_2 i) = x36_86[i]?) ∧ (x37_87.size = 4 ∧ ∀ i, i < 4 → hcell h (Addr.add x3_3 i) = x37_87[i]?) ∧ (x39_88.size = 4 ∧ ∀ i, i < 4 → hcell h (Addr.add x2_2 i) = x39_88[i]?) ∧ (x40_89.size = 4 ∧ ∀ i, i < 4 → hcell h (Addr.add x3_3 i) = x40_89[i]?))
      let x41_91 ← rambleref02_Same x39_88 x40_89
      M.ite (x38_90 != x41_91) (do
        ramblelaw02_ValueCompares_j1 x2_2 true
        ) (do
        let x45_93 ← ldG 4 x5_8
        let x46_94 ← ldG 4 x7_14
        let x47_95 ← rambleref02_Same x45_93 x46_94
        M.ite (!x47_95) (do
          ramblelaw02_ValueCompares_j1 x2_2 true
          ) (do
          ramblelaw02_ValueCompares_j1 x2_2 (x15_7.2 != x21_13.2)
          )
        )
      )
    )
theorem S_ramblelaw02_ValueCompares (x0 : Array Value) (x1 : Array Value) : Sound Go.Proofs.Tryz.prog 7 #[.agg x0, .agg x1] (fun (r : Bool) => .bool r) (ramblelaw02_ValueCompares x0 x1) := by
  refine sound_of [(0, .agg x0), (1, .agg x1)] Go.Proofs.Tryz.func7 rfl rfl (Nat.le_of_ble_eq_true rfl) (args_of ⟨rfl, rfl, trivial⟩) (fun w0 w Q R a hret hE hR H => ?_)
  unfold ramblelaw02_ValueCompares at H
  refine w_seq (fun K hK_1 => ?_)
  refine t_region ?_
  obtain ⟨x2_2, qx2_2, H⟩ := H
  refine t_valh (v := .pointer (some x2_2)) rfl rfl hE rfl hR (r_box hE rfl qx2_2) (fun a w hE hR hh => ?_)
  replace H := M.at hh H; clear hh
  obtain ⟨x3_3, qx3_3, H⟩ := H
  refine t_valh (v := .pointer (some x3_3)) rfl rfl hE rfl hR (r_box hE rfl qx3_3) (fun a w hE hR hh => ?_)
  replace H := M.at hh H; clear hh
  refine t_val (v := .bool false) rfl rfl hE rfl (r_assign hE rfl) (fun a hE => ?_)
  refine t_nil ?_
  refine hK_1 _ _ ?_
  refine w_seq (fun K hK_4 => ?_)
  refine t_region ?_
  obtain ⟨x13_5, qx13_5, H⟩ := H
  refine t_val (v := .agg x13_5) rfl rfl hE rfl (r_loadG hE rfl ag24 qx13_5) (fun a hE => ?_)
  obtain ⟨x14_6, qx14_6, H⟩ := H
  refine t_val (v := .agg x14_6) rfl rfl hE rfl (r_loadG hE rfl ag24 qx14_6) (fun a hE => ?_)
  refine t_call hE hR cl_value_Get rfl (S_value_Get x13_5 x14_6) (M.unbind H) (fun x15_7 a w ea hR H => ?_)
  have hE := Env.put_some hE rfl ea; clear ea
  refine t_val (v := .tuple #[.agg x15_7.1, .bool x15_7.2]) rfl rfl hE rfl (r_move hE rfl) (fun a hE => ?_)
  refine t_val (v := .agg x15_7.1) rfl rfl hE rfl (r_extract hE rfl rfl) (fun a hE => ?_)
  refine t_val (v := .bool x15_7.2) rfl rfl hE rfl (r_extract hE rfl rfl) (fun a hE => ?_)
  obtain ⟨x5_8, qx5_8, H⟩ := H
  refine t_valh (v := .pointer (some x5_8)) rfl rfl hE rfl hR (r_alloc zr24 qx5_8) (fun a w hE hR hh => ?_)
  replace H := M.at hh H; clear hh
  obtain ⟨qz, H⟩ := H
  obtain ⟨u_9, qu_9, H⟩ := H
  refine t_sth rfl rfl hE hR (r_storeG hE rfl rfl sz24 qz qu_9) (fun a w hE hR hh => ?_)
  replace H := M.at hh H; clear hh
  refine t_val (v := .bool x15_7.2) rfl rfl hE rfl (r_assign hE rfl) (fun a hE => ?_)
  refine t_nil ?_
  refine hK_4 _ _ ?_
  refine w_seq (fun K hK_10 => ?_)
  refine t_region ?_
  obtain ⟨x19_11, qx19_11, H⟩ := H
  refine t_val (v := .agg x19_11) rfl rfl hE rfl (r_loadG hE rfl ag24 qx19_11) (fun a hE => ?_)
  obtain ⟨x20_12, qx20_12, H⟩ := H
  refine t_val (v := .agg x20_12) rfl rfl hE rfl (r_loadG hE rfl ag24 qx20_12) (fun a hE => ?_)
  refine t_call hE hR cl_rambleref02_Get rfl (S_rambleref02_Get x19_11 x20_12) (M.unbind H) (fun x21_13 a w ea hR H => ?_)
  have hE := Env.put_some hE rfl ea; clear ea
  refine t_val (v := .tuple #[.agg x21_13.1, .bool x21_13.2]) rfl rfl hE rfl (r_move hE rfl) (fun a hE => ?_)
  refine t_val (v := .agg x21_13.1) rfl rfl hE rfl (r_extract hE rfl rfl) (fun a hE => ?_)
  refine t_val (v := .bool x21_13.2) rfl rfl hE rfl (r_extract hE rfl rfl) (fun a hE => ?_)
  obtain ⟨x7_14, qx7_14, H⟩ := H
  refine t_valh (v := .pointer (some x7_14)) rfl rfl hE rfl hR (r_alloc zr24 qx7_14) (fun a w hE hR hh => ?_)
  replace H := M.at hh H; clear hh
  obtain ⟨qz, H⟩ := H
  obtain ⟨u_15, qu_15, H⟩ := H
  refine t_sth rfl rfl hE hR (r_storeG hE rfl rfl sz24 qz qu_15) (fun a w hE hR hh => ?_)
  replace H := M.at hh H; clear hh
  refine t_val (v := .bool x21_13.2) rfl rfl hE rfl (r_assign hE rfl) (fun a hE => ?_)
  refine t_nil ?_
  refine hK_10 _ _ ?_
  refine w_seq (fun K hK_16 => ?_)
  refine w_seq_join (fun a w => ∃ (x54_17 : Bool), Env (⟨105, []⟩ : Frm) a [(2, .pointer (some x2_2)), (54, .bool x54_17)] ∧ Rest w0 w ∧ (ramblelaw02_ValueCompares_j1 x2_2 x54_17).wp w.heap Q) ?_ ?_
  · rintro a w ⟨x54_17, hE, hR, H⟩
    unfold ramblelaw02_ValueCompares_j1 at H
    refine w_cond x54_17 hE rfl (fun hb => ?_) (fun hb => ?_)
    · replace H := M.ite_t hb H
      refine w_seq (fun K hK_19 => ?_)
      refine t_region ?_
      refine t_val (v := .bool false) rfl rfl hE rfl (r_assign hE rfl) (fun a hE => ?_)
      refine t_nil ?_
      refine hK_19 _ _ ?_
      refine w_ret ?_
      exact hret _ _ _ false _ hE hR (res_run hE rfl (RV.tmp rfl RV.nil)) rfl H
    · replace H := M.ite_f hb H
      refine w_skip ?_
      refine hK_16 _ _ ?_
      refine w_seq (fun K hK_20 => ?_)
      refine t_region ?_
      obtain ⟨x55_21, qx55_21, H⟩ := H
      refine t_val (v := .agg x55_21) rfl rfl hE rfl (r_loadG hE rfl ag24 qx55_21) (fun a hE => ?_)
      refine t_call hE hR cl_value_Clone rfl (S_value_Clone x55_21) (M.unbind H) (fun x56_22 a w ea hR H => ?_)
      have hE := Env.put_some hE rfl ea; clear ea
      obtain ⟨x9_23, qx9_23, H⟩ := H
      refine t_valh (v := .pointer (some x9_23)) rfl rfl hE rfl hR (r_alloc zr24 qx9_23) (fun a w hE hR hh => ?_)
      replace H := M.at hh H; clear hh
      obtain ⟨qz, H⟩ := H
      obtain ⟨u_24, qu_24, H⟩ := H
      refine t_sth rfl rfl hE hR (r_storeG hE rfl rfl sz24 qz qu_24) (fun a w hE hR hh => ?_)
      replace H := M.at hh H; clear hh
      refine t_nil ?_
      refine hK_20 _ _ ?_
      refine w_seq (fun K hK_25 => ?_)
      refine w_seq (fun K hK_26 => ?_)
      refine t_region ?_
      obtain ⟨x57_27, qx57_27, H⟩ := H
      refine t_val (v := .agg x57_27) rfl rfl hE rfl (r_loadG hE rfl ag24 qx57_27) (fun a hE => ?_)
      obtain ⟨x58_28, qx58_28, H⟩ := H
      refine t_val (v := .agg x58_28) rfl rfl hE rfl (r_loadG hE rfl ag24 qx58_28) (fun a hE => ?_)
      refine t_call hE hR cl_rambleref02_Same rfl (S_rambleref02_Same x57_27 x58_28) (M.unbind H) (fun x59_29 a w ea hR H => ?_)
      have hE := Env.put_some hE rfl ea; clear ea
      refine t_val (v := .bool (!x59_29)) rfl rfl hE rfl (r_un hE rfl u_not) (fun a hE => ?_)
      refine t_nil ?_
      refine hK_26 _ _ ?_
      refine w_cond (!x59_29) hE rfl (fun hb => ?_) (fun hb => ?_)
      · replace H := M.ite_t hb H
        refine w_seq (fun K hK_30 => ?_)
        refine t_region ?_
        refine t_val (v := .bool false) rfl rfl hE rfl (r_assign hE rfl) (fun a hE => ?_)
        refine t_nil ?_
        refine hK_30 _ _ ?_
        refine w_ret ?_
        exact hret _ _ _ false _ hE hR (res_run hE rfl (RV.tmp rfl RV.nil)) rfl H
      · replace H := M.ite_f hb H
        refine w_skip ?_
        refine hK_25 _ _ ?_
        refine w_seq (fun K hK_31 => ?_)
        refine w_seq (fun K hK_32 => ?_)
        refine t_region ?_
        refine t_val (v := .pointer (some ((x9_23).add 3))) rfl rfl hE rfl (r_fieldAddr hE rfl fd24_3) (fun a hE => ?_)
        obtain ⟨x62_33, qx62_33, H⟩ := H
        refine t_val (v := (x62_33 : Sl).v) rfl rfl hE rfl (r_load hE rfl sc22 qx62_33) (fun a hE => ?_)
        refine t_val (v := .int .i64 (x62_33.len : Int)) rfl rfl hE rfl (r_len hE rfl 24 un22) (fun a hE => ?_)
        refine t_val (v := .int .i64 0) rfl rfl hE rfl (r_move hE rfl) (fun a hE => ?_)
        refine t_nil ?_
        refine hK_32 _ _ ?_
        refine w_block ?_
        refine l_loop (fun (s : Int) => (⟨105, []⟩ : Frm)) (fun (s : Int) => [(2, .pointer (some x2_2)), (9, .pointer (some x9_23)), (63, .int .i64 (x62_33.len : Int)), (64, .int .i64 s)]) H (hE.cut (.cons rfl (.cons rfl (.cons rfl (.cons rfl Subs.nil))))) hR (fun Y self1 hY_38 x64_34 a w hE hR H => ?_)
        replace hE : Env (⟨105, []⟩ : Frm) a [(2, .pointer (some x2_2)), (9, .pointer (some x9_23)), (63, .int .i64 (x62_33.len : Int)), (64, .int .i64 x64_34)] := hE
        replace H : (ramblelaw02_ValueCompares_l1 x2_2 x9_23 (x62_33.len : Int) self1 x64_34).wp w.heap Q := H
        unfold ramblelaw02_ValueCompares_l1 at H
        refine w_seq (fun K hK_39 => ?_)
        refine t_region ?_
        refine t_val (v := .bool (decide (x64_34 < (x62_33.len : Int)))) rfl rfl hE rfl (r_bin hE rfl rfl g_int b_lss) (fun a hE => ?_)
        refine t_nil ?_
        refine hK_39 _ _ ?_
        refine w_seq (fun K hK_40 => ?_)
        refine w_cond (decide (x64_34 < (x62_33.len : Int))) hE rfl (fun hb => ?_) (fun hb => ?_)
        · replace H := M.ite_t hb H
          refine w_skip ?_
          refine hK_40 _ _ ?_
          refine w_seq (fun K hK_41 => ?_)
          refine w_block ?_
          refine w_seq (fun K hK_42 => ?_)
          refine t_region ?_
          refine t_val (v := .int .i64 x64_34) rfl rfl hE rfl (r_move hE rfl) (fun a hE => ?_)
          refine t_val (v := .int .i64 x64_34) rfl rfl hE rfl (r_assign hE rfl) (fun a hE => ?_)
          refine t_nil ?_
          refine hK_42 _ _ ?_
          refine w_seq (fun K hK_43 => ?_)
          refine t_region ?_
          refine t_val (v := .pointer (some ((x9_23).add 3))) rfl rfl hE rfl (r_fieldAddr hE rfl fd24_3) (fun a hE => ?_)
          obtain ⟨x68_44, qx68_44, H⟩ := H
          refine t_val (v := (x68_44 : Sl).v) rfl rfl hE rfl (r_load hE rfl sc22 qx68_44) (fun a hE => ?_)
          refine t_val (v := .int .i64 x64_34) rfl rfl hE rfl (r_move hE rfl) (fun a hE => ?_)
          obtain ⟨x70_45, qx70_45, H⟩ := H
          refine t_val (v := .pointer (some x70_45)) rfl rfl hE rfl (r_indexAddrL hE rfl rfl un22 sz24 qx70_45) (fun a hE => ?_)
          refine t_val (v := .pointer (some ((x70_45).add 1))) rfl rfl hE rfl (r_fieldAddr hE rfl fd24_1) (fun a hE => ?_)
          obtain ⟨x72_46, qx72_46, H⟩ := H
          refine t_val (v := .int .i64 x72_46) rfl rfl hE rfl (r_load hE rfl sc2 qx72_46) (fun a hE => ?_)
          refine t_val (v := .int .i64 (IntKind.wrap .i64 (x72_46 + 1))) rfl rfl hE rfl (r_bin hE rfl rfl g_int b_add) (fun a hE => ?_)
          obtain ⟨x74_47, qx74_47, H⟩ := H
          refine t_val (v := .pointer (some x74_47)) rfl rfl hE rfl (r_indexAddrL hE rfl rfl un22 sz24 qx74_47) (fun a hE => ?_)
          refine t_val (v := .pointer (some ((x74_47).add 1))) rfl rfl hE rfl (r_fieldAddr hE rfl fd24_1) (fun a hE => ?_)
          obtain ⟨u_48, qu_48, H⟩ := H
          refine t_sth rfl rfl hE hR (r_store hE rfl rfl sz2 qu_48) (fun a w hE hR hh => ?_)
          replace H := M.at hh H; clear hh
          refine t_nil ?_
          refine hK_43 _ _ ?_
          refine w_seq (fun K hK_49 => ?_)
          refine t_region ?_
          refine t_val (v := .pointer (some ((x9_23).add 3))) rfl rfl hE rfl (r_fieldAddr hE rfl fd24_3) (fun a hE => ?_)
          obtain ⟨x77_50, qx77_50, H⟩ := H
          refine t_val (v := (x77_50 : Sl).v) rfl rfl hE rfl (r_load hE rfl sc22 qx77_50) (fun a hE => ?_)
          refine t_val (v := .int .i64 x64_34) rfl rfl hE rfl (r_move hE rfl) (fun a hE => ?_)
          obtain ⟨x79_51, qx79_51, H⟩ := H
          refine t_val (v := .pointer (some x79_51)) rfl rfl hE rfl (r_indexAddrL hE rfl rfl un22 sz24 qx79_51) (fun a hE => ?_)
          refine t_val (v := .pointer (some ((x79_51).add 3))) rfl rfl hE rfl (r_fieldAddr hE rfl fd24_3) (fun a hE => ?_)
          obtain ⟨x81_52, qx81_52, H⟩ := H
          refine t_val (v := (x81_52 : Sl).v) rfl rfl hE rfl (r_load hE rfl sc22 qx81_52) (fun a hE => ?_)
          refine t_val (v := .int .i64 (x81_52.len : Int)) rfl rfl hE rfl (r_len hE rfl 24 un22) (fun a hE => ?_)
          refine t_val (v := .int .i64 0) rfl rfl hE rfl (r_move hE rfl) (fun a hE => ?_)
          refine t_nil ?_
          refine hK_49 _ _ ?_
          refine w_block ?_
          refine l_loop (fun (s : Int) => (⟨105, []⟩ : Frm)) (fun (s : Int) => [(2, .pointer (some x2_2)), (9, .pointer (some x9_23)), (10, .int .i64 x64_34), (63, .int .i64 (x62_33.len : Int)), (64, .int .i64 x64_34), (82, .int .i64 (x81_52.len : Int)), (83, .int .i64 s)]) H (hE.cut (.cons rfl (.cons rfl (.cons rfl (.cons rfl (.cons rfl (.cons rfl (.cons rfl Subs.nil)))))))) hR (fun Y self2 hY_60 x83_53 a w hE hR H => ?_)
          replace hE : Env (⟨105, []⟩ : Frm) a [(2, .pointer (some x2_2)), (9, .pointer (some x9_23)), (10, .int .i64 x64_34), (63, .int .i64 (x62_33.len : Int)), (64, .int .i64 x64_34), (82, .int .i64 (x81_52.len : Int)), (83, .int .i64 x83_53)] := hE
          replace H : (ramblelaw02_ValueCompares_l2 self1 x9_23 x64_34 x64_34 (x81_52.len : Int) self2 x83_53).wp w.heap Q := H
          unfold ramblelaw02_ValueCompares_l2 at H
          refine w_seq (fun K hK_61 => ?_)
          refine t_region ?_
          refine t_val (v := .bool (decide (x83_53 < (x81_52.len : Int)))) rfl rfl hE rfl (r_bin hE rfl rfl g_int b_lss) (fun a hE => ?_)
          refine t_nil ?_
          refine hK_61 _ _ ?_
          refine w_seq (fun K hK_62 => ?_)
          refine w_cond (decide (x83_53 < (x81_52.len : Int))) hE rfl (fun hb => ?_) (fun hb => ?_)
          · replace H := M.ite_t hb H
            refine w_skip ?_
            refine hK_62 _ _ ?_
            refine w_seq (fun K hK_63 => ?_)
            refine w_block ?_
            refine w_seq (fun K hK_64 => ?_)
            refine t_region ?_
            refine t_val (v := .int .i64 x83_53) rfl rfl hE rfl (r_move hE rfl) (fun a hE => ?_)
            refine t_val (v := .int .i64 x83_53) rfl rfl hE rfl (r_assign hE rfl) (fun a hE => ?_)
            refine t_nil ?_
            refine hK_64 _ _ ?_
            refine t_region ?_
            refine t_val (v := .pointer (some ((x9_23).add 3))) rfl rfl hE rfl (r_fieldAddr hE rfl fd24_3) (fun a hE => ?_)
            obtain ⟨x87_65, qx87_65, H⟩ := H
            refine t_val (v := (x87_65 : Sl).v) rfl rfl hE rfl (r_load hE rfl sc22 qx87_65) (fun a hE => ?_)
            refine t_val (v := .int .i64 x64_34) rfl rfl hE rfl (r_move hE rfl) (fun a hE => ?_)
            obtain ⟨x89_66, qx89_66, H⟩ := H
            refine t_val (v := .pointer (some x89_66)) rfl rfl hE rfl (r_indexAddrL hE rfl rfl un22 sz24 qx89_66) (fun a hE => ?_)
            refine t_val (v := .pointer (some ((x89_66).add 3))) rfl rfl hE rfl (r_fieldAddr hE rfl fd24_3) (fun a hE => ?_)
            obtain ⟨x91_67, qx91_67, H⟩ := H
            refine t_val (v := (x91_67 : Sl).v) rfl rfl hE rfl (r_load hE rfl sc22 qx91_67) (fun a hE => ?_)
            refine t_val (v := .int .i64 x83_53) rfl rfl hE rfl (r_move hE rfl) (fun a hE => ?_)
            obtain ⟨x93_68, qx93_68, H⟩ := H
            refine t_val (v := .pointer (some x93_68)) rfl rfl hE rfl (r_indexAddrL hE rfl rfl un22 sz24 qx93_68) (fun a hE => ?_)
            refine t_val (v := .pointer (some ((x93_68).add 0))) rfl rfl hE rfl (r_fieldAddr hE rfl fd24_0) (fun a hE => ?_)
            obtain ⟨x95_69, qx95_69, H⟩ := H
            refine t_val (v := .int .i64 x95_69) rfl rfl hE rfl (r_load hE rfl sc3 qx95_69) (fun a hE => ?_)
            refine t_val (v := .int .i64 (IntKind.wrap .i64 (x95_69 + 1))) rfl rfl hE rfl (r_bin hE rfl rfl g_int b_add) (fun a hE => ?_)
            obtain ⟨x97_70, qx97_70, H⟩ := H
            refine t_val (v := .pointer (some x97_70)) rfl rfl hE rfl (r_indexAddrL hE rfl rfl un22 sz24 qx97_70) (fun a hE => ?_)
            refine t_val (v := .pointer (some ((x97_70).add 0))) rfl rfl hE rfl (r_fieldAddr hE rfl fd24_0) (fun a hE => ?_)
            obtain ⟨u_71, qu_71, H⟩ := H
            refine t_sth rfl rfl hE hR (r_store hE rfl rfl sz3 qu_71) (fun a w hE hR hh => ?_)
            replace H := M.at hh H; clear hh
            refine t_nil ?_
            refine hK_63 _ _ ?_
            refine t_region ?_
            refine t_val (v := .int .i64 (IntKind.wrap .i64 (x83_53 + 1))) rfl rfl hE rfl (r_bin hE rfl rfl g_int b_add) (fun a hE => ?_)
            refine t_val (v := .int .i64 (IntKind.wrap .i64 (x83_53 + 1))) rfl rfl hE rfl (r_move hE rfl) (fun a hE => ?_)
            refine t_nil ?_
            exact hY_60 (IntKind.wrap .i64 (x83_53 + 1)) _ _ (hE.cut (.cons rfl (.cons rfl (.cons rfl (.cons rfl (.cons rfl (.cons rfl (.cons rfl Subs.nil)))))))) hR H
          · replace H := M.ite_f hb H
            refine w_exit ?_
            refine Xu.same ?_
            refine hK_41 _ _ ?_
            refine t_region ?_
            refine t_val (v := .int .i64 (IntKind.wrap .i64 (x64_34 + 1))) rfl rfl hE rfl (r_bin hE rfl rfl g_int b_add) (fun a hE => ?_)
            refine t_val (v := .int .i64 (IntKind.wrap .i64 (x64_34 + 1))) rfl rfl hE rfl (r_move hE rfl) (fun a hE => ?_)
            refine t_nil ?_
            exact hY_38 (IntKind.wrap .i64 (x64_34 + 1)) _ _ (hE.cut (.cons rfl (.cons rfl (.cons rfl (.cons rfl Subs.nil))))) hR H
        · replace H := M.ite_f hb H
          refine w_exit ?_
          refine Xu.same ?_
          refine hK_31 _ _ ?_
          refine w_seq (fun K hK_72 => ?_)
          obtain ⟨x101_73, qx101_73, H⟩ := H
          obtain ⟨x102_74, qx102_74, H⟩ := H
          have hT := tab_of tb7_18 rfl rfl
          refine d_start (fun w : World => (fun h : Heap => (x101_73.size = 4 ∧ ∀ i, i < 4 → hcell h (Addr.add x2_2 i) = x101_73[i]?) ∧ (x102_74.size = 4 ∧ ∀ i, i < 4 → hcell h (Addr.add x2_2 i) = x102_74[i]?)) w.heap) [3, 4] #[false, false, false, false, false] mo hR rfl rfl (fun w' e => by rw [e]; exact ⟨qx101_73, qx102_74⟩) (fun w hh hR hs => ?_)
          replace H := M.at hh H; clear hh
          refine d_read (i := 0) (v := .agg x101_73) #[true, false, false, false, false] rfl rfl hT (by kernel_rfl) hE rfl (wanted_none rfl) hs (fun w s => r_loadG hE rfl ag24 s.1) (fun a hE => ?_)
          refine d_read (i := 1) (v := .agg x102_74) #[true, true, false, false, false] rfl rfl hT (by kernel_rfl) hE rfl (wanted_none rfl) hs (fun w s => r_loadG hE rfl ag24 s.2) (fun a hE => ?_)
          refine d_call (i := 2) #[true, true, true, false, false] rfl rfl rfl hT (by kernel_rfl) rfl hE hR (wanted_none rfl) cl_value_Clone rfl (S_value_Clone x102_74) (M.unbind H) (fun r h H w' e => by obtain ⟨_, sA, H⟩ := H; rw [e]; exact sA) (fun x103_75 a w ea hR H hs => ?_)
          obtain ⟨_, sA, H⟩ := H; clear sA
          have hE := Env.put_some hE rfl ea; clear ea
          refine d_calll (i := 3) #[true, true, true, true, false] rfl rfl rfl hT (by kernel_rfl) rfl hE hR (wanted_none rfl) cl_rambleref02_Same rfl (S_rambleref02_Same x101_73 x103_75) (M.unbind H) (fun x104_76 a w ea hR H => ?_)
          have hE := Env.put_some hE rfl ea; clear ea
          refine d_pureg (i := 4) (v := .bool x104_76) #[true, true, true, true, true] rfl rfl hT (by kernel_rfl) hE rfl (wanted_none rfl) (fun w => r_assign hE rfl) (fun a hE => ?_)
          refine d_done hT (by kernel_rfl) ?_
          refine hK_72 _ _ ?_
          refine w_ret ?_
          exact hret _ _ _ x104_76 _ hE hR (res_run hE rfl (RV.tmp rfl RV.nil)) rfl H
  · skip
    refine reg_eq (rops := ro7_3) (by kernel_rfl) ?_
    have hT : Tab ro7_3 _ _ _ := tab_of tb7_3 rfl (by kernel_rfl)
    have hM := TabM.of tb7_3m
    refine d_start (m := 31) (fun w : World => (fun h : Heap => True) w.heap) [0, 1, 2, 3, 4, 5, 6, 7, 8, 9, 10, 11, 12, 13, 14, 15, 16, 17, 18, 19, 20, 21, 22, 23, 24, 25, 26, 27, 28, 29, 30] (unb 31 0) mo hR (by kernel_rfl) (by kernel_rfl) (fun w' e => by rw [e]; exact trivial) (fun w hh hR hs => ?_)
    replace H := M.at hh H; clear hh
    refine d_calll (i := 0) (unb 31 1) rfl rfl rfl hT (oneM hM (by kernel_rfl)) rfl hE hR (wanted_none rfl) cl_ramblelaw02_begun rfl (S_ramblelaw02_begun ) (M.unbind H) (fun x24_77 a w ea hR H => ?_)
    have hE := Env.put_some hE rfl ea; clear ea
    rcases bool_em (!x24_77) with hb_78 | hb_78
    · replace H := M.ite_t hb_78 H
      refine d_pureg (i := 1) (v := .bool (!x24_77)) (unb 31 3) rfl rfl hT (anyM hM (by kernel_rfl)) hE rfl (wanted_none rfl) (fun w => r_un hE rfl u_not) (fun a hE => ?_)
      refine d_pureg (i := 2) (v := .bool (!x24_77)) (unb 31 7) rfl rfl hT (anyM hM (by kernel_rfl)) hE rfl (wanted_none rfl) (fun w => r_move hE rfl) (fun a hE => ?_)
      have hE := hE.reb 26 (!x24_77) true hb_78 rfl
      replace hE := hE.cut (l' := [(2, .pointer (some x2_2)), (3, .pointer (some x3_3)), (5, .pointer (some x5_8)), (6, .bool x15_7.2), (7, .pointer (some x7_14)), (8, .bool x21_13.2), (26, .bool true)]) (.cons rfl (.cons rfl (.cons rfl (.cons rfl (.cons rfl (.cons rfl (.cons rfl Subs.nil)))))))
      refine d_offsM' [(3, some 27), (4, some 28), (5, some 29), (6, some 30), (7, some 31), (8, some 32), (9, some 33)] 21 hT hM hE (by kernel_rfl) (m' := 1023) (by kernel_rfl) (fun a hE => ?_)
      refine d_pureg (i := 10) (v := .bool true) (unb 31 2047) rfl rfl hT (anyM hM (by kernel_rfl)) hE rfl (wanted_none rfl) (fun w => r_pick_t hE rfl rfl) (fun a hE => ?_)
      refine d_pureg (i := 11) (v := .bool true) (unb 31 4095) rfl rfl hT (anyM hM (by kernel_rfl)) hE rfl (wanted_none rfl) (fun w => r_move hE rfl) (fun a hE => ?_)
      refine d_offsM' [(12, some 36), (13, some 37), (14, some 38), (15, some 39), (16, some 40), (17, some 41), (18, some 42)] 12 hT hM hE (by kernel_rfl) (m' := 524287) (by kernel_rfl) (fun a hE => ?_)
      refine d_pureg (i := 19) (v := .bool true) (unb 31 1048575) rfl rfl hT (anyM hM (by kernel_rfl)) hE rfl (wanted_none rfl) (fun w => r_pick_t hE rfl rfl) (fun a hE => ?_)
      refine d_pureg (i := 20) (v := .bool true) (unb 31 2097151) rfl rfl hT (anyM hM (by kernel_rfl)) hE rfl (wanted_none rfl) (fun w => r_move hE rfl) (fun a hE => ?_)
      refine d_offsM' [(21, some 45), (22, some 46), (23, some 47), (24, some 48)] 6 hT hM hE (by kernel_rfl) (m' := 33554431) (by kernel_rfl) (fun a hE => ?_)
      refine d_pureg (i := 25) (v := .bool true) (unb 31 67108863) rfl rfl hT (anyM hM (by kernel_rfl)) hE rfl (wanted_none rfl) (fun w => r_pick_t hE rfl rfl) (fun a hE => ?_)
      refine d_pureg (i := 26) (v := .bool true) (unb 31 134217727) rfl rfl hT (anyM hM (by kernel_rfl)) hE rfl (wanted_none rfl) (fun w => r_move hE rfl) (fun a hE => ?_)
      refine d_offsM' [(27, some 51), (28, some 52), (29, some 53)] 1 hT hM hE (by kernel_rfl) (m' := 1073741823) (by kernel_rfl) (fun a hE => ?_)
      refine d_pureg (i := 30) (v := .bool true) (unb 31 2147483647) rfl rfl hT (anyM hM (by kernel_rfl)) hE rfl (wanted_none rfl) (fun w => r_pick_t hE rfl rfl) (fun a hE => ?_)
      refine d_done hT (doneM hM (by kernel_rfl)) ?_
      exact ⟨true, hE.cut (.cons rfl (.cons rfl Subs.nil)), hR, H⟩
    · replace H := M.ite_f hb_78 H
      obtain ⟨x27_79, qx27_79, H⟩ := H
      obtain ⟨x28_80, qx28_80, H⟩ := H
      obtain ⟨x30_81, qx30_81, H⟩ := H
      obtain ⟨x31_82, qx31_82, H⟩ := H
      refine d_switch (fun w : World => (fun h : Heap => (x27_79.size = 4 ∧ ∀ i, i < 4 → hcell h (Addr.add x2_2 i) = x27_79[i]?) ∧ (x28_80.size = 4 ∧ ∀ i, i < 4 → hcell h (Addr.add x3_3 i) = x28_80[i]?) ∧ (x30_81.size = 4 ∧ ∀ i, i < 4 → hcell h (Addr.add x2_2 i) = x30_81[i]?) ∧ (x31_82.size = 4 ∧ ∀ i, i < 4 → hcell h (Addr.add x3_3 i) = x31_82[i]?)) w.heap) [8, 9, 10, 11, 12, 13, 14, 15, 16, 17, 18, 19, 20, 21, 22, 23, 24, 25, 26, 27, 28, 29, 30] (allInM hT hM (by kernel_rfl)) ?_
      have hs : (fun h : Heap => (x27_79.size = 4 ∧ ∀ i, i < 4 → hcell h (Addr.add x2_2 i) = x27_79[i]?) ∧ (x28_80.size = 4 ∧ ∀ i, i < 4 → hcell h (Addr.add x3_3 i) = x28_80[i]?) ∧ (x30_81.size = 4 ∧ ∀ i, i < 4 → hcell h (Addr.add x2_2 i) = x30_81[i]?) ∧ (x31_82.size = 4 ∧ ∀ i, i < 4 → hcell h (Addr.add x3_3 i) = x31_82[i]?)) w.heap := ⟨qx27_79, qx28_80, qx30_81, qx31_82⟩
      refine d_pureg (i := 1) (v := .bool (!x24_77)) (unb 31 3) rfl rfl hT (anyM hM (by kernel_rfl)) hE rfl (wanted_none rfl) (fun w => r_un hE rfl u_not) (fun a hE => ?_)
      refine d_pureg (i := 2) (v := .bool (!x24_77)) (unb 31 7) rfl rfl hT (anyM hM (by kernel_rfl)) hE rfl (wanted_none rfl) (fun w => r_move hE rfl) (fun a hE => ?_)
      have hE := hE.reb 26 (!x24_77) false hb_78 rfl
      replace hE := hE.cut (l' := [(2, .pointer (some x2_2)), (3, .pointer (some x3_3)), (5, .pointer (some x5_8)), (6, .bool x15_7.2), (7, .pointer (some x7_14)), (8, .bool x21_13.2), (26, .bool false)]) (.cons rfl (.cons rfl (.cons rfl (.cons rfl (.cons rfl (.cons rfl (.cons rfl Subs.nil)))))))
      refine d_read (i := 3) (v := .agg x27_79) (unb 31 15) rfl rfl hT (takeM hM (by kernel_rfl)) hE rfl (wanted_of rfl hE rfl rfl rfl) hs (fun w s => r_loadG hE rfl ag24 s.1) (fun a hE => ?_)
      refine d_read (i := 4) (v := .agg x28_80) (unb 31 31) rfl rfl hT (takeM hM (by kernel_rfl)) hE rfl (wanted_of rfl hE rfl rfl rfl) hs (fun w s => r_loadG hE rfl ag24 s.2.1) (fun a hE => ?_)
      refine d_read (i := 6) (v := .agg x30_81) (unb 31 95) rfl rfl hT (takeM hM (by kernel_rfl)) hE rfl (wanted_of rfl hE rfl rfl rfl) hs (fun w s => r_loadG hE rfl ag24 s.2.2.1) (fun a hE => ?_)
      refine d_read (i := 7) (v := .agg x31_82) (unb 31 223) rfl rfl hT (takeM hM (by kernel_rfl)) hE rfl (wanted_of rfl hE rfl rfl rfl) hs (fun w s => r_loadG hE rfl ag24 s.2.2.2) (fun a hE => ?_)
      refine d_call (i := 5) (unb 31 255) rfl rfl rfl hT (oneM hM (by kernel_rfl)) rfl hE hR (wanted_of rfl hE rfl rfl rfl) cl_value_Compare rfl (S_value_Compare x27_79 x28_80) (M.unbind H) (fun r h H w' e => by obtain ⟨_, sA, H⟩ := H; rw [e]; exact sA) (fun x29_83 a w ea hR H hs => ?_)
      obtain ⟨_, sA, H⟩ := H; clear sA
      have hE := Env.put_some hE rfl ea; clear ea
      refine d_calll (i := 8) (unb 31 511) rfl rfl rfl hT (oneM hM (by kernel_rfl)) rfl hE hR (wanted_of rfl hE rfl rfl rfl) cl_rambleref02_Compare rfl (S_rambleref02_Compare x30_81 x31_82) (M.unbind H) (fun x32_84 a w ea hR H => ?_)
      have hE := Env.put_some hE rfl ea; clear ea
      rcases bool_em (x29_83 != x32_84) with hb_85 | hb_85
      · replace H := M.ite_t hb_85 H
        refine d_pureg (i := 9) (v := .bool (x29_83 != x32_84)) (unb 31 1023) rfl rfl hT (anyM hM (by kernel_rfl)) hE rfl (wanted_of rfl hE rfl rfl rfl) (fun w => r_bin hE rfl rfl g_int b_neq) (fun a hE => ?_)
        refine d_pureg (i := 10) (v := .bool (x29_83 != x32_84)) (unb 31 2047) rfl rfl hT (anyM hM (by kernel_rfl)) hE rfl (wanted_none rfl) (fun w => r_pick_f hE rfl rfl) (fun a hE => ?_)
        refine d_pureg (i := 11) (v := .bool (x29_83 != x32_84)) (unb 31 4095) rfl rfl hT (anyM hM (by kernel_rfl)) hE rfl (wanted_none rfl) (fun w => r_move hE rfl) (fun a hE => ?_)
        have hE := hE.reb 35 (x29_83 != x32_84) true hb_85 rfl
        replace hE := hE.cut (l' := [(2, .pointer (some x2_2)), (3, .pointer (some x3_3)), (5, .pointer (some x5_8)), (6, .bool x15_7.2), (7, .pointer (some x7_14)), (8, .bool x21_13.2), (35, .bool true)]) (.cons rfl (.cons rfl (.cons rfl (.cons rfl (.cons rfl (.cons rfl (.cons rfl Subs.nil)))))))
        refine d_offsM' [(12, some 36), (13, some 37), (14, some 38), (15, some 39), (16, some 40), (17, some 41), (18, some 42)] 12 hT hM hE (by kernel_rfl) (m' := 524287) (by kernel_rfl) (fun a hE => ?_)
        refine d_pureg (i := 19) (v := .bool true) (unb 31 1048575) rfl rfl hT (anyM hM (by kernel_rfl)) hE rfl (wanted_none rfl) (fun w => r_pick_t hE rfl rfl) (fun a hE => ?_)
        refine d_pureg (i := 20) (v := .bool true) (unb 31 2097151) rfl rfl hT (anyM hM (by kernel_rfl)) hE rfl (wanted_none rfl) (fun w => r_move hE rfl) (fun a hE => ?_)
        refine d_offsM' [(21, some 45), (22, some 46), (23, some 47), (24, some 48)] 6 hT hM hE (by kernel_rfl) (m' := 33554431) (by kernel_rfl) (fun a hE => ?_)
        refine d_pureg (i := 25) (v := .bool true) (unb 31 67108863) rfl rfl hT (anyM hM (by kernel_rfl)) hE rfl (wanted_none rfl) (fun w => r_pick_t hE rfl rfl) (fun a hE => ?_)
        refine d_pureg (i := 26) (v := .bool true) (unb 31 134217727) rfl rfl hT (anyM hM (by kernel_rfl)) hE rfl (wanted_none rfl) (fun w => r_move hE rfl) (fun a hE => ?_)
        refine d_offsM' [(27, some 51), (28, some 52), (29, some 53)] 1 hT hM hE (by kernel_rfl) (m' := 1073741823) (by kernel_rfl) (fun a hE => ?_)
        refine d_pureg (i := 30) (v := .bool true) (unb 31 2147483647) rfl rfl hT (anyM hM (by kernel_rfl)) hE rfl (wanted_none rfl) (fun w => r_pick_t hE rfl rfl) (fun a hE => ?_)
        refine d_done hT (doneM hM (by kernel_rfl)) ?_
        exact ⟨true, hE.cut (.cons rfl (.cons rfl Subs.nil)), hR, H⟩
      · replace H := M.ite_f hb_85 H
        obtain ⟨x36_86, qx36_86, H⟩ := H
        obtain ⟨x37_87, qx37_87, H⟩ := H
        obtain ⟨x39_88, qx39_88, H⟩ := H
        obtain ⟨x40_89, qx40_89, H⟩ := H
        refine d_switch (fun w : World => (fun h : Heap => (x36_86.size = 4 ∧ ∀ i, i < 4 → hcell h (Addr.add x2_2 i) = x36_86[i]?) ∧ (x37_87.size = 4 ∧ ∀ i, i < 4 → hcell h (Addr.add x3_3 i) = x37_87[i]?) ∧ (x39_88.size = 4 ∧ ∀ i, i < 4 → hcell h (Addr.add x2_2 i) = x39_88[i]?) ∧ (x40_89.size = 4 ∧ ∀ i, i < 4 → hcell h (Addr.add x3_3 i) = x40_89[i]?)) w.heap) [17, 18, 19, 20, 21, 22, 23, 24, 25, 26, 27, 28, 29, 30] (allInM hT hM (by kernel_rfl)) ?_
        have hs : (fun h : Heap => (x36_86.size = 4 ∧ ∀ i, i < 4 → hcell h (Addr.add x2_2 i) = x36_86[i]?) ∧ (x37_87.size = 4 ∧ ∀ i, i < 4 → hcell h (Addr.add x3_3 i) = x37_87[i]?) ∧ (x39_88.size = 4 ∧ ∀ i, i < 4 → hcell h (Addr.add x2_2 i) = x39_88[i]?) ∧ (x40_89.size = 4 ∧ ∀ i, i < 4 → hcell h (Addr.add x3_3 i) = x40_89[i]?)) w.heap := ⟨qx36_86, qx37_87, qx39_88, qx40_89⟩
        refine d_pureg (i := 9) (v := .bool (x29_83 != x32_84)) (unb 31 1023) rfl rfl hT (anyM hM (by kernel_rfl)) hE rfl (wanted_of rfl hE rfl rfl rfl) (fun w => r_bin hE rfl rfl g_int b_neq) (fun a hE => ?_)
        refine d_pureg (i := 10) (v := .bool (x29_83 != x32_84)) (unb 31 2047) rfl rfl hT (anyM hM (by kernel_rfl)) hE rfl (wanted_none rfl) (fun w => r_pick_f hE rfl rfl) (fun a hE => ?_)
        refine d_pureg (i := 11) (v := .bool (x29_83 != x32_84)) (unb 31 4095) rfl rfl hT (anyM hM (by kernel_rfl)) hE rfl (wanted_none rfl) (fun w => r_move hE rfl) (fun a hE => ?_)
        have hE := hE.reb 35 (x29_83 != x32_84) false hb_85 rfl
        replace hE := hE.cut (l' := [(2, .pointer (some x2_2)), (3, .pointer (some x3_3)), (5, .pointer (some x5_8)), (6, .bool x15_7.2), (7, .pointer (some x7_14)), (8, .bool x21_13.2), (35, .bool false)]) (.cons rfl (.cons rfl (.cons rfl (.cons rfl (.cons rfl (.cons rfl (.cons rfl Subs.nil)))))))
        refine d_read (i := 12) (v := .agg x36_86) (unb 31 8191) rfl rfl hT (takeM hM (by kernel_rfl)) hE rfl (wanted_of rfl hE rfl rfl rfl) hs (fun w s => r_loadG hE rfl ag24 s.1) (fun a hE => ?_)
        refine d_read (i := 13) (v := .agg x37_87) (unb 31 16383) rfl rfl hT (takeM hM (by kernel_rfl)) hE rfl (wanted_of rfl hE rfl rfl rfl) hs (fun w s => r_loadG hE rfl ag24 s.2.1) (fun a hE => ?_)
        refine d_read (i := 15) (v := .agg x39_88) (unb 31 49151) rfl rfl hT (takeM hM (by kernel_rfl)) hE rfl (wanted_of rfl hE rfl rfl rfl) hs (fun w s => r_loadG hE rfl ag24 s.2.2.1) (fun a hE => ?_)
        refine d_read (i := 16) (v := .agg x40_89) (unb 31 114687) rfl rfl hT (takeM hM (by kernel_rfl)) hE rfl (wanted_of rfl hE rfl rfl rfl) hs (fun w s => r_loadG hE rfl ag24 s.2.2.2) (fun a hE => ?_)
        refine d_call (i := 14) (unb 31 131071) rfl rfl rfl hT (oneM hM (by kernel_rfl)) rfl hE hR (wanted_of rfl hE rfl rfl rfl) cl_value_Same rfl (S_value_Same x36_86 x37_87) (M.unbind H) (fun r h H w' e => by obtain ⟨_, sA, H⟩ := H; rw [e]; exact sA) (fun x38_90 a w ea hR H hs => ?_)
        obtain ⟨_, sA, H⟩ := H; clear sA
        have hE := Env.put_some hE rfl ea; clear ea
        refine d_calll (i := 17) (unb 31 262143) rfl rfl rfl hT (oneM hM (by kernel_rfl)) rfl hE hR (wanted_of rfl hE rfl rfl rfl) cl_rambleref02_Same rfl (S_rambleref02_Same x39_88 x40_89) (M.unbind H) (fun x41_91 a w ea hR H => ?_)
        have hE := Env.put_some hE rfl ea; clear ea
        rcases bool_em (x38_90 != x41_91) with hb_92 | hb_92
        · replace H := M.ite_t hb_92 H
          refine d_pureg (i := 18) (v := .bool (x38_90 != x41_91)) (unb 31 524287) rfl rfl hT (anyM hM (by kernel_rfl)) hE rfl (wanted_of rfl hE rfl rfl rfl) (fun w => r_bin hE rfl rfl g_bool (b_neqB un4)) (fun a hE => ?_)
          refine d_pureg (i := 19) (v := .bool (x38_90 != x41_91)) (unb 31 1048575) rfl rfl hT (anyM hM (by kernel_rfl)) hE rfl (wanted_none rfl) (fun w => r_pick_f hE rfl rfl) (fun a hE => ?_)
          refine d_pureg (i := 20) (v := .bool (x38_90 != x41_91)) (unb 31 2097151) rfl rfl hT (anyM hM (by kernel_rfl)) hE rfl (wanted_none rfl) (fun w => r_move hE rfl) (fun a hE => ?_)
          have hE := hE.reb 44 (x38_90 != x41_91) true hb_92 rfl
          replace hE := hE.cut (l' := [(2, .pointer (some x2_2)), (5, .pointer (some x5_8)), (6, .bool x15_7.2), (7, .pointer (some x7_14)), (8, .bool x21_13.2), (44, .bool true)]) (.cons rfl (.cons rfl (.cons rfl (.cons rfl (.cons rfl (.cons rfl Subs.nil))))))
          refine d_offsM' [(21, some 45), (22, some 46), (23, some 47), (24, some 48)] 6 hT hM hE (by kernel_rfl) (m' := 33554431) (by kernel_rfl) (fun a hE => ?_)
          refine d_pureg (i := 25) (v := .bool true) (unb 31 67108863) rfl rfl hT (anyM hM (by kernel_rfl)) hE rfl (wanted_none rfl) (fun w => r_pick_t hE rfl rfl) (fun a hE => ?_)
          refine d_pureg (i := 26) (v := .bool true) (unb 31 134217727) rfl rfl hT (anyM hM (by kernel_rfl)) hE rfl (wanted_none rfl) (fun w => r_move hE rfl) (fun a hE => ?_)
          refine d_offsM' [(27, some 51), (28, some 52), (29, some 53)] 1 hT hM hE (by kernel_rfl) (m' := 1073741823) (by kernel_rfl) (fun a hE => ?_)
          refine d_pureg (i := 30) (v := .bool true) (unb 31 2147483647) rfl rfl hT (anyM hM (by kernel_rfl)) hE rfl (wanted_none rfl) (fun w => r_pick_t hE rfl rfl) (fun a hE => ?_)
          refine d_done hT (doneM hM (by kernel_rfl)) ?_
          exact ⟨true, hE.cut (.cons rfl (.cons rfl Subs.nil)), hR, H⟩
        · replace H := M.ite_f hb_92 H
          obtain ⟨x45_93, qx45_93, H⟩ := H
          obtain ⟨x46_94, qx46_94, H⟩ := H
          refine d_switch (fun w : World => (fun h : Heap => (x45_93.size = 4 ∧ ∀ i, i < 4 → hcell h (Addr.add x5_8 i) = x45_93[i]?) ∧ (x46_94.size = 4 ∧ ∀ i, i < 4 → hcell h (Addr.add x7_14 i) = x46_94[i]?)) w.heap) [23, 24, 25, 26, 27, 28, 29, 30] (allInM hT hM (by kernel_rfl)) ?_
          have hs : (fun h : Heap => (x45_93.size = 4 ∧ ∀ i, i < 4 → hcell h (Addr.add x5_8 i) = x45_93[i]?) ∧ (x46_94.size = 4 ∧ ∀ i, i < 4 → hcell h (Addr.add x7_14 i) = x46_94[i]?)) w.heap := ⟨qx45_93, qx46_94⟩
          refine d_pureg (i := 18) (v := .bool (x38_90 != x41_91)) (unb 31 524287) rfl rfl hT (anyM hM (by kernel_rfl)) hE rfl (wanted_of rfl hE rfl rfl rfl) (fun w => r_bin hE rfl rfl g_bool (b_neqB un4)) (fun a hE => ?_)
          refine d_pureg (i := 19) (v := .bool (x38_90 != x41_91)) (unb 31 1048575) rfl rfl hT (anyM hM (by kernel_rfl)) hE rfl (wanted_none rfl) (fun w => r_pick_f hE rfl rfl) (fun a hE => ?_)
          refine d_pureg (i := 20) (v := .bool (x38_90 != x41_91)) (unb 31 2097151) rfl rfl hT (anyM hM (by kernel_rfl)) hE rfl (wanted_none rfl) (fun w => r_move hE rfl) (fun a hE => ?_)
          have hE := hE.reb 44 (x38_90 != x41_91) false hb_92 rfl
          replace hE := hE.cut (l' := [(2, .pointer (some x2_2)), (5, .pointer (some x5_8)), (6, .bool x15_7.2), (7, .pointer (some x7_14)), (8, .bool x21_13.2), (44, .bool false)]) (.cons rfl (.cons rfl (.cons rfl (.cons rfl (.cons rfl (.cons rfl Subs.nil))))))
          refine d_read (i := 21) (v := .agg x45_93) (unb 31 4194303) rfl rfl hT (takeM hM (by kernel_rfl)) hE rfl (wanted_of rfl hE rfl rfl rfl) hs (fun w s => r_loadG hE rfl ag24 s.1) (fun a hE => ?_)
          refine d_read (i := 22) (v := .agg x46_94) (unb 31 8388607) rfl rfl hT (takeM hM (by kernel_rfl)) hE rfl (wanted_of rfl hE rfl rfl rfl) hs (fun w s => r_loadG hE rfl ag24 s.2) (fun a hE => ?_)
          refine d_calll (i := 23) (unb 31 16777215) rfl rfl rfl hT (oneM hM (by kernel_rfl)) rfl hE hR (wanted_of rfl hE rfl rfl rfl) cl_rambleref02_Same rfl (S_rambleref02_Same x45_93 x46_94) (M.unbind H) (fun x47_95 a w ea hR H => ?_)
          have hE := Env.put_some hE rfl ea; clear ea
          rcases bool_em (!x47_95) with hb_96 | hb_96
          · replace H := M.ite_t hb_96 H
            refine d_pureg (i := 24) (v := .bool (!x47_95)) (unb 31 33554431) rfl rfl hT (anyM hM (by kernel_rfl)) hE rfl (wanted_of rfl hE rfl rfl rfl) (fun w => r_un hE rfl u_not) (fun a hE => ?_)
            refine d_pureg (i := 25) (v := .bool (!x47_95)) (unb 31 67108863) rfl rfl hT (anyM hM (by kernel_rfl)) hE rfl (wanted_none rfl) (fun w => r_pick_f hE rfl rfl) (fun a hE => ?_)
            refine d_pureg (i := 26) (v := .bool (!x47_95)) (unb 31 134217727) rfl rfl hT (anyM hM (by kernel_rfl)) hE rfl (wanted_none rfl) (fun w => r_move hE rfl) (fun a hE => ?_)
            have hE := hE.reb 50 (!x47_95) true hb_96 rfl
            replace hE := hE.cut (l' := [(2, .pointer (some x2_2)), (6, .bool x15_7.2), (8, .bool x21_13.2), (50, .bool true)]) (.cons rfl (.cons rfl (.cons rfl (.cons rfl Subs.nil))))
            refine d_offsM' [(27, some 51), (28, some 52), (29, some 53)] 1 hT hM hE (by kernel_rfl) (m' := 1073741823) (by kernel_rfl) (fun a hE => ?_)
            refine d_pureg (i := 30) (v := .bool true) (unb 31 2147483647) rfl rfl hT (anyM hM (by kernel_rfl)) hE rfl (wanted_none rfl) (fun w => r_pick_t hE rfl rfl) (fun a hE => ?_)
            refine d_done hT (doneM hM (by kernel_rfl)) ?_
            exact ⟨true, hE.cut (.cons rfl (.cons rfl Subs.nil)), hR, H⟩
          · replace H := M.ite_f hb_96 H
            refine d_pureg (i := 24) (v := .bool (!x47_95)) (unb 31 33554431) rfl rfl hT (anyM hM (by kernel_rfl)) hE rfl (wanted_of rfl hE rfl rfl rfl) (fun w => r_un hE rfl u_not) (fun a hE => ?_)
            refine d_pureg (i := 25) (v := .bool (!x47_95)) (unb 31 67108863) rfl rfl hT (anyM hM (by kernel_rfl)) hE rfl (wanted_none rfl) (fun w => r_pick_f hE rfl rfl) (fun a hE => ?_)
            refine d_pureg (i := 26) (v := .bool (!x47_95)) (unb 31 134217727) rfl rfl hT (anyM hM (by kernel_rfl)) hE rfl (wanted_none rfl) (fun w => r_move hE rfl) (fun a hE => ?_)
            have hE := hE.reb 50 (!x47_95) false hb_96 rfl
            replace hE := hE.cut (l' := [(2, .pointer (some x2_2)), (6, .bool x15_7.2), (8, .bool x21_13.2), (50, .bool false)]) (.cons rfl (.cons rfl (.cons rfl (.cons rfl Subs.nil))))
            refine d_pureg (i := 27) (v := .bool x15_7.2) (unb 31 268435455) rfl rfl hT (anyM hM (by kernel_rfl)) hE rfl (wanted_of rfl hE rfl rfl rfl) (fun w => r_move hE rfl) (fun a hE => ?_)
            refine d_pureg (i := 28) (v := .bool x21_13.2) (unb 31 536870911) rfl rfl hT (anyM hM (by kernel_rfl)) hE rfl (wanted_of rfl hE rfl rfl rfl) (fun w => r_move hE rfl) (fun a hE => ?_)
            refine d_pureg (i := 29) (v := .bool (x15_7.2 != x21_13.2)) (unb 31 1073741823) rfl rfl hT (anyM hM (by kernel_rfl)) hE rfl (wanted_of rfl hE rfl rfl rfl) (fun w => r_bin hE rfl rfl g_bool (b_neqB un4)) (fun a hE => ?_)
            refine d_pureg (i := 30) (v := .bool (x15_7.2 != x21_13.2)) (unb 31 2147483647) rfl rfl hT (anyM hM (by kernel_rfl)) hE rfl (wanted_none rfl) (fun w => r_pick_f hE rfl rfl) (fun a hE => ?_)
            refine d_done hT (doneM hM (by kernel_rfl)) ?_
            exact ⟨x15_7.2 != x21_13.2, hE.cut (.cons rfl (.cons rfl Subs.nil)), hR, H⟩

def value_reader_fail (x0 : Option Addr) : M (Value ⊕ (Unit)) := do
  let x3_1 ← nilP x0
  let x5_2 ← ldI .i64 ((x3_1).add 1)
  M.pure (.inl (Value.iface ty_value_wrong (.agg (#[.int .i64 x5_2] : Array Value))))
theorem S_value_reader_fail (x0 : Option Addr) : SoundX Go.Proofs.Tryz.prog 132 #[.pointer x0] (fun (r : Unit) => .tuple #[]) (value_reader_fail x0) := by
  refine sound_ofX [(0, .pointer x0)] Go.Proofs.Tryz.func132 rfl rfl (Nat.le_of_ble_eq_true rfl) (args_of ⟨rfl, trivial⟩) (fun w0 w Q R X a hret hthr hE hR H => ?_)
  unfold value_reader_fail at H
  refine t_region ?_
  refine t_val (v := .pointer x0) rfl rfl hE rfl (r_move hE rfl) (fun a hE => ?_)
  obtain ⟨x3_1, qx3_1, H⟩ := H
  refine t_val (v := .pointer (some x3_1)) rfl rfl hE rfl (r_nilCheck hE (hx_eq rfl (congrArg Value.pointer qx3_1))) (fun a hE => ?_)
  refine t_val (v := .pointer (some ((x3_1).add 1))) rfl rfl hE rfl (r_fieldAddr hE rfl fd146_1) (fun a hE => ?_)
  obtain ⟨x5_2, qx5_2, H⟩ := H
  refine t_val (v := .int .i64 x5_2) rfl rfl hE rfl (r_load hE rfl sc3 qx5_2) (fun a hE => ?_)
  refine t_val (v := .agg (#[.int .i64 x5_2] : Array Value)) rfl rfl hE rfl (r_build hE rfl zr142 pl142 (by rfl)) (fun a hE => ?_)
  refine t_val (v := (Value.iface ty_value_wrong (.agg (#[.int .i64 x5_2] : Array Value)))) rfl rfl hE rfl (r_mkIface hE rfl ni142) (fun a hE => ?_)
  exact t_panic hE rfl (hthr _ _ hR H)

theorem tb170_1 : tabAt Go.Proofs.Tryz.f170 1 [[], [0], [1], [2], [], [4], [5], [6], [7], [3, 8]] [[], [0], [1], [2], [], [4], [5], [6], [7], [3, 8]] [[], [0], [0, 1], [0, 1, 2], [], [4], [4, 5], [4, 5, 6], [4, 5, 6, 7], [0, 1, 2, 3, 4, 5, 6, 7, 8]] = true := by kernel_rfl
theorem tb170_2 : tabAt Go.Proofs.Tryz.f170 2 [[], [0], [1], [2], [], [4], [5], [6], [3, 7], [8, 0, 1, 2, 3, 4, 5, 6, 7, 8]] [[], [0], [1], [2], [], [4], [5], [6], [3, 7], [8]] [[], [0], [0, 1], [0, 1, 2], [], [4], [4, 5], [4, 5, 6], [0, 1, 2, 3, 4, 5, 6, 7], [0, 1, 2, 3, 4, 5, 6, 7, 8]] = true := by kernel_rfl
def value_reader_here (x0 : Option Addr) : M (Int) := do
  let x4_4 ← nilP x0
  let x8_5 ← nilP x0
  let x6_6 ← ldI .i64 ((x4_4).add 1)
  let x10_7 ← ldS ((x8_5).add 0)
  M.ite (decide (x6_6 < (x10_7.size : Int))) (do
    let x14_9 ← nilP x0
    let x18_10 ← nilP x0
    let x16_11 ← ldS ((x14_9).add 0)
    let x20_12 ← ldI .i64 ((x18_10).add 1)
    let x21_13 ← ixS x16_11 x20_12
    M.pure x21_13
    ) (do
    M.pure 0
    )
theorem S_value_reader_here (x0 : Option Addr) : Sound Go.Proofs.Tryz.prog 170 #[.pointer x0] (fun (r : Int) => .int .u8 r) (value_reader_here x0) := by
  refine sound_of [(0, .pointer x0)] Go.Proofs.Tryz.func170 rfl rfl (Nat.le_of_ble_eq_true rfl) (args_of ⟨rfl, trivial⟩) (fun w0 w Q R a hret hE hR H => ?_)
  unfold value_reader_here at H
  refine w_seq (fun K hK_1 => ?_)
  refine t_region ?_
  refine t_val (v := .int .u8 0) rfl rfl hE rfl (r_assign hE rfl) (fun a hE => ?_)
  refine t_nil ?_
  refine hK_1 _ _ ?_
  refine w_seq (fun K hK_2 => ?_)
  refine w_seq (fun K hK_3 => ?_)
  obtain ⟨x4_4, qx4_4, H⟩ := H
  obtain ⟨x8_5, qx8_5, H⟩ := H
  obtain ⟨x6_6, qx6_6, H⟩ := H
  obtain ⟨x10_7, qx10_7, H⟩ := H
  have hT := tab_of tb170_1 rfl rfl
  refine d_start (fun w : World => (fun h : Heap => (hcell h ((x4_4).add 1) = some (.int .i64 x6_6)) ∧ (hcell h ((x8_5).add 0) = some (.string x10_7))) w.heap) [9] #[false, false, false, false, false, false, false, false, false, false] mo hR rfl rfl (fun w' e => by rw [e]; exact ⟨qx6_6, qx10_7⟩) (fun w hh hR hs => ?_)
  replace H := M.at hh H; clear hh
  refine d_pureg (i := 0) (v := .pointer x0) #[true, false, false, false, false, false, false, false, false, false] rfl rfl hT (by kernel_rfl) hE rfl (wanted_none rfl) (fun w => r_move hE rfl) (fun a hE => ?_)
  refine d_pureg (i := 1) (v := .pointer (some x4_4)) #[true, true, false, false, false, false, false, false, false, false] rfl rfl hT (by kernel_rfl) hE rfl (wanted_none rfl) (fun w => r_nilCheck hE (hx_eq rfl (congrArg Value.pointer qx4_4))) (fun a hE => ?_)
  refine d_pureg (i := 2) (v := .pointer (some ((x4_4).add 1))) #[true, true, true, false, false, false, false, false, false, false] rfl rfl hT (by kernel_rfl) hE rfl (wanted_none rfl) (fun w => r_fieldAddr hE rfl fd146_1) (fun a hE => ?_)
  refine d_pureg (i := 4) (v := .pointer x0) #[true, true, true, false, true, false, false, false, false, false] rfl rfl hT (by kernel_rfl) hE rfl (wanted_none rfl) (fun w => r_move hE rfl) (fun a hE => ?_)
  refine d_pureg (i := 5) (v := .pointer (some x8_5)) #[true, true, true, false, true, true, false, false, false, false] rfl rfl hT (by kernel_rfl) hE rfl (wanted_none rfl) (fun w => r_nilCheck hE (hx_eq rfl (congrArg Value.pointer qx8_5))) (fun a hE => ?_)
  refine d_pureg (i := 6) (v := .pointer (some ((x8_5).add 0))) #[true, true, true, false, true, true, true, false, false, false] rfl rfl hT (by kernel_rfl) hE rfl (wanted_none rfl) (fun w => r_fieldAddr hE rfl fd146_0) (fun a hE => ?_)
  refine d_read (i := 3) (v := .int .i64 x6_6) #[true, true, true, true, true, true, true, false, false, false] rfl rfl hT (by kernel_rfl) hE rfl (wanted_none rfl) hs (fun w s => r_load hE rfl sc3 s.1) (fun a hE => ?_)
  refine d_read (i := 7) (v := .string x10_7) #[true, true, true, true, true, true, true, true, false, false] rfl rfl hT (by kernel_rfl) hE rfl (wanted_none rfl) hs (fun w s => r_load hE rfl sc9 s.2) (fun a hE => ?_)
  refine d_pureg (i := 8) (v := .int .i64 (x10_7.size : Int)) #[true, true, true, true, true, true, true, true, true, false] rfl rfl hT (by kernel_rfl) hE rfl (wanted_none rfl) (fun w => r_lenS hE rfl un9) (fun a hE => ?_)
  refine d_pureg (i := 9) (v := .bool (decide (x6_6 < (x10_7.size : Int)))) #[true, true, true, true, true, true, true, true, true, true] rfl rfl hT (by kernel_rfl) hE rfl (wanted_none rfl) (fun w => r_bin hE rfl rfl g_int b_lss) (fun a hE => ?_)
  refine d_done hT (by kernel_rfl) ?_
  refine hK_3 _ _ ?_
  refine w_cond (decide (x6_6 < (x10_7.size : Int))) hE rfl (fun hb => ?_) (fun hb => ?_)
  · replace H := M.ite_t hb H
    refine w_seq (fun K hK_8 => ?_)
    obtain ⟨x14_9, qx14_9, H⟩ := H
    obtain ⟨x18_10, qx18_10, H⟩ := H
    obtain ⟨x16_11, qx16_11, H⟩ := H
    obtain ⟨x20_12, qx20_12, H⟩ := H
    obtain ⟨x21_13, qx21_13, H⟩ := H
    have hT := tab_of tb170_2 rfl rfl
    refine d_start (fun w : World => (fun h : Heap => (hcell h ((x14_9).add 0) = some (.string x16_11)) ∧ (hcell h ((x18_10).add 1) = some (.int .i64 x20_12))) w.heap) [8, 9] #[false, false, false, false, false, false, false, false, false, false] mo hR rfl rfl (fun w' e => by rw [e]; exact ⟨qx16_11, qx20_12⟩) (fun w hh hR hs => ?_)
    replace H := M.at hh H; clear hh
    refine d_pureg (i := 0) (v := .pointer x0) #[true, false, false, false, false, false, false, false, false, false] rfl rfl hT (by kernel_rfl) hE rfl (wanted_none rfl) (fun w => r_move hE rfl) (fun a hE => ?_)
    refine d_pureg (i := 1) (v := .pointer (some x14_9)) #[true, true, false, false, false, false, false, false, false, false] rfl rfl hT (by kernel_rfl) hE rfl (wanted_none rfl) (fun w => r_nilCheck hE (hx_eq rfl (congrArg Value.pointer qx14_9))) (fun a hE => ?_)
    refine d_pureg (i := 2) (v := .pointer (some ((x14_9).add 0))) #[true, true, true, false, false, false, false, false, false, false] rfl rfl hT (by kernel_rfl) hE rfl (wanted_none rfl) (fun w => r_fieldAddr hE rfl fd146_0) (fun a hE => ?_)
    refine d_pureg (i := 4) (v := .pointer x0) #[true, true, true, false, true, false, false, false, false, false] rfl rfl hT (by kernel_rfl) hE rfl (wanted_none rfl) (fun w => r_move hE rfl) (fun a hE => ?_)
    refine d_pureg (i := 5) (v := .pointer (some x18_10)) #[true, true, true, false, true, true, false, false, false, false] rfl rfl hT (by kernel_rfl) hE rfl (wanted_none rfl) (fun w => r_nilCheck hE (hx_eq rfl (congrArg Value.pointer qx18_10))) (fun a hE => ?_)
    refine d_pureg (i := 6) (v := .pointer (some ((x18_10).add 1))) #[true, true, true, false, true, true, true, false, false, false] rfl rfl hT (by kernel_rfl) hE rfl (wanted_none rfl) (fun w => r_fieldAddr hE rfl fd146_1) (fun a hE => ?_)
    refine d_read (i := 3) (v := .string x16_11) #[true, true, true, true, true, true, true, false, false, false] rfl rfl hT (by kernel_rfl) hE rfl (wanted_none rfl) hs (fun w s => r_load hE rfl sc9 s.1) (fun a hE => ?_)
    refine d_read (i := 7) (v := .int .i64 x20_12) #[true, true, true, true, true, true, true, true, false, false] rfl rfl hT (by kernel_rfl) hE rfl (wanted_none rfl) hs (fun w s => r_load hE rfl sc3 s.2) (fun a hE => ?_)
    refine d_pureg (i := 8) (v := .int .u8 x21_13) #[true, true, true, true, true, true, true, true, true, false] rfl rfl hT (by kernel_rfl) hE rfl (wanted_none rfl) (fun w => r_indexS hE rfl rfl un9 qx21_13) (fun a hE => ?_)
    refine d_pureg (i := 9) (v := .int .u8 x21_13) #[true, true, true, true, true, true, true, true, true, true] rfl rfl hT (by kernel_rfl) hE rfl (wanted_none rfl) (fun w => r_assign hE rfl) (fun a hE => ?_)
    refine d_done hT (by kernel_rfl) ?_
    refine hK_8 _ _ ?_
    refine w_ret ?_
    exact hret _ _ _ x21_13 _ hE hR (res_run hE rfl (RV.tmp rfl RV.nil)) rfl H
  · replace H := M.ite_f hb H
    refine w_skip ?_
    refine hK_2 _ _ ?_
    refine w_seq (fun K hK_14 => ?_)
    refine t_region ?_
    refine t_val (v := .int .u8 0) rfl rfl hE rfl (r_assign hE rfl) (fun a hE => ?_)
    refine t_nil ?_
    refine hK_14 _ _ ?_
    refine w_ret ?_
    exact hret _ _ _ 0 _ hE hR (res_run hE rfl (RV.tmp rfl RV.nil)) rfl H

def value_digit (x0 : Int) : M (Bool) := do
  let x8_3 ← M.ite (decide (x0 ≥ 48)) (do
    M.pure (decide (x0 ≤ 57))
    ) (do
    M.pure false
    )
  M.pure x8_3
theorem S_value_digit (x0 : Int) : Sound Go.Proofs.Tryz.prog 171 #[.int .u8 x0] (fun (r : Bool) => .bool r) (value_digit x0) := by
  refine sound_of [(0, .int .u8 x0)] Go.Proofs.Tryz.func171 rfl rfl (Nat.le_of_ble_eq_true rfl) (args_of ⟨rfl, trivial⟩) (fun w0 w Q R a hret hE hR H => ?_)
  unfold value_digit at H
  refine w_seq (fun K hK_1 => ?_)
  refine t_region ?_
  refine t_val (v := .bool false) rfl rfl hE rfl (r_assign hE rfl) (fun a hE => ?_)
  refine t_nil ?_
  refine hK_1 _ _ ?_
  refine w_seq (fun K hK_2 => ?_)
  refine t_region ?_
  refine t_val (v := .int .u8 x0) rfl rfl hE rfl (r_move hE rfl) (fun a hE => ?_)
  refine t_val (v := .bool (decide (x0 ≥ 48))) rfl rfl hE rfl (r_bin hE rfl rfl g_int b_geq) (fun a hE => ?_)
  refine t_val (v := .bool (decide (x0 ≥ 48))) rfl rfl hE rfl (r_move hE rfl) (fun a hE => ?_)
  refine t_grp (n := (⟨9, []⟩ : Frm)) (w0 := w0) 3 (fun x8_3 : Bool => [(2, .bool false), (8, .bool x8_3)]) (M.unbind H) (fun Kr hKr H => ?_) ?_
  · rcases bool_em (decide (x0 ≥ 48)) with hb | hb
    · replace H := M.ite_t hb H
      have hE := hE.reb 5 (decide (x0 ≥ 48)) true hb rfl
      refine t_on rfl hE rfl rfl rfl ?_
      refine t_val (v := .int .u8 x0) rfl rfl hE rfl (r_move hE rfl) (fun a hE => ?_)
      refine t_on rfl hE rfl rfl rfl ?_
      refine t_val (v := .bool (decide (x0 ≤ 57))) rfl rfl hE rfl (r_bin hE rfl rfl g_int b_leq) (fun a hE => ?_)
      refine t_val rfl rfl hE rfl (r_pick_t hE rfl rfl) (fun a hE => ?_)
      refine t_nil ?_
      exact hKr _ _ _ (hE.cut (.cons rfl (.cons rfl Subs.nil))) hR H
    · replace H := M.ite_f hb H
      have hE := hE.reb 5 (decide (x0 ≥ 48)) false hb rfl
      refine t_off rfl hE rfl rfl rfl (fun a ea => ?_)
      have hE := Env.put_some hE rfl ea; clear ea
      refine t_off rfl hE rfl rfl rfl (fun a ea => ?_)
      have hE := Env.put_some hE rfl ea; clear ea
      refine t_val rfl rfl hE rfl (r_pick_f hE rfl rfl) (fun a hE => ?_)
      refine t_nil ?_
      exact hKr _ _ _ (hE.cut (.cons rfl (.cons rfl Subs.nil))) hR H
  · intro x8_3 a w hE hR H
    refine t_val (v := .bool x8_3) rfl rfl hE rfl (r_assign hE rfl) (fun a hE => ?_)
    refine t_nil ?_
    refine hK_2 _ _ ?_
    refine w_ret ?_
    exact hret _ _ _ x8_3 _ hE hR (res_run hE rfl (RV.tmp rfl RV.nil)) rfl H

end Gx
namespace Gx
open Go
set_option linter.unusedVariables false
set_option maxRecDepth 100000
noncomputable def ro172_9 : Array Oper := opsOf Go.Proofs.Tryz.f172 9
def tE172_9 : List (List Nat) := [[], [0], [1], [2], [], [], [5], [6], [7], [8], [3, 4, 9], [10], [11], [12], [12], [13, 11, 0, 1, 2, 3, 4, 5, 6, 7, 8, 9, 10, 11, 12, 13], [14, 15, 0, 1, 2, 3, 4, 5, 6, 7, 8, 9, 10, 11, 12, 13, 14, 15]]
def tC172_9 : List (List Nat) := [[], [0], [1], [2], [], [], [5], [6], [7], [8], [3, 4, 9], [10], [11], [12], [12], [13], [14]]
def tW172_9 : List (List Nat) := [[], [0], [0, 1], [0, 1, 2], [], [], [5], [5, 6], [5, 6, 7], [5, 6, 7, 8], [0, 1, 2, 3, 4, 5, 6, 7, 8, 9], [0, 1, 2, 3, 4, 5, 6, 7, 8, 9, 10], [0, 1, 2, 3, 4, 5, 6, 7, 8, 9, 10, 11], [0, 1, 2, 3, 4, 5, 6, 7, 8, 9, 10, 11, 12], [0, 1, 2, 3, 4, 5, 6, 7, 8, 9, 10, 11, 12], [0, 1, 2, 3, 4, 5, 6, 7, 8, 9, 10, 11, 12, 13], [0, 1, 2, 3, 4, 5, 6, 7, 8, 9, 10, 11, 12, 13, 14, 15]]
theorem tb172_9 : tabAt Go.Proofs.Tryz.f172 9 tE172_9 tC172_9 tW172_9 = true := by kernel_rfl
theorem tb172_9m : tabMB 17 tE172_9 tC172_9 tW172_9 [0, 1, 2, 4, 0, 0, 32, 64, 128, 256, 536, 1024, 2048, 4096, 4096, 16383, 65535] [0, 1, 2, 4, 0, 0, 32, 64, 128, 256, 536, 1024, 2048, 4096, 4096, 8192, 16384] [0, 1, 3, 7, 0, 0, 32, 96, 224, 480, 1023, 2047, 4095, 8191, 8191, 16383, 65535] = true := by kernel_rfl
def value_reader_number_j3 (self1 : (Int) → M (Value ⊕ (Int))) (c0_29 : Option Addr) (c5_31 : Int) (c6_32 : Int) (c7_33 : Int) : M (Value ⊕ (Int)) := do
  M.ite (c7_33 != 0) (do
    M.pure (.inr c5_31)
    ) (do
    let x69_38 ← nilP c0_29
    let x71_39 ← ldI .i64 ((x69_38).add 1)
    let x73_40 ← nilP c0_29
    stV ((x73_40).add 1) (.int .i64 (IntKind.wrap .i64 (x71_39 + 1)))
    self1 c6_32
    )
def value_reader_number_l1 (c0_15 : Option Addr) (c3_16 : Int) (self1 : (Int) → M (Value ⊕ (Int))) : (Int) → M (Value ⊕ (Int)) := fun s => match s with
  | x5_14 => do
    let x43_20 ← value_reader_here c0_15
    let x44_21 ← value_digit x43_20
    M.ite x44_21 (do
      let x47_23 ← nilP c0_15
      let x52_24 ← nilP c0_15
      let x49_25 ← ldS ((x47_23).add 0)
      let x54_26 ← ldI .i64 ((x52_24).add 1)
      let x56_27 ← slS x49_25 c3_16 (IntKind.wrap .i64 (x54_26 + 1))
      let x57_28 ← callF Go.Proofs.Tryz.prog fn_num_Parse #[.string x56_27] (fun r : Int × Int => .tuple #[.int .i64 r.1, .int .i64 r.2])
      M.ite (x57_28.2 == 7) (do
        thr (value_reader_fail c0_15) fun x63_43 => do
          value_reader_number_j3 self1 c0_15 x5_14 x57_28.1 x57_28.2
        ) (do
        value_reader_number_j3 self1 c0_15 x5_14 x57_28.1 x57_28.2
        )
      ) (do
      M.pure (.inr x5_14)
      )
def value_reader_number_j2 (c0_10 : Option Addr) (c3_11 : Int) : M (Value ⊕ (Int)) := do
  M.loop (value_reader_number_l1 c0_10 c3_11) 0
def value_reader_number_j1 (c0_5 : Option Addr) (c3_6 : Int) : M (Value ⊕ (Int)) := do
  let x23_8 ← nilP c0_5
  let x25_9 ← ldI .i64 ((x23_8).add 1)
  let x29_46 ← value_reader_here c0_5
  let x30_47 ← value_digit x29_46
  let x39_48 ← M.ite (!x30_47) (do
    M.pure true
    ) (do
    let x38_49 ← M.ite (decide (x25_9 > c3_6)) (do
      let x36_50 ← value_reader_here c0_5
      M.pure (x36_50 == 48)
      ) (do
      M.pure false
      )
    M.pure x38_49
    )
  M.ite x39_48 (do
    thr (value_reader_fail c0_5) fun x41_51 => do
      value_reader_number_j2 c0_5 c3_6
    ) (do
    value_reader_number_j2 c0_5 c3_6
    )
def value_reader_number (x0 : Option Addr) : M (Value ⊕ (Int)) := do
  let x9_3 ← nilP x0
  let x11_4 ← ldI .i64 ((x9_3).add 1)
  let x13_53 ← value_reader_here x0
  M.ite (x13_53 == 45) (do
    let x16_54 ← nilP x0
    let x18_55 ← ldI .i64 ((x16_54).add 1)
    let x20_56 ← nilP x0
    stV ((x20_56).add 1) (.int .i64 (IntKind.wrap .i64 (x18_55 + 1)))
    value_reader_number_j1 x0 x11_4
    ) (do
    value_reader_number_j1 x0 x11_4
    )
theorem S_value_reader_number (x0 : Option Addr) : SoundX Go.Proofs.Tryz.prog 172 #[.pointer x0] (fun (r : Int) => .int .i64 r) (value_reader_number x0) := by
  refine sound_ofX [(0, .pointer x0)] Go.Proofs.Tryz.func172 rfl rfl (Nat.le_of_ble_eq_true rfl) (args_of ⟨rfl, trivial⟩) (fun w0 w Q R X a hret hthr hE hR H => ?_)
  unfold value_reader_number at H
  refine w_seq (fun K hK_1 => ?_)
  refine t_region ?_
  refine t_val (v := .int .i64 0) rfl rfl hE rfl (r_assign hE rfl) (fun a hE => ?_)
  refine t_nil ?_
  refine hK_1 _ _ ?_
  refine w_seq (fun K hK_2 => ?_)
  refine t_region ?_
  refine t_val (v := .pointer x0) rfl rfl hE rfl (r_move hE rfl) (fun a hE => ?_)
  obtain ⟨x9_3, qx9_3, H⟩ := H
  refine t_val (v := .pointer (some x9_3)) rfl rfl hE rfl (r_nilCheck hE (hx_eq rfl (congrArg Value.pointer qx9_3))) (fun a hE => ?_)
  refine t_val (v := .pointer (some ((x9_3).add 1))) rfl rfl hE rfl (r_fieldAddr hE rfl fd146_1) (fun a hE => ?_)
  obtain ⟨x11_4, qx11_4, H⟩ := H
  refine t_val (v := .int .i64 x11_4) rfl rfl hE rfl (r_load hE rfl sc3 qx11_4) (fun a hE => ?_)
  refine t_val (v := .int .i64 x11_4) rfl rfl hE rfl (r_assign hE rfl) (fun a hE => ?_)
  refine t_nil ?_
  refine hK_2 _ _ ?_
  refine w_seq_join (fun a w => Env (⟨76, []⟩ : Frm) a [(0, .pointer x0), (3, .int .i64 x11_4)] ∧ Rest w0 w ∧ (value_reader_number_j1 x0 x11_4).wp w.heap Q) ?_ ?_
  · rintro a w ⟨hE, hR, H⟩
    unfold value_reader_number_j1 at H
    refine w_seq (fun K hK_7 => ?_)
    refine t_region ?_
    refine t_val (v := .pointer x0) rfl rfl hE rfl (r_move hE rfl) (fun a hE => ?_)
    obtain ⟨x23_8, qx23_8, H⟩ := H
    refine t_val (v := .pointer (some x23_8)) rfl rfl hE rfl (r_nilCheck hE (hx_eq rfl (congrArg Value.pointer qx23_8))) (fun a hE => ?_)
    refine t_val (v := .pointer (some ((x23_8).add 1))) rfl rfl hE rfl (r_fieldAddr hE rfl fd146_1) (fun a hE => ?_)
    obtain ⟨x25_9, qx25_9, H⟩ := H
    refine t_val (v := .int .i64 x25_9) rfl rfl hE rfl (r_load hE rfl sc3 qx25_9) (fun a hE => ?_)
    refine t_val (v := .int .i64 x11_4) rfl rfl hE rfl (r_move hE rfl) (fun a hE => ?_)
    refine t_val (v := .bool (decide (x25_9 > x11_4))) rfl rfl hE rfl (r_bin hE rfl rfl g_int b_gtr) (fun a hE => ?_)
    refine t_val (v := .bool (decide (x25_9 > x11_4))) rfl rfl hE rfl (r_assign hE rfl) (fun a hE => ?_)
    refine t_nil ?_
    refine hK_7 _ _ ?_
    refine w_seq_join (fun a w => Env (⟨76, []⟩ : Frm) a [(0, .pointer x0), (3, .int .i64 x11_4)] ∧ Rest w0 w ∧ (value_reader_number_j2 x0 x11_4).wp w.heap Q) ?_ ?_
    · rintro a w ⟨hE, hR, H⟩
      unfold value_reader_number_j2 at H
      refine w_seq (fun K hK_12 => ?_)
      refine t_region ?_
      refine t_val (v := .int .i64 0) rfl rfl hE rfl (r_assign hE rfl) (fun a hE => ?_)
      refine t_nil ?_
      refine hK_12 _ _ ?_
      refine w_seq (fun K hK_13 => ?_)
      refine w_block ?_
      refine l_loop (fun (s : Int) => (⟨76, []⟩ : Frm)) (fun (s : Int) => [(0, .pointer x0), (3, .int .i64 x11_4), (5, .int .i64 s)]) H (hE.cut (.cons rfl (.cons rfl (.cons rfl Subs.nil)))) hR (fun Y self1 hY_17 x5_14 a w hE hR H => ?_)
      replace hE : Env (⟨76, []⟩ : Frm) a [(0, .pointer x0), (3, .int .i64 x11_4), (5, .int .i64 x5_14)] := hE
      replace H : (value_reader_number_l1 x0 x11_4 self1 x5_14).wp w.heap Q := H
      unfold value_reader_number_l1 at H
      refine w_seq (fun K hK_18 => ?_)
      refine w_seq (fun K hK_19 => ?_)
      refine t_region ?_
      refine t_val (v := .pointer x0) rfl rfl hE rfl (r_move hE rfl) (fun a hE => ?_)
      refine t_call hE hR cl_value_reader_here rfl (S_value_reader_here x0) (M.unbind H) (fun x43_20 a w ea hR H => ?_)
      have hE := Env.put_some hE rfl ea; clear ea
      refine t_call hE hR cl_value_digit rfl (S_value_digit x43_20) (M.unbind H) (fun x44_21 a w ea hR H => ?_)
      have hE := Env.put_some hE rfl ea; clear ea
      refine t_nil ?_
      refine hK_19 _ _ ?_
      refine w_cond x44_21 hE rfl (fun hb => ?_) (fun hb => ?_)
      · replace H := M.ite_t hb H
        refine w_skip ?_
        refine hK_18 _ _ ?_
        refine w_block ?_
        refine w_seq (fun K hK_22 => ?_)
        obtain ⟨x47_23, qx47_23, H⟩ := H
        obtain ⟨x52_24, qx52_24, H⟩ := H
        obtain ⟨x49_25, qx49_25, H⟩ := H
        obtain ⟨x54_26, qx54_26, H⟩ := H
        obtain ⟨x56_27, qx56_27, H⟩ := H
        refine reg_eq (rops := ro172_9) (by kernel_rfl) ?_
        have hT : Tab ro172_9 _ _ _ := tab_of tb172_9 rfl (by kernel_rfl)
        have hM := TabM.of tb172_9m
        refine d_start (m := 17) (fun w : World => (fun h : Heap => (hcell h ((x47_23).add 0) = some (.string x49_25)) ∧ (hcell h ((x52_24).add 1) = some (.int .i64 x54_26))) w.heap) [10, 11, 12, 13, 14, 15, 16] (unb 17 0) mo hR (by kernel_rfl) (by kernel_rfl) (fun w' e => by rw [e]; exact ⟨qx49_25, qx54_26⟩) (fun w hh hR hs => ?_)
        replace H := M.at hh H; clear hh
        refine d_pureg (i := 0) (v := .pointer x0) (unb 17 1) rfl rfl hT (anyM hM (by kernel_rfl)) hE rfl (wanted_none rfl) (fun w => r_move hE rfl) (fun a hE => ?_)
        refine d_pureg (i := 1) (v := .pointer (some x47_23)) (unb 17 3) rfl rfl hT (anyM hM (by kernel_rfl)) hE rfl (wanted_none rfl) (fun w => r_nilCheck hE (hx_eq rfl (congrArg Value.pointer qx47_23))) (fun a hE => ?_)
        refine d_pureg (i := 2) (v := .pointer (some ((x47_23).add 0))) (unb 17 7) rfl rfl hT (anyM hM (by kernel_rfl)) hE rfl (wanted_none rfl) (fun w => r_fieldAddr hE rfl fd146_0) (fun a hE => ?_)
        refine d_pureg (i := 4) (v := .int .i64 x11_4) (unb 17 23) rfl rfl hT (anyM hM (by kernel_rfl)) hE rfl (wanted_none rfl) (fun w => r_move hE rfl) (fun a hE => ?_)
        refine d_pureg (i := 5) (v := .pointer x0) (unb 17 55) rfl rfl hT (anyM hM (by kernel_rfl)) hE rfl (wanted_none rfl) (fun w => r_move hE rfl) (fun a hE => ?_)
        refine d_pureg (i := 6) (v := .pointer (some x52_24)) (unb 17 119) rfl rfl hT (anyM hM (by kernel_rfl)) hE rfl (wanted_none rfl) (fun w => r_nilCheck hE (hx_eq rfl (congrArg Value.pointer qx52_24))) (fun a hE => ?_)
        refine d_pureg (i := 7) (v := .pointer (some ((x52_24).add 1))) (unb 17 247) rfl rfl hT (anyM hM (by kernel_rfl)) hE rfl (wanted_none rfl) (fun w => r_fieldAddr hE rfl fd146_1) (fun a hE => ?_)
        refine d_read (i := 3) (v := .string x49_25) (unb 17 255) rfl rfl hT (takeM hM (by kernel_rfl)) hE rfl (wanted_none rfl) hs (fun w s => r_load hE rfl sc9 s.1) (fun a hE => ?_)
        refine d_read (i := 8) (v := .int .i64 x54_26) (unb 17 511) rfl rfl hT (takeM hM (by kernel_rfl)) hE rfl (wanted_none rfl) hs (fun w s => r_load hE rfl sc3 s.2) (fun a hE => ?_)
        refine d_pureg (i := 9) (v := .int .i64 (IntKind.wrap .i64 (x54_26 + 1))) (unb 17 1023) rfl rfl hT (anyM hM (by kernel_rfl)) hE rfl (wanted_none rfl) (fun w => r_bin hE rfl rfl g_int b_add) (fun a hE => ?_)
        refine d_pureg (i := 10) (v := .string x56_27) (unb 17 2047) rfl rfl hT (anyM hM (by kernel_rfl)) hE rfl (wanted_none rfl) (fun w => r_sliceS_lh hE rfl rfl rfl un9 qx56_27) (fun a hE => ?_)
        refine d_calll (i := 11) (unb 17 4095) rfl rfl rfl hT (oneM hM (by kernel_rfl)) rfl hE hR (wanted_none rfl) cl_num_Parse rfl (sound_callF) (M.unbind H) (fun x57_28 a w ea hR H => ?_)
        have hE := Env.put_some hE rfl ea; clear ea
        refine d_pureg (i := 12) (v := .tuple #[.int .i64 x57_28.1, .int .i64 x57_28.2]) (unb 17 8191) rfl rfl hT (anyM hM (by kernel_rfl)) hE rfl (wanted_none rfl) (fun w => r_move hE rfl) (fun a hE => ?_)
        refine d_pureg (i := 13) (v := .int .i64 x57_28.1) (unb 17 16383) rfl rfl hT (anyM hM (by kernel_rfl)) hE rfl (wanted_none rfl) (fun w => r_extract hE rfl rfl) (fun a hE => ?_)
        refine d_pureg (i := 14) (v := .int .i64 x57_28.2) (unb 17 32767) rfl rfl hT (anyM hM (by kernel_rfl)) hE rfl (wanted_none rfl) (fun w => r_extract hE rfl rfl) (fun a hE => ?_)
        refine d_pureg (i := 15) (v := .int .i64 x57_28.1) (unb 17 65535) rfl rfl hT (anyM hM (by kernel_rfl)) hE rfl (wanted_none rfl) (fun w => r_assign hE rfl) (fun a hE => ?_)
        refine d_pureg (i := 16) (v := .int .i64 x57_28.2) (unb 17 131071) rfl rfl hT (anyM hM (by kernel_rfl)) hE rfl (wanted_none rfl) (fun w => r_assign hE rfl) (fun a hE => ?_)
        refine d_done hT (doneM hM (by kernel_rfl)) ?_
        refine hK_22 _ _ ?_
        refine w_seq_join (fun a w => Env (⟨76, []⟩ : Frm) a [(0, .pointer x0), (3, .int .i64 x11_4), (5, .int .i64 x5_14), (6, .int .i64 x57_28.1), (7, .int .i64 x57_28.2)] ∧ Rest w0 w ∧ (value_reader_number_j3 self1 x0 x5_14 x57_28.1 x57_28.2).wp w.heap Q) ?_ ?_
        · rintro a w ⟨hE, hR, H⟩
          unfold value_reader_number_j3 at H
          refine w_seq (fun K hK_34 => ?_)
          refine w_seq (fun K hK_35 => ?_)
          refine t_region ?_
          refine t_val (v := .int .i64 x57_28.2) rfl rfl hE rfl (r_move hE rfl) (fun a hE => ?_)
          refine t_val (v := .bool (x57_28.2 != 0)) rfl rfl hE rfl (r_bin hE rfl rfl g_int b_neq) (fun a hE => ?_)
          refine t_nil ?_
          refine hK_35 _ _ ?_
          refine w_cond (x57_28.2 != 0) hE rfl (fun hb => ?_) (fun hb => ?_)
          · replace H := M.ite_t hb H
            refine w_seq (fun K hK_36 => ?_)
            refine t_region ?_
            refine t_val (v := .int .i64 x5_14) rfl rfl hE rfl (r_move hE rfl) (fun a hE => ?_)
            refine t_val (v := .int .i64 x5_14) rfl rfl hE rfl (r_assign hE rfl) (fun a hE => ?_)
            refine t_nil ?_
            refine hK_36 _ _ ?_
            refine w_ret ?_
            exact hret _ _ _ x5_14 _ hE hR (res_run hE rfl (RV.tmp rfl RV.nil)) rfl H
          · replace H := M.ite_f hb H
            refine w_skip ?_
            refine hK_34 _ _ ?_
            refine w_seq (fun K hK_37 => ?_)
            refine t_region ?_
            refine t_val (v := .int .i64 x57_28.1) rfl rfl hE rfl (r_move hE rfl) (fun a hE => ?_)
            refine t_val (v := .int .i64 x57_28.1) rfl rfl hE rfl (r_assign hE rfl) (fun a hE => ?_)
            refine t_nil ?_
            refine hK_37 _ _ ?_
            refine t_region ?_
            refine t_val (v := .pointer x0) rfl rfl hE rfl (r_move hE rfl) (fun a hE => ?_)
            obtain ⟨x69_38, qx69_38, H⟩ := H
            refine t_val (v := .pointer (some x69_38)) rfl rfl hE rfl (r_nilCheck hE (hx_eq rfl (congrArg Value.pointer qx69_38))) (fun a hE => ?_)
            refine t_val (v := .pointer (some ((x69_38).add 1))) rfl rfl hE rfl (r_fieldAddr hE rfl fd146_1) (fun a hE => ?_)
            obtain ⟨x71_39, qx71_39, H⟩ := H
            refine t_val (v := .int .i64 x71_39) rfl rfl hE rfl (r_load hE rfl sc3 qx71_39) (fun a hE => ?_)
            refine t_val (v := .int .i64 (IntKind.wrap .i64 (x71_39 + 1))) rfl rfl hE rfl (r_bin hE rfl rfl g_int b_add) (fun a hE => ?_)
            obtain ⟨x73_40, qx73_40, H⟩ := H
            refine t_val (v := .pointer (some x73_40)) rfl rfl hE rfl (r_nilCheck hE (hx_eq rfl (congrArg Value.pointer qx73_40))) (fun a hE => ?_)
            refine t_val (v := .pointer (some ((x73_40).add 1))) rfl rfl hE rfl (r_fieldAddr hE rfl fd146_1) (fun a hE => ?_)
            obtain ⟨u_41, qu_41, H⟩ := H
            refine t_sth rfl rfl hE hR (r_store hE rfl rfl sz3 qu_41) (fun a w hE hR hh => ?_)
            replace H := M.at hh H; clear hh
            refine t_nil ?_
            exact hY_17 x57_28.1 _ _ (hE.cut (.cons rfl (.cons rfl (.cons rfl Subs.nil)))) hR H
        · skip
          refine w_seq (fun K hK_42 => ?_)
          refine t_region ?_
          refine t_val (v := .int .i64 x57_28.2) rfl rfl hE rfl (r_move hE rfl) (fun a hE => ?_)
          refine t_val (v := .bool (x57_28.2 == 7)) rfl rfl hE rfl (r_bin hE rfl rfl g_int b_eql) (fun a hE => ?_)
          refine t_nil ?_
          refine hK_42 _ _ ?_
          refine w_cond (x57_28.2 == 7) hE rfl (fun hb => ?_) (fun hb => ?_)
          · replace H := M.ite_t hb H
            refine t_region ?_
            refine t_val (v := .pointer x0) rfl rfl hE rfl (r_move hE rfl) (fun a hE => ?_)
            refine t_callX hE hR cl_value_reader_fail rfl (S_value_reader_fail x0) H (fun _ _ hR HQ => Xu.ne rfl (Xu.ne rfl (hthr _ _ hR HQ))) (fun x63_43 a w ea hR H => ?_)
            have hE := Env.put_some hE rfl ea; clear ea
            refine t_nil ?_
            exact ⟨hE.cut (.cons rfl (.cons rfl (.cons rfl (.cons rfl (.cons rfl Subs.nil))))), hR, H⟩
          · replace H := M.ite_f hb H
            refine w_skip ?_
            exact ⟨hE.cut (.cons rfl (.cons rfl (.cons rfl (.cons rfl (.cons rfl Subs.nil))))), hR, H⟩
      · replace H := M.ite_f hb H
        refine w_exit ?_
        refine Xu.same ?_
        refine hK_13 _ _ ?_
        refine w_seq (fun K hK_44 => ?_)
        refine t_region ?_
        refine t_val (v := .int .i64 x5_14) rfl rfl hE rfl (r_move hE rfl) (fun a hE => ?_)
        refine t_val (v := .int .i64 x5_14) rfl rfl hE rfl (r_assign hE rfl) (fun a hE => ?_)
        refine t_nil ?_
        refine hK_44 _ _ ?_
        refine w_ret ?_
        exact hret _ _ _ x5_14 _ hE hR (res_run hE rfl (RV.tmp rfl RV.nil)) rfl H
    · skip
      refine w_seq (fun K hK_45 => ?_)
      refine t_region ?_
      refine t_val (v := .pointer x0) rfl rfl hE rfl (r_move hE rfl) (fun a hE => ?_)
      refine t_call hE hR cl_value_reader_here rfl (S_value_reader_here x0) (M.unbind H) (fun x29_46 a w ea hR H => ?_)
      have hE := Env.put_some hE rfl ea; clear ea
      refine t_call hE hR cl_value_digit rfl (S_value_digit x29_46) (M.unbind H) (fun x30_47 a w ea hR H => ?_)
      have hE := Env.put_some hE rfl ea; clear ea
      refine t_val (v := .bool (!x30_47)) rfl rfl hE rfl (r_un hE rfl u_not) (fun a hE => ?_)
      refine t_val (v := .bool (!x30_47)) rfl rfl hE rfl (r_move hE rfl) (fun a hE => ?_)
      refine t_grp (n := (⟨76, []⟩ : Frm)) (w0 := w0) 7 (fun x39_48 : Bool => [(0, .pointer x0), (3, .int .i64 x11_4), (39, .bool x39_48)]) (M.unbind H) (fun Kr hKr H => ?_) ?_
      · rcases bool_em (!x30_47) with hb | hb
        · replace H := M.ite_t hb H
          have hE := hE.reb 32 (!x30_47) true hb rfl
          refine t_off rfl hE rfl rfl rfl (fun a ea => ?_)
          have hE := Env.put_some hE rfl ea; clear ea
          refine t_off rfl hE rfl rfl rfl (fun a ea => ?_)
          have hE := Env.put_some hE rfl ea; clear ea
          refine t_off' rfl hE rfl rfl (fun b hb => by cases hb) (fun a ea => ?_)
          have hE := Env.put_some hE rfl ea; clear ea
          refine t_off' rfl hE rfl rfl (fun b hb => by cases hb) (fun a ea => ?_)
          have hE := Env.put_some hE rfl ea; clear ea
          refine t_off' rfl hE rfl rfl (fun b hb => by cases hb) (fun a ea => ?_)
          have hE := Env.put_some hE rfl ea; clear ea
          refine t_off rfl hE rfl rfl rfl (fun a ea => ?_)
          have hE := Env.put_some hE rfl ea; clear ea
          refine t_val rfl rfl hE rfl (r_pick_t hE rfl rfl) (fun a hE => ?_)
          refine t_nil ?_
          exact hKr _ _ _ (hE.cut (.cons rfl (.cons rfl (.cons rfl Subs.nil)))) hR H
        · replace H := M.ite_f hb H
          have hE := hE.reb 32 (!x30_47) false hb rfl
          refine t_on rfl hE rfl rfl rfl ?_
          refine t_val (v := .bool (decide (x25_9 > x11_4))) rfl rfl hE rfl (r_move hE rfl) (fun a hE => ?_)
          refine t_on rfl hE rfl rfl rfl ?_
          refine t_val (v := .bool (decide (x25_9 > x11_4))) rfl rfl hE rfl (r_move hE rfl) (fun a hE => ?_)
          refine t_grp (n := (⟨76, []⟩ : Frm)) (w0 := w0) 4 (fun x38_49 : Bool => [(0, .pointer x0), (3, .int .i64 x11_4), (32, .bool false), (38, .bool x38_49)]) (M.unbind H) (fun Kr hKr H => ?_) ?_
          · rcases bool_em (decide (x25_9 > x11_4)) with hb | hb
            · replace H := M.ite_t hb H
              have hE := hE.reb 34 (decide (x25_9 > x11_4)) true hb rfl
              refine t_on rfl hE rfl rfl rfl ?_
              refine t_val (v := .pointer x0) rfl rfl hE rfl (r_move hE rfl) (fun a hE => ?_)
              refine t_on rfl hE rfl rfl rfl ?_
              refine t_call hE hR cl_value_reader_here rfl (S_value_reader_here x0) (M.unbind H) (fun x36_50 a w ea hR H => ?_)
              have hE := Env.put_some hE rfl ea; clear ea
              refine t_on rfl hE rfl rfl rfl ?_
              refine t_val (v := .bool (x36_50 == 48)) rfl rfl hE rfl (r_bin hE rfl rfl g_int b_eql) (fun a hE => ?_)
              refine t_on rfl hE rfl rfl rfl ?_
              refine t_val rfl rfl hE rfl (r_pick_t hE rfl rfl) (fun a hE => ?_)
              refine t_nil ?_
              exact hKr _ _ _ (hE.cut (.cons rfl (.cons rfl (.cons rfl (.cons rfl Subs.nil))))) hR H
            · replace H := M.ite_f hb H
              have hE := hE.reb 34 (decide (x25_9 > x11_4)) false hb rfl
              refine t_off rfl hE rfl rfl rfl (fun a ea => ?_)
              have hE := Env.put_some hE rfl ea; clear ea
              refine t_off rfl hE rfl rfl rfl (fun a ea => ?_)
              have hE := Env.put_some hE rfl ea; clear ea
              refine t_off rfl hE rfl rfl rfl (fun a ea => ?_)
              have hE := Env.put_some hE rfl ea; clear ea
              refine t_on rfl hE rfl rfl rfl ?_
              refine t_val rfl rfl hE rfl (r_pick_f hE rfl rfl) (fun a hE => ?_)
              refine t_nil ?_
              exact hKr _ _ _ (hE.cut (.cons rfl (.cons rfl (.cons rfl (.cons rfl Subs.nil))))) hR H
          · intro x38_49 a w hE hR H
            refine t_val rfl rfl hE rfl (r_pick_f hE rfl rfl) (fun a hE => ?_)
            refine t_nil ?_
            exact hKr _ _ _ (hE.cut (.cons rfl (.cons rfl (.cons rfl Subs.nil)))) hR H
      · intro x39_48 a w hE hR H
        refine t_nil ?_
        refine hK_45 _ _ ?_
        refine w_cond x39_48 hE rfl (fun hb => ?_) (fun hb => ?_)
        · replace H := M.ite_t hb H
          refine t_region ?_
          refine t_val (v := .pointer x0) rfl rfl hE rfl (r_move hE rfl) (fun a hE => ?_)
          refine t_callX hE hR cl_value_reader_fail rfl (S_value_reader_fail x0) H (fun _ _ hR HQ => hthr _ _ hR HQ) (fun x41_51 a w ea hR H => ?_)
          have hE := Env.put_some hE rfl ea; clear ea
          refine t_nil ?_
          exact ⟨hE.cut (.cons rfl (.cons rfl Subs.nil)), hR, H⟩
        · replace H := M.ite_f hb H
          refine w_skip ?_
          exact ⟨hE.cut (.cons rfl (.cons rfl Subs.nil)), hR, H⟩
  · skip
    refine w_seq (fun K hK_52 => ?_)
    refine t_region ?_
    refine t_val (v := .pointer x0) rfl rfl hE rfl (r_move hE rfl) (fun a hE => ?_)
    refine t_call hE hR cl_value_reader_here rfl (S_value_reader_here x0) (M.unbind H) (fun x13_53 a w ea hR H => ?_)
    have hE := Env.put_some hE rfl ea; clear ea
    refine t_val (v := .bool (x13_53 == 45)) rfl rfl hE rfl (r_bin hE rfl rfl g_int b_eql) (fun a hE => ?_)
    refine t_nil ?_
    refine hK_52 _ _ ?_
    refine w_cond (x13_53 == 45) hE rfl (fun hb => ?_) (fun hb => ?_)
    · replace H := M.ite_t hb H
      refine t_region ?_
      refine t_val (v := .pointer x0) rfl rfl hE rfl (r_move hE rfl) (fun a hE => ?_)
      obtain ⟨x16_54, qx16_54, H⟩ := H
      refine t_val (v := .pointer (some x16_54)) rfl rfl hE rfl (r_nilCheck hE (hx_eq rfl (congrArg Value.pointer qx16_54))) (fun a hE => ?_)
      refine t_val (v := .pointer (some ((x16_54).add 1))) rfl rfl hE rfl (r_fieldAddr hE rfl fd146_1) (fun a hE => ?_)
      obtain ⟨x18_55, qx18_55, H⟩ := H
      refine t_val (v := .int .i64 x18_55) rfl rfl hE rfl (r_load hE rfl sc3 qx18_55) (fun a hE => ?_)
      refine t_val (v := .int .i64 (IntKind.wrap .i64 (x18_55 + 1))) rfl rfl hE rfl (r_bin hE rfl rfl g_int b_add) (fun a hE => ?_)
      obtain ⟨x20_56, qx20_56, H⟩ := H
      refine t_val (v := .pointer (some x20_56)) rfl rfl hE rfl (r_nilCheck hE (hx_eq rfl (congrArg Value.pointer qx20_56))) (fun a hE => ?_)
      refine t_val (v := .pointer (some ((x20_56).add 1))) rfl rfl hE rfl (r_fieldAddr hE rfl fd146_1) (fun a hE => ?_)
      obtain ⟨u_57, qu_57, H⟩ := H
      refine t_sth rfl rfl hE hR (r_store hE rfl rfl sz3 qu_57) (fun a w hE hR hh => ?_)
      replace H := M.at hh H; clear hh
      refine t_nil ?_
      exact ⟨hE.cut (.cons rfl (.cons rfl Subs.nil)), hR, H⟩
    · replace H := M.ite_f hb H
      refine w_skip ?_
      exact ⟨hE.cut (.cons rfl (.cons rfl Subs.nil)), hR, H⟩

def value_reader_must_j1 (self1 : (Int) → M (Value ⊕ (Unit))) (c0_11 : Option Addr) (c7_14 : Int) : M (Value ⊕ (Unit)) := do
  let x38_15 ← nilP c0_11
  let x40_16 ← ldI .i64 ((x38_15).add 1)
  let x42_17 ← nilP c0_11
  stV ((x42_17).add 1) (.int .i64 (IntKind.wrap .i64 (x40_16 + 1)))
  self1 (IntKind.wrap .i64 (c7_14 + 1))
def value_reader_must_j2 (self1 : (Int) → M (Value ⊕ (Unit))) (c0_20 : Option Addr) (c7_23 : Int) (x34_19 : Bool) : M (Value ⊕ (Unit)) := do
  M.ite x34_19 (do
    thr (value_reader_fail c0_20) fun x36_24 => do
      value_reader_must_j1 self1 c0_20 c7_23
    ) (do
    value_reader_must_j1 self1 c0_20 c7_23
    )
noncomputable def ro174_3 : Array Oper := opsOf Go.Proofs.Tryz.f174 3
def tE174_3 : List (List Nat) := [[], [0], [1], [2], [], [4], [5], [6], [7], [3, 8], [9], [10], [11, 10], [12, 10], [13, 10], [10], [15, 10], [16, 10], [17, 10], [14, 18, 10], [10], [10], [20, 21, 10], [19, 22, 10], [10, 23]]
def tC174_3 : List (List Nat) := [[], [0], [1], [2], [], [4], [5], [6], [7], [3, 8], [9], [10], [10, 11], [10, 12], [10, 13], [10], [10, 15], [10, 16], [10, 17], [10, 14, 18], [10], [10], [10, 20, 21], [10, 19, 22], [10, 23]]
def tW174_3 : List (List Nat) := [[], [0], [0, 1], [0, 1, 2], [], [4], [4, 5], [4, 5, 6], [4, 5, 6, 7], [0, 1, 2, 3, 4, 5, 6, 7, 8], [0, 1, 2, 3, 4, 5, 6, 7, 8, 9], [0, 1, 2, 3, 4, 5, 6, 7, 8, 9, 10], [0, 1, 2, 3, 4, 5, 6, 7, 8, 9, 10, 11], [0, 1, 2, 3, 4, 5, 6, 7, 8, 9, 10, 11, 12], [0, 1, 2, 3, 4, 5, 6, 7, 8, 9, 10, 11, 12, 13], [0, 1, 2, 3, 4, 5, 6, 7, 8, 9, 10], [0, 1, 2, 3, 4, 5, 6, 7, 8, 9, 10, 15], [0, 1, 2, 3, 4, 5, 6, 7, 8, 9, 10, 15, 16], [0, 1, 2, 3, 4, 5, 6, 7, 8, 9, 10, 15, 16, 17], [0, 1, 2, 3, 4, 5, 6, 7, 8, 9, 10, 11, 12, 13, 14, 15, 16, 17, 18], [0, 1, 2, 3, 4, 5, 6, 7, 8, 9, 10], [0, 1, 2, 3, 4, 5, 6, 7, 8, 9, 10], [0, 1, 2, 3, 4, 5, 6, 7, 8, 9, 10, 20, 21], [0, 1, 2, 3, 4, 5, 6, 7, 8, 9, 10, 11, 12, 13, 14, 15, 16, 17, 18, 19, 20, 21, 22], [0, 1, 2, 3, 4, 5, 6, 7, 8, 9, 10, 11, 12, 13, 14, 15, 16, 17, 18, 19, 20, 21, 22, 23]]
theorem tb174_3 : tabAt Go.Proofs.Tryz.f174 3 tE174_3 tC174_3 tW174_3 = true := by kernel_rfl
theorem tb174_3m : tabMB 25 tE174_3 tC174_3 tW174_3 [0, 1, 2, 4, 0, 16, 32, 64, 128, 264, 512, 1024, 3072, 5120, 9216, 1024, 33792, 66560, 132096, 279552, 1024, 1024, 3146752, 4719616, 8389632] [0, 1, 2, 4, 0, 16, 32, 64, 128, 264, 512, 1024, 3072, 5120, 9216, 1024, 33792, 66560, 132096, 279552, 1024, 1024, 3146752, 4719616, 8389632] [0, 1, 3, 7, 0, 16, 48, 112, 240, 511, 1023, 2047, 4095, 8191, 16383, 2047, 34815, 100351, 231423, 524287, 2047, 2047, 3147775, 8388607, 16777215] = true := by kernel_rfl
def value_reader_must_l1 (c0_3 : Option Addr) (c1_4 : ByteArray) (c6_5 : Int) (self1 : (Int) → M (Value ⊕ (Unit))) : (Int) → M (Value ⊕ (Unit)) := fun s => match s with
  | x7_2 => do
    M.ite (decide (x7_2 < c6_5)) (do
      let x11_25 ← nilP c0_3
      let x15_26 ← nilP c0_3
      let x13_27 ← ldI .i64 ((x11_25).add 1)
      let x17_28 ← ldS ((x15_26).add 0)
      M.ite (decide (x13_27 ≥ (x17_28.size : Int))) (do
        value_reader_must_j2 self1 c0_3 x7_2 true
        ) (do
        let x22_30 ← nilP c0_3
        let x26_31 ← nilP c0_3
        let x32_32 ← ixS c1_4 x7_2
        let x24_33 ← ldS ((x22_30).add 0)
        let x28_34 ← ldI .i64 ((x26_31).add 1)
        let x29_35 ← ixS x24_33 x28_34
        value_reader_must_j2 self1 c0_3 x7_2 (x29_35 != x32_32)
        )
      ) (do
      M.pure (.inr ())
      )
def value_reader_must (x0 : Option Addr) (x1 : ByteArray) : M (Value ⊕ (Unit)) := do
  M.loop (value_reader_must_l1 x0 x1 (x1.size : Int)) 0
theorem S_value_reader_must (x0 : Option Addr) (x1 : ByteArray) : SoundX Go.Proofs.Tryz.prog 174 #[.pointer x0, .string x1] (fun (r : Unit) => .tuple #[]) (value_reader_must x0 x1) := by
  refine sound_ofX [(0, .pointer x0), (1, .string x1)] Go.Proofs.Tryz.func174 rfl rfl (Nat.le_of_ble_eq_true rfl) (args_of ⟨rfl, rfl, trivial⟩) (fun w0 w Q R X a hret hthr hE hR H => ?_)
  unfold value_reader_must at H
  refine w_seq (fun K hK_1 => ?_)
  refine t_region ?_
  refine t_val (v := .string x1) rfl rfl hE rfl (r_move hE rfl) (fun a hE => ?_)
  refine t_val (v := .int .i64 (x1.size : Int)) rfl rfl hE rfl (r_lenS hE rfl un9) (fun a hE => ?_)
  refine t_val (v := .int .i64 0) rfl rfl hE rfl (r_move hE rfl) (fun a hE => ?_)
  refine t_nil ?_
  refine hK_1 _ _ ?_
  refine w_block ?_
  refine l_loop (fun (s : Int) => (⟨45, []⟩ : Frm)) (fun (s : Int) => [(0, .pointer x0), (1, .string x1), (6, .int .i64 (x1.size : Int)), (7, .int .i64 s)]) H (hE.cut (.cons rfl (.cons rfl (.cons rfl (.cons rfl Subs.nil))))) hR (fun Y self1 hY_6 x7_2 a w hE hR H => ?_)
  replace hE : Env (⟨45, []⟩ : Frm) a [(0, .pointer x0), (1, .string x1), (6, .int .i64 (x1.size : Int)), (7, .int .i64 x7_2)] := hE
  replace H : (value_reader_must_l1 x0 x1 (x1.size : Int) self1 x7_2).wp w.heap Q := H
  unfold value_reader_must_l1 at H
  refine w_seq (fun K hK_7 => ?_)
  refine t_region ?_
  refine t_val (v := .bool (decide (x7_2 < (x1.size : Int)))) rfl rfl hE rfl (r_bin hE rfl rfl g_int b_lss) (fun a hE => ?_)
  refine t_nil ?_
  refine hK_7 _ _ ?_
  refine w_seq (fun K hK_8 => ?_)
  refine w_cond (decide (x7_2 < (x1.size : Int))) hE rfl (fun hb => ?_) (fun hb => ?_)
  · replace H := M.ite_t hb H
    refine w_skip ?_
    refine hK_8 _ _ ?_
    refine w_seq (fun K hK_9 => ?_)
    refine w_block ?_
    refine w_seq (fun K hK_10 => ?_)
    refine t_region ?_
    refine t_val (v := .int .i64 x7_2) rfl rfl hE rfl (r_move hE rfl) (fun a hE => ?_)
    refine t_val (v := .int .i64 x7_2) rfl rfl hE rfl (r_assign hE rfl) (fun a hE => ?_)
    refine t_nil ?_
    refine hK_10 _ _ ?_
    refine w_seq_join (fun a w => Env (⟨45, []⟩ : Frm) a [(0, .pointer x0), (1, .string x1), (6, .int .i64 (x1.size : Int)), (7, .int .i64 x7_2)] ∧ Rest w0 w ∧ (value_reader_must_j1 self1 x0 x7_2).wp w.heap Q) ?_ ?_
    · rintro a w ⟨hE, hR, H⟩
      unfold value_reader_must_j1 at H
      refine t_region ?_
      refine t_val (v := .pointer x0) rfl rfl hE rfl (r_move hE rfl) (fun a hE => ?_)
      obtain ⟨x38_15, qx38_15, H⟩ := H
      refine t_val (v := .pointer (some x38_15)) rfl rfl hE rfl (r_nilCheck hE (hx_eq rfl (congrArg Value.pointer qx38_15))) (fun a hE => ?_)
      refine t_val (v := .pointer (some ((x38_15).add 1))) rfl rfl hE rfl (r_fieldAddr hE rfl fd146_1) (fun a hE => ?_)
      obtain ⟨x40_16, qx40_16, H⟩ := H
      refine t_val (v := .int .i64 x40_16) rfl rfl hE rfl (r_load hE rfl sc3 qx40_16) (fun a hE => ?_)
      refine t_val (v := .int .i64 (IntKind.wrap .i64 (x40_16 + 1))) rfl rfl hE rfl (r_bin hE rfl rfl g_int b_add) (fun a hE => ?_)
      obtain ⟨x42_17, qx42_17, H⟩ := H
      refine t_val (v := .pointer (some x42_17)) rfl rfl hE rfl (r_nilCheck hE (hx_eq rfl (congrArg Value.pointer qx42_17))) (fun a hE => ?_)
      refine t_val (v := .pointer (some ((x42_17).add 1))) rfl rfl hE rfl (r_fieldAddr hE rfl fd146_1) (fun a hE => ?_)
      obtain ⟨u_18, qu_18, H⟩ := H
      refine t_sth rfl rfl hE hR (r_store hE rfl rfl sz3 qu_18) (fun a w hE hR hh => ?_)
      replace H := M.at hh H; clear hh
      refine t_nil ?_
      refine hK_9 _ _ ?_
      refine t_region ?_
      refine t_val (v := .int .i64 (IntKind.wrap .i64 (x7_2 + 1))) rfl rfl hE rfl (r_bin hE rfl rfl g_int b_add) (fun a hE => ?_)
      refine t_val (v := .int .i64 (IntKind.wrap .i64 (x7_2 + 1))) rfl rfl hE rfl (r_move hE rfl) (fun a hE => ?_)
      refine t_nil ?_
      exact hY_6 (IntKind.wrap .i64 (x7_2 + 1)) _ _ (hE.cut (.cons rfl (.cons rfl (.cons rfl (.cons rfl Subs.nil))))) hR H
    · skip
      refine w_seq_join (fun a w => ∃ (x34_19 : Bool), Env (⟨45, []⟩ : Frm) a [(0, .pointer x0), (1, .string x1), (6, .int .i64 (x1.size : Int)), (7, .int .i64 x7_2), (34, .bool x34_19)] ∧ Rest w0 w ∧ (value_reader_must_j2 self1 x0 x7_2 x34_19).wp w.heap Q) ?_ ?_
      · rintro a w ⟨x34_19, hE, hR, H⟩
        unfold value_reader_must_j2 at H
        refine w_cond x34_19 hE rfl (fun hb => ?_) (fun hb => ?_)
        · replace H := M.ite_t hb H
          refine t_region ?_
          refine t_val (v := .pointer x0) rfl rfl hE rfl (r_move hE rfl) (fun a hE => ?_)
          refine t_callX hE hR cl_value_reader_fail rfl (S_value_reader_fail x0) H (fun _ _ hR HQ => Xu.ne rfl (Xu.ne rfl (hthr _ _ hR HQ))) (fun x36_24 a w ea hR H => ?_)
          have hE := Env.put_some hE rfl ea; clear ea
          refine t_nil ?_
          exact ⟨hE.cut (.cons rfl (.cons rfl (.cons rfl (.cons rfl Subs.nil)))), hR, H⟩
        · replace H := M.ite_f hb H
          refine w_skip ?_
          exact ⟨hE.cut (.cons rfl (.cons rfl (.cons rfl (.cons rfl Subs.nil)))), hR, H⟩
      · skip
        obtain ⟨x11_25, qx11_25, H⟩ := H
        obtain ⟨x15_26, qx15_26, H⟩ := H
        obtain ⟨x13_27, qx13_27, H⟩ := H
        obtain ⟨x17_28, qx17_28, H⟩ := H
        rcases bool_em (decide (x13_27 ≥ (x17_28.size : Int))) with hb_29 | hb_29
        · replace H := M.ite_t hb_29 H
          refine reg_eq (rops := ro174_3) (by kernel_rfl) ?_
          have hT : Tab ro174_3 _ _ _ := tab_of tb174_3 rfl (by kernel_rfl)
          have hM := TabM.of tb174_3m
          refine d_start (m := 25) (fun w : World => (fun h : Heap => (hcell h ((x11_25).add 1) = some (.int .i64 x13_27)) ∧ (hcell h ((x15_26).add 0) = some (.string x17_28))) w.heap) [9, 10, 11, 12, 13, 14, 15, 16, 17, 18, 19, 20, 21, 22, 23, 24] (unb 25 0) mo hR (by kernel_rfl) (by kernel_rfl) (fun w' e => by rw [e]; exact ⟨qx13_27, qx17_28⟩) (fun w hh hR hs => ?_)
          replace H := M.at hh H; clear hh
          refine d_pureg (i := 0) (v := .pointer x0) (unb 25 1) rfl rfl hT (anyM hM (by kernel_rfl)) hE rfl (wanted_none rfl) (fun w => r_move hE rfl) (fun a hE => ?_)
          refine d_pureg (i := 1) (v := .pointer (some x11_25)) (unb 25 3) rfl rfl hT (anyM hM (by kernel_rfl)) hE rfl (wanted_none rfl) (fun w => r_nilCheck hE (hx_eq rfl (congrArg Value.pointer qx11_25))) (fun a hE => ?_)
          refine d_pureg (i := 2) (v := .pointer (some ((x11_25).add 1))) (unb 25 7) rfl rfl hT (anyM hM (by kernel_rfl)) hE rfl (wanted_none rfl) (fun w => r_fieldAddr hE rfl fd146_1) (fun a hE => ?_)
          refine d_pureg (i := 4) (v := .pointer x0) (unb 25 23) rfl rfl hT (anyM hM (by kernel_rfl)) hE rfl (wanted_none rfl) (fun w => r_move hE rfl) (fun a hE => ?_)
          refine d_pureg (i := 5) (v := .pointer (some x15_26)) (unb 25 55) rfl rfl hT (anyM hM (by kernel_rfl)) hE rfl (wanted_none rfl) (fun w => r_nilCheck hE (hx_eq rfl (congrArg Value.pointer qx15_26))) (fun a hE => ?_)
          refine d_pureg (i := 6) (v := .pointer (some ((x15_26).add 0))) (unb 25 119) rfl rfl hT (anyM hM (by kernel_rfl)) hE rfl (wanted_none rfl) (fun w => r_fieldAddr hE rfl fd146_0) (fun a hE => ?_)
          refine d_read (i := 3) (v := .int .i64 x13_27) (unb 25 127) rfl rfl hT (takeM hM (by kernel_rfl)) hE rfl (wanted_none rfl) hs (fun w s => r_load hE rfl sc3 s.1) (fun a hE => ?_)
          refine d_read (i := 7) (v := .string x17_28) (unb 25 255) rfl rfl hT (takeM hM (by kernel_rfl)) hE rfl (wanted_none rfl) hs (fun w s => r_load hE rfl sc9 s.2) (fun a hE => ?_)
          refine d_pureg (i := 8) (v := .int .i64 (x17_28.size : Int)) (unb 25 511) rfl rfl hT (anyM hM (by kernel_rfl)) hE rfl (wanted_none rfl) (fun w => r_lenS hE rfl un9) (fun a hE => ?_)
          refine d_pureg (i := 9) (v := .bool (decide (x13_27 ≥ (x17_28.size : Int)))) (unb 25 1023) rfl rfl hT (anyM hM (by kernel_rfl)) hE rfl (wanted_none rfl) (fun w => r_bin hE rfl rfl g_int b_geq) (fun a hE => ?_)
          refine d_pureg (i := 10) (v := .bool (decide (x13_27 ≥ (x17_28.size : Int)))) (unb 25 2047) rfl rfl hT (anyM hM (by kernel_rfl)) hE rfl (wanted_none rfl) (fun w => r_move hE rfl) (fun a hE => ?_)
          have hE := hE.reb 20 (decide (x13_27 ≥ (x17_28.size : Int))) true hb_29 rfl
          replace hE := hE.cut (l' := [(0, .pointer x0), (1, .string x1), (6, .int .i64 (x1.size : Int)), (7, .int .i64 x7_2), (4, .int .i64 x7_2), (20, .bool true)]) (.cons rfl (.cons rfl (.cons rfl (.cons rfl (.cons rfl (.cons rfl Subs.nil))))))
          refine d_offsM' [(11, some 21), (12, some 22), (13, some 23), (14, some 24), (15, some 25), (16, some 26), (17, some 27), (18, some 28), (19, some 29), (20, some 30), (21, some 31), (22, some 32), (23, some 33)] 1 hT hM hE (by kernel_rfl) (m' := 16777215) (by kernel_rfl) (fun a hE => ?_)
          refine d_pureg (i := 24) (v := .bool true) (unb 25 33554431) rfl rfl hT (anyM hM (by kernel_rfl)) hE rfl (wanted_none rfl) (fun w => r_pick_t hE rfl rfl) (fun a hE => ?_)
          refine d_done hT (doneM hM (by kernel_rfl)) ?_
          exact ⟨true, hE.cut (.cons rfl (.cons rfl (.cons rfl (.cons rfl (.cons rfl Subs.nil))))), hR, H⟩
        · replace H := M.ite_f hb_29 H
          obtain ⟨x22_30, qx22_30, H⟩ := H
          obtain ⟨x26_31, qx26_31, H⟩ := H
          obtain ⟨x32_32, qx32_32, H⟩ := H
          obtain ⟨x24_33, qx24_33, H⟩ := H
          obtain ⟨x28_34, qx28_34, H⟩ := H
          obtain ⟨x29_35, qx29_35, H⟩ := H
          refine reg_eq (rops := ro174_3) (by kernel_rfl) ?_
          have hT : Tab ro174_3 _ _ _ := tab_of tb174_3 rfl (by kernel_rfl)
          have hM := TabM.of tb174_3m
          refine d_start (m := 25) (fun w : World => (fun h : Heap => (hcell h ((x11_25).add 1) = some (.int .i64 x13_27)) ∧ (hcell h ((x15_26).add 0) = some (.string x17_28)) ∧ (hcell h ((x22_30).add 0) = some (.string x24_33)) ∧ (hcell h ((x26_31).add 1) = some (.int .i64 x28_34))) w.heap) [19, 23, 24] (unb 25 0) mo hR (by kernel_rfl) (by kernel_rfl) (fun w' e => by rw [e]; exact ⟨qx13_27, qx17_28, qx24_33, qx28_34⟩) (fun w hh hR hs => ?_)
          replace H := M.at hh H; clear hh
          refine d_pureg (i := 0) (v := .pointer x0) (unb 25 1) rfl rfl hT (anyM hM (by kernel_rfl)) hE rfl (wanted_none rfl) (fun w => r_move hE rfl) (fun a hE => ?_)
          refine d_pureg (i := 1) (v := .pointer (some x11_25)) (unb 25 3) rfl rfl hT (anyM hM (by kernel_rfl)) hE rfl (wanted_none rfl) (fun w => r_nilCheck hE (hx_eq rfl (congrArg Value.pointer qx11_25))) (fun a hE => ?_)
          refine d_pureg (i := 2) (v := .pointer (some ((x11_25).add 1))) (unb 25 7) rfl rfl hT (anyM hM (by kernel_rfl)) hE rfl (wanted_none rfl) (fun w => r_fieldAddr hE rfl fd146_1) (fun a hE => ?_)
          refine d_pureg (i := 4) (v := .pointer x0) (unb 25 23) rfl rfl hT (anyM hM (by kernel_rfl)) hE rfl (wanted_none rfl) (fun w => r_move hE rfl) (fun a hE => ?_)
          refine d_pureg (i := 5) (v := .pointer (some x15_26)) (unb 25 55) rfl rfl hT (anyM hM (by kernel_rfl)) hE rfl (wanted_none rfl) (fun w => r_nilCheck hE (hx_eq rfl (congrArg Value.pointer qx15_26))) (fun a hE => ?_)
          refine d_pureg (i := 6) (v := .pointer (some ((x15_26).add 0))) (unb 25 119) rfl rfl hT (anyM hM (by kernel_rfl)) hE rfl (wanted_none rfl) (fun w => r_fieldAddr hE rfl fd146_0) (fun a hE => ?_)
          refine d_read (i := 3) (v := .int .i64 x13_27) (unb 25 127) rfl rfl hT (takeM hM (by kernel_rfl)) hE rfl (wanted_none rfl) hs (fun w s => r_load hE rfl sc3 s.1) (fun a hE => ?_)
          refine d_read (i := 7) (v := .string x17_28) (unb 25 255) rfl rfl hT (takeM hM (by kernel_rfl)) hE rfl (wanted_none rfl) hs (fun w s => r_load hE rfl sc9 s.2.1) (fun a hE => ?_)
          refine d_pureg (i := 8) (v := .int .i64 (x17_28.size : Int)) (unb 25 511) rfl rfl hT (anyM hM (by kernel_rfl)) hE rfl (wanted_none rfl) (fun w => r_lenS hE rfl un9) (fun a hE => ?_)
          refine d_pureg (i := 9) (v := .bool (decide (x13_27 ≥ (x17_28.size : Int)))) (unb 25 1023) rfl rfl hT (anyM hM (by kernel_rfl)) hE rfl (wanted_none rfl) (fun w => r_bin hE rfl rfl g_int b_geq) (fun a hE => ?_)
          refine d_pureg (i := 10) (v := .bool (decide (x13_27 ≥ (x17_28.size : Int)))) (unb 25 2047) rfl rfl hT (anyM hM (by kernel_rfl)) hE rfl (wanted_none rfl) (fun w => r_move hE rfl) (fun a hE => ?_)
          have hE := hE.reb 20 (decide (x13_27 ≥ (x17_28.size : Int))) false hb_29 rfl
          replace hE := hE.cut (l' := [(0, .pointer x0), (1, .string x1), (6, .int .i64 (x1.size : Int)), (7, .int .i64 x7_2), (4, .int .i64 x7_2), (20, .bool false)]) (.cons rfl (.cons rfl (.cons rfl (.cons rfl (.cons rfl (.cons rfl Subs.nil))))))
          refine d_pureg (i := 11) (v := .pointer x0) (unb 25 4095) rfl rfl hT (anyM hM (by kernel_rfl)) hE rfl (wanted_of rfl hE rfl rfl rfl) (fun w => r_move hE rfl) (fun a hE => ?_)
          refine d_pureg (i := 12) (v := .pointer (some x22_30)) (unb 25 8191) rfl rfl hT (anyM hM (by kernel_rfl)) hE rfl (wanted_of rfl hE rfl rfl rfl) (fun w => r_nilCheck hE (hx_eq rfl (congrArg Value.pointer qx22_30))) (fun a hE => ?_)
          refine d_pureg (i := 13) (v := .pointer (some ((x22_30).add 0))) (unb 25 16383) rfl rfl hT (anyM hM (by kernel_rfl)) hE rfl (wanted_of rfl hE rfl rfl rfl) (fun w => r_fieldAddr hE rfl fd146_0) (fun a hE => ?_)
          refine d_pureg (i := 15) (v := .pointer x0) (unb 25 49151) rfl rfl hT (anyM hM (by kernel_rfl)) hE rfl (wanted_of rfl hE rfl rfl rfl) (fun w => r_move hE rfl) (fun a hE => ?_)
          refine d_pureg (i := 16) (v := .pointer (some x26_31)) (unb 25 114687) rfl rfl hT (anyM hM (by kernel_rfl)) hE rfl (wanted_of rfl hE rfl rfl rfl) (fun w => r_nilCheck hE (hx_eq rfl (congrArg Value.pointer qx26_31))) (fun a hE => ?_)
          refine d_pureg (i := 17) (v := .pointer (some ((x26_31).add 1))) (unb 25 245759) rfl rfl hT (anyM hM (by kernel_rfl)) hE rfl (wanted_of rfl hE rfl rfl rfl) (fun w => r_fieldAddr hE rfl fd146_1) (fun a hE => ?_)
          refine d_pureg (i := 20) (v := .string x1) (unb 25 1294335) rfl rfl hT (anyM hM (by kernel_rfl)) hE rfl (wanted_of rfl hE rfl rfl rfl) (fun w => r_move hE rfl) (fun a hE => ?_)
          refine d_pureg (i := 21) (v := .int .i64 x7_2) (unb 25 3391487) rfl rfl hT (anyM hM (by kernel_rfl)) hE rfl (wanted_of rfl hE rfl rfl rfl) (fun w => r_move hE rfl) (fun a hE => ?_)
          refine d_pureg (i := 22) (v := .int .u8 x32_32) (unb 25 7585791) rfl rfl hT (anyM hM (by kernel_rfl)) hE rfl (wanted_of rfl hE rfl rfl rfl) (fun w => r_indexS hE rfl rfl un9 qx32_32) (fun a hE => ?_)
          refine d_read (i := 14) (v := .string x24_33) (unb 25 7602175) rfl rfl hT (takeM hM (by kernel_rfl)) hE rfl (wanted_of rfl hE rfl rfl rfl) hs (fun w s => r_load hE rfl sc9 s.2.2.1) (fun a hE => ?_)
          refine d_read (i := 18) (v := .int .i64 x28_34) (unb 25 7864319) rfl rfl hT (takeM hM (by kernel_rfl)) hE rfl (wanted_of rfl hE rfl rfl rfl) hs (fun w s => r_load hE rfl sc3 s.2.2.2) (fun a hE => ?_)
          refine d_pureg (i := 19) (v := .int .u8 x29_35) (unb 25 8388607) rfl rfl hT (anyM hM (by kernel_rfl)) hE rfl (wanted_of rfl hE rfl rfl rfl) (fun w => r_indexS hE rfl rfl un9 qx29_35) (fun a hE => ?_)
          refine d_pureg (i := 23) (v := .bool (x29_35 != x32_32)) (unb 25 16777215) rfl rfl hT (anyM hM (by kernel_rfl)) hE rfl (wanted_of rfl hE rfl rfl rfl) (fun w => r_bin hE rfl rfl g_int b_neq) (fun a hE => ?_)
          refine d_pureg (i := 24) (v := .bool (x29_35 != x32_32)) (unb 25 33554431) rfl rfl hT (anyM hM (by kernel_rfl)) hE rfl (wanted_none rfl) (fun w => r_pick_f hE rfl rfl) (fun a hE => ?_)
          refine d_done hT (doneM hM (by kernel_rfl)) ?_
          exact ⟨x29_35 != x32_32, hE.cut (.cons rfl (.cons rfl (.cons rfl (.cons rfl (.cons rfl Subs.nil))))), hR, H⟩
  · replace H := M.ite_f hb H
    refine w_exit ?_
    refine Xu.same ?_
    exact hret _ _ _ () _ hE hR (res_run hE rfl RV.nil) rfl H

def strings_IndexByte (x0 : ByteArray) (x1 : Int) : M (Int) := do
  let x7_3 ← internal_stringslite_IndexByte x0 x1
  M.pure x7_3
theorem S_strings_IndexByte (x0 : ByteArray) (x1 : Int) : Sound Go.Proofs.Tryz.prog 242 #[.string x0, .int .u8 x1] (fun (r : Int) => .int .i64 r) (strings_IndexByte x0 x1) := by
  refine sound_of [(0, .string x0), (1, .int .u8 x1)] Go.Proofs.Tryz.func242 rfl rfl (Nat.le_of_ble_eq_true rfl) (args_of ⟨rfl, rfl, trivial⟩) (fun w0 w Q R a hret hE hR H => ?_)
  unfold strings_IndexByte at H
  refine w_seq (fun K hK_1 => ?_)
  refine t_region ?_
  refine t_val (v := .int .i64 0) rfl rfl hE rfl (r_assign hE rfl) (fun a hE => ?_)
  refine t_nil ?_
  refine hK_1 _ _ ?_
  refine w_seq (fun K hK_2 => ?_)
  refine t_region ?_
  refine t_val (v := .string x0) rfl rfl hE rfl (r_move hE rfl) (fun a hE => ?_)
  refine t_val (v := .int .u8 x1) rfl rfl hE rfl (r_move hE rfl) (fun a hE => ?_)
  refine t_call hE hR cl_internal_stringslite_IndexByte rfl (S_internal_stringslite_IndexByte x0 x1) (M.unbind H) (fun x7_3 a w ea hR H => ?_)
  have hE := Env.put_some hE rfl ea; clear ea
  refine t_val (v := .int .i64 x7_3) rfl rfl hE rfl (r_assign hE rfl) (fun a hE => ?_)
  refine t_nil ?_
  refine hK_2 _ _ ?_
  refine w_ret ?_
  exact hret _ _ _ x7_3 _ hE hR (res_run hE rfl (RV.tmp rfl RV.nil)) rfl H

end Gx
namespace Gx
open Go
set_option linter.unusedVariables false
set_option maxRecDepth 100000
def value_reader_escaped_j2 (c0_28 : Option Addr) (c4_29 : Int) (c5_30 : Int) : M (Value ⊕ (Int)) := do
  let x86_32 ← nilP c0_28
  let x88_33 ← ldI .i64 ((x86_32).add 1)
  let x90_34 ← nilP c0_28
  stV ((x90_34).add 1) (.int .i64 (IntKind.wrap .i64 (x88_33 + 1)))
  M.pure (.inr (IntKind.wrap .u8 (iOr .i64 (iShl .i64 c4_29 4) c5_30)))
def value_reader_escaped_j3 (c0_38 : Option Addr) (c4_39 : Int) (c5_40 : Int) (x82_37 : Bool) : M (Value ⊕ (Int)) := do
  M.ite x82_37 (do
    thr (value_reader_fail c0_38) fun x84_41 => do
      value_reader_escaped_j2 c0_38 c4_39 c5_40
    ) (do
    value_reader_escaped_j2 c0_38 c4_39 c5_40
    )
noncomputable def ro218_11 : Array Oper := opsOf Go.Proofs.Tryz.f218 11
def tE218_11 : List (List Nat) := [[], [0], [1], [2], [], [4], [5], [6], [7], [3, 8], [9], [10], [11, 10], [10, 12], [13, 10], [14], [15, 14], [16, 14, 14], [17], [18, 17], [17, 19, 14], [14, 20]]
def tC218_11 : List (List Nat) := [[], [0], [1], [2], [], [4], [5], [6], [7], [3, 8], [9], [10], [10, 11], [10, 12], [13], [14], [14, 15], [14, 16], [17], [17, 18], [14, 17, 19], [14, 20]]
def tW218_11 : List (List Nat) := [[], [0], [0, 1], [0, 1, 2], [], [4], [4, 5], [4, 5, 6], [4, 5, 6, 7], [0, 1, 2, 3, 4, 5, 6, 7, 8], [0, 1, 2, 3, 4, 5, 6, 7, 8, 9], [0, 1, 2, 3, 4, 5, 6, 7, 8, 9, 10], [0, 1, 2, 3, 4, 5, 6, 7, 8, 9, 10, 11], [0, 1, 2, 3, 4, 5, 6, 7, 8, 9, 10, 11, 12], [0, 1, 2, 3, 4, 5, 6, 7, 8, 9, 10, 11, 12, 13], [0, 1, 2, 3, 4, 5, 6, 7, 8, 9, 10, 11, 12, 13, 14], [0, 1, 2, 3, 4, 5, 6, 7, 8, 9, 10, 11, 12, 13, 14, 15], [0, 1, 2, 3, 4, 5, 6, 7, 8, 9, 10, 11, 12, 13, 14, 15, 16], [0, 1, 2, 3, 4, 5, 6, 7, 8, 9, 10, 11, 12, 13, 14, 15, 16, 17], [0, 1, 2, 3, 4, 5, 6, 7, 8, 9, 10, 11, 12, 13, 14, 15, 16, 17, 18], [0, 1, 2, 3, 4, 5, 6, 7, 8, 9, 10, 11, 12, 13, 14, 15, 16, 17, 18, 19], [0, 1, 2, 3, 4, 5, 6, 7, 8, 9, 10, 11, 12, 13, 14, 15, 16, 17, 18, 19, 20]]
theorem tb218_11 : tabAt Go.Proofs.Tryz.f218 11 tE218_11 tC218_11 tW218_11 = true := by kernel_rfl
theorem tb218_11m : tabMB 22 tE218_11 tC218_11 tW218_11 [0, 1, 2, 4, 0, 16, 32, 64, 128, 264, 512, 1024, 3072, 5120, 9216, 16384, 49152, 81920, 131072, 393216, 671744, 1064960] [0, 1, 2, 4, 0, 16, 32, 64, 128, 264, 512, 1024, 3072, 5120, 8192, 16384, 49152, 81920, 131072, 393216, 671744, 1064960] [0, 1, 3, 7, 0, 16, 48, 112, 240, 511, 1023, 2047, 4095, 8191, 16383, 32767, 65535, 131071, 262143, 524287, 1048575, 2097151] = true := by kernel_rfl
def value_reader_escaped_j1 (c0_18 : Option Addr) (c4_19 : Int) : M (Value ⊕ (Int)) := do
  let x52_21 ← nilP c0_18
  let x54_22 ← ldI .i64 ((x52_21).add 1)
  let x56_23 ← nilP c0_18
  stV ((x56_23).add 1) (.int .i64 (IntKind.wrap .i64 (x54_22 + 1)))
  let x59_26 ← value_reader_here c0_18
  let x60_27 ← strings_IndexByte (⟨#[48, 49, 50, 51, 52, 53, 54, 55, 56, 57, 97, 98, 99, 100, 101, 102]⟩ : ByteArray) x59_26
  let x62_42 ← nilP c0_18
  let x66_43 ← nilP c0_18
  let x64_44 ← ldI .i64 ((x62_42).add 1)
  let x68_45 ← ldS ((x66_43).add 0)
  M.ite (decide (x64_44 ≥ (x68_45.size : Int))) (do
    value_reader_escaped_j3 c0_18 c4_19 x60_27 true
    ) (do
    M.ite (decide (x60_27 < 0)) (do
      value_reader_escaped_j3 c0_18 c4_19 x60_27 true
      ) (do
      M.ite (c4_19 == 7) (do
        value_reader_escaped_j3 c0_18 c4_19 x60_27 (decide (x60_27 < 15))
        ) (do
        value_reader_escaped_j3 c0_18 c4_19 x60_27 false
        )
      )
    )
def value_reader_escaped_j4 (c0_50 : Option Addr) (c4_51 : Int) (x48_49 : Bool) : M (Value ⊕ (Int)) := do
  M.ite x48_49 (do
    thr (value_reader_fail c0_50) fun x50_52 => do
      value_reader_escaped_j1 c0_50 c4_51
    ) (do
    value_reader_escaped_j1 c0_50 c4_51
    )
noncomputable def ro218_7 : Array Oper := opsOf Go.Proofs.Tryz.f218 7
def tE218_7 : List (List Nat) := [[], [0], [1], [2], [], [4], [5], [6], [7], [3, 8], [9], [10], [11, 10], [10, 12], [13, 10], [14], [15, 14], [16, 14, 14], [17], [18, 17], [17, 19, 14], [14, 20]]
def tC218_7 : List (List Nat) := [[], [0], [1], [2], [], [4], [5], [6], [7], [3, 8], [9], [10], [10, 11], [10, 12], [13], [14], [14, 15], [14, 16], [17], [17, 18], [14, 17, 19], [14, 20]]
def tW218_7 : List (List Nat) := [[], [0], [0, 1], [0, 1, 2], [], [4], [4, 5], [4, 5, 6], [4, 5, 6, 7], [0, 1, 2, 3, 4, 5, 6, 7, 8], [0, 1, 2, 3, 4, 5, 6, 7, 8, 9], [0, 1, 2, 3, 4, 5, 6, 7, 8, 9, 10], [0, 1, 2, 3, 4, 5, 6, 7, 8, 9, 10, 11], [0, 1, 2, 3, 4, 5, 6, 7, 8, 9, 10, 11, 12], [0, 1, 2, 3, 4, 5, 6, 7, 8, 9, 10, 11, 12, 13], [0, 1, 2, 3, 4, 5, 6, 7, 8, 9, 10, 11, 12, 13, 14], [0, 1, 2, 3, 4, 5, 6, 7, 8, 9, 10, 11, 12, 13, 14, 15], [0, 1, 2, 3, 4, 5, 6, 7, 8, 9, 10, 11, 12, 13, 14, 15, 16], [0, 1, 2, 3, 4, 5, 6, 7, 8, 9, 10, 11, 12, 13, 14, 15, 16, 17], [0, 1, 2, 3, 4, 5, 6, 7, 8, 9, 10, 11, 12, 13, 14, 15, 16, 17, 18], [0, 1, 2, 3, 4, 5, 6, 7, 8, 9, 10, 11, 12, 13, 14, 15, 16, 17, 18, 19], [0, 1, 2, 3, 4, 5, 6, 7, 8, 9, 10, 11, 12, 13, 14, 15, 16, 17, 18, 19, 20]]
theorem tb218_7 : tabAt Go.Proofs.Tryz.f218 7 tE218_7 tC218_7 tW218_7 = true := by kernel_rfl
theorem tb218_7m : tabMB 22 tE218_7 tC218_7 tW218_7 [0, 1, 2, 4, 0, 16, 32, 64, 128, 264, 512, 1024, 3072, 5120, 9216, 16384, 49152, 81920, 131072, 393216, 671744, 1064960] [0, 1, 2, 4, 0, 16, 32, 64, 128, 264, 512, 1024, 3072, 5120, 8192, 16384, 49152, 81920, 131072, 393216, 671744, 1064960] [0, 1, 3, 7, 0, 16, 48, 112, 240, 511, 1023, 2047, 4095, 8191, 16383, 32767, 65535, 131071, 262143, 524287, 1048575, 2097151] = true := by kernel_rfl
def value_reader_escaped (x0 : Option Addr) : M (Value ⊕ (Int)) := do
  let x7_4 ← value_reader_here x0
  let x13_6 ← M.ite (x7_4 == 39) (do
    M.pure true
    ) (do
    M.pure (x7_4 == 92)
    )
  M.ite x13_6 (do
    let x15_8 ← nilP x0
    let x17_9 ← ldI .i64 ((x15_8).add 1)
    let x19_10 ← nilP x0
    stV ((x19_10).add 1) (.int .i64 (IntKind.wrap .i64 (x17_9 + 1)))
    M.pure (.inr x7_4)
    ) (do
    thr (value_reader_must x0 (⟨#[120]⟩ : ByteArray)) fun x23_14 => do
      let x25_16 ← value_reader_here x0
      let x26_17 ← strings_IndexByte (⟨#[48, 49, 50, 51, 52, 53, 54, 55, 56, 57, 97, 98, 99, 100, 101, 102]⟩ : ByteArray) x25_16
      let x28_53 ← nilP x0
      let x32_54 ← nilP x0
      let x30_55 ← ldI .i64 ((x28_53).add 1)
      let x34_56 ← ldS ((x32_54).add 0)
      M.ite (decide (x30_55 ≥ (x34_56.size : Int))) (do
        value_reader_escaped_j4 x0 x26_17 true
        ) (do
        M.ite (decide (x26_17 < 0)) (do
          value_reader_escaped_j4 x0 x26_17 true
          ) (do
          M.ite (decide (x26_17 > 1)) (do
            value_reader_escaped_j4 x0 x26_17 (decide (x26_17 < 7))
            ) (do
            value_reader_escaped_j4 x0 x26_17 false
            )
          )
        )
    )
theorem S_value_reader_escaped (x0 : Option Addr) : SoundX Go.Proofs.Tryz.prog 218 #[.pointer x0] (fun (r : Int) => .int .u8 r) (value_reader_escaped x0) := by
  refine sound_ofX [(0, .pointer x0)] Go.Proofs.Tryz.func218 rfl rfl (Nat.le_of_ble_eq_true rfl) (args_of ⟨rfl, trivial⟩) (fun w0 w Q R X a hret hthr hE hR H => ?_)
  unfold value_reader_escaped at H
  refine w_seq (fun K hK_1 => ?_)
  refine t_region ?_
  refine t_val (v := .int .u8 0) rfl rfl hE rfl (r_assign hE rfl) (fun a hE => ?_)
  refine t_nil ?_
  refine hK_1 _ _ ?_
  refine w_seq (fun K hK_2 => ?_)
  refine w_seq (fun K hK_3 => ?_)
  refine t_region ?_
  refine t_val (v := .pointer x0) rfl rfl hE rfl (r_move hE rfl) (fun a hE => ?_)
  refine t_call hE hR cl_value_reader_here rfl (S_value_reader_here x0) (M.unbind H) (fun x7_4 a w ea hR H => ?_)
  have hE := Env.put_some hE rfl ea; clear ea
  refine t_val (v := .int .u8 x7_4) rfl rfl hE rfl (r_assign hE rfl) (fun a hE => ?_)
  refine t_nil ?_
  refine hK_3 _ _ ?_
  refine w_seq (fun K hK_5 => ?_)
  refine t_region ?_
  refine t_val (v := .int .u8 x7_4) rfl rfl hE rfl (r_move hE rfl) (fun a hE => ?_)
  refine t_val (v := .bool (x7_4 == 39)) rfl rfl hE rfl (r_bin hE rfl rfl g_int b_eql) (fun a hE => ?_)
  refine t_val (v := .bool (x7_4 == 39)) rfl rfl hE rfl (r_move hE rfl) (fun a hE => ?_)
  refine t_grp (n := (⟨97, []⟩ : Frm)) (w0 := w0) 3 (fun x13_6 : Bool => [(0, .pointer x0), (3, .int .u8 x7_4), (13, .bool x13_6)]) (M.unbind H) (fun Kr hKr H => ?_) ?_
  · rcases bool_em (x7_4 == 39) with hb | hb
    · replace H := M.ite_t hb H
      have hE := hE.reb 10 (x7_4 == 39) true hb rfl
      refine t_off rfl hE rfl rfl rfl (fun a ea => ?_)
      have hE := Env.put_some hE rfl ea; clear ea
      refine t_off rfl hE rfl rfl rfl (fun a ea => ?_)
      have hE := Env.put_some hE rfl ea; clear ea
      refine t_val rfl rfl hE rfl (r_pick_t hE rfl rfl) (fun a hE => ?_)
      refine t_nil ?_
      exact hKr _ _ _ (hE.cut (.cons rfl (.cons rfl (.cons rfl Subs.nil)))) hR H
    · replace H := M.ite_f hb H
      have hE := hE.reb 10 (x7_4 == 39) false hb rfl
      refine t_on rfl hE rfl rfl rfl ?_
      refine t_val (v := .int .u8 x7_4) rfl rfl hE rfl (r_move hE rfl) (fun a hE => ?_)
      refine t_on rfl hE rfl rfl rfl ?_
      refine t_val (v := .bool (x7_4 == 92)) rfl rfl hE rfl (r_bin hE rfl rfl g_int b_eql) (fun a hE => ?_)
      refine t_val rfl rfl hE rfl (r_pick_f hE rfl rfl) (fun a hE => ?_)
      refine t_nil ?_
      exact hKr _ _ _ (hE.cut (.cons rfl (.cons rfl (.cons rfl Subs.nil)))) hR H
  · intro x13_6 a w hE hR H
    refine t_nil ?_
    refine hK_5 _ _ ?_
    refine w_cond x13_6 hE rfl (fun hb => ?_) (fun hb => ?_)
    · replace H := M.ite_t hb H
      refine w_seq (fun K hK_7 => ?_)
      refine t_region ?_
      refine t_val (v := .pointer x0) rfl rfl hE rfl (r_move hE rfl) (fun a hE => ?_)
      obtain ⟨x15_8, qx15_8, H⟩ := H
      refine t_val (v := .pointer (some x15_8)) rfl rfl hE rfl (r_nilCheck hE (hx_eq rfl (congrArg Value.pointer qx15_8))) (fun a hE => ?_)
      refine t_val (v := .pointer (some ((x15_8).add 1))) rfl rfl hE rfl (r_fieldAddr hE rfl fd146_1) (fun a hE => ?_)
      obtain ⟨x17_9, qx17_9, H⟩ := H
      refine t_val (v := .int .i64 x17_9) rfl rfl hE rfl (r_load hE rfl sc3 qx17_9) (fun a hE => ?_)
      refine t_val (v := .int .i64 (IntKind.wrap .i64 (x17_9 + 1))) rfl rfl hE rfl (r_bin hE rfl rfl g_int b_add) (fun a hE => ?_)
      obtain ⟨x19_10, qx19_10, H⟩ := H
      refine t_val (v := .pointer (some x19_10)) rfl rfl hE rfl (r_nilCheck hE (hx_eq rfl (congrArg Value.pointer qx19_10))) (fun a hE => ?_)
      refine t_val (v := .pointer (some ((x19_10).add 1))) rfl rfl hE rfl (r_fieldAddr hE rfl fd146_1) (fun a hE => ?_)
      obtain ⟨u_11, qu_11, H⟩ := H
      refine t_sth rfl rfl hE hR (r_store hE rfl rfl sz3 qu_11) (fun a w hE hR hh => ?_)
      replace H := M.at hh H; clear hh
      refine t_nil ?_
      refine hK_7 _ _ ?_
      refine w_seq (fun K hK_12 => ?_)
      refine t_region ?_
      refine t_val (v := .int .u8 x7_4) rfl rfl hE rfl (r_move hE rfl) (fun a hE => ?_)
      refine t_val (v := .int .u8 x7_4) rfl rfl hE rfl (r_assign hE rfl) (fun a hE => ?_)
      refine t_nil ?_
      refine hK_12 _ _ ?_
      refine w_ret ?_
      exact hret _ _ _ x7_4 _ hE hR (res_run hE rfl (RV.tmp rfl RV.nil)) rfl H
    · replace H := M.ite_f hb H
      refine w_skip ?_
      refine hK_2 _ _ ?_
      refine w_seq (fun K hK_13 => ?_)
      refine t_region ?_
      refine t_val (v := .pointer x0) rfl rfl hE rfl (r_move hE rfl) (fun a hE => ?_)
      refine t_callX hE hR cl_value_reader_must rfl (S_value_reader_must x0 (⟨#[120]⟩ : ByteArray)) H (fun _ _ hR HQ => hthr _ _ hR HQ) (fun x23_14 a w ea hR H => ?_)
      have hE := Env.put_some hE rfl ea; clear ea
      refine t_nil ?_
      refine hK_13 _ _ ?_
      refine w_seq (fun K hK_15 => ?_)
      refine t_region ?_
      refine t_val (v := .pointer x0) rfl rfl hE rfl (r_move hE rfl) (fun a hE => ?_)
      refine t_call hE hR cl_value_reader_here rfl (S_value_reader_here x0) (M.unbind H) (fun x25_16 a w ea hR H => ?_)
      have hE := Env.put_some hE rfl ea; clear ea
      refine t_call hE hR cl_strings_IndexByte rfl (S_strings_IndexByte (⟨#[48, 49, 50, 51, 52, 53, 54, 55, 56, 57, 97, 98, 99, 100, 101, 102]⟩ : ByteArray) x25_16) (M.unbind H) (fun x26_17 a w ea hR H => ?_)
      have hE := Env.put_some hE rfl ea; clear ea
      refine t_val (v := .int .i64 x26_17) rfl rfl hE rfl (r_assign hE rfl) (fun a hE => ?_)
      refine t_nil ?_
      refine hK_15 _ _ ?_
      refine w_seq_join (fun a w => Env (⟨97, []⟩ : Frm) a [(0, .pointer x0), (4, .int .i64 x26_17)] ∧ Rest w0 w ∧ (value_reader_escaped_j1 x0 x26_17).wp w.heap Q) ?_ ?_
      · rintro a w ⟨hE, hR, H⟩
        unfold value_reader_escaped_j1 at H
        refine w_seq (fun K hK_20 => ?_)
        refine t_region ?_
        refine t_val (v := .pointer x0) rfl rfl hE rfl (r_move hE rfl) (fun a hE => ?_)
        obtain ⟨x52_21, qx52_21, H⟩ := H
        refine t_val (v := .pointer (some x52_21)) rfl rfl hE rfl (r_nilCheck hE (hx_eq rfl (congrArg Value.pointer qx52_21))) (fun a hE => ?_)
        refine t_val (v := .pointer (some ((x52_21).add 1))) rfl rfl hE rfl (r_fieldAddr hE rfl fd146_1) (fun a hE => ?_)
        obtain ⟨x54_22, qx54_22, H⟩ := H
        refine t_val (v := .int .i64 x54_22) rfl rfl hE rfl (r_load hE rfl sc3 qx54_22) (fun a hE => ?_)
        refine t_val (v := .int .i64 (IntKind.wrap .i64 (x54_22 + 1))) rfl rfl hE rfl (r_bin hE rfl rfl g_int b_add) (fun a hE => ?_)
        obtain ⟨x56_23, qx56_23, H⟩ := H
        refine t_val (v := .pointer (some x56_23)) rfl rfl hE rfl (r_nilCheck hE (hx_eq rfl (congrArg Value.pointer qx56_23))) (fun a hE => ?_)
        refine t_val (v := .pointer (some ((x56_23).add 1))) rfl rfl hE rfl (r_fieldAddr hE rfl fd146_1) (fun a hE => ?_)
        obtain ⟨u_24, qu_24, H⟩ := H
        refine t_sth rfl rfl hE hR (r_store hE rfl rfl sz3 qu_24) (fun a w hE hR hh => ?_)
        replace H := M.at hh H; clear hh
        refine t_nil ?_
        refine hK_20 _ _ ?_
        refine w_seq (fun K hK_25 => ?_)
        refine t_region ?_
        refine t_val (v := .pointer x0) rfl rfl hE rfl (r_move hE rfl) (fun a hE => ?_)
        refine t_call hE hR cl_value_reader_here rfl (S_value_reader_here x0) (M.unbind H) (fun x59_26 a w ea hR H => ?_)
        have hE := Env.put_some hE rfl ea; clear ea
        refine t_call hE hR cl_strings_IndexByte rfl (S_strings_IndexByte (⟨#[48, 49, 50, 51, 52, 53, 54, 55, 56, 57, 97, 98, 99, 100, 101, 102]⟩ : ByteArray) x59_26) (M.unbind H) (fun x60_27 a w ea hR H => ?_)
        have hE := Env.put_some hE rfl ea; clear ea
        refine t_val (v := .int .i64 x60_27) rfl rfl hE rfl (r_assign hE rfl) (fun a hE => ?_)
        refine t_nil ?_
        refine hK_25 _ _ ?_
        refine w_seq_join (fun a w => Env (⟨97, []⟩ : Frm) a [(0, .pointer x0), (4, .int .i64 x26_17), (5, .int .i64 x60_27)] ∧ Rest w0 w ∧ (value_reader_escaped_j2 x0 x26_17 x60_27).wp w.heap Q) ?_ ?_
        · rintro a w ⟨hE, hR, H⟩
          unfold value_reader_escaped_j2 at H
          refine w_seq (fun K hK_31 => ?_)
          refine t_region ?_
          refine t_val (v := .pointer x0) rfl rfl hE rfl (r_move hE rfl) (fun a hE => ?_)
          obtain ⟨x86_32, qx86_32, H⟩ := H
          refine t_val (v := .pointer (some x86_32)) rfl rfl hE rfl (r_nilCheck hE (hx_eq rfl (congrArg Value.pointer qx86_32))) (fun a hE => ?_)
          refine t_val (v := .pointer (some ((x86_32).add 1))) rfl rfl hE rfl (r_fieldAddr hE rfl fd146_1) (fun a hE => ?_)
          obtain ⟨x88_33, qx88_33, H⟩ := H
          refine t_val (v := .int .i64 x88_33) rfl rfl hE rfl (r_load hE rfl sc3 qx88_33) (fun a hE => ?_)
          refine t_val (v := .int .i64 (IntKind.wrap .i64 (x88_33 + 1))) rfl rfl hE rfl (r_bin hE rfl rfl g_int b_add) (fun a hE => ?_)
          obtain ⟨x90_34, qx90_34, H⟩ := H
          refine t_val (v := .pointer (some x90_34)) rfl rfl hE rfl (r_nilCheck hE (hx_eq rfl (congrArg Value.pointer qx90_34))) (fun a hE => ?_)
          refine t_val (v := .pointer (some ((x90_34).add 1))) rfl rfl hE rfl (r_fieldAddr hE rfl fd146_1) (fun a hE => ?_)
          obtain ⟨u_35, qu_35, H⟩ := H
          refine t_sth rfl rfl hE hR (r_store hE rfl rfl sz3 qu_35) (fun a w hE hR hh => ?_)
          replace H := M.at hh H; clear hh
          refine t_nil ?_
          refine hK_31 _ _ ?_
          refine w_seq (fun K hK_36 => ?_)
          refine t_region ?_
          refine t_val (v := .int .i64 x26_17) rfl rfl hE rfl (r_move hE rfl) (fun a hE => ?_)
          refine t_val (v := .int .i64 (iShl .i64 x26_17 4)) rfl rfl hE rfl (r_bin hE rfl rfl g_int (b_shl ⟨by decide, rfl⟩)) (fun a hE => ?_)
          refine t_val (v := .int .i64 x60_27) rfl rfl hE rfl (r_move hE rfl) (fun a hE => ?_)
          refine t_val (v := .int .i64 (iOr .i64 (iShl .i64 x26_17 4) x60_27)) rfl rfl hE rfl (r_bin hE rfl rfl g_int b_or) (fun a hE => ?_)
          refine t_val (v := .int .u8 (IntKind.wrap .u8 (iOr .i64 (iShl .i64 x26_17 4) x60_27))) rfl rfl hE rfl (r_convI hE rfl un3 un5) (fun a hE => ?_)
          refine t_val (v := .int .u8 (IntKind.wrap .u8 (iOr .i64 (iShl .i64 x26_17 4) x60_27))) rfl rfl hE rfl (r_assign hE rfl) (fun a hE => ?_)
          refine t_nil ?_
          refine hK_36 _ _ ?_
          refine w_ret ?_
          exact hret _ _ _ (IntKind.wrap .u8 (iOr .i64 (iShl .i64 x26_17 4) x60_27)) _ hE hR (res_run hE rfl (RV.tmp rfl RV.nil)) rfl H
        · skip
          refine w_seq_join (fun a w => ∃ (x82_37 : Bool), Env (⟨97, []⟩ : Frm) a [(0, .pointer x0), (4, .int .i64 x26_17), (5, .int .i64 x60_27), (82, .bool x82_37)] ∧ Rest w0 w ∧ (value_reader_escaped_j3 x0 x26_17 x60_27 x82_37).wp w.heap Q) ?_ ?_
          · rintro a w ⟨x82_37, hE, hR, H⟩
            unfold value_reader_escaped_j3 at H
            refine w_cond x82_37 hE rfl (fun hb => ?_) (fun hb => ?_)
            · replace H := M.ite_t hb H
              refine t_region ?_
              refine t_val (v := .pointer x0) rfl rfl hE rfl (r_move hE rfl) (fun a hE => ?_)
              refine t_callX hE hR cl_value_reader_fail rfl (S_value_reader_fail x0) H (fun _ _ hR HQ => hthr _ _ hR HQ) (fun x84_41 a w ea hR H => ?_)
              have hE := Env.put_some hE rfl ea; clear ea
              refine t_nil ?_
              exact ⟨hE.cut (.cons rfl (.cons rfl (.cons rfl Subs.nil))), hR, H⟩
            · replace H := M.ite_f hb H
              refine w_skip ?_
              exact ⟨hE.cut (.cons rfl (.cons rfl (.cons rfl Subs.nil))), hR, H⟩
          · skip
            obtain ⟨x62_42, qx62_42, H⟩ := H
            obtain ⟨x66_43, qx66_43, H⟩ := H
            obtain ⟨x64_44, qx64_44, H⟩ := H
            obtain ⟨x68_45, qx68_45, H⟩ := H
            rcases bool_em (decide (x64_44 ≥ (x68_45.size : Int))) with hb_46 | hb_46
            · replace H := M.ite_t hb_46 H
              refine reg_eq (rops := ro218_11) (by kernel_rfl) ?_
              have hT : Tab ro218_11 _ _ _ := tab_of tb218_11 rfl (by kernel_rfl)
              have hM := TabM.of tb218_11m
              refine d_start (m := 22) (fun w : World => (fun h : Heap => (hcell h ((x62_42).add 1) = some (.int .i64 x64_44)) ∧ (hcell h ((x66_43).add 0) = some (.string x68_45))) w.heap) [9, 10, 11, 12, 13, 14, 15, 16, 17, 18, 19, 20, 21] (unb 22 0) mo hR (by kernel_rfl) (by kernel_rfl) (fun w' e => by rw [e]; exact ⟨qx64_44, qx68_45⟩) (fun w hh hR hs => ?_)
              replace H := M.at hh H; clear hh
              refine d_pureg (i := 0) (v := .pointer x0) (unb 22 1) rfl rfl hT (anyM hM (by kernel_rfl)) hE rfl (wanted_none rfl) (fun w => r_move hE rfl) (fun a hE => ?_)
              refine d_pureg (i := 1) (v := .pointer (some x62_42)) (unb 22 3) rfl rfl hT (anyM hM (by kernel_rfl)) hE rfl (wanted_none rfl) (fun w => r_nilCheck hE (hx_eq rfl (congrArg Value.pointer qx62_42))) (fun a hE => ?_)
              refine d_pureg (i := 2) (v := .pointer (some ((x62_42).add 1))) (unb 22 7) rfl rfl hT (anyM hM (by kernel_rfl)) hE rfl (wanted_none rfl) (fun w => r_fieldAddr hE rfl fd146_1) (fun a hE => ?_)
              refine d_pureg (i := 4) (v := .pointer x0) (unb 22 23) rfl rfl hT (anyM hM (by kernel_rfl)) hE rfl (wanted_none rfl) (fun w => r_move hE rfl) (fun a hE => ?_)
              refine d_pureg (i := 5) (v := .pointer (some x66_43)) (unb 22 55) rfl rfl hT (anyM hM (by kernel_rfl)) hE rfl (wanted_none rfl) (fun w => r_nilCheck hE (hx_eq rfl (congrArg Value.pointer qx66_43))) (fun a hE => ?_)
              refine d_pureg (i := 6) (v := .pointer (some ((x66_43).add 0))) (unb 22 119) rfl rfl hT (anyM hM (by kernel_rfl)) hE rfl (wanted_none rfl) (fun w => r_fieldAddr hE rfl fd146_0) (fun a hE => ?_)
              refine d_read (i := 3) (v := .int .i64 x64_44) (unb 22 127) rfl rfl hT (takeM hM (by kernel_rfl)) hE rfl (wanted_none rfl) hs (fun w s => r_load hE rfl sc3 s.1) (fun a hE => ?_)
              refine d_read (i := 7) (v := .string x68_45) (unb 22 255) rfl rfl hT (takeM hM (by kernel_rfl)) hE rfl (wanted_none rfl) hs (fun w s => r_load hE rfl sc9 s.2) (fun a hE => ?_)
              refine d_pureg (i := 8) (v := .int .i64 (x68_45.size : Int)) (unb 22 511) rfl rfl hT (anyM hM (by kernel_rfl)) hE rfl (wanted_none rfl) (fun w => r_lenS hE rfl un9) (fun a hE => ?_)
              refine d_pureg (i := 9) (v := .bool (decide (x64_44 ≥ (x68_45.size : Int)))) (unb 22 1023) rfl rfl hT (anyM hM (by kernel_rfl)) hE rfl (wanted_none rfl) (fun w => r_bin hE rfl rfl g_int b_geq) (fun a hE => ?_)
              refine d_pureg (i := 10) (v := .bool (decide (x64_44 ≥ (x68_45.size : Int)))) (unb 22 2047) rfl rfl hT (anyM hM (by kernel_rfl)) hE rfl (wanted_none rfl) (fun w => r_move hE rfl) (fun a hE => ?_)
              have hE := hE.reb 71 (decide (x64_44 ≥ (x68_45.size : Int))) true hb_46 rfl
              replace hE := hE.cut (l' := [(0, .pointer x0), (4, .int .i64 x26_17), (5, .int .i64 x60_27), (71, .bool true)]) (.cons rfl (.cons rfl (.cons rfl (.cons rfl Subs.nil))))
              refine d_off (i := 11) (unb 22 4095) rfl rfl hT (anyM hM (by kernel_rfl)) (unwanted_of rfl hE rfl rfl rfl) (fun a ea => ?_)
              have hE := Env.put_some hE rfl ea; clear ea
              refine d_off (i := 12) (unb 22 8191) rfl rfl hT (anyM hM (by kernel_rfl)) (unwanted_of rfl hE rfl rfl rfl) (fun a ea => ?_)
              have hE := Env.put_some hE rfl ea; clear ea
              refine d_pureg (i := 13) (v := .bool true) (unb 22 16383) rfl rfl hT (anyM hM (by kernel_rfl)) hE rfl (wanted_none rfl) (fun w => r_pick_t hE rfl rfl) (fun a hE => ?_)
              refine d_pureg (i := 14) (v := .bool true) (unb 22 32767) rfl rfl hT (anyM hM (by kernel_rfl)) hE rfl (wanted_none rfl) (fun w => r_move hE rfl) (fun a hE => ?_)
              refine d_offsM' [(15, some 76), (16, some 77), (17, some 78), (18, some 79), (19, some 80), (20, some 81)] 1 hT hM hE (by kernel_rfl) (m' := 2097151) (by kernel_rfl) (fun a hE => ?_)
              refine d_pureg (i := 21) (v := .bool true) (unb 22 4194303) rfl rfl hT (anyM hM (by kernel_rfl)) hE rfl (wanted_none rfl) (fun w => r_pick_t hE rfl rfl) (fun a hE => ?_)
              refine d_done hT (doneM hM (by kernel_rfl)) ?_
              exact ⟨true, hE.cut (.cons rfl (.cons rfl (.cons rfl (.cons rfl Subs.nil)))), hR, H⟩
            · replace H := M.ite_f hb_46 H
              rcases bool_em (decide (x60_27 < 0)) with hb_47 | hb_47
              · replace H := M.ite_t hb_47 H
                refine reg_eq (rops := ro218_11) (by kernel_rfl) ?_
                have hT : Tab ro218_11 _ _ _ := tab_of tb218_11 rfl (by kernel_rfl)
                have hM := TabM.of tb218_11m
                refine d_start (m := 22) (fun w : World => (fun h : Heap => (hcell h ((x62_42).add 1) = some (.int .i64 x64_44)) ∧ (hcell h ((x66_43).add 0) = some (.string x68_45))) w.heap) [9, 10, 11, 12, 13, 14, 15, 16, 17, 18, 19, 20, 21] (unb 22 0) mo hR (by kernel_rfl) (by kernel_rfl) (fun w' e => by rw [e]; exact ⟨qx64_44, qx68_45⟩) (fun w hh hR hs => ?_)
                replace H := M.at hh H; clear hh
                refine d_pureg (i := 0) (v := .pointer x0) (unb 22 1) rfl rfl hT (anyM hM (by kernel_rfl)) hE rfl (wanted_none rfl) (fun w => r_move hE rfl) (fun a hE => ?_)
                refine d_pureg (i := 1) (v := .pointer (some x62_42)) (unb 22 3) rfl rfl hT (anyM hM (by kernel_rfl)) hE rfl (wanted_none rfl) (fun w => r_nilCheck hE (hx_eq rfl (congrArg Value.pointer qx62_42))) (fun a hE => ?_)
                refine d_pureg (i := 2) (v := .pointer (some ((x62_42).add 1))) (unb 22 7) rfl rfl hT (anyM hM (by kernel_rfl)) hE rfl (wanted_none rfl) (fun w => r_fieldAddr hE rfl fd146_1) (fun a hE => ?_)
                refine d_pureg (i := 4) (v := .pointer x0) (unb 22 23) rfl rfl hT (anyM hM (by kernel_rfl)) hE rfl (wanted_none rfl) (fun w => r_move hE rfl) (fun a hE => ?_)
                refine d_pureg (i := 5) (v := .pointer (some x66_43)) (unb 22 55) rfl rfl hT (anyM hM (by kernel_rfl)) hE rfl (wanted_none rfl) (fun w => r_nilCheck hE (hx_eq rfl (congrArg Value.pointer qx66_43))) (fun a hE => ?_)
                refine d_pureg (i := 6) (v := .pointer (some ((x66_43).add 0))) (unb 22 119) rfl rfl hT (anyM hM (by kernel_rfl)) hE rfl (wanted_none rfl) (fun w => r_fieldAddr hE rfl fd146_0) (fun a hE => ?_)
                refine d_read (i := 3) (v := .int .i64 x64_44) (unb 22 127) rfl rfl hT (takeM hM (by kernel_rfl)) hE rfl (wanted_none rfl) hs (fun w s => r_load hE rfl sc3 s.1) (fun a hE => ?_)
                refine d_read (i := 7) (v := .string x68_45) (unb 22 255) rfl rfl hT (takeM hM (by kernel_rfl)) hE rfl (wanted_none rfl) hs (fun w s => r_load hE rfl sc9 s.2) (fun a hE => ?_)
                refine d_pureg (i := 8) (v := .int .i64 (x68_45.size : Int)) (unb 22 511) rfl rfl hT (anyM hM (by kernel_rfl)) hE rfl (wanted_none rfl) (fun w => r_lenS hE rfl un9) (fun a hE => ?_)
                refine d_pureg (i := 9) (v := .bool (decide (x64_44 ≥ (x68_45.size : Int)))) (unb 22 1023) rfl rfl hT (anyM hM (by kernel_rfl)) hE rfl (wanted_none rfl) (fun w => r_bin hE rfl rfl g_int b_geq) (fun a hE => ?_)
                refine d_pureg (i := 10) (v := .bool (decide (x64_44 ≥ (x68_45.size : Int)))) (unb 22 2047) rfl rfl hT (anyM hM (by kernel_rfl)) hE rfl (wanted_none rfl) (fun w => r_move hE rfl) (fun a hE => ?_)
                have hE := hE.reb 71 (decide (x64_44 ≥ (x68_45.size : Int))) false hb_46 rfl
                replace hE := hE.cut (l' := [(0, .pointer x0), (4, .int .i64 x26_17), (5, .int .i64 x60_27), (71, .bool false)]) (.cons rfl (.cons rfl (.cons rfl (.cons rfl Subs.nil))))
                refine d_pureg (i := 11) (v := .int .i64 x60_27) (unb 22 4095) rfl rfl hT (anyM hM (by kernel_rfl)) hE rfl (wanted_of rfl hE rfl rfl rfl) (fun w => r_move hE rfl) (fun a hE => ?_)
                refine d_pureg (i := 12) (v := .bool (decide (x60_27 < 0))) (unb 22 8191) rfl rfl hT (anyM hM (by kernel_rfl)) hE rfl (wanted_of rfl hE rfl rfl rfl) (fun w => r_bin hE rfl rfl g_int b_lss) (fun a hE => ?_)
                refine d_pureg (i := 13) (v := .bool (decide (x60_27 < 0))) (unb 22 16383) rfl rfl hT (anyM hM (by kernel_rfl)) hE rfl (wanted_none rfl) (fun w => r_pick_f hE rfl rfl) (fun a hE => ?_)
                refine d_pureg (i := 14) (v := .bool (decide (x60_27 < 0))) (unb 22 32767) rfl rfl hT (anyM hM (by kernel_rfl)) hE rfl (wanted_none rfl) (fun w => r_move hE rfl) (fun a hE => ?_)
                have hE := hE.reb 75 (decide (x60_27 < 0)) true hb_47 rfl
                replace hE := hE.cut (l' := [(0, .pointer x0), (4, .int .i64 x26_17), (5, .int .i64 x60_27), (75, .bool true)]) (.cons rfl (.cons rfl (.cons rfl (.cons rfl Subs.nil))))
                refine d_offsM' [(15, some 76), (16, some 77), (17, some 78), (18, some 79), (19, some 80), (20, some 81)] 1 hT hM hE (by kernel_rfl) (m' := 2097151) (by kernel_rfl) (fun a hE => ?_)
                refine d_pureg (i := 21) (v := .bool true) (unb 22 4194303) rfl rfl hT (anyM hM (by kernel_rfl)) hE rfl (wanted_none rfl) (fun w => r_pick_t hE rfl rfl) (fun a hE => ?_)
                refine d_done hT (doneM hM (by kernel_rfl)) ?_
                exact ⟨true, hE.cut (.cons rfl (.cons rfl (.cons rfl (.cons rfl Subs.nil)))), hR, H⟩
              · replace H := M.ite_f hb_47 H
                rcases bool_em (x26_17 == 7) with hb_48 | hb_48
                · replace H := M.ite_t hb_48 H
                  refine reg_eq (rops := ro218_11) (by kernel_rfl) ?_
                  have hT : Tab ro218_11 _ _ _ := tab_of tb218_11 rfl (by kernel_rfl)
                  have hM := TabM.of tb218_11m
                  refine d_start (m := 22) (fun w : World => (fun h : Heap => (hcell h ((x62_42).add 1) = some (.int .i64 x64_44)) ∧ (hcell h ((x66_43).add 0) = some (.string x68_45))) w.heap) [9, 10, 11, 12, 13, 14, 15, 16, 17, 18, 19, 20, 21] (unb 22 0) mo hR (by kernel_rfl) (by kernel_rfl) (fun w' e => by rw [e]; exact ⟨qx64_44, qx68_45⟩) (fun w hh hR hs => ?_)
                  replace H := M.at hh H; clear hh
                  refine d_pureg (i := 0) (v := .pointer x0) (unb 22 1) rfl rfl hT (anyM hM (by kernel_rfl)) hE rfl (wanted_none rfl) (fun w => r_move hE rfl) (fun a hE => ?_)
                  refine d_pureg (i := 1) (v := .pointer (some x62_42)) (unb 22 3) rfl rfl hT (anyM hM (by kernel_rfl)) hE rfl (wanted_none rfl) (fun w => r_nilCheck hE (hx_eq rfl (congrArg Value.pointer qx62_42))) (fun a hE => ?_)
                  refine d_pureg (i := 2) (v := .pointer (some ((x62_42).add 1))) (unb 22 7) rfl rfl hT (anyM hM (by kernel_rfl)) hE rfl (wanted_none rfl) (fun w => r_fieldAddr hE rfl fd146_1) (fun a hE => ?_)
                  refine d_pureg (i := 4) (v := .pointer x0) (unb 22 23) rfl rfl hT (anyM hM (by kernel_rfl)) hE rfl (wanted_none rfl) (fun w => r_move hE rfl) (fun a hE => ?_)
                  refine d_pureg (i := 5) (v := .pointer (some x66_43)) (unb 22 55) rfl rfl hT (anyM hM (by kernel_rfl)) hE rfl (wanted_none rfl) (fun w => r_nilCheck hE (hx_eq rfl (congrArg Value.pointer qx66_43))) (fun a hE => ?_)
                  refine d_pureg (i := 6) (v := .pointer (some ((x66_43).add 0))) (unb 22 119) rfl rfl hT (anyM hM (by kernel_rfl)) hE rfl (wanted_none rfl) (fun w => r_fieldAddr hE rfl fd146_0) (fun a hE => ?_)
                  refine d_read (i := 3) (v := .int .i64 x64_44) (unb 22 127) rfl rfl hT (takeM hM (by kernel_rfl)) hE rfl (wanted_none rfl) hs (fun w s => r_load hE rfl sc3 s.1) (fun a hE => ?_)
                  refine d_read (i := 7) (v := .string x68_45) (unb 22 255) rfl rfl hT (takeM hM (by kernel_rfl)) hE rfl (wanted_none rfl) hs (fun w s => r_load hE rfl sc9 s.2) (fun a hE => ?_)
                  refine d_pureg (i := 8) (v := .int .i64 (x68_45.size : Int)) (unb 22 511) rfl rfl hT (anyM hM (by kernel_rfl)) hE rfl (wanted_none rfl) (fun w => r_lenS hE rfl un9) (fun a hE => ?_)
                  refine d_pureg (i := 9) (v := .bool (decide (x64_44 ≥ (x68_45.size : Int)))) (unb 22 1023) rfl rfl hT (anyM hM (by kernel_rfl)) hE rfl (wanted_none rfl) (fun w => r_bin hE rfl rfl g_int b_geq) (fun a hE => ?_)
                  refine d_pureg (i := 10) (v := .bool (decide (x64_44 ≥ (x68_45.size : Int)))) (unb 22 2047) rfl rfl hT (anyM hM (by kernel_rfl)) hE rfl (wanted_none rfl) (fun w => r_move hE rfl) (fun a hE => ?_)
                  have hE := hE.reb 71 (decide (x64_44 ≥ (x68_45.size : Int))) false hb_46 rfl
                  replace hE := hE.cut (l' := [(0, .pointer x0), (4, .int .i64 x26_17), (5, .int .i64 x60_27), (71, .bool false)]) (.cons rfl (.cons rfl (.cons rfl (.cons rfl Subs.nil))))
                  refine d_pureg (i := 11) (v := .int .i64 x60_27) (unb 22 4095) rfl rfl hT (anyM hM (by kernel_rfl)) hE rfl (wanted_of rfl hE rfl rfl rfl) (fun w => r_move hE rfl) (fun a hE => ?_)
                  refine d_pureg (i := 12) (v := .bool (decide (x60_27 < 0))) (unb 22 8191) rfl rfl hT (anyM hM (by kernel_rfl)) hE rfl (wanted_of rfl hE rfl rfl rfl) (fun w => r_bin hE rfl rfl g_int b_lss) (fun a hE => ?_)
                  refine d_pureg (i := 13) (v := .bool (decide (x60_27 < 0))) (unb 22 16383) rfl rfl hT (anyM hM (by kernel_rfl)) hE rfl (wanted_none rfl) (fun w => r_pick_f hE rfl rfl) (fun a hE => ?_)
                  refine d_pureg (i := 14) (v := .bool (decide (x60_27 < 0))) (unb 22 32767) rfl rfl hT (anyM hM (by kernel_rfl)) hE rfl (wanted_none rfl) (fun w => r_move hE rfl) (fun a hE => ?_)
                  have hE := hE.reb 75 (decide (x60_27 < 0)) false hb_47 rfl
                  replace hE := hE.cut (l' := [(0, .pointer x0), (4, .int .i64 x26_17), (5, .int .i64 x60_27), (75, .bool false)]) (.cons rfl (.cons rfl (.cons rfl (.cons rfl Subs.nil))))
                  refine d_pureg (i := 15) (v := .int .i64 x26_17) (unb 22 65535) rfl rfl hT (anyM hM (by kernel_rfl)) hE rfl (wanted_of rfl hE rfl rfl rfl) (fun w => r_move hE rfl) (fun a hE => ?_)
                  refine d_pureg (i := 16) (v := .bool (x26_17 == 7)) (unb 22 131071) rfl rfl hT (anyM hM (by kernel_rfl)) hE rfl (wanted_of rfl hE rfl rfl rfl) (fun w => r_bin hE rfl rfl g_int b_eql) (fun a hE => ?_)
                  refine d_pureg (i := 17) (v := .bool (x26_17 == 7)) (unb 22 262143) rfl rfl hT (anyM hM (by kernel_rfl)) hE rfl (wanted_of rfl hE rfl rfl rfl) (fun w => r_move hE rfl) (fun a hE => ?_)
                  have hE := hE.reb 78 (x26_17 == 7) true hb_48 rfl
                  replace hE := hE.cut (l' := [(0, .pointer x0), (4, .int .i64 x26_17), (5, .int .i64 x60_27), (75, .bool false), (78, .bool true)]) (.cons rfl (.cons rfl (.cons rfl (.cons rfl (.cons rfl Subs.nil)))))
                  refine d_pureg (i := 18) (v := .int .i64 x60_27) (unb 22 524287) rfl rfl hT (anyM hM (by kernel_rfl)) hE rfl (wanted_of rfl hE rfl rfl rfl) (fun w => r_move hE rfl) (fun a hE => ?_)
                  refine d_pureg (i := 19) (v := .bool (decide (x60_27 < 15))) (unb 22 1048575) rfl rfl hT (anyM hM (by kernel_rfl)) hE rfl (wanted_of rfl hE rfl rfl rfl) (fun w => r_bin hE rfl rfl g_int b_lss) (fun a hE => ?_)
                  refine d_pureg (i := 20) (v := .bool (decide (x60_27 < 15))) (unb 22 2097151) rfl rfl hT (anyM hM (by kernel_rfl)) hE rfl (wanted_of rfl hE rfl rfl rfl) (fun w => r_pick_t hE rfl rfl) (fun a hE => ?_)
                  refine d_pureg (i := 21) (v := .bool (decide (x60_27 < 15))) (unb 22 4194303) rfl rfl hT (anyM hM (by kernel_rfl)) hE rfl (wanted_none rfl) (fun w => r_pick_f hE rfl rfl) (fun a hE => ?_)
                  refine d_done hT (doneM hM (by kernel_rfl)) ?_
                  exact ⟨decide (x60_27 < 15), hE.cut (.cons rfl (.cons rfl (.cons rfl (.cons rfl Subs.nil)))), hR, H⟩
                · replace H := M.ite_f hb_48 H
                  refine reg_eq (rops := ro218_11) (by kernel_rfl) ?_
                  have hT : Tab ro218_11 _ _ _ := tab_of tb218_11 rfl (by kernel_rfl)
                  have hM := TabM.of tb218_11m
                  refine d_start (m := 22) (fun w : World => (fun h : Heap => (hcell h ((x62_42).add 1) = some (.int .i64 x64_44)) ∧ (hcell h ((x66_43).add 0) = some (.string x68_45))) w.heap) [9, 10, 11, 12, 13, 14, 15, 16, 17, 18, 19, 20, 21] (unb 22 0) mo hR (by kernel_rfl) (by kernel_rfl) (fun w' e => by rw [e]; exact ⟨qx64_44, qx68_45⟩) (fun w hh hR hs => ?_)
                  replace H := M.at hh H; clear hh
                  refine d_pureg (i := 0) (v := .pointer x0) (unb 22 1) rfl rfl hT (anyM hM (by kernel_rfl)) hE rfl (wanted_none rfl) (fun w => r_move hE rfl) (fun a hE => ?_)
                  refine d_pureg (i := 1) (v := .pointer (some x62_42)) (unb 22 3) rfl rfl hT (anyM hM (by kernel_rfl)) hE rfl (wanted_none rfl) (fun w => r_nilCheck hE (hx_eq rfl (congrArg Value.pointer qx62_42))) (fun a hE => ?_)
                  refine d_pureg (i := 2) (v := .pointer (some ((x62_42).add 1))) (unb 22 7) rfl rfl hT (anyM hM (by kernel_rfl)) hE rfl (wanted_none rfl) (fun w => r_fieldAddr hE rfl fd146_1) (fun a hE => ?_)
                  refine d_pureg (i := 4) (v := .pointer x0) (unb 22 23) rfl rfl hT (anyM hM (by kernel_rfl)) hE rfl (wanted_none rfl) (fun w => r_move hE rfl) (fun a hE => ?_)
                  refine d_pureg (i := 5) (v := .pointer (some x66_43)) (unb 22 55) rfl rfl hT (anyM hM (by kernel_rfl)) hE rfl (wanted_none rfl) (fun w => r_nilCheck hE (hx_eq rfl (congrArg Value.pointer qx66_43))) (fun a hE => ?_)
                  refine d_pureg (i := 6) (v := .pointer (some ((x66_43).add 0))) (unb 22 119) rfl rfl hT (anyM hM (by kernel_rfl)) hE rfl (wanted_none rfl) (fun w => r_fieldAddr hE rfl fd146_0) (fun a hE => ?_)
                  refine d_read (i := 3) (v := .int .i64 x64_44) (unb 22 127) rfl rfl hT (takeM hM (by kernel_rfl)) hE rfl (wanted_none rfl) hs (fun w s => r_load hE rfl sc3 s.1) (fun a hE => ?_)
                  refine d_read (i := 7) (v := .string x68_45) (unb 22 255) rfl rfl hT (takeM hM (by kernel_rfl)) hE rfl (wanted_none rfl) hs (fun w s => r_load hE rfl sc9 s.2) (fun a hE => ?_)
                  refine d_pureg (i := 8) (v := .int .i64 (x68_45.size : Int)) (unb 22 511) rfl rfl hT (anyM hM (by kernel_rfl)) hE rfl (wanted_none rfl) (fun w => r_lenS hE rfl un9) (fun a hE => ?_)
                  refine d_pureg (i := 9) (v := .bool (decide (x64_44 ≥ (x68_45.size : Int)))) (unb 22 1023) rfl rfl hT (anyM hM (by kernel_rfl)) hE rfl (wanted_none rfl) (fun w => r_bin hE rfl rfl g_int b_geq) (fun a hE => ?_)
                  refine d_pureg (i := 10) (v := .bool (decide (x64_44 ≥ (x68_45.size : Int)))) (unb 22 2047) rfl rfl hT (anyM hM (by kernel_rfl)) hE rfl (wanted_none rfl) (fun w => r_move hE rfl) (fun a hE => ?_)
                  have hE := hE.reb 71 (decide (x64_44 ≥ (x68_45.size : Int))) false hb_46 rfl
                  replace hE := hE.cut (l' := [(0, .pointer x0), (4, .int .i64 x26_17), (5, .int .i64 x60_27), (71, .bool false)]) (.cons rfl (.cons rfl (.cons rfl (.cons rfl Subs.nil))))
                  refine d_pureg (i := 11) (v := .int .i64 x60_27) (unb 22 4095) rfl rfl hT (anyM hM (by kernel_rfl)) hE rfl (wanted_of rfl hE rfl rfl rfl) (fun w => r_move hE rfl) (fun a hE => ?_)
                  refine d_pureg (i := 12) (v := .bool (decide (x60_27 < 0))) (unb 22 8191) rfl rfl hT (anyM hM (by kernel_rfl)) hE rfl (wanted_of rfl hE rfl rfl rfl) (fun w => r_bin hE rfl rfl g_int b_lss) (fun a hE => ?_)
                  refine d_pureg (i := 13) (v := .bool (decide (x60_27 < 0))) (unb 22 16383) rfl rfl hT (anyM hM (by kernel_rfl)) hE rfl (wanted_none rfl) (fun w => r_pick_f hE rfl rfl) (fun a hE => ?_)
                  refine d_pureg (i := 14) (v := .bool (decide (x60_27 < 0))) (unb 22 32767) rfl rfl hT (anyM hM (by kernel_rfl)) hE rfl (wanted_none rfl) (fun w => r_move hE rfl) (fun a hE => ?_)
                  have hE := hE.reb 75 (decide (x60_27 < 0)) false hb_47 rfl
                  replace hE := hE.cut (l' := [(0, .pointer x0), (4, .int .i64 x26_17), (5, .int .i64 x60_27), (75, .bool false)]) (.cons rfl (.cons rfl (.cons rfl (.cons rfl Subs.nil))))
                  refine d_pureg (i := 15) (v := .int .i64 x26_17) (unb 22 65535) rfl rfl hT (anyM hM (by kernel_rfl)) hE rfl (wanted_of rfl hE rfl rfl rfl) (fun w => r_move hE rfl) (fun a hE => ?_)
                  refine d_pureg (i := 16) (v := .bool (x26_17 == 7)) (unb 22 131071) rfl rfl hT (anyM hM (by kernel_rfl)) hE rfl (wanted_of rfl hE rfl rfl rfl) (fun w => r_bin hE rfl rfl g_int b_eql) (fun a hE => ?_)
                  refine d_pureg (i := 17) (v := .bool (x26_17 == 7)) (unb 22 262143) rfl rfl hT (anyM hM (by kernel_rfl)) hE rfl (wanted_of rfl hE rfl rfl rfl) (fun w => r_move hE rfl) (fun a hE => ?_)
                  have hE := hE.reb 78 (x26_17 == 7) false hb_48 rfl
                  replace hE := hE.cut (l' := [(0, .pointer x0), (4, .int .i64 x26_17), (5, .int .i64 x60_27), (75, .bool false), (78, .bool false)]) (.cons rfl (.cons rfl (.cons rfl (.cons rfl (.cons rfl Subs.nil)))))
                  refine d_off (i := 18) (unb 22 524287) rfl rfl hT (anyM hM (by kernel_rfl)) (unwanted_of rfl hE rfl rfl rfl) (fun a ea => ?_)
                  have hE := Env.put_some hE rfl ea; clear ea
                  refine d_off (i := 19) (unb 22 1048575) rfl rfl hT (anyM hM (by kernel_rfl)) (unwanted_of rfl hE rfl rfl rfl) (fun a ea => ?_)
                  have hE := Env.put_some hE rfl ea; clear ea
                  refine d_pureg (i := 20) (v := .bool false) (unb 22 2097151) rfl rfl hT (anyM hM (by kernel_rfl)) hE rfl (wanted_of rfl hE rfl rfl rfl) (fun w => r_pick_f hE rfl rfl) (fun a hE => ?_)
                  refine d_pureg (i := 21) (v := .bool false) (unb 22 4194303) rfl rfl hT (anyM hM (by kernel_rfl)) hE rfl (wanted_none rfl) (fun w => r_pick_f hE rfl rfl) (fun a hE => ?_)
                  refine d_done hT (doneM hM (by kernel_rfl)) ?_
                  exact ⟨false, hE.cut (.cons rfl (.cons rfl (.cons rfl (.cons rfl Subs.nil)))), hR, H⟩
      · skip
        refine w_seq_join (fun a w => ∃ (x48_49 : Bool), Env (⟨97, []⟩ : Frm) a [(0, .pointer x0), (4, .int .i64 x26_17), (48, .bool x48_49)] ∧ Rest w0 w ∧ (value_reader_escaped_j4 x0 x26_17 x48_49).wp w.heap Q) ?_ ?_
        · rintro a w ⟨x48_49, hE, hR, H⟩
          unfold value_reader_escaped_j4 at H
          refine w_cond x48_49 hE rfl (fun hb => ?_) (fun hb => ?_)
          · replace H := M.ite_t hb H
            refine t_region ?_
            refine t_val (v := .pointer x0) rfl rfl hE rfl (r_move hE rfl) (fun a hE => ?_)
            refine t_callX hE hR cl_value_reader_fail rfl (S_value_reader_fail x0) H (fun _ _ hR HQ => hthr _ _ hR HQ) (fun x50_52 a w ea hR H => ?_)
            have hE := Env.put_some hE rfl ea; clear ea
            refine t_nil ?_
            exact ⟨hE.cut (.cons rfl (.cons rfl Subs.nil)), hR, H⟩
          · replace H := M.ite_f hb H
            refine w_skip ?_
            exact ⟨hE.cut (.cons rfl (.cons rfl Subs.nil)), hR, H⟩
        · skip
          obtain ⟨x28_53, qx28_53, H⟩ := H
          obtain ⟨x32_54, qx32_54, H⟩ := H
          obtain ⟨x30_55, qx30_55, H⟩ := H
          obtain ⟨x34_56, qx34_56, H⟩ := H
          rcases bool_em (decide (x30_55 ≥ (x34_56.size : Int))) with hb_57 | hb_57
          · replace H := M.ite_t hb_57 H
            refine reg_eq (rops := ro218_7) (by kernel_rfl) ?_
            have hT : Tab ro218_7 _ _ _ := tab_of tb218_7 rfl (by kernel_rfl)
            have hM := TabM.of tb218_7m
            refine d_start (m := 22) (fun w : World => (fun h : Heap => (hcell h ((x28_53).add 1) = some (.int .i64 x30_55)) ∧ (hcell h ((x32_54).add 0) = some (.string x34_56))) w.heap) [9, 10, 11, 12, 13, 14, 15, 16, 17, 18, 19, 20, 21] (unb 22 0) mo hR (by kernel_rfl) (by kernel_rfl) (fun w' e => by rw [e]; exact ⟨qx30_55, qx34_56⟩) (fun w hh hR hs => ?_)
            replace H := M.at hh H; clear hh
            refine d_pureg (i := 0) (v := .pointer x0) (unb 22 1) rfl rfl hT (anyM hM (by kernel_rfl)) hE rfl (wanted_none rfl) (fun w => r_move hE rfl) (fun a hE => ?_)
            refine d_pureg (i := 1) (v := .pointer (some x28_53)) (unb 22 3) rfl rfl hT (anyM hM (by kernel_rfl)) hE rfl (wanted_none rfl) (fun w => r_nilCheck hE (hx_eq rfl (congrArg Value.pointer qx28_53))) (fun a hE => ?_)
            refine d_pureg (i := 2) (v := .pointer (some ((x28_53).add 1))) (unb 22 7) rfl rfl hT (anyM hM (by kernel_rfl)) hE rfl (wanted_none rfl) (fun w => r_fieldAddr hE rfl fd146_1) (fun a hE => ?_)
            refine d_pureg (i := 4) (v := .pointer x0) (unb 22 23) rfl rfl hT (anyM hM (by kernel_rfl)) hE rfl (wanted_none rfl) (fun w => r_move hE rfl) (fun a hE => ?_)
            refine d_pureg (i := 5) (v := .pointer (some x32_54)) (unb 22 55) rfl rfl hT (anyM hM (by kernel_rfl)) hE rfl (wanted_none rfl) (fun w => r_nilCheck hE (hx_eq rfl (congrArg Value.pointer qx32_54))) (fun a hE => ?_)
            refine d_pureg (i := 6) (v := .pointer (some ((x32_54).add 0))) (unb 22 119) rfl rfl hT (anyM hM (by kernel_rfl)) hE rfl (wanted_none rfl) (fun w => r_fieldAddr hE rfl fd146_0) (fun a hE => ?_)
            refine d_read (i := 3) (v := .int .i64 x30_55) (unb 22 127) rfl rfl hT (takeM hM (by kernel_rfl)) hE rfl (wanted_none rfl) hs (fun w s => r_load hE rfl sc3 s.1) (fun a hE => ?_)
            refine d_read (i := 7) (v := .string x34_56) (unb 22 255) rfl rfl hT (takeM hM (by kernel_rfl)) hE rfl (wanted_none rfl) hs (fun w s => r_load hE rfl sc9 s.2) (fun a hE => ?_)
            refine d_pureg (i := 8) (v := .int .i64 (x34_56.size : Int)) (unb 22 511) rfl rfl hT (anyM hM (by kernel_rfl)) hE rfl (wanted_none rfl) (fun w => r_lenS hE rfl un9) (fun a hE => ?_)
            refine d_pureg (i := 9) (v := .bool (decide (x30_55 ≥ (x34_56.size : Int)))) (unb 22 1023) rfl rfl hT (anyM hM (by kernel_rfl)) hE rfl (wanted_none rfl) (fun w => r_bin hE rfl rfl g_int b_geq) (fun a hE => ?_)
            refine d_pureg (i := 10) (v := .bool (decide (x30_55 ≥ (x34_56.size : Int)))) (unb 22 2047) rfl rfl hT (anyM hM (by kernel_rfl)) hE rfl (wanted_none rfl) (fun w => r_move hE rfl) (fun a hE => ?_)
            have hE := hE.reb 37 (decide (x30_55 ≥ (x34_56.size : Int))) true hb_57 rfl
            replace hE := hE.cut (l' := [(0, .pointer x0), (4, .int .i64 x26_17), (37, .bool true)]) (.cons rfl (.cons rfl (.cons rfl Subs.nil)))
            refine d_off (i := 11) (unb 22 4095) rfl rfl hT (anyM hM (by kernel_rfl)) (unwanted_of rfl hE rfl rfl rfl) (fun a ea => ?_)
            have hE := Env.put_some hE rfl ea; clear ea
            refine d_off (i := 12) (unb 22 8191) rfl rfl hT (anyM hM (by kernel_rfl)) (unwanted_of rfl hE rfl rfl rfl) (fun a ea => ?_)
            have hE := Env.put_some hE rfl ea; clear ea
            refine d_pureg (i := 13) (v := .bool true) (unb 22 16383) rfl rfl hT (anyM hM (by kernel_rfl)) hE rfl (wanted_none rfl) (fun w => r_pick_t hE rfl rfl) (fun a hE => ?_)
            refine d_pureg (i := 14) (v := .bool true) (unb 22 32767) rfl rfl hT (anyM hM (by kernel_rfl)) hE rfl (wanted_none rfl) (fun w => r_move hE rfl) (fun a hE => ?_)
            refine d_offsM' [(15, some 42), (16, some 43), (17, some 44), (18, some 45), (19, some 46), (20, some 47)] 1 hT hM hE (by kernel_rfl) (m' := 2097151) (by kernel_rfl) (fun a hE => ?_)
            refine d_pureg (i := 21) (v := .bool true) (unb 22 4194303) rfl rfl hT (anyM hM (by kernel_rfl)) hE rfl (wanted_none rfl) (fun w => r_pick_t hE rfl rfl) (fun a hE => ?_)
            refine d_done hT (doneM hM (by kernel_rfl)) ?_
            exact ⟨true, hE.cut (.cons rfl (.cons rfl (.cons rfl Subs.nil))), hR, H⟩
          · replace H := M.ite_f hb_57 H
            rcases bool_em (decide (x26_17 < 0)) with hb_58 | hb_58
            · replace H := M.ite_t hb_58 H
              refine reg_eq (rops := ro218_7) (by kernel_rfl) ?_
              have hT : Tab ro218_7 _ _ _ := tab_of tb218_7 rfl (by kernel_rfl)
              have hM := TabM.of tb218_7m
              refine d_start (m := 22) (fun w : World => (fun h : Heap => (hcell h ((x28_53).add 1) = some (.int .i64 x30_55)) ∧ (hcell h ((x32_54).add 0) = some (.string x34_56))) w.heap) [9, 10, 11, 12, 13, 14, 15, 16, 17, 18, 19, 20, 21] (unb 22 0) mo hR (by kernel_rfl) (by kernel_rfl) (fun w' e => by rw [e]; exact ⟨qx30_55, qx34_56⟩) (fun w hh hR hs => ?_)
              replace H := M.at hh H; clear hh
              refine d_pureg (i := 0) (v := .pointer x0) (unb 22 1) rfl rfl hT (anyM hM (by kernel_rfl)) hE rfl (wanted_none rfl) (fun w => r_move hE rfl) (fun a hE => ?_)
              refine d_pureg (i := 1) (v := .pointer (some x28_53)) (unb 22 3) rfl rfl hT (anyM hM (by kernel_rfl)) hE rfl (wanted_none rfl) (fun w => r_nilCheck hE (hx_eq rfl (congrArg Value.pointer qx28_53))) (fun a hE => ?_)
              refine d_pureg (i := 2) (v := .pointer (some ((x28_53).add 1))) (unb 22 7) rfl rfl hT (anyM hM (by kernel_rfl)) hE rfl (wanted_none rfl) (fun w => r_fieldAddr hE rfl fd146_1) (fun a hE => ?_)
              refine d_pureg (i := 4) (v := .pointer x0) (unb 22 23) rfl rfl hT (anyM hM (by kernel_rfl)) hE rfl (wanted_none rfl) (fun w => r_move hE rfl) (fun a hE => ?_)
              refine d_pureg (i := 5) (v := .pointer (some x32_54)) (unb 22 55) rfl rfl hT (anyM hM (by kernel_rfl)) hE rfl (wanted_none rfl) (fun w => r_nilCheck hE (hx_eq rfl (congrArg Value.pointer qx32_54))) (fun a hE => ?_)
              refine d_pureg (i := 6) (v := .pointer (some ((x32_54).add 0))) (unb 22 119) rfl rfl hT (anyM hM (by kernel_rfl)) hE rfl (wanted_none rfl) (fun w => r_fieldAddr hE rfl fd146_0) (fun a hE => ?_)
              refine d_read (i := 3) (v := .int .i64 x30_55) (unb 22 127) rfl rfl hT (takeM hM (by kernel_rfl)) hE rfl (wanted_none rfl) hs (fun w s => r_load hE rfl sc3 s.1) (fun a hE => ?_)
              refine d_read (i := 7) (v := .string x34_56) (unb 22 255) rfl rfl hT (takeM hM (by kernel_rfl)) hE rfl (wanted_none rfl) hs (fun w s => r_load hE rfl sc9 s.2) (fun a hE => ?_)
              refine d_pureg (i := 8) (v := .int .i64 (x34_56.size : Int)) (unb 22 511) rfl rfl hT (anyM hM (by kernel_rfl)) hE rfl (wanted_none rfl) (fun w => r_lenS hE rfl un9) (fun a hE => ?_)
              refine d_pureg (i := 9) (v := .bool (decide (x30_55 ≥ (x34_56.size : Int)))) (unb 22 1023) rfl rfl hT (anyM hM (by kernel_rfl)) hE rfl (wanted_none rfl) (fun w => r_bin hE rfl rfl g_int b_geq) (fun a hE => ?_)
              refine d_pureg (i := 10) (v := .bool (decide (x30_55 ≥ (x34_56.size : Int)))) (unb 22 2047) rfl rfl hT (anyM hM (by kernel_rfl)) hE rfl (wanted_none rfl) (fun w => r_move hE rfl) (fun a hE => ?_)
              have hE := hE.reb 37 (decide (x30_55 ≥ (x34_56.size : Int))) false hb_57 rfl
              replace hE := hE.cut (l' := [(0, .pointer x0), (4, .int .i64 x26_17), (37, .bool false)]) (.cons rfl (.cons rfl (.cons rfl Subs.nil)))
              refine d_pureg (i := 11) (v := .int .i64 x26_17) (unb 22 4095) rfl rfl hT (anyM hM (by kernel_rfl)) hE rfl (wanted_of rfl hE rfl rfl rfl) (fun w => r_move hE rfl) (fun a hE => ?_)
              refine d_pureg (i := 12) (v := .bool (decide (x26_17 < 0))) (unb 22 8191) rfl rfl hT (anyM hM (by kernel_rfl)) hE rfl (wanted_of rfl hE rfl rfl rfl) (fun w => r_bin hE rfl rfl g_int b_lss) (fun a hE => ?_)
              refine d_pureg (i := 13) (v := .bool (decide (x26_17 < 0))) (unb 22 16383) rfl rfl hT (anyM hM (by kernel_rfl)) hE rfl (wanted_none rfl) (fun w => r_pick_f hE rfl rfl) (fun a hE => ?_)
              refine d_pureg (i := 14) (v := .bool (decide (x26_17 < 0))) (unb 22 32767) rfl rfl hT (anyM hM (by kernel_rfl)) hE rfl (wanted_none rfl) (fun w => r_move hE rfl) (fun a hE => ?_)
              have hE := hE.reb 41 (decide (x26_17 < 0)) true hb_58 rfl
              replace hE := hE.cut (l' := [(0, .pointer x0), (4, .int .i64 x26_17), (41, .bool true)]) (.cons rfl (.cons rfl (.cons rfl Subs.nil)))
              refine d_offsM' [(15, some 42), (16, some 43), (17, some 44), (18, some 45), (19, some 46), (20, some 47)] 1 hT hM hE (by kernel_rfl) (m' := 2097151) (by kernel_rfl) (fun a hE => ?_)
              refine d_pureg (i := 21) (v := .bool true) (unb 22 4194303) rfl rfl hT (anyM hM (by kernel_rfl)) hE rfl (wanted_none rfl) (fun w => r_pick_t hE rfl rfl) (fun a hE => ?_)
              refine d_done hT (doneM hM (by kernel_rfl)) ?_
              exact ⟨true, hE.cut (.cons rfl (.cons rfl (.cons rfl Subs.nil))), hR, H⟩
            · replace H := M.ite_f hb_58 H
              rcases bool_em (decide (x26_17 > 1)) with hb_59 | hb_59
              · replace H := M.ite_t hb_59 H
                refine reg_eq (rops := ro218_7) (by kernel_rfl) ?_
                have hT : Tab ro218_7 _ _ _ := tab_of tb218_7 rfl (by kernel_rfl)
                have hM := TabM.of tb218_7m
                refine d_start (m := 22) (fun w : World => (fun h : Heap => (hcell h ((x28_53).add 1) = some (.int .i64 x30_55)) ∧ (hcell h ((x32_54).add 0) = some (.string x34_56))) w.heap) [9, 10, 11, 12, 13, 14, 15, 16, 17, 18, 19, 20, 21] (unb 22 0) mo hR (by kernel_rfl) (by kernel_rfl) (fun w' e => by rw [e]; exact ⟨qx30_55, qx34_56⟩) (fun w hh hR hs => ?_)
                replace H := M.at hh H; clear hh
                refine d_pureg (i := 0) (v := .pointer x0) (unb 22 1) rfl rfl hT (anyM hM (by kernel_rfl)) hE rfl (wanted_none rfl) (fun w => r_move hE rfl) (fun a hE => ?_)
                refine d_pureg (i := 1) (v := .pointer (some x28_53)) (unb 22 3) rfl rfl hT (anyM hM (by kernel_rfl)) hE rfl (wanted_none rfl) (fun w => r_nilCheck hE (hx_eq rfl (congrArg Value.pointer qx28_53))) (fun a hE => ?_)
                refine d_pureg (i := 2) (v := .pointer (some ((x28_53).add 1))) (unb 22 7) rfl rfl hT (anyM hM (by kernel_rfl)) hE rfl (wanted_none rfl) (fun w => r_fieldAddr hE rfl fd146_1) (fun a hE => ?_)
                refine d_pureg (i := 4) (v := .pointer x0) (unb 22 23) rfl rfl hT (anyM hM (by kernel_rfl)) hE rfl (wanted_none rfl) (fun w => r_move hE rfl) (fun a hE => ?_)
                refine d_pureg (i := 5) (v := .pointer (some x32_54)) (unb 22 55) rfl rfl hT (anyM hM (by kernel_rfl)) hE rfl (wanted_none rfl) (fun w => r_nilCheck hE (hx_eq rfl (congrArg Value.pointer qx32_54))) (fun a hE => ?_)
                refine d_pureg (i := 6) (v := .pointer (some ((x32_54).add 0))) (unb 22 119) rfl rfl hT (anyM hM (by kernel_rfl)) hE rfl (wanted_none rfl) (fun w => r_fieldAddr hE rfl fd146_0) (fun a hE => ?_)
                refine d_read (i := 3) (v := .int .i64 x30_55) (unb 22 127) rfl rfl hT (takeM hM (by kernel_rfl)) hE rfl (wanted_none rfl) hs (fun w s => r_load hE rfl sc3 s.1) (fun a hE => ?_)
                refine d_read (i := 7) (v := .string x34_56) (unb 22 255) rfl rfl hT (takeM hM (by kernel_rfl)) hE rfl (wanted_none rfl) hs (fun w s => r_load hE rfl sc9 s.2) (fun a hE => ?_)
                refine d_pureg (i := 8) (v := .int .i64 (x34_56.size : Int)) (unb 22 511) rfl rfl hT (anyM hM (by kernel_rfl)) hE rfl (wanted_none rfl) (fun w => r_lenS hE rfl un9) (fun a hE => ?_)
                refine d_pureg (i := 9) (v := .bool (decide (x30_55 ≥ (x34_56.size : Int)))) (unb 22 1023) rfl rfl hT (anyM hM (by kernel_rfl)) hE rfl (wanted_none rfl) (fun w => r_bin hE rfl rfl g_int b_geq) (fun a hE => ?_)
                refine d_pureg (i := 10) (v := .bool (decide (x30_55 ≥ (x34_56.size : Int)))) (unb 22 2047) rfl rfl hT (anyM hM (by kernel_rfl)) hE rfl (wanted_none rfl) (fun w => r_move hE rfl) (fun a hE => ?_)
                have hE := hE.reb 37 (decide (x30_55 ≥ (x34_56.size : Int))) false hb_57 rfl
                replace hE := hE.cut (l' := [(0, .pointer x0), (4, .int .i64 x26_17), (37, .bool false)]) (.cons rfl (.cons rfl (.cons rfl Subs.nil)))
                refine d_pureg (i := 11) (v := .int .i64 x26_17) (unb 22 4095) rfl rfl hT (anyM hM (by kernel_rfl)) hE rfl (wanted_of rfl hE rfl rfl rfl) (fun w => r_move hE rfl) (fun a hE => ?_)
                refine d_pureg (i := 12) (v := .bool (decide (x26_17 < 0))) (unb 22 8191) rfl rfl hT (anyM hM (by kernel_rfl)) hE rfl (wanted_of rfl hE rfl rfl rfl) (fun w => r_bin hE rfl rfl g_int b_lss) (fun a hE => ?_)
                refine d_pureg (i := 13) (v := .bool (decide (x26_17 < 0))) (unb 22 16383) rfl rfl hT (anyM hM (by kernel_rfl)) hE rfl (wanted_none rfl) (fun w => r_pick_f hE rfl rfl) (fun a hE => ?_)
                refine d_pureg (i := 14) (v := .bool (decide (x26_17 < 0))) (unb 22 32767) rfl rfl hT (anyM hM (by kernel_rfl)) hE rfl (wanted_none rfl) (fun w => r_move hE rfl) (fun a hE => ?_)
                have hE := hE.reb 41 (decide (x26_17 < 0)) false hb_58 rfl
                replace hE := hE.cut (l' := [(0, .pointer x0), (4, .int .i64 x26_17), (41, .bool false)]) (.cons rfl (.cons rfl (.cons rfl Subs.nil)))
                refine d_pureg (i := 15) (v := .int .i64 x26_17) (unb 22 65535) rfl rfl hT (anyM hM (by kernel_rfl)) hE rfl (wanted_of rfl hE rfl rfl rfl) (fun w => r_move hE rfl) (fun a hE => ?_)
                refine d_pureg (i := 16) (v := .bool (decide (x26_17 > 1))) (unb 22 131071) rfl rfl hT (anyM hM (by kernel_rfl)) hE rfl (wanted_of rfl hE rfl rfl rfl) (fun w => r_bin hE rfl rfl g_int b_gtr) (fun a hE => ?_)
                refine d_pureg (i := 17) (v := .bool (decide (x26_17 > 1))) (unb 22 262143) rfl rfl hT (anyM hM (by kernel_rfl)) hE rfl (wanted_of rfl hE rfl rfl rfl) (fun w => r_move hE rfl) (fun a hE => ?_)
                have hE := hE.reb 44 (decide (x26_17 > 1)) true hb_59 rfl
                replace hE := hE.cut (l' := [(0, .pointer x0), (4, .int .i64 x26_17), (41, .bool false), (44, .bool true)]) (.cons rfl (.cons rfl (.cons rfl (.cons rfl Subs.nil))))
                refine d_pureg (i := 18) (v := .int .i64 x26_17) (unb 22 524287) rfl rfl hT (anyM hM (by kernel_rfl)) hE rfl (wanted_of rfl hE rfl rfl rfl) (fun w => r_move hE rfl) (fun a hE => ?_)
                refine d_pureg (i := 19) (v := .bool (decide (x26_17 < 7))) (unb 22 1048575) rfl rfl hT (anyM hM (by kernel_rfl)) hE rfl (wanted_of rfl hE rfl rfl rfl) (fun w => r_bin hE rfl rfl g_int b_lss) (fun a hE => ?_)
                refine d_pureg (i := 20) (v := .bool (decide (x26_17 < 7))) (unb 22 2097151) rfl rfl hT (anyM hM (by kernel_rfl)) hE rfl (wanted_of rfl hE rfl rfl rfl) (fun w => r_pick_t hE rfl rfl) (fun a hE => ?_)
                refine d_pureg (i := 21) (v := .bool (decide (x26_17 < 7))) (unb 22 4194303) rfl rfl hT (anyM hM (by kernel_rfl)) hE rfl (wanted_none rfl) (fun w => r_pick_f hE rfl rfl) (fun a hE => ?_)
                refine d_done hT (doneM hM (by kernel_rfl)) ?_
                exact ⟨decide (x26_17 < 7), hE.cut (.cons rfl (.cons rfl (.cons rfl Subs.nil))), hR, H⟩
              · replace H := M.ite_f hb_59 H
                refine reg_eq (rops := ro218_7) (by kernel_rfl) ?_
                have hT : Tab ro218_7 _ _ _ := tab_of tb218_7 rfl (by kernel_rfl)
                have hM := TabM.of tb218_7m
                refine d_start (m := 22) (fun w : World => (fun h : Heap => (hcell h ((x28_53).add 1) = some (.int .i64 x30_55)) ∧ (hcell h ((x32_54).add 0) = some (.string x34_56))) w.heap) [9, 10, 11, 12, 13, 14, 15, 16, 17, 18, 19, 20, 21] (unb 22 0) mo hR (by kernel_rfl) (by kernel_rfl) (fun w' e => by rw [e]; exact ⟨qx30_55, qx34_56⟩) (fun w hh hR hs => ?_)
                replace H := M.at hh H; clear hh
                refine d_pureg (i := 0) (v := .pointer x0) (unb 22 1) rfl rfl hT (anyM hM (by kernel_rfl)) hE rfl (wanted_none rfl) (fun w => r_move hE rfl) (fun a hE => ?_)
                refine d_pureg (i := 1) (v := .pointer (some x28_53)) (unb 22 3) rfl rfl hT (anyM hM (by kernel_rfl)) hE rfl (wanted_none rfl) (fun w => r_nilCheck hE (hx_eq rfl (congrArg Value.pointer qx28_53))) (fun a hE => ?_)
                refine d_pureg (i := 2) (v := .pointer (some ((x28_53).add 1))) (unb 22 7) rfl rfl hT (anyM hM (by kernel_rfl)) hE rfl (wanted_none rfl) (fun w => r_fieldAddr hE rfl fd146_1) (fun a hE => ?_)
                refine d_pureg (i := 4) (v := .pointer x0) (unb 22 23) rfl rfl hT (anyM hM (by kernel_rfl)) hE rfl (wanted_none rfl) (fun w => r_move hE rfl) (fun a hE => ?_)
                refine d_pureg (i := 5) (v := .pointer (some x32_54)) (unb 22 55) rfl rfl hT (anyM hM (by kernel_rfl)) hE rfl (wanted_none rfl) (fun w => r_nilCheck hE (hx_eq rfl (congrArg Value.pointer qx32_54))) (fun a hE => ?_)
                refine d_pureg (i := 6) (v := .pointer (some ((x32_54).add 0))) (unb 22 119) rfl rfl hT (anyM hM (by kernel_rfl)) hE rfl (wanted_none rfl) (fun w => r_fieldAddr hE rfl fd146_0) (fun a hE => ?_)
                refine d_read (i := 3) (v := .int .i64 x30_55) (unb 22 127) rfl rfl hT (takeM hM (by kernel_rfl)) hE rfl (wanted_none rfl) hs (fun w s => r_load hE rfl sc3 s.1) (fun a hE => ?_)
                refine d_read (i := 7) (v := .string x34_56) (unb 22 255) rfl rfl hT (takeM hM (by kernel_rfl)) hE rfl (wanted_none rfl) hs (fun w s => r_load hE rfl sc9 s.2) (fun a hE => ?_)
                refine d_pureg (i := 8) (v := .int .i64 (x34_56.size : Int)) (unb 22 511) rfl rfl hT (anyM hM (by kernel_rfl)) hE rfl (wanted_none rfl) (fun w => r_lenS hE rfl un9) (fun a hE => ?_)
                refine d_pureg (i := 9) (v := .bool (decide (x30_55 ≥ (x34_56.size : Int)))) (unb 22 1023) rfl rfl hT (anyM hM (by kernel_rfl)) hE rfl (wanted_none rfl) (fun w => r_bin hE rfl rfl g_int b_geq) (fun a hE => ?_)
                refine d_pureg (i := 10) (v := .bool (decide (x30_55 ≥ (x34_56.size : Int)))) (unb 22 2047) rfl rfl hT (anyM hM (by kernel_rfl)) hE rfl (wanted_none rfl) (fun w => r_move hE rfl) (fun a hE => ?_)
                have hE := hE.reb 37 (decide (x30_55 ≥ (x34_56.size : Int))) false hb_57 rfl
                replace hE := hE.cut (l' := [(0, .pointer x0), (4, .int .i64 x26_17), (37, .bool false)]) (.cons rfl (.cons rfl (.cons rfl Subs.nil)))
                refine d_pureg (i := 11) (v := .int .i64 x26_17) (unb 22 4095) rfl rfl hT (anyM hM (by kernel_rfl)) hE rfl (wanted_of rfl hE rfl rfl rfl) (fun w => r_move hE rfl) (fun a hE => ?_)
                refine d_pureg (i := 12) (v := .bool (decide (x26_17 < 0))) (unb 22 8191) rfl rfl hT (anyM hM (by kernel_rfl)) hE rfl (wanted_of rfl hE rfl rfl rfl) (fun w => r_bin hE rfl rfl g_int b_lss) (fun a hE => ?_)
                refine d_pureg (i := 13) (v := .bool (decide (x26_17 < 0))) (unb 22 16383) rfl rfl hT (anyM hM (by kernel_rfl)) hE rfl (wanted_none rfl) (fun w => r_pick_f hE rfl rfl) (fun a hE => ?_)
                refine d_pureg (i := 14) (v := .bool (decide (x26_17 < 0))) (unb 22 32767) rfl rfl hT (anyM hM (by kernel_rfl)) hE rfl (wanted_none rfl) (fun w => r_move hE rfl) (fun a hE => ?_)
                have hE := hE.reb 41 (decide (x26_17 < 0)) false hb_58 rfl
                replace hE := hE.cut (l' := [(0, .pointer x0), (4, .int .i64 x26_17), (41, .bool false)]) (.cons rfl (.cons rfl (.cons rfl Subs.nil)))
                refine d_pureg (i := 15) (v := .int .i64 x26_17) (unb 22 65535) rfl rfl hT (anyM hM (by kernel_rfl)) hE rfl (wanted_of rfl hE rfl rfl rfl) (fun w => r_move hE rfl) (fun a hE => ?_)
                refine d_pureg (i := 16) (v := .bool (decide (x26_17 > 1))) (unb 22 131071) rfl rfl hT (anyM hM (by kernel_rfl)) hE rfl (wanted_of rfl hE rfl rfl rfl) (fun w => r_bin hE rfl rfl g_int b_gtr) (fun a hE => ?_)
                refine d_pureg (i := 17) (v := .bool (decide (x26_17 > 1))) (unb 22 262143) rfl rfl hT (anyM hM (by kernel_rfl)) hE rfl (wanted_of rfl hE rfl rfl rfl) (fun w => r_move hE rfl) (fun a hE => ?_)
                have hE := hE.reb 44 (decide (x26_17 > 1)) false hb_59 rfl
                replace hE := hE.cut (l' := [(0, .pointer x0), (4, .int .i64 x26_17), (41, .bool false), (44, .bool false)]) (.cons rfl (.cons rfl (.cons rfl (.cons rfl Subs.nil))))
                refine d_off (i := 18) (unb 22 524287) rfl rfl hT (anyM hM (by kernel_rfl)) (unwanted_of rfl hE rfl rfl rfl) (fun a ea => ?_)
                have hE := Env.put_some hE rfl ea; clear ea
                refine d_off (i := 19) (unb 22 1048575) rfl rfl hT (anyM hM (by kernel_rfl)) (unwanted_of rfl hE rfl rfl rfl) (fun a ea => ?_)
                have hE := Env.put_some hE rfl ea; clear ea
                refine d_pureg (i := 20) (v := .bool false) (unb 22 2097151) rfl rfl hT (anyM hM (by kernel_rfl)) hE rfl (wanted_of rfl hE rfl rfl rfl) (fun w => r_pick_f hE rfl rfl) (fun a hE => ?_)
                refine d_pureg (i := 21) (v := .bool false) (unb 22 4194303) rfl rfl hT (anyM hM (by kernel_rfl)) hE rfl (wanted_none rfl) (fun w => r_pick_f hE rfl rfl) (fun a hE => ?_)
                refine d_done hT (doneM hM (by kernel_rfl)) ?_
                exact ⟨false, hE.cut (.cons rfl (.cons rfl (.cons rfl Subs.nil))), hR, H⟩

end Gx
