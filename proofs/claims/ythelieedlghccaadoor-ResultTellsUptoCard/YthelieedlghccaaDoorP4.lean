/- Printed by program: Go functions as Lean programs, each tied to its code. No condition. -/
import Derived.Test.YthelieedlghccaaDoorP0
import Derived.Test.YthelieedlghccaaDoorP1
import Derived.Test.YthelieedlghccaaDoorP2
import Derived.Test.YthelieedlghccaaDoorP3
set_option linter.unusedVariables false
set_option linter.unusedSimpArgs false
namespace Gx
open Go
set_option linter.unusedVariables false
set_option maxRecDepth 100000
/-- ramble/result.List -/
def result_List_l1 (c5_12 : Addr) (c13_13 : Sl) (c14_14 : Int) (self1 : (Int) → M (ByteArray × Int)) : (Int) → M (ByteArray × Int) := fun s => match s with
  | x15_11 => do
    M.ite (decide (x15_11 < c14_14)) (do
      let x17_20 ← ixL c13_13 x15_11 4
      let x18_21 ← ldG 4 x17_20
      let x7_22 ← mkB ty_api_Value (#[.int .i64 0, .int .i64 0, .string ByteArray.empty, .slice none 0 0] : Array Value)
      M.need (x18_21.size = 4)
      stG x7_22 x18_21
      let x19_25 ← ldG 4 x7_22
      let x20_26 ← value_Text x19_25
      let x21_27 ← strings_Builder_WriteString (some c5_12) x20_26
      let x22_28 ← strings_Builder_WriteByte (some c5_12) 10
      self1 (IntKind.wrap .i64 (x15_11 + 1))
      ) (do
      let x24_30 ← strings_Builder_String (some c5_12)
      M.pure (x24_30, 0)
      )
def result_List (x0 : Sl) : M (ByteArray × Int) := do
  let x9_4 ← result_first x0
  M.ite (x9_4 != 0) (do
    M.pure (ByteArray.empty, x9_4)
    ) (do
    let x5_8 ← mkB ty_strings_Builder (#[.pointer none, .slice none 0 0] : Array Value)
    M.loop (result_List_l1 x5_8 x0 (x0.len : Int)) 0
    )
theorem S_result_List (x0 : Sl) : Sound Go.Proofs.Tryd.prog 32 #[(x0 : Sl).v] (fun (r : ByteArray × Int) => .tuple #[.string r.1, .int .i64 r.2]) (result_List x0) := by
  refine sound_of [(0, (x0 : Sl).v)] Go.Proofs.Tryd.func32 rfl rfl (Nat.le_of_ble_eq_true rfl) (args_of ⟨rfl, trivial⟩) (fun w0 w Q R a hret hE hR H => ?_)
  unfold result_List at H
  refine w_seq (fun K hK_1 => ?_)
  refine t_region ?_
  refine t_val (v := .string ByteArray.empty) rfl rfl hE rfl (r_assign hE rfl) (fun a hE => ?_)
  refine t_val (v := .int .i64 0) rfl rfl hE rfl (r_assign hE rfl) (fun a hE => ?_)
  refine t_nil ?_
  refine hK_1 _ _ ?_
  refine w_seq (fun K hK_2 => ?_)
  refine w_seq (fun K hK_3 => ?_)
  refine t_region ?_
  refine t_val (v := (x0 : Sl).v) rfl rfl hE rfl (r_move hE rfl) (fun a hE => ?_)
  refine t_call hE hR cl_result_first rfl (S_result_first x0) (M.unbind H) (fun x9_4 a w ea hR H => ?_)
  have hE := Env.put_some hE rfl ea; clear ea
  refine t_val (v := .int .i64 x9_4) rfl rfl hE rfl (r_assign hE rfl) (fun a hE => ?_)
  refine t_nil ?_
  refine hK_3 _ _ ?_
  refine w_seq (fun K hK_5 => ?_)
  refine t_region ?_
  refine t_val (v := .int .i64 x9_4) rfl rfl hE rfl (r_move hE rfl) (fun a hE => ?_)
  refine t_val (v := .bool (x9_4 != 0)) rfl rfl hE rfl (r_bin hE rfl rfl g_int b_neq) (fun a hE => ?_)
  refine t_nil ?_
  refine hK_5 _ _ ?_
  refine w_cond (x9_4 != 0) hE rfl (fun hb => ?_) (fun hb => ?_)
  · replace H := M.ite_t hb H
    refine w_seq (fun K hK_6 => ?_)
    refine t_region ?_
    refine t_val (v := .int .i64 x9_4) rfl rfl hE rfl (r_move hE rfl) (fun a hE => ?_)
    refine t_val (v := .string ByteArray.empty) rfl rfl hE rfl (r_assign hE rfl) (fun a hE => ?_)
    refine t_val (v := .int .i64 x9_4) rfl rfl hE rfl (r_assign hE rfl) (fun a hE => ?_)
    refine t_nil ?_
    refine hK_6 _ _ ?_
    refine w_ret ?_
    exact hret _ _ _ (ByteArray.empty, x9_4) _ hE hR (res_run hE rfl (RV.tmp rfl (RV.tmp rfl RV.nil))) rfl H
  · replace H := M.ite_f hb H
    refine w_skip ?_
    refine hK_2 _ _ ?_
    refine w_seq (fun K hK_7 => ?_)
    refine t_region ?_
    obtain ⟨x5_8, qx5_8, H⟩ := H
    refine t_valh (v := .pointer (some x5_8)) rfl rfl hE rfl hR (r_alloc zr53 qx5_8) (fun a w hE hR hh => ?_)
    replace H := M.at hh H; clear hh
    refine t_nil ?_
    refine hK_7 _ _ ?_
    refine w_seq (fun K hK_9 => ?_)
    refine w_seq (fun K hK_10 => ?_)
    refine t_region ?_
    refine t_val (v := (x0 : Sl).v) rfl rfl hE rfl (r_move hE rfl) (fun a hE => ?_)
    refine t_val (v := .int .i64 (x0.len : Int)) rfl rfl hE rfl (r_len hE rfl 42 un22) (fun a hE => ?_)
    refine t_val (v := .int .i64 0) rfl rfl hE rfl (r_move hE rfl) (fun a hE => ?_)
    refine t_nil ?_
    refine hK_10 _ _ ?_
    refine w_block ?_
    refine l_loop (fun (s : Int) => (⟨25, []⟩ : Frm)) (fun (s : Int) => [(5, .pointer (some x5_8)), (13, (x0 : Sl).v), (14, .int .i64 (x0.len : Int)), (15, .int .i64 s)]) H (hE.cut (.cons rfl (.cons rfl (.cons rfl (.cons rfl Subs.nil))))) hR (fun Y self1 hY_15 x15_11 a w hE hR H => ?_)
    replace hE : Env (⟨25, []⟩ : Frm) a [(5, .pointer (some x5_8)), (13, (x0 : Sl).v), (14, .int .i64 (x0.len : Int)), (15, .int .i64 x15_11)] := hE
    replace H : (result_List_l1 x5_8 x0 (x0.len : Int) self1 x15_11).wp w.heap Q := H
    unfold result_List_l1 at H
    refine w_seq (fun K hK_16 => ?_)
    refine t_region ?_
    refine t_val (v := .bool (decide (x15_11 < (x0.len : Int)))) rfl rfl hE rfl (r_bin hE rfl rfl g_int b_lss) (fun a hE => ?_)
    refine t_nil ?_
    refine hK_16 _ _ ?_
    refine w_seq (fun K hK_17 => ?_)
    refine w_cond (decide (x15_11 < (x0.len : Int))) hE rfl (fun hb => ?_) (fun hb => ?_)
    · replace H := M.ite_t hb H
      refine w_skip ?_
      refine hK_17 _ _ ?_
      refine w_seq (fun K hK_18 => ?_)
      refine w_block ?_
      refine w_seq (fun K hK_19 => ?_)
      refine t_region ?_
      obtain ⟨x17_20, qx17_20, H⟩ := H
      refine t_val (v := .pointer (some x17_20)) rfl rfl hE rfl (r_indexAddrL hE rfl rfl un22 sz42 qx17_20) (fun a hE => ?_)
      obtain ⟨x18_21, qx18_21, H⟩ := H
      refine t_val (v := .agg x18_21) rfl rfl hE rfl (r_loadG hE rfl ag42 qx18_21) (fun a hE => ?_)
      obtain ⟨x7_22, qx7_22, H⟩ := H
      refine t_valh (v := .pointer (some x7_22)) rfl rfl hE rfl hR (r_alloc zr42 qx7_22) (fun a w hE hR hh => ?_)
      replace H := M.at hh H; clear hh
      obtain ⟨qz, H⟩ := H
      obtain ⟨u_23, qu_23, H⟩ := H
      refine t_sth rfl rfl hE hR (r_storeG hE rfl rfl sz42 qz qu_23) (fun a w hE hR hh => ?_)
      replace H := M.at hh H; clear hh
      refine t_nil ?_
      refine hK_19 _ _ ?_
      refine w_seq (fun K hK_24 => ?_)
      refine t_region ?_
      obtain ⟨x19_25, qx19_25, H⟩ := H
      refine t_val (v := .agg x19_25) rfl rfl hE rfl (r_loadG hE rfl ag42 qx19_25) (fun a hE => ?_)
      refine t_call hE hR cl_value_Text rfl (S_value_Text x19_25) (M.unbind H) (fun x20_26 a w ea hR H => ?_)
      have hE := Env.put_some hE rfl ea; clear ea
      refine t_call hE hR cl_strings_Builder_WriteString rfl (S_strings_Builder_WriteString (some x5_8) x20_26) (M.unbind H) (fun x21_27 a w ea hR H => ?_)
      have hE := Env.put_some hE rfl ea; clear ea
      refine t_nil ?_
      refine hK_24 _ _ ?_
      refine t_region ?_
      refine t_call hE hR cl_strings_Builder_WriteByte rfl (S_strings_Builder_WriteByte (some x5_8) 10) (M.unbind H) (fun x22_28 a w ea hR H => ?_)
      have hE := Env.put_some hE rfl ea; clear ea
      refine t_nil ?_
      refine hK_18 _ _ ?_
      refine t_region ?_
      refine t_val (v := .int .i64 (IntKind.wrap .i64 (x15_11 + 1))) rfl rfl hE rfl (r_bin hE rfl rfl g_int b_add) (fun a hE => ?_)
      refine t_val (v := .int .i64 (IntKind.wrap .i64 (x15_11 + 1))) rfl rfl hE rfl (r_move hE rfl) (fun a hE => ?_)
      refine t_nil ?_
      exact hY_15 (IntKind.wrap .i64 (x15_11 + 1)) _ _ (hE.cut (.cons rfl (.cons rfl (.cons rfl (.cons rfl Subs.nil))))) hR H
    · replace H := M.ite_f hb H
      refine w_exit ?_
      refine Xu.same ?_
      refine hK_9 _ _ ?_
      refine w_seq (fun K hK_29 => ?_)
      refine t_region ?_
      refine t_call hE hR cl_strings_Builder_String rfl (S_strings_Builder_String (some x5_8)) (M.unbind H) (fun x24_30 a w ea hR H => ?_)
      have hE := Env.put_some hE rfl ea; clear ea
      refine t_val (v := .string x24_30) rfl rfl hE rfl (r_assign hE rfl) (fun a hE => ?_)
      refine t_val (v := .int .i64 0) rfl rfl hE rfl (r_assign hE rfl) (fun a hE => ?_)
      refine t_nil ?_
      refine hK_29 _ _ ?_
      refine w_ret ?_
      exact hret _ _ _ (x24_30, 0) _ hE hR (res_run hE rfl (RV.tmp rfl (RV.tmp rfl RV.nil))) rfl H

/-- ramble/ramblelaw23.begun -/
def ramblelaw23_begun  : M (Bool) := do
  let x7_3 ← rambleref02_Str (⟨#[120]⟩ : ByteArray)
  let x8_4 ← rambleref02_Int 1
  let y_6 ← fillL 4 2 (#[.int .i64 0, .int .i64 0, .string ByteArray.empty, .slice none 0 0] : Array Value) [(0, .agg x7_3), (1, .agg x8_4)]
  let x9_5 ← bdL ty_api_Value 2 y_6
  let x1_7 ← mkB ty_api_Value (#[.int .i64 0, .int .i64 0, .string ByteArray.empty, .slice none 0 0] : Array Value)
  M.need ((#[.int .i64 5, .int .i64 0, .string ByteArray.empty, (x9_5 : Sl).v] : Array Value).size = 4)
  stG x1_7 (#[.int .i64 5, .int .i64 0, .string ByteArray.empty, (x9_5 : Sl).v] : Array Value)
  let x11_10 ← rambleref02_Str (⟨#[121]⟩ : ByteArray)
  let x12_11 ← rambleref02_Int 2
  let y_13 ← fillL 4 2 (#[.int .i64 0, .int .i64 0, .string ByteArray.empty, .slice none 0 0] : Array Value) [(0, .agg x11_10), (1, .agg x12_11)]
  let x13_12 ← bdL ty_api_Value 2 y_13
  let x2_14 ← mkB ty_api_Value (#[.int .i64 0, .int .i64 0, .string ByteArray.empty, .slice none 0 0] : Array Value)
  M.need ((#[.int .i64 5, .int .i64 0, .string ByteArray.empty, (x13_12 : Sl).v] : Array Value).size = 4)
  stG x2_14 (#[.int .i64 5, .int .i64 0, .string ByteArray.empty, (x13_12 : Sl).v] : Array Value)
  let x16_17 ← ldG 4 x1_7
  let x17_18 ← ldG 4 x2_14
  let y_20 ← fillL 4 2 (#[.int .i64 0, .int .i64 0, .string ByteArray.empty, .slice none 0 0] : Array Value) [(0, .agg x16_17), (1, .agg x17_18)]
  let x18_19 ← bdL ty_api_Value 2 y_20
  let x19_21 ← result_Table x18_19
  let x23_23 ← rambleref02_Int 1
  let x24_24 ← rambleref02_Str (⟨#[97]⟩ : ByteArray)
  let y_26 ← fillL 4 2 (#[.int .i64 0, .int .i64 0, .string ByteArray.empty, .slice none 0 0] : Array Value) [(0, .agg x23_23), (1, .agg x24_24)]
  let x25_25 ← bdL ty_api_Value 2 y_26
  let x26_27 ← result_List x25_25
  let x34_29 ← M.ite (sEq x19_21.1 (⟨#[39, 120, 39, 32, 124, 32, 39, 121, 39, 10, 49, 32, 124, 32, 45, 10, 45, 32, 124, 32, 50, 10]⟩ : ByteArray)) (do
    M.pure (x19_21.2 == 0)
    ) (do
    M.pure false
    )
  let x38_30 ← M.ite x34_29 (do
    M.pure (sEq x26_27.1 (⟨#[49, 10, 39, 97, 39, 10]⟩ : ByteArray))
    ) (do
    M.pure false
    )
  let x42_31 ← M.ite x38_30 (do
    M.pure (x26_27.2 == 0)
    ) (do
    M.pure false
    )
  M.pure x42_31
theorem S_ramblelaw23_begun  : Sound Go.Proofs.Tryd.prog 8 #[] (fun (r : Bool) => .bool r) (ramblelaw23_begun ) := by
  refine sound_of [] Go.Proofs.Tryd.func8 rfl rfl (Nat.le_of_ble_eq_true rfl) (args_of trivial) (fun w0 w Q R a hret hE hR H => ?_)
  unfold ramblelaw23_begun at H
  refine w_seq (fun K hK_1 => ?_)
  refine t_region ?_
  refine t_val (v := .bool false) rfl rfl hE rfl (r_assign hE rfl) (fun a hE => ?_)
  refine t_nil ?_
  refine hK_1 _ _ ?_
  refine w_seq (fun K hK_2 => ?_)
  refine t_region ?_
  refine t_call hE hR cl_rambleref02_Str rfl (S_rambleref02_Str (⟨#[120]⟩ : ByteArray)) (M.unbind H) (fun x7_3 a w ea hR H => ?_)
  have hE := Env.put_some hE rfl ea; clear ea
  refine t_call hE hR cl_rambleref02_Int rfl (S_rambleref02_Int 1) (M.unbind H) (fun x8_4 a w ea hR H => ?_)
  have hE := Env.put_some hE rfl ea; clear ea
  obtain ⟨y_6, qy_6, H⟩ := H
  obtain ⟨x9_5, qx9_5, H⟩ := H
  refine t_valh (v := (x9_5 : Sl).v) rfl rfl hE rfl hR (r_buildL hE rfl un22 sz42 zr42 rfl qy_6 qx9_5) (fun a w hE hR hh => ?_)
  replace H := M.at hh H; clear hh
  refine t_val (v := .agg (#[.int .i64 5, .int .i64 0, .string ByteArray.empty, (x9_5 : Sl).v] : Array Value)) rfl rfl hE rfl (r_build hE rfl zr42 pl42 (by rfl)) (fun a hE => ?_)
  obtain ⟨x1_7, qx1_7, H⟩ := H
  refine t_valh (v := .pointer (some x1_7)) rfl rfl hE rfl hR (r_alloc zr42 qx1_7) (fun a w hE hR hh => ?_)
  replace H := M.at hh H; clear hh
  obtain ⟨qz, H⟩ := H
  obtain ⟨u_8, qu_8, H⟩ := H
  refine t_sth rfl rfl hE hR (r_storeG hE rfl rfl sz42 qz qu_8) (fun a w hE hR hh => ?_)
  replace H := M.at hh H; clear hh
  refine t_nil ?_
  refine hK_2 _ _ ?_
  refine w_seq (fun K hK_9 => ?_)
  refine t_region ?_
  refine t_call hE hR cl_rambleref02_Str rfl (S_rambleref02_Str (⟨#[121]⟩ : ByteArray)) (M.unbind H) (fun x11_10 a w ea hR H => ?_)
  have hE := Env.put_some hE rfl ea; clear ea
  refine t_call hE hR cl_rambleref02_Int rfl (S_rambleref02_Int 2) (M.unbind H) (fun x12_11 a w ea hR H => ?_)
  have hE := Env.put_some hE rfl ea; clear ea
  obtain ⟨y_13, qy_13, H⟩ := H
  obtain ⟨x13_12, qx13_12, H⟩ := H
  refine t_valh (v := (x13_12 : Sl).v) rfl rfl hE rfl hR (r_buildL hE rfl un22 sz42 zr42 rfl qy_13 qx13_12) (fun a w hE hR hh => ?_)
  replace H := M.at hh H; clear hh
  refine t_val (v := .agg (#[.int .i64 5, .int .i64 0, .string ByteArray.empty, (x13_12 : Sl).v] : Array Value)) rfl rfl hE rfl (r_build hE rfl zr42 pl42 (by rfl)) (fun a hE => ?_)
  obtain ⟨x2_14, qx2_14, H⟩ := H
  refine t_valh (v := .pointer (some x2_14)) rfl rfl hE rfl hR (r_alloc zr42 qx2_14) (fun a w hE hR hh => ?_)
  replace H := M.at hh H; clear hh
  obtain ⟨qz, H⟩ := H
  obtain ⟨u_15, qu_15, H⟩ := H
  refine t_sth rfl rfl hE hR (r_storeG hE rfl rfl sz42 qz qu_15) (fun a w hE hR hh => ?_)
  replace H := M.at hh H; clear hh
  refine t_nil ?_
  refine hK_9 _ _ ?_
  refine w_seq (fun K hK_16 => ?_)
  refine t_region ?_
  obtain ⟨x16_17, qx16_17, H⟩ := H
  refine t_val (v := .agg x16_17) rfl rfl hE rfl (r_loadG hE rfl ag42 qx16_17) (fun a hE => ?_)
  obtain ⟨x17_18, qx17_18, H⟩ := H
  refine t_val (v := .agg x17_18) rfl rfl hE rfl (r_loadG hE rfl ag42 qx17_18) (fun a hE => ?_)
  obtain ⟨y_20, qy_20, H⟩ := H
  obtain ⟨x18_19, qx18_19, H⟩ := H
  refine t_valh (v := (x18_19 : Sl).v) rfl rfl hE rfl hR (r_buildL hE rfl un22 sz42 zr42 rfl qy_20 qx18_19) (fun a w hE hR hh => ?_)
  replace H := M.at hh H; clear hh
  refine t_call hE hR cl_result_Table rfl (S_result_Table x18_19) (M.unbind H) (fun x19_21 a w ea hR H => ?_)
  have hE := Env.put_some hE rfl ea; clear ea
  refine t_val (v := .tuple #[.string x19_21.1, .int .i64 x19_21.2]) rfl rfl hE rfl (r_move hE rfl) (fun a hE => ?_)
  refine t_val (v := .string x19_21.1) rfl rfl hE rfl (r_extract hE rfl rfl) (fun a hE => ?_)
  refine t_val (v := .int .i64 x19_21.2) rfl rfl hE rfl (r_extract hE rfl rfl) (fun a hE => ?_)
  refine t_val (v := .string x19_21.1) rfl rfl hE rfl (r_assign hE rfl) (fun a hE => ?_)
  refine t_val (v := .int .i64 x19_21.2) rfl rfl hE rfl (r_assign hE rfl) (fun a hE => ?_)
  refine t_nil ?_
  refine hK_16 _ _ ?_
  refine w_seq (fun K hK_22 => ?_)
  refine t_region ?_
  refine t_call hE hR cl_rambleref02_Int rfl (S_rambleref02_Int 1) (M.unbind H) (fun x23_23 a w ea hR H => ?_)
  have hE := Env.put_some hE rfl ea; clear ea
  refine t_call hE hR cl_rambleref02_Str rfl (S_rambleref02_Str (⟨#[97]⟩ : ByteArray)) (M.unbind H) (fun x24_24 a w ea hR H => ?_)
  have hE := Env.put_some hE rfl ea; clear ea
  obtain ⟨y_26, qy_26, H⟩ := H
  obtain ⟨x25_25, qx25_25, H⟩ := H
  refine t_valh (v := (x25_25 : Sl).v) rfl rfl hE rfl hR (r_buildL hE rfl un22 sz42 zr42 rfl qy_26 qx25_25) (fun a w hE hR hh => ?_)
  replace H := M.at hh H; clear hh
  refine t_call hE hR cl_result_List rfl (S_result_List x25_25) (M.unbind H) (fun x26_27 a w ea hR H => ?_)
  have hE := Env.put_some hE rfl ea; clear ea
  refine t_val (v := .tuple #[.string x26_27.1, .int .i64 x26_27.2]) rfl rfl hE rfl (r_move hE rfl) (fun a hE => ?_)
  refine t_val (v := .string x26_27.1) rfl rfl hE rfl (r_extract hE rfl rfl) (fun a hE => ?_)
  refine t_val (v := .int .i64 x26_27.2) rfl rfl hE rfl (r_extract hE rfl rfl) (fun a hE => ?_)
  refine t_val (v := .string x26_27.1) rfl rfl hE rfl (r_assign hE rfl) (fun a hE => ?_)
  refine t_val (v := .int .i64 x26_27.2) rfl rfl hE rfl (r_assign hE rfl) (fun a hE => ?_)
  refine t_nil ?_
  refine hK_22 _ _ ?_
  refine w_seq (fun K hK_28 => ?_)
  refine t_region ?_
  refine t_val (v := .string x19_21.1) rfl rfl hE rfl (r_move hE rfl) (fun a hE => ?_)
  refine t_val (v := .bool (sEq x19_21.1 (⟨#[39, 120, 39, 32, 124, 32, 39, 121, 39, 10, 49, 32, 124, 32, 45, 10, 45, 32, 124, 32, 50, 10]⟩ : ByteArray))) rfl rfl hE rfl (r_bin hE rfl rfl g_str b_eqlS) (fun a hE => ?_)
  refine t_val (v := .bool (sEq x19_21.1 (⟨#[39, 120, 39, 32, 124, 32, 39, 121, 39, 10, 49, 32, 124, 32, 45, 10, 45, 32, 124, 32, 50, 10]⟩ : ByteArray))) rfl rfl hE rfl (r_move hE rfl) (fun a hE => ?_)
  refine t_grp (n := (⟨43, []⟩ : Frm)) (w0 := w0) 3 (fun x34_29 : Bool => [(0, .bool false), (5, .string x26_27.1), (6, .int .i64 x26_27.2), (34, .bool x34_29)]) (M.unbind H) (fun Kr hKr H => ?_) ?_
  · rcases bool_em (sEq x19_21.1 (⟨#[39, 120, 39, 32, 124, 32, 39, 121, 39, 10, 49, 32, 124, 32, 45, 10, 45, 32, 124, 32, 50, 10]⟩ : ByteArray)) with hb | hb
    · replace H := M.ite_t hb H
      have hE := hE.reb 31 (sEq x19_21.1 (⟨#[39, 120, 39, 32, 124, 32, 39, 121, 39, 10, 49, 32, 124, 32, 45, 10, 45, 32, 124, 32, 50, 10]⟩ : ByteArray)) true hb rfl
      refine t_on rfl hE rfl rfl rfl ?_
      refine t_val (v := .int .i64 x19_21.2) rfl rfl hE rfl (r_move hE rfl) (fun a hE => ?_)
      refine t_on rfl hE rfl rfl rfl ?_
      refine t_val (v := .bool (x19_21.2 == 0)) rfl rfl hE rfl (r_bin hE rfl rfl g_int b_eql) (fun a hE => ?_)
      refine t_val rfl rfl hE rfl (r_pick_t hE rfl rfl) (fun a hE => ?_)
      refine t_nil ?_
      exact hKr _ _ _ (hE.cut (.cons rfl (.cons rfl (.cons rfl (.cons rfl Subs.nil))))) hR H
    · replace H := M.ite_f hb H
      have hE := hE.reb 31 (sEq x19_21.1 (⟨#[39, 120, 39, 32, 124, 32, 39, 121, 39, 10, 49, 32, 124, 32, 45, 10, 45, 32, 124, 32, 50, 10]⟩ : ByteArray)) false hb rfl
      refine t_off rfl hE rfl rfl rfl (fun a ea => ?_)
      have hE := Env.put_some hE rfl ea; clear ea
      refine t_off rfl hE rfl rfl rfl (fun a ea => ?_)
      have hE := Env.put_some hE rfl ea; clear ea
      refine t_val rfl rfl hE rfl (r_pick_f hE rfl rfl) (fun a hE => ?_)
      refine t_nil ?_
      exact hKr _ _ _ (hE.cut (.cons rfl (.cons rfl (.cons rfl (.cons rfl Subs.nil))))) hR H
  · intro x34_29 a w hE hR H
    refine t_val (v := .bool x34_29) rfl rfl hE rfl (r_move hE rfl) (fun a hE => ?_)
    refine t_grp (n := (⟨43, []⟩ : Frm)) (w0 := w0) 3 (fun x38_30 : Bool => [(0, .bool false), (6, .int .i64 x26_27.2), (38, .bool x38_30)]) (M.unbind H) (fun Kr hKr H => ?_) ?_
    · rcases bool_em x34_29 with hb | hb
      · replace H := M.ite_t hb H
        have hE := hE.reb 35 x34_29 true hb rfl
        refine t_on rfl hE rfl rfl rfl ?_
        refine t_val (v := .string x26_27.1) rfl rfl hE rfl (r_move hE rfl) (fun a hE => ?_)
        refine t_on rfl hE rfl rfl rfl ?_
        refine t_val (v := .bool (sEq x26_27.1 (⟨#[49, 10, 39, 97, 39, 10]⟩ : ByteArray))) rfl rfl hE rfl (r_bin hE rfl rfl g_str b_eqlS) (fun a hE => ?_)
        refine t_val rfl rfl hE rfl (r_pick_t hE rfl rfl) (fun a hE => ?_)
        refine t_nil ?_
        exact hKr _ _ _ (hE.cut (.cons rfl (.cons rfl (.cons rfl Subs.nil)))) hR H
      · replace H := M.ite_f hb H
        have hE := hE.reb 35 x34_29 false hb rfl
        refine t_off rfl hE rfl rfl rfl (fun a ea => ?_)
        have hE := Env.put_some hE rfl ea; clear ea
        refine t_off rfl hE rfl rfl rfl (fun a ea => ?_)
        have hE := Env.put_some hE rfl ea; clear ea
        refine t_val rfl rfl hE rfl (r_pick_f hE rfl rfl) (fun a hE => ?_)
        refine t_nil ?_
        exact hKr _ _ _ (hE.cut (.cons rfl (.cons rfl (.cons rfl Subs.nil)))) hR H
    · intro x38_30 a w hE hR H
      refine t_val (v := .bool x38_30) rfl rfl hE rfl (r_move hE rfl) (fun a hE => ?_)
      refine t_grp (n := (⟨43, []⟩ : Frm)) (w0 := w0) 3 (fun x42_31 : Bool => [(0, .bool false), (42, .bool x42_31)]) (M.unbind H) (fun Kr hKr H => ?_) ?_
      · rcases bool_em x38_30 with hb | hb
        · replace H := M.ite_t hb H
          have hE := hE.reb 39 x38_30 true hb rfl
          refine t_on rfl hE rfl rfl rfl ?_
          refine t_val (v := .int .i64 x26_27.2) rfl rfl hE rfl (r_move hE rfl) (fun a hE => ?_)
          refine t_on rfl hE rfl rfl rfl ?_
          refine t_val (v := .bool (x26_27.2 == 0)) rfl rfl hE rfl (r_bin hE rfl rfl g_int b_eql) (fun a hE => ?_)
          refine t_val rfl rfl hE rfl (r_pick_t hE rfl rfl) (fun a hE => ?_)
          refine t_nil ?_
          exact hKr _ _ _ (hE.cut (.cons rfl (.cons rfl Subs.nil))) hR H
        · replace H := M.ite_f hb H
          have hE := hE.reb 39 x38_30 false hb rfl
          refine t_off rfl hE rfl rfl rfl (fun a ea => ?_)
          have hE := Env.put_some hE rfl ea; clear ea
          refine t_off rfl hE rfl rfl rfl (fun a ea => ?_)
          have hE := Env.put_some hE rfl ea; clear ea
          refine t_val rfl rfl hE rfl (r_pick_f hE rfl rfl) (fun a hE => ?_)
          refine t_nil ?_
          exact hKr _ _ _ (hE.cut (.cons rfl (.cons rfl Subs.nil))) hR H
      · intro x42_31 a w hE hR H
        refine t_val (v := .bool x42_31) rfl rfl hE rfl (r_assign hE rfl) (fun a hE => ?_)
        refine t_nil ?_
        refine hK_28 _ _ ?_
        refine w_ret ?_
        exact hret _ _ _ x42_31 _ hE hR (res_run hE rfl (RV.tmp rfl RV.nil)) rfl H

/-- ramble/rambleref23.Lines -/
def rambleref23_Lines_j1 (self1 : (Sl × Int × Int) → M (Sl)) (c5_16 : Int) (x3_13 : Sl) (x4_14 : Int) : M (Sl) := do
  self1 (x3_13, x4_14, IntKind.wrap .i64 (c5_16 + 1))
def rambleref23_Lines_j2 (x3_23 : Sl) : M (Sl) := do
  M.pure x3_23
def rambleref23_Lines_l1 (c0_9 : ByteArray) (self1 : (Sl × Int × Int) → M (Sl)) : (Sl × Int × Int) → M (Sl) := fun s => match s with
  | (x3_6, x4_7, x5_8) => do
    M.ite (decide (x5_8 < (c0_9.size : Int))) (do
      let x14_18 ← ixS c0_9 x5_8
      M.ite (x14_18 == 10) (do
        let x20_20 ← slS c0_9 x4_7 x5_8
        let x21_21 ← bdL ty_string 1 #[.string x20_20]
        let x22_22 ← apL ty_string 1 16 (#[.string ByteArray.empty] : Array Value) x3_6 x21_21
        rambleref23_Lines_j1 self1 x5_8 x22_22 (IntKind.wrap .i64 (x5_8 + 1))
        ) (do
        rambleref23_Lines_j1 self1 x5_8 x3_6 x4_7
        )
      ) (do
      M.ite (decide (x4_7 < (c0_9.size : Int))) (do
        let x32_26 ← slS c0_9 x4_7 c0_9.size
        let x33_27 ← bdL ty_string 1 #[.string x32_26]
        let x34_28 ← apL ty_string 1 16 (#[.string ByteArray.empty] : Array Value) x3_6 x33_27
        rambleref23_Lines_j2 x34_28
        ) (do
        rambleref23_Lines_j2 x3_6
        )
      )
def rambleref23_Lines (x0 : ByteArray) : M (Sl) := do
  M.loop (rambleref23_Lines_l1 x0) (Sl.nil, 0, 0)
theorem S_rambleref23_Lines (x0 : ByteArray) : Sound Go.Proofs.Tryd.prog 9 #[.string x0] (fun (r : Sl) => (r : Sl).v) (rambleref23_Lines x0) := by
  refine sound_of [(0, .string x0)] Go.Proofs.Tryd.func9 rfl rfl (Nat.le_of_ble_eq_true rfl) (args_of ⟨rfl, trivial⟩) (fun w0 w Q R a hret hE hR H => ?_)
  unfold rambleref23_Lines at H
  refine w_seq (fun K hK_1 => ?_)
  refine t_region ?_
  refine t_val (v := (Sl.nil : Sl).v) rfl rfl hE rfl (r_assign hE rfl) (fun a hE => ?_)
  refine t_nil ?_
  refine hK_1 _ _ ?_
  refine w_seq (fun K hK_2 => ?_)
  refine t_region ?_
  refine t_val (v := (Sl.nil : Sl).v) rfl rfl hE rfl (r_assign hE rfl) (fun a hE => ?_)
  refine t_nil ?_
  refine hK_2 _ _ ?_
  refine w_seq (fun K hK_3 => ?_)
  refine t_region ?_
  refine t_val (v := .int .i64 0) rfl rfl hE rfl (r_assign hE rfl) (fun a hE => ?_)
  refine t_nil ?_
  refine hK_3 _ _ ?_
  refine w_seq (fun K hK_4 => ?_)
  refine w_seq (fun K hK_5 => ?_)
  refine t_region ?_
  refine t_val (v := .int .i64 0) rfl rfl hE rfl (r_assign hE rfl) (fun a hE => ?_)
  refine t_nil ?_
  refine hK_5 _ _ ?_
  refine w_block ?_
  refine l_loop (fun (s : Sl × Int × Int) => (⟨36, []⟩ : Frm)) (fun (s : Sl × Int × Int) => [(0, .string x0), (3, (s.1 : Sl).v), (4, .int .i64 s.2.1), (5, .int .i64 s.2.2)]) H (hE.cut (.cons rfl (.cons rfl (.cons rfl (.cons rfl Subs.nil))))) hR (fun Y self1 hY_10 s a w hE hR H => ?_)
  rcases s with ⟨x3_6, x4_7, x5_8⟩
  replace hE : Env (⟨36, []⟩ : Frm) a [(0, .string x0), (3, (x3_6 : Sl).v), (4, .int .i64 x4_7), (5, .int .i64 x5_8)] := hE
  replace H : (rambleref23_Lines_l1 x0 self1 (x3_6, x4_7, x5_8)).wp w.heap Q := H
  unfold rambleref23_Lines_l1 at H
  refine w_seq (fun K hK_11 => ?_)
  refine w_seq (fun K hK_12 => ?_)
  refine t_region ?_
  refine t_val (v := .int .i64 x5_8) rfl rfl hE rfl (r_move hE rfl) (fun a hE => ?_)
  refine t_val (v := .string x0) rfl rfl hE rfl (r_move hE rfl) (fun a hE => ?_)
  refine t_val (v := .int .i64 (x0.size : Int)) rfl rfl hE rfl (r_lenS hE rfl un9) (fun a hE => ?_)
  refine t_val (v := .bool (decide (x5_8 < (x0.size : Int)))) rfl rfl hE rfl (r_bin hE rfl rfl g_int b_lss) (fun a hE => ?_)
  refine t_nil ?_
  refine hK_12 _ _ ?_
  refine w_cond (decide (x5_8 < (x0.size : Int))) hE rfl (fun hb => ?_) (fun hb => ?_)
  · replace H := M.ite_t hb H
    refine w_skip ?_
    refine hK_11 _ _ ?_
    refine w_seq_join (fun a w => ∃ (x3_13 : Sl), ∃ (x4_14 : Int), Env (⟨36, []⟩ : Frm) a [(0, .string x0), (5, .int .i64 x5_8), (3, (x3_13 : Sl).v), (4, .int .i64 x4_14)] ∧ Rest w0 w ∧ (rambleref23_Lines_j1 self1 x5_8 x3_13 x4_14).wp w.heap Q) ?_ ?_
    · rintro a w ⟨x3_13, x4_14, hE, hR, H⟩
      unfold rambleref23_Lines_j1 at H
      refine t_region ?_
      refine t_val (v := .int .i64 x5_8) rfl rfl hE rfl (r_move hE rfl) (fun a hE => ?_)
      refine t_val (v := .int .i64 (IntKind.wrap .i64 (x5_8 + 1))) rfl rfl hE rfl (r_bin hE rfl rfl g_int b_add) (fun a hE => ?_)
      refine t_val (v := .int .i64 (IntKind.wrap .i64 (x5_8 + 1))) rfl rfl hE rfl (r_assign hE rfl) (fun a hE => ?_)
      refine t_nil ?_
      exact hY_10 (x3_13, x4_14, IntKind.wrap .i64 (x5_8 + 1)) _ _ (hE.cut (.cons rfl (.cons rfl (.cons rfl (.cons rfl Subs.nil))))) hR H
    · skip
      refine w_block ?_
      refine w_seq (fun K hK_17 => ?_)
      refine t_region ?_
      refine t_val (v := .string x0) rfl rfl hE rfl (r_move hE rfl) (fun a hE => ?_)
      refine t_val (v := .int .i64 x5_8) rfl rfl hE rfl (r_move hE rfl) (fun a hE => ?_)
      obtain ⟨x14_18, qx14_18, H⟩ := H
      refine t_val (v := .int .u8 x14_18) rfl rfl hE rfl (r_indexS hE rfl rfl un9 qx14_18) (fun a hE => ?_)
      refine t_val (v := .bool (x14_18 == 10)) rfl rfl hE rfl (r_bin hE rfl rfl g_int b_eql) (fun a hE => ?_)
      refine t_nil ?_
      refine hK_17 _ _ ?_
      refine w_cond (x14_18 == 10) hE rfl (fun hb => ?_) (fun hb => ?_)
      · replace H := M.ite_t hb H
        refine w_seq (fun K hK_19 => ?_)
        refine t_region ?_
        refine t_val (v := (x3_6 : Sl).v) rfl rfl hE rfl (r_move hE rfl) (fun a hE => ?_)
        refine t_val (v := .string x0) rfl rfl hE rfl (r_move hE rfl) (fun a hE => ?_)
        refine t_val (v := .int .i64 x4_7) rfl rfl hE rfl (r_move hE rfl) (fun a hE => ?_)
        refine t_val (v := .int .i64 x5_8) rfl rfl hE rfl (r_move hE rfl) (fun a hE => ?_)
        obtain ⟨x20_20, qx20_20, H⟩ := H
        refine t_val (v := .string x20_20) rfl rfl hE rfl (r_sliceS_lh hE rfl rfl rfl un9 qx20_20) (fun a hE => ?_)
        obtain ⟨x21_21, qx21_21, H⟩ := H
        refine t_valh (v := (x21_21 : Sl).v) rfl rfl hE rfl hR (r_buildL (cells := #[.string x20_20]) hE rfl un30 sz9 zr9 rfl rfl qx21_21) (fun a w hE hR hh => ?_)
        replace H := M.at hh H; clear hh
        refine t_ex (fun x22_22 => (x22_22 : Sl).v) rfl rfl hR (M.unbind H) (fun Q H => ap_run hE rfl rfl ap30 H) (fun x22_22 a w ea hR H => ?_)
        have hE := Env.put_some hE rfl ea; clear ea
        refine t_val (v := (x22_22 : Sl).v) rfl rfl hE rfl (r_assign hE rfl) (fun a hE => ?_)
        refine t_nil ?_
        refine hK_19 _ _ ?_
        refine t_region ?_
        refine t_val (v := .int .i64 x5_8) rfl rfl hE rfl (r_move hE rfl) (fun a hE => ?_)
        refine t_val (v := .int .i64 (IntKind.wrap .i64 (x5_8 + 1))) rfl rfl hE rfl (r_bin hE rfl rfl g_int b_add) (fun a hE => ?_)
        refine t_val (v := .int .i64 (IntKind.wrap .i64 (x5_8 + 1))) rfl rfl hE rfl (r_assign hE rfl) (fun a hE => ?_)
        refine t_nil ?_
        exact ⟨x22_22, IntKind.wrap .i64 (x5_8 + 1), hE.cut (.cons rfl (.cons rfl (.cons rfl (.cons rfl Subs.nil)))), hR, H⟩
      · replace H := M.ite_f hb H
        refine w_skip ?_
        exact ⟨x3_6, x4_7, hE.cut (.cons rfl (.cons rfl (.cons rfl (.cons rfl Subs.nil)))), hR, H⟩
  · replace H := M.ite_f hb H
    refine w_exit ?_
    refine Xu.same ?_
    refine hK_4 _ _ ?_
    refine w_seq_join (fun a w => ∃ (x3_23 : Sl), Env (⟨36, []⟩ : Frm) a [(3, (x3_23 : Sl).v)] ∧ Rest w0 w ∧ (rambleref23_Lines_j2 x3_23).wp w.heap Q) ?_ ?_
    · rintro a w ⟨x3_23, hE, hR, H⟩
      unfold rambleref23_Lines_j2 at H
      refine w_seq (fun K hK_24 => ?_)
      refine t_region ?_
      refine t_val (v := (x3_23 : Sl).v) rfl rfl hE rfl (r_move hE rfl) (fun a hE => ?_)
      refine t_val (v := (x3_23 : Sl).v) rfl rfl hE rfl (r_assign hE rfl) (fun a hE => ?_)
      refine t_nil ?_
      refine hK_24 _ _ ?_
      refine w_ret ?_
      exact hret _ _ _ x3_23 _ hE hR (res_run hE rfl (RV.tmp rfl RV.nil)) rfl H
    · skip
      refine w_seq (fun K hK_25 => ?_)
      refine t_region ?_
      refine t_val (v := .int .i64 x4_7) rfl rfl hE rfl (r_move hE rfl) (fun a hE => ?_)
      refine t_val (v := .string x0) rfl rfl hE rfl (r_move hE rfl) (fun a hE => ?_)
      refine t_val (v := .int .i64 (x0.size : Int)) rfl rfl hE rfl (r_lenS hE rfl un9) (fun a hE => ?_)
      refine t_val (v := .bool (decide (x4_7 < (x0.size : Int)))) rfl rfl hE rfl (r_bin hE rfl rfl g_int b_lss) (fun a hE => ?_)
      refine t_nil ?_
      refine hK_25 _ _ ?_
      refine w_cond (decide (x4_7 < (x0.size : Int))) hE rfl (fun hb => ?_) (fun hb => ?_)
      · replace H := M.ite_t hb H
        refine t_region ?_
        refine t_val (v := (x3_6 : Sl).v) rfl rfl hE rfl (r_move hE rfl) (fun a hE => ?_)
        refine t_val (v := .string x0) rfl rfl hE rfl (r_move hE rfl) (fun a hE => ?_)
        refine t_val (v := .int .i64 x4_7) rfl rfl hE rfl (r_move hE rfl) (fun a hE => ?_)
        obtain ⟨x32_26, qx32_26, H⟩ := H
        refine t_val (v := .string x32_26) rfl rfl hE rfl (r_sliceS_l hE rfl rfl un9 qx32_26) (fun a hE => ?_)
        obtain ⟨x33_27, qx33_27, H⟩ := H
        refine t_valh (v := (x33_27 : Sl).v) rfl rfl hE rfl hR (r_buildL (cells := #[.string x32_26]) hE rfl un30 sz9 zr9 rfl rfl qx33_27) (fun a w hE hR hh => ?_)
        replace H := M.at hh H; clear hh
        refine t_ex (fun x34_28 => (x34_28 : Sl).v) rfl rfl hR (M.unbind H) (fun Q H => ap_run hE rfl rfl ap30 H) (fun x34_28 a w ea hR H => ?_)
        have hE := Env.put_some hE rfl ea; clear ea
        refine t_val (v := (x34_28 : Sl).v) rfl rfl hE rfl (r_assign hE rfl) (fun a hE => ?_)
        refine t_nil ?_
        exact ⟨x34_28, hE.cut (.cons rfl Subs.nil), hR, H⟩
      · replace H := M.ite_f hb H
        refine w_skip ?_
        exact ⟨x3_6, hE.cut (.cons rfl Subs.nil), hR, H⟩

/-- slices.Equal[[]ramble/ramblelaw23.line,ramble/ramblelaw23.line] -/
theorem tb10_6 : tabAt Go.Proofs.Tryd.f10 6 [[], [], [0, 1], [2], [], [], [4, 5], [6], [3, 7]] [[], [], [0, 1], [2], [], [], [4, 5], [6], [3, 7]] [[], [], [0, 1], [0, 1, 2], [], [], [4, 5], [4, 5, 6], [0, 1, 2, 3, 4, 5, 6, 7]] = true := by kernel_rfl
def slices_Equal_slramblelaw23_line_ramblelaw23_line_l1 (c0_8 : Sl) (c1_9 : Sl) (c12_10 : Int) (self1 : (Int) → M (Bool)) : (Int) → M (Bool) := fun s => match s with
  | x13_7 => do
    M.ite (decide (x13_7 < c12_10)) (do
      let x18_17 ← ixL c0_8 x13_7 2
      let x22_18 ← ixL c1_9 x13_7 2
      let x19_19 ← ldG 2 x18_17
      let x23_20 ← ldG 2 x22_18
      let x24_21 ← eqS [.I .i64, .S] x19_19 x23_20
      M.ite (!x24_21) (do
        M.pure false
        ) (do
        self1 (IntKind.wrap .i64 (x13_7 + 1))
        )
      ) (do
      M.pure true
      )
def slices_Equal_slramblelaw23_line_ramblelaw23_line (x0 : Sl) (x1 : Sl) : M (Bool) := do
  M.ite ((x0.len : Int) != (x1.len : Int)) (do
    M.pure false
    ) (do
    M.loop (slices_Equal_slramblelaw23_line_ramblelaw23_line_l1 x0 x1 (x0.len : Int)) 0
    )
theorem S_slices_Equal_slramblelaw23_line_ramblelaw23_line (x0 : Sl) (x1 : Sl) : Sound Go.Proofs.Tryd.prog 10 #[(x0 : Sl).v, (x1 : Sl).v] (fun (r : Bool) => .bool r) (slices_Equal_slramblelaw23_line_ramblelaw23_line x0 x1) := by
  refine sound_of [(0, (x0 : Sl).v), (1, (x1 : Sl).v)] Go.Proofs.Tryd.func10 rfl rfl (Nat.le_of_ble_eq_true rfl) (args_of ⟨rfl, rfl, trivial⟩) (fun w0 w Q R a hret hE hR H => ?_)
  unfold slices_Equal_slramblelaw23_line_ramblelaw23_line at H
  refine w_seq (fun K hK_1 => ?_)
  refine t_region ?_
  refine t_val (v := .bool false) rfl rfl hE rfl (r_assign hE rfl) (fun a hE => ?_)
  refine t_nil ?_
  refine hK_1 _ _ ?_
  refine w_seq (fun K hK_2 => ?_)
  refine w_seq (fun K hK_3 => ?_)
  refine t_region ?_
  refine t_val (v := (x0 : Sl).v) rfl rfl hE rfl (r_move hE rfl) (fun a hE => ?_)
  refine t_val (v := .int .i64 (x0.len : Int)) rfl rfl hE rfl (r_len hE rfl 33 un29) (fun a hE => ?_)
  refine t_val (v := (x1 : Sl).v) rfl rfl hE rfl (r_move hE rfl) (fun a hE => ?_)
  refine t_val (v := .int .i64 (x1.len : Int)) rfl rfl hE rfl (r_len hE rfl 33 un29) (fun a hE => ?_)
  refine t_val (v := .bool ((x0.len : Int) != (x1.len : Int))) rfl rfl hE rfl (r_bin hE rfl rfl g_int b_neq) (fun a hE => ?_)
  refine t_nil ?_
  refine hK_3 _ _ ?_
  refine w_cond ((x0.len : Int) != (x1.len : Int)) hE rfl (fun hb => ?_) (fun hb => ?_)
  · replace H := M.ite_t hb H
    refine w_seq (fun K hK_4 => ?_)
    refine t_region ?_
    refine t_val (v := .bool false) rfl rfl hE rfl (r_assign hE rfl) (fun a hE => ?_)
    refine t_nil ?_
    refine hK_4 _ _ ?_
    refine w_ret ?_
    exact hret _ _ _ false _ hE hR (res_run hE rfl (RV.tmp rfl RV.nil)) rfl H
  · replace H := M.ite_f hb H
    refine w_skip ?_
    refine hK_2 _ _ ?_
    refine w_seq (fun K hK_5 => ?_)
    refine w_seq (fun K hK_6 => ?_)
    refine t_region ?_
    refine t_val (v := (x0 : Sl).v) rfl rfl hE rfl (r_move hE rfl) (fun a hE => ?_)
    refine t_val (v := .int .i64 (x0.len : Int)) rfl rfl hE rfl (r_len hE rfl 33 un29) (fun a hE => ?_)
    refine t_val (v := .int .i64 0) rfl rfl hE rfl (r_move hE rfl) (fun a hE => ?_)
    refine t_nil ?_
    refine hK_6 _ _ ?_
    refine w_block ?_
    refine l_loop (fun (s : Int) => (⟨26, []⟩ : Frm)) (fun (s : Int) => [(0, (x0 : Sl).v), (1, (x1 : Sl).v), (12, .int .i64 (x0.len : Int)), (13, .int .i64 s)]) H (hE.cut (.cons rfl (.cons rfl (.cons rfl (.cons rfl Subs.nil))))) hR (fun Y self1 hY_11 x13_7 a w hE hR H => ?_)
    replace hE : Env (⟨26, []⟩ : Frm) a [(0, (x0 : Sl).v), (1, (x1 : Sl).v), (12, .int .i64 (x0.len : Int)), (13, .int .i64 x13_7)] := hE
    replace H : (slices_Equal_slramblelaw23_line_ramblelaw23_line_l1 x0 x1 (x0.len : Int) self1 x13_7).wp w.heap Q := H
    unfold slices_Equal_slramblelaw23_line_ramblelaw23_line_l1 at H
    refine w_seq (fun K hK_12 => ?_)
    refine t_region ?_
    refine t_val (v := .bool (decide (x13_7 < (x0.len : Int)))) rfl rfl hE rfl (r_bin hE rfl rfl g_int b_lss) (fun a hE => ?_)
    refine t_nil ?_
    refine hK_12 _ _ ?_
    refine w_seq (fun K hK_13 => ?_)
    refine w_cond (decide (x13_7 < (x0.len : Int))) hE rfl (fun hb => ?_) (fun hb => ?_)
    · replace H := M.ite_t hb H
      refine w_skip ?_
      refine hK_13 _ _ ?_
      refine w_seq (fun K hK_14 => ?_)
      refine w_block ?_
      refine w_seq (fun K hK_15 => ?_)
      refine t_region ?_
      refine t_val (v := .int .i64 x13_7) rfl rfl hE rfl (r_move hE rfl) (fun a hE => ?_)
      refine t_val (v := .int .i64 x13_7) rfl rfl hE rfl (r_assign hE rfl) (fun a hE => ?_)
      refine t_nil ?_
      refine hK_15 _ _ ?_
      refine w_seq (fun K hK_16 => ?_)
      obtain ⟨x18_17, qx18_17, H⟩ := H
      obtain ⟨x22_18, qx22_18, H⟩ := H
      obtain ⟨x19_19, qx19_19, H⟩ := H
      obtain ⟨x23_20, qx23_20, H⟩ := H
      obtain ⟨x24_21, qx24_21, H⟩ := H
      have hT := tab_of tb10_6 rfl rfl
      refine d_start (fun w : World => (fun h : Heap => (x19_19.size = 2 ∧ ∀ i, i < 2 → hcell h (Addr.add x18_17 i) = x19_19[i]?) ∧ (x23_20.size = 2 ∧ ∀ i, i < 2 → hcell h (Addr.add x22_18 i) = x23_20[i]?)) w.heap) [8] #[false, false, false, false, false, false, false, false, false] mo hR rfl rfl (fun w' e => by rw [e]; exact ⟨qx19_19, qx23_20⟩) (fun w hh hR hs => ?_)
      replace H := M.at hh H; clear hh
      refine d_pureg (i := 0) (v := (x0 : Sl).v) #[true, false, false, false, false, false, false, false, false] rfl rfl hT (by kernel_rfl) hE rfl (wanted_none rfl) (fun w => r_move hE rfl) (fun a hE => ?_)
      refine d_pureg (i := 1) (v := .int .i64 x13_7) #[true, true, false, false, false, false, false, false, false] rfl rfl hT (by kernel_rfl) hE rfl (wanted_none rfl) (fun w => r_move hE rfl) (fun a hE => ?_)
      refine d_pureg (i := 2) (v := .pointer (some x18_17)) #[true, true, true, false, false, false, false, false, false] rfl rfl hT (by kernel_rfl) hE rfl (wanted_none rfl) (fun w => r_indexAddrL hE rfl rfl un29 sz33 qx18_17) (fun a hE => ?_)
      refine d_pureg (i := 4) (v := (x1 : Sl).v) #[true, true, true, false, true, false, false, false, false] rfl rfl hT (by kernel_rfl) hE rfl (wanted_none rfl) (fun w => r_move hE rfl) (fun a hE => ?_)
      refine d_pureg (i := 5) (v := .int .i64 x13_7) #[true, true, true, false, true, true, false, false, false] rfl rfl hT (by kernel_rfl) hE rfl (wanted_none rfl) (fun w => r_move hE rfl) (fun a hE => ?_)
      refine d_pureg (i := 6) (v := .pointer (some x22_18)) #[true, true, true, false, true, true, true, false, false] rfl rfl hT (by kernel_rfl) hE rfl (wanted_none rfl) (fun w => r_indexAddrL hE rfl rfl un29 sz33 qx22_18) (fun a hE => ?_)
      refine d_read (i := 3) (v := .agg x19_19) #[true, true, true, true, true, true, true, false, false] rfl rfl hT (by kernel_rfl) hE rfl (wanted_none rfl) hs (fun w s => r_loadG hE rfl ag33 s.1) (fun a hE => ?_)
      refine d_read (i := 7) (v := .agg x23_20) #[true, true, true, true, true, true, true, true, false] rfl rfl hT (by kernel_rfl) hE rfl (wanted_none rfl) hs (fun w s => r_loadG hE rfl ag33 s.2) (fun a hE => ?_)
      refine d_pureg (i := 8) (v := .bool (!x24_21)) #[true, true, true, true, true, true, true, true, true] rfl rfl hT (by kernel_rfl) hE rfl (wanted_none rfl) (fun w => r_bin hE rfl rfl (g_agg eg33) (b_neqT fl33 qx24_21)) (fun a hE => ?_)
      refine d_done hT (by kernel_rfl) ?_
      refine hK_16 _ _ ?_
      refine w_cond (!x24_21) hE rfl (fun hb => ?_) (fun hb => ?_)
      · replace H := M.ite_t hb H
        refine w_seq (fun K hK_22 => ?_)
        refine t_region ?_
        refine t_val (v := .bool false) rfl rfl hE rfl (r_assign hE rfl) (fun a hE => ?_)
        refine t_nil ?_
        refine hK_22 _ _ ?_
        refine w_ret ?_
        exact hret _ _ _ false _ hE hR (res_run hE rfl (RV.tmp rfl RV.nil)) rfl H
      · replace H := M.ite_f hb H
        refine w_skip ?_
        refine hK_14 _ _ ?_
        refine t_region ?_
        refine t_val (v := .int .i64 (IntKind.wrap .i64 (x13_7 + 1))) rfl rfl hE rfl (r_bin hE rfl rfl g_int b_add) (fun a hE => ?_)
        refine t_val (v := .int .i64 (IntKind.wrap .i64 (x13_7 + 1))) rfl rfl hE rfl (r_move hE rfl) (fun a hE => ?_)
        refine t_nil ?_
        exact hY_11 (IntKind.wrap .i64 (x13_7 + 1)) _ _ (hE.cut (.cons rfl (.cons rfl (.cons rfl (.cons rfl Subs.nil))))) hR H
    · replace H := M.ite_f hb H
      refine w_exit ?_
      refine Xu.same ?_
      refine hK_5 _ _ ?_
      refine w_seq (fun K hK_23 => ?_)
      refine t_region ?_
      refine t_val (v := .bool true) rfl rfl hE rfl (r_assign hE rfl) (fun a hE => ?_)
      refine t_nil ?_
      refine hK_23 _ _ ?_
      refine w_ret ?_
      exact hret _ _ _ true _ hE hR (res_run hE rfl (RV.tmp rfl RV.nil)) rfl H

/-- ramble/ramblelaw23.told -/
def ramblelaw23_told_j1 (c5_10 : Addr) (xm_9 : List Nat) : M (Sl) := do
  let x23_12 ← ldL c5_10
  let _ ← shut xm_9
  M.pure x23_12
def ramblelaw23_told_y1 (c3_14 : Addr) (c5_15 : Addr) (lp1 : Nat) : (Int × ByteArray) → M Nat := fun x => match x with
  | (x11_16, x12_17) => do
    let _ ← beg lp1
    let x13_21 ← ldL c5_15
    let x15_22 ← ldI .i64 c3_14
    M.ite (decide ((x13_21.len : Int) ≥ x15_22)) (do
      M.pure 1
      ) (do
      let x17_23 ← ldL c5_15
      let y_25 ← fillL 2 1 (#[.int .i64 0, .string ByteArray.empty] : Array Value) [(0, .agg (#[.int .i64 x11_16, .string x12_17] : Array Value))]
      let x21_24 ← bdL ty_ramblelaw23_line 1 y_25
      let x22_26 ← apL ty_ramblelaw23_line 2 24 (#[.int .i64 0, .string ByteArray.empty] : Array Value) x17_23 x21_24
      stV c5_15 ((x22_26 : Sl).v)
      M.pure 0
      )
def ramblelaw23_told (x0 : Value) (x1 : Int) : M (Sl) := do
  let x3_2 ← mkB ty_int #[.int .i64 x1]
  let x9_5 ← isNF x0
  M.ite x9_5 (do
    let _ ← shut ([])
    M.pure Sl.nil
    ) (do
    let x5_8 ← mkB ty_sl_ramblelaw23_line (#[.slice none 0 0] : Array Value)
    let j_28 ← rgF Go.Proofs.Tryd.prog (fun x : Int × ByteArray => [.int .i64 x.1, .string x.2]) [.exit 0] (ramblelaw23_told_y1 x3_2 x5_8) x0
    M.ite (decide (j_28.1 = 1)) (do
      ramblelaw23_told_j1 x5_8 (j_28.2 :: [])
      ) (do
      ramblelaw23_told_j1 x5_8 (j_28.2 :: [])
      )
    )
theorem S_ramblelaw23_told (x0 : Value) (x1 : Int) : Sound Go.Proofs.Tryd.prog 11 #[x0, .int .i64 x1] (fun (r : Sl) => (r : Sl).v) (ramblelaw23_told x0 x1) := by
  refine sound_ofM [(0, x0), (1, .int .i64 x1)] Go.Proofs.Tryd.func11 rfl rfl (Nat.le_of_ble_eq_true rfl) (args_of ⟨rfl, rfl, trivial⟩) (fun w0 w Q R a hret hE hR H => ?_)
  unfold ramblelaw23_told at H
  refine w_seq (fun K hK_1 => ?_)
  refine t_region ?_
  obtain ⟨x3_2, qx3_2, H⟩ := H
  refine t_valh (v := .pointer (some x3_2)) rfl rfl hE rfl hR (r_box hE rfl qx3_2) (fun a w hE hR hh => ?_)
  replace H := M.at hh H; clear hh
  refine t_val (v := (Sl.nil : Sl).v) rfl rfl hE rfl (r_assign hE rfl) (fun a hE => ?_)
  refine t_nil ?_
  refine hK_1 _ _ ?_
  refine w_seq (fun K hK_3 => ?_)
  refine w_seq (fun K hK_4 => ?_)
  refine t_region ?_
  refine t_val (v := x0) rfl rfl hE rfl (r_move hE rfl) (fun a hE => ?_)
  obtain ⟨x9_5, qx9_5, H⟩ := H
  refine t_val (v := .bool x9_5) rfl rfl hE rfl (r_bin hE rfl rfl (g_fn qx9_5) (b_eqlF fnt37 qx9_5)) (fun a hE => ?_)
  refine t_nil ?_
  refine hK_4 _ _ ?_
  refine w_cond x9_5 hE rfl (fun hb => ?_) (fun hb => ?_)
  · replace H := M.ite_t hb H
    refine w_seq (fun K hK_6 => ?_)
    refine t_region ?_
    refine t_val (v := (Sl.nil : Sl).v) rfl rfl hE rfl (r_assign hE rfl) (fun a hE => ?_)
    refine t_nil ?_
    refine hK_6 _ _ ?_
    refine w_ret ?_
    refine hret _ _ _ _ _ hE hR (M.unbind H) (fun w hR H => ?_)
    exact ⟨Sl.nil, _, res_run hE rfl (RV.tmp rfl RV.nil), rfl, H⟩
  · replace H := M.ite_f hb H
    refine w_skip ?_
    refine hK_3 _ _ ?_
    refine w_seq (fun K hK_7 => ?_)
    refine t_region ?_
    obtain ⟨x5_8, qx5_8, H⟩ := H
    refine t_valh (v := .pointer (some x5_8)) rfl rfl hE rfl hR (r_alloc zr29 qx5_8) (fun a w hE hR hh => ?_)
    replace H := M.at hh H; clear hh
    refine t_nil ?_
    refine hK_7 _ _ ?_
    refine w_seq_join (fun a w => ∃ (xm_9 : List Nat), Env (⟨24, xm_9⟩ : Frm) a [(5, .pointer (some x5_8))] ∧ Rest w0 w ∧ (ramblelaw23_told_j1 x5_8 xm_9).wp w.heap Q) ?_ ?_
    · rintro a w ⟨xm_9, hE, hR, H⟩
      unfold ramblelaw23_told_j1 at H
      refine w_seq (fun K hK_11 => ?_)
      refine t_region ?_
      obtain ⟨x23_12, qx23_12, H⟩ := H
      refine t_val (v := (x23_12 : Sl).v) rfl rfl hE rfl (r_load hE rfl sc29 qx23_12) (fun a hE => ?_)
      refine t_val (v := (x23_12 : Sl).v) rfl rfl hE rfl (r_assign hE rfl) (fun a hE => ?_)
      refine t_nil ?_
      refine hK_11 _ _ ?_
      refine w_ret ?_
      refine hret _ _ _ _ _ hE hR (M.unbind H) (fun w hR H => ?_)
      exact ⟨x23_12, _, res_run hE rfl (RV.tmp rfl RV.nil), rfl, H⟩
    · skip
      refine w_seq (fun K hK_13 => ?_)
      refine t_region ?_
      refine t_val (v := x0) rfl rfl hE rfl (r_move hE rfl) (fun a hE => ?_)
      refine t_nil ?_
      refine hK_13 _ _ ?_
      refine w_block ?_
      refine w_rangeF (js := [.exit 0]) (enc := (fun x : Int × ByteArray => [.int .i64 x.1, .string x.2])) (Y := (ramblelaw23_told_y1 x3_2 x5_8)) hE hR rfl (fun x => rfl) rfl (M.unbind H) (fun lp1 x Q w0 Rr hfin a w hE hR H => ?_) (fun j_28 a w hE hR H => ?_)
      · skip
        rcases x with ⟨x11_16, x12_17⟩
        replace hE : Env (⟨24, []⟩ : Frm) a [(3, .pointer (some x3_2)), (5, .pointer (some x5_8)), (11, .int .i64 x11_16), (12, .string x12_17)] := Env.cut hE (.cons rfl (.cons rfl (.cons rfl (.cons rfl Subs.nil))))
        replace H : (ramblelaw23_told_y1 x3_2 x5_8 lp1 (x11_16, x12_17)).wp w.heap Q := H
        unfold ramblelaw23_told_y1 at H
        refine w_seq (fun K hK_18 => ?_)
        refine t_region ?_
        refine t_val (v := .int .i64 x11_16) rfl rfl hE rfl (r_assign hE rfl) (fun a hE => ?_)
        refine t_nil ?_
        refine hK_18 _ _ ?_
        refine t_region ?_
        refine t_val (v := .string x12_17) rfl rfl hE rfl (r_assign hE rfl) (fun a hE => ?_)
        refine t_nil ?_
        refine beg_w hR H (fun w hR H => ?_)
        refine w_block ?_
        refine w_seq (fun K hK_19 => ?_)
        refine w_seq (fun K hK_20 => ?_)
        refine t_region ?_
        obtain ⟨x13_21, qx13_21, H⟩ := H
        refine t_val (v := (x13_21 : Sl).v) rfl rfl hE rfl (r_load hE rfl sc29 qx13_21) (fun a hE => ?_)
        refine t_val (v := .int .i64 (x13_21.len : Int)) rfl rfl hE rfl (r_len hE rfl 33 un29) (fun a hE => ?_)
        obtain ⟨x15_22, qx15_22, H⟩ := H
        refine t_val (v := .int .i64 x15_22) rfl rfl hE rfl (r_load hE rfl sc3 qx15_22) (fun a hE => ?_)
        refine t_val (v := .bool (decide ((x13_21.len : Int) ≥ x15_22))) rfl rfl hE rfl (r_bin hE rfl rfl g_int b_geq) (fun a hE => ?_)
        refine t_nil ?_
        refine hK_20 _ _ ?_
        refine w_cond (decide ((x13_21.len : Int) ≥ x15_22)) hE rfl (fun hb => ?_) (fun hb => ?_)
        · replace H := M.ite_t hb H
          refine w_exit ?_
          refine Xu.ne rfl ?_
          exact ⟨0, rfl, hfin 1 _ _ hR H⟩
        · replace H := M.ite_f hb H
          refine w_skip ?_
          refine hK_19 _ _ ?_
          refine t_region ?_
          obtain ⟨x17_23, qx17_23, H⟩ := H
          refine t_val (v := (x17_23 : Sl).v) rfl rfl hE rfl (r_load hE rfl sc29 qx17_23) (fun a hE => ?_)
          refine t_val (v := .int .i64 x11_16) rfl rfl hE rfl (r_move hE rfl) (fun a hE => ?_)
          refine t_val (v := .string x12_17) rfl rfl hE rfl (r_move hE rfl) (fun a hE => ?_)
          refine t_val (v := .agg (#[.int .i64 x11_16, .string x12_17] : Array Value)) rfl rfl hE rfl (r_build hE rfl zr33 pl33 (by rfl)) (fun a hE => ?_)
          obtain ⟨y_25, qy_25, H⟩ := H
          obtain ⟨x21_24, qx21_24, H⟩ := H
          refine t_valh (v := (x21_24 : Sl).v) rfl rfl hE rfl hR (r_buildL hE rfl un29 sz33 zr33 rfl qy_25 qx21_24) (fun a w hE hR hh => ?_)
          replace H := M.at hh H; clear hh
          refine t_ex (fun x22_26 => (x22_26 : Sl).v) rfl rfl hR (M.unbind H) (fun Q H => ap_run hE rfl rfl ap29 H) (fun x22_26 a w ea hR H => ?_)
          have hE := Env.put_some hE rfl ea; clear ea
          obtain ⟨u_27, qu_27, H⟩ := H
          refine t_sth rfl rfl hE hR (r_store hE rfl rfl sz29 qu_27) (fun a w hE hR hh => ?_)
          replace H := M.at hh H; clear hh
          refine t_nil ?_
          exact hfin 0 _ _ hR H
      · skip
        replace hE : Env (⟨24, (j_28.2 :: [])⟩ : Frm) a [(3, .pointer (some x3_2)), (4, (Sl.nil : Sl).v), (5, .pointer (some x5_8))] := Env.cut hE (.cons rfl (.cons rfl (.cons rfl Subs.nil)))
        refine jgo_cons (fun hj => ?_) (fun hj => ?_)
        · replace H := M.ite_t (decide_eq_true hj) H
          refine w_exit ?_
          refine Xu.same ?_
          exact ⟨(j_28.2 :: []), hE.cut (.cons rfl Subs.nil), hR, H⟩
        · replace H := M.ite_f (decide_eq_false hj) H
          refine jgo_nil ?_
          exact ⟨(j_28.2 :: []), hE.cut (.cons rfl Subs.nil), hR, H⟩

/-- ramble/result.Lines -/
def result_Lines (x0 : ByteArray) : M (Value) := do
  let x1_2 ← mkB ty_string #[.string x0]
  M.pure (Value.func (.func fn_result_Lines_1) #[] #[.pointer (some x1_2)])
theorem S_result_Lines (x0 : ByteArray) : Sound Go.Proofs.Tryd.prog 12 #[.string x0] (fun (r : Value) => r) (result_Lines x0) := by
  refine sound_of [(0, .string x0)] Go.Proofs.Tryd.func12 rfl rfl (Nat.le_of_ble_eq_true rfl) (args_of ⟨rfl, trivial⟩) (fun w0 w Q R a hret hE hR H => ?_)
  unfold result_Lines at H
  refine w_seq (fun K hK_1 => ?_)
  refine t_region ?_
  obtain ⟨x1_2, qx1_2, H⟩ := H
  refine t_valh (v := .pointer (some x1_2)) rfl rfl hE rfl hR (r_box hE rfl qx1_2) (fun a w hE hR hh => ?_)
  replace H := M.at hh H; clear hh
  refine t_val (v := Value.nilFunc) rfl rfl hE rfl (r_assign hE rfl) (fun a hE => ?_)
  refine t_nil ?_
  refine hK_1 _ _ ?_
  refine w_seq (fun K hK_3 => ?_)
  refine t_region ?_
  refine t_val (v := (Value.func (.func fn_result_Lines_1) #[] #[.pointer (some x1_2)])) rfl rfl hE rfl (r_makeFunc hE rfl) (fun a hE => ?_)
  refine t_val (v := (Value.func (.func fn_result_Lines_1) #[] #[.pointer (some x1_2)])) rfl rfl hE rfl (r_assign hE rfl) (fun a hE => ?_)
  refine t_nil ?_
  refine hK_3 _ _ ?_
  refine w_ret ?_
  exact hret _ _ _ (Value.func (.func fn_result_Lines_1) #[] #[.pointer (some x1_2)]) _ hE hR (res_run hE rfl (RV.tmp rfl RV.nil)) rfl H

end Gx
namespace Gx
open Go
set_option linter.unusedVariables false
set_option maxRecDepth 100000
/-- ramble/ramblelaw23.ResultTells -/
def ramblelaw23_ResultTells_j1 (x4_22 : Bool) : M (Bool) := do
  M.pure x4_22
noncomputable def ro4_7 : Array Oper := opsOf Go.Proofs.Tryd.f4 7
def tE4_7 : List (List Nat) := [[], [0, 0], [1], [2, 1, 1], [3, 3, 1], [1], [4, 5, 4, 1], [1, 6], [7, 6], [8], [9, 8, 8], [8], [11, 8], [10, 12, 10, 8], [8], [8], [15, 8], [8], [17, 8], [16, 18, 8], [14, 19, 8], [13, 20, 13, 8], [8, 21], [22, 21, 0, 1, 2, 3, 4, 5, 6, 7, 8, 9, 10, 11, 12, 13, 14, 15, 16, 17, 18, 19, 20, 21, 22]]
def tC4_7 : List (List Nat) := [[], [0], [1], [1, 2], [1, 3], [1], [1, 4, 5], [1, 6], [7], [8], [8, 9], [8], [8, 11], [8, 10, 12], [8], [8], [8, 15], [8], [8, 17], [8, 16, 18], [8, 14, 19], [8, 13, 20], [8, 21], [22]]
def tW4_7 : List (List Nat) := [[], [0], [0, 1], [0, 1, 2], [0, 1, 2, 3], [0, 1], [0, 1, 2, 3, 4, 5], [0, 1, 2, 3, 4, 5, 6], [0, 1, 2, 3, 4, 5, 6, 7], [0, 1, 2, 3, 4, 5, 6, 7, 8], [0, 1, 2, 3, 4, 5, 6, 7, 8, 9], [0, 1, 2, 3, 4, 5, 6, 7, 8], [0, 1, 2, 3, 4, 5, 6, 7, 8, 11], [0, 1, 2, 3, 4, 5, 6, 7, 8, 9, 10, 11, 12], [0, 1, 2, 3, 4, 5, 6, 7, 8], [0, 1, 2, 3, 4, 5, 6, 7, 8], [0, 1, 2, 3, 4, 5, 6, 7, 8, 15], [0, 1, 2, 3, 4, 5, 6, 7, 8], [0, 1, 2, 3, 4, 5, 6, 7, 8, 17], [0, 1, 2, 3, 4, 5, 6, 7, 8, 15, 16, 17, 18], [0, 1, 2, 3, 4, 5, 6, 7, 8, 14, 15, 16, 17, 18, 19], [0, 1, 2, 3, 4, 5, 6, 7, 8, 9, 10, 11, 12, 13, 14, 15, 16, 17, 18, 19, 20], [0, 1, 2, 3, 4, 5, 6, 7, 8, 9, 10, 11, 12, 13, 14, 15, 16, 17, 18, 19, 20, 21], [0, 1, 2, 3, 4, 5, 6, 7, 8, 9, 10, 11, 12, 13, 14, 15, 16, 17, 18, 19, 20, 21, 22]]
theorem tb4_7 : tabAt Go.Proofs.Tryd.f4 7 tE4_7 tC4_7 tW4_7 = true := by kernel_rfl
theorem tb4_7m : tabMB 24 tE4_7 tC4_7 tW4_7 [0, 1, 2, 6, 10, 2, 50, 66, 192, 256, 768, 256, 2304, 5376, 256, 256, 33024, 256, 131328, 327936, 540928, 1057024, 2097408, 8388607] [0, 1, 2, 6, 10, 2, 50, 66, 128, 256, 768, 256, 2304, 5376, 256, 256, 33024, 256, 131328, 327936, 540928, 1057024, 2097408, 4194304] [0, 1, 3, 7, 15, 3, 63, 127, 255, 511, 1023, 511, 2559, 8191, 511, 511, 33279, 511, 131583, 492031, 1032703, 2097151, 4194303, 8388607] = true := by kernel_rfl
def ramblelaw23_ResultTells_l1 (c0_8 : ByteArray) (c1_9 : Int) (c9_10 : Sl) (c10_11 : Int) (self1 : (Sl × Int) → M (Bool)) : (Sl × Int) → M (Bool) := fun s => match s with
  | (x5_6, x11_7) => do
    M.ite (decide (x11_7 < c10_11)) (do
      let x14_17 ← ixL c9_10 x11_7 1
      let x15_18 ← ldS x14_17
      let y_20 ← fillL 2 1 (#[.int .i64 0, .string ByteArray.empty] : Array Value) [(0, .agg (#[.int .i64 (IntKind.wrap .i64 (x11_7 + 1)), .string x15_18] : Array Value))]
      let x21_19 ← bdL ty_ramblelaw23_line 1 y_20
      let x22_21 ← apL ty_ramblelaw23_line 2 24 (#[.int .i64 0, .string ByteArray.empty] : Array Value) x5_6 x21_19
      self1 (x22_21, IntKind.wrap .i64 (x11_7 + 1))
      ) (do
      let x24_23 ← ramblelaw23_begun
      M.ite x24_23 (do
        let x27_25 ← result_Lines c0_8
        let x28_26 ← ramblelaw23_told x27_25 1073741824
        let x30_27 ← slices_Equal_slramblelaw23_line_ramblelaw23_line x28_26 x5_6
        M.ite x30_27 (do
          let x44_29 ← slL x5_6 0 (iMin (x5_6.len : Int) (IntKind.wrap .i64 c1_9)) 2
          let x34_30 ← result_Lines c0_8
          let x37_31 ← ramblelaw23_told x34_30 (IntKind.wrap .i64 c1_9)
          let x45_32 ← slices_Equal_slramblelaw23_line_ramblelaw23_line x37_31 x44_29
          ramblelaw23_ResultTells_j1 x45_32
          ) (do
          ramblelaw23_ResultTells_j1 false
          )
        ) (do
        ramblelaw23_ResultTells_j1 false
        )
      )
def ramblelaw23_ResultTells (x0 : ByteArray) (x1 : Int) : M (Bool) := do
  let x9_5 ← rambleref23_Lines x0
  M.loop (ramblelaw23_ResultTells_l1 x0 x1 x9_5 (x9_5.len : Int)) (Sl.nil, 0)
theorem S_ramblelaw23_ResultTells (x0 : ByteArray) (x1 : Int) : Sound Go.Proofs.Tryd.prog 4 #[.string x0, .int .u8 x1] (fun (r : Bool) => .bool r) (ramblelaw23_ResultTells x0 x1) := by
  refine sound_of [(0, .string x0), (1, .int .u8 x1)] Go.Proofs.Tryd.func4 rfl rfl (Nat.le_of_ble_eq_true rfl) (args_of ⟨rfl, rfl, trivial⟩) (fun w0 w Q R a hret hE hR H => ?_)
  unfold ramblelaw23_ResultTells at H
  refine w_seq (fun K hK_1 => ?_)
  refine t_region ?_
  refine t_val (v := .bool false) rfl rfl hE rfl (r_assign hE rfl) (fun a hE => ?_)
  refine t_nil ?_
  refine hK_1 _ _ ?_
  refine w_seq (fun K hK_2 => ?_)
  refine t_region ?_
  refine t_val (v := (Sl.nil : Sl).v) rfl rfl hE rfl (r_assign hE rfl) (fun a hE => ?_)
  refine t_nil ?_
  refine hK_2 _ _ ?_
  refine w_seq (fun K hK_3 => ?_)
  refine w_seq (fun K hK_4 => ?_)
  refine t_region ?_
  refine t_val (v := .string x0) rfl rfl hE rfl (r_move hE rfl) (fun a hE => ?_)
  refine t_call hE hR cl_rambleref23_Lines rfl (S_rambleref23_Lines x0) (M.unbind H) (fun x9_5 a w ea hR H => ?_)
  have hE := Env.put_some hE rfl ea; clear ea
  refine t_val (v := .int .i64 (x9_5.len : Int)) rfl rfl hE rfl (r_len hE rfl 9 un30) (fun a hE => ?_)
  refine t_val (v := .int .i64 0) rfl rfl hE rfl (r_move hE rfl) (fun a hE => ?_)
  refine t_nil ?_
  refine hK_4 _ _ ?_
  refine w_block ?_
  refine l_loop (fun (s : Sl × Int) => (⟨47, []⟩ : Frm)) (fun (s : Sl × Int) => [(0, .string x0), (1, .int .u8 x1), (5, (s.1 : Sl).v), (9, (x9_5 : Sl).v), (10, .int .i64 (x9_5.len : Int)), (11, .int .i64 s.2)]) H (hE.cut (.cons rfl (.cons rfl (.cons rfl (.cons rfl (.cons rfl (.cons rfl Subs.nil))))))) hR (fun Y self1 hY_12 s a w hE hR H => ?_)
  rcases s with ⟨x5_6, x11_7⟩
  replace hE : Env (⟨47, []⟩ : Frm) a [(0, .string x0), (1, .int .u8 x1), (5, (x5_6 : Sl).v), (9, (x9_5 : Sl).v), (10, .int .i64 (x9_5.len : Int)), (11, .int .i64 x11_7)] := hE
  replace H : (ramblelaw23_ResultTells_l1 x0 x1 x9_5 (x9_5.len : Int) self1 (x5_6, x11_7)).wp w.heap Q := H
  unfold ramblelaw23_ResultTells_l1 at H
  refine w_seq (fun K hK_13 => ?_)
  refine t_region ?_
  refine t_val (v := .bool (decide (x11_7 < (x9_5.len : Int)))) rfl rfl hE rfl (r_bin hE rfl rfl g_int b_lss) (fun a hE => ?_)
  refine t_nil ?_
  refine hK_13 _ _ ?_
  refine w_seq (fun K hK_14 => ?_)
  refine w_cond (decide (x11_7 < (x9_5.len : Int))) hE rfl (fun hb => ?_) (fun hb => ?_)
  · replace H := M.ite_t hb H
    refine w_skip ?_
    refine hK_14 _ _ ?_
    refine w_seq (fun K hK_15 => ?_)
    refine w_block ?_
    refine w_seq (fun K hK_16 => ?_)
    refine t_region ?_
    refine t_val (v := .int .i64 x11_7) rfl rfl hE rfl (r_move hE rfl) (fun a hE => ?_)
    obtain ⟨x14_17, qx14_17, H⟩ := H
    refine t_val (v := .pointer (some x14_17)) rfl rfl hE rfl (r_indexAddrL hE rfl rfl un30 sz9 qx14_17) (fun a hE => ?_)
    obtain ⟨x15_18, qx15_18, H⟩ := H
    refine t_val (v := .string x15_18) rfl rfl hE rfl (r_load hE rfl sc9 qx15_18) (fun a hE => ?_)
    refine t_val (v := .int .i64 x11_7) rfl rfl hE rfl (r_assign hE rfl) (fun a hE => ?_)
    refine t_val (v := .string x15_18) rfl rfl hE rfl (r_assign hE rfl) (fun a hE => ?_)
    refine t_nil ?_
    refine hK_16 _ _ ?_
    refine t_region ?_
    refine t_val (v := (x5_6 : Sl).v) rfl rfl hE rfl (r_move hE rfl) (fun a hE => ?_)
    refine t_val (v := .int .i64 x11_7) rfl rfl hE rfl (r_move hE rfl) (fun a hE => ?_)
    refine t_val (v := .int .i64 (IntKind.wrap .i64 (x11_7 + 1))) rfl rfl hE rfl (r_bin hE rfl rfl g_int b_add) (fun a hE => ?_)
    refine t_val (v := .string x15_18) rfl rfl hE rfl (r_move hE rfl) (fun a hE => ?_)
    refine t_val (v := .agg (#[.int .i64 (IntKind.wrap .i64 (x11_7 + 1)), .string x15_18] : Array Value)) rfl rfl hE rfl (r_build hE rfl zr33 pl33 (by rfl)) (fun a hE => ?_)
    obtain ⟨y_20, qy_20, H⟩ := H
    obtain ⟨x21_19, qx21_19, H⟩ := H
    refine t_valh (v := (x21_19 : Sl).v) rfl rfl hE rfl hR (r_buildL hE rfl un29 sz33 zr33 rfl qy_20 qx21_19) (fun a w hE hR hh => ?_)
    replace H := M.at hh H; clear hh
    refine t_ex (fun x22_21 => (x22_21 : Sl).v) rfl rfl hR (M.unbind H) (fun Q H => ap_run hE rfl rfl ap29 H) (fun x22_21 a w ea hR H => ?_)
    have hE := Env.put_some hE rfl ea; clear ea
    refine t_val (v := (x22_21 : Sl).v) rfl rfl hE rfl (r_assign hE rfl) (fun a hE => ?_)
    refine t_nil ?_
    refine hK_15 _ _ ?_
    refine t_region ?_
    refine t_val (v := .int .i64 (IntKind.wrap .i64 (x11_7 + 1))) rfl rfl hE rfl (r_bin hE rfl rfl g_int b_add) (fun a hE => ?_)
    refine t_val (v := .int .i64 (IntKind.wrap .i64 (x11_7 + 1))) rfl rfl hE rfl (r_move hE rfl) (fun a hE => ?_)
    refine t_nil ?_
    exact hY_12 (x22_21, IntKind.wrap .i64 (x11_7 + 1)) _ _ (hE.cut (.cons rfl (.cons rfl (.cons rfl (.cons rfl (.cons rfl (.cons rfl Subs.nil))))))) hR H
  · replace H := M.ite_f hb H
    refine w_exit ?_
    refine Xu.same ?_
    refine hK_3 _ _ ?_
    refine w_seq_join (fun a w => ∃ (x4_22 : Bool), Env (⟨47, []⟩ : Frm) a [(4, .bool x4_22)] ∧ Rest w0 w ∧ (ramblelaw23_ResultTells_j1 x4_22).wp w.heap Q) ?_ ?_
    · rintro a w ⟨x4_22, hE, hR, H⟩
      unfold ramblelaw23_ResultTells_j1 at H
      refine w_ret ?_
      exact hret _ _ _ x4_22 _ hE hR (res_run hE rfl (RV.tmp rfl RV.nil)) rfl H
    · skip
      refine reg_eq (rops := ro4_7) (by kernel_rfl) ?_
      have hT : Tab ro4_7 _ _ _ := tab_of tb4_7 rfl (by kernel_rfl)
      have hM := TabM.of tb4_7m
      refine d_start (m := 24) (fun w : World => (fun h : Heap => True) w.heap) [0, 1, 2, 3, 4, 5, 6, 7, 8, 9, 10, 11, 12, 13, 14, 15, 16, 17, 18, 19, 20, 21, 22, 23] (unb 24 0) mo hR (by kernel_rfl) (by kernel_rfl) (fun w' e => by rw [e]; exact trivial) (fun w hh hR hs => ?_)
      replace H := M.at hh H; clear hh
      refine d_calll (i := 0) (unb 24 1) rfl rfl rfl hT (oneM hM (by kernel_rfl)) rfl hE hR (wanted_none rfl) cl_ramblelaw23_begun rfl (S_ramblelaw23_begun ) (M.unbind H) (fun x24_23 a w ea hR H => ?_)
      have hE := Env.put_some hE rfl ea; clear ea
      rcases bool_em x24_23 with hb_24 | hb_24
      · replace H := M.ite_t hb_24 H
        refine d_pureg (i := 1) (v := .bool x24_23) (unb 24 3) rfl rfl hT (anyM hM (by kernel_rfl)) hE rfl (wanted_none rfl) (fun w => r_move hE rfl) (fun a hE => ?_)
        have hE := hE.reb 25 x24_23 true hb_24 rfl
        replace hE := hE.cut (l' := [(0, .string x0), (1, .int .u8 x1), (5, (x5_6 : Sl).v), (25, .bool true)]) (.cons rfl (.cons rfl (.cons rfl (.cons rfl Subs.nil))))
        refine d_pureg (i := 2) (v := .string x0) (unb 24 7) rfl rfl hT (anyM hM (by kernel_rfl)) hE rfl (wanted_of rfl hE rfl rfl rfl) (fun w => r_move hE rfl) (fun a hE => ?_)
        refine d_pureg (i := 5) (v := (x5_6 : Sl).v) (unb 24 39) rfl rfl hT (anyM hM (by kernel_rfl)) hE rfl (wanted_of rfl hE rfl rfl rfl) (fun w => r_move hE rfl) (fun a hE => ?_)
        refine d_calll (i := 3) (unb 24 47) rfl rfl rfl hT (oneM hM (by kernel_rfl)) rfl hE hR (wanted_of rfl hE rfl rfl rfl) cl_result_Lines rfl (S_result_Lines x0) (M.unbind H) (fun x27_25 a w ea hR H => ?_)
        have hE := Env.put_some hE rfl ea; clear ea
        refine d_calll (i := 4) (unb 24 63) rfl rfl rfl hT (oneM hM (by kernel_rfl)) rfl hE hR (wanted_of rfl hE rfl rfl rfl) cl_ramblelaw23_told rfl (S_ramblelaw23_told x27_25 1073741824) (M.unbind H) (fun x28_26 a w ea hR H => ?_)
        have hE := Env.put_some hE rfl ea; clear ea
        refine d_calll (i := 6) (unb 24 127) rfl rfl rfl hT (oneM hM (by kernel_rfl)) rfl hE hR (wanted_of rfl hE rfl rfl rfl) cl_slices_Equal_slramblelaw23_line_ramblelaw23_line rfl (S_slices_Equal_slramblelaw23_line_ramblelaw23_line x28_26 x5_6) (M.unbind H) (fun x30_27 a w ea hR H => ?_)
        have hE := Env.put_some hE rfl ea; clear ea
        rcases bool_em x30_27 with hb_28 | hb_28
        · replace H := M.ite_t hb_28 H
          obtain ⟨x44_29, qx44_29, H⟩ := H
          refine d_pureg (i := 7) (v := .bool x30_27) (unb 24 255) rfl rfl hT (anyM hM (by kernel_rfl)) hE rfl (wanted_none rfl) (fun w => r_pick_t hE rfl rfl) (fun a hE => ?_)
          refine d_pureg (i := 8) (v := .bool x30_27) (unb 24 511) rfl rfl hT (anyM hM (by kernel_rfl)) hE rfl (wanted_none rfl) (fun w => r_move hE rfl) (fun a hE => ?_)
          have hE := hE.reb 32 x30_27 true hb_28 rfl
          replace hE := hE.cut (l' := [(0, .string x0), (1, .int .u8 x1), (5, (x5_6 : Sl).v), (32, .bool true)]) (.cons rfl (.cons rfl (.cons rfl (.cons rfl Subs.nil))))
          refine d_pureg (i := 9) (v := .string x0) (unb 24 1023) rfl rfl hT (anyM hM (by kernel_rfl)) hE rfl (wanted_of rfl hE rfl rfl rfl) (fun w => r_move hE rfl) (fun a hE => ?_)
          refine d_pureg (i := 11) (v := .int .u8 x1) (unb 24 3071) rfl rfl hT (anyM hM (by kernel_rfl)) hE rfl (wanted_of rfl hE rfl rfl rfl) (fun w => r_move hE rfl) (fun a hE => ?_)
          refine d_pureg (i := 12) (v := .int .i64 (IntKind.wrap .i64 x1)) (unb 24 7167) rfl rfl hT (anyM hM (by kernel_rfl)) hE rfl (wanted_of rfl hE rfl rfl rfl) (fun w => r_convI hE rfl un5 un3) (fun a hE => ?_)
          refine d_pureg (i := 14) (v := (x5_6 : Sl).v) (unb 24 23551) rfl rfl hT (anyM hM (by kernel_rfl)) hE rfl (wanted_of rfl hE rfl rfl rfl) (fun w => r_move hE rfl) (fun a hE => ?_)
          refine d_pureg (i := 15) (v := (x5_6 : Sl).v) (unb 24 56319) rfl rfl hT (anyM hM (by kernel_rfl)) hE rfl (wanted_of rfl hE rfl rfl rfl) (fun w => r_move hE rfl) (fun a hE => ?_)
          refine d_pureg (i := 16) (v := .int .i64 (x5_6.len : Int)) (unb 24 121855) rfl rfl hT (anyM hM (by kernel_rfl)) hE rfl (wanted_of rfl hE rfl rfl rfl) (fun w => r_len hE rfl 33 un29) (fun a hE => ?_)
          refine d_pureg (i := 17) (v := .int .u8 x1) (unb 24 252927) rfl rfl hT (anyM hM (by kernel_rfl)) hE rfl (wanted_of rfl hE rfl rfl rfl) (fun w => r_move hE rfl) (fun a hE => ?_)
          refine d_pureg (i := 18) (v := .int .i64 (IntKind.wrap .i64 x1)) (unb 24 515071) rfl rfl hT (anyM hM (by kernel_rfl)) hE rfl (wanted_of rfl hE rfl rfl rfl) (fun w => r_convI hE rfl un5 un3) (fun a hE => ?_)
          refine d_pureg (i := 19) (v := .int .i64 (iMin (x5_6.len : Int) (IntKind.wrap .i64 x1))) (unb 24 1039359) rfl rfl hT (anyM hM (by kernel_rfl)) hE rfl (wanted_of rfl hE rfl rfl rfl) (fun w => r_min hE rfl rfl) (fun a hE => ?_)
          refine d_pureg (i := 20) (v := (x44_29 : Sl).v) (unb 24 2087935) rfl rfl hT (anyM hM (by kernel_rfl)) hE rfl (wanted_of rfl hE rfl rfl rfl) (fun w => r_sliceL_h hE rfl rfl un29 sz33 qx44_29) (fun a hE => ?_)
          refine d_calll (i := 10) (unb 24 2088959) rfl rfl rfl hT (oneM hM (by kernel_rfl)) rfl hE hR (wanted_of rfl hE rfl rfl rfl) cl_result_Lines rfl (S_result_Lines x0) (M.unbind H) (fun x34_30 a w ea hR H => ?_)
          have hE := Env.put_some hE rfl ea; clear ea
          refine d_calll (i := 13) (unb 24 2097151) rfl rfl rfl hT (oneM hM (by kernel_rfl)) rfl hE hR (wanted_of rfl hE rfl rfl rfl) cl_ramblelaw23_told rfl (S_ramblelaw23_told x34_30 (IntKind.wrap .i64 x1)) (M.unbind H) (fun x37_31 a w ea hR H => ?_)
          have hE := Env.put_some hE rfl ea; clear ea
          refine d_calll (i := 21) (unb 24 4194303) rfl rfl rfl hT (oneM hM (by kernel_rfl)) rfl hE hR (wanted_of rfl hE rfl rfl rfl) cl_slices_Equal_slramblelaw23_line_ramblelaw23_line rfl (S_slices_Equal_slramblelaw23_line_ramblelaw23_line x37_31 x44_29) (M.unbind H) (fun x45_32 a w ea hR H => ?_)
          have hE := Env.put_some hE rfl ea; clear ea
          refine d_pureg (i := 22) (v := .bool x45_32) (unb 24 8388607) rfl rfl hT (anyM hM (by kernel_rfl)) hE rfl (wanted_none rfl) (fun w => r_pick_t hE rfl rfl) (fun a hE => ?_)
          refine d_pureg (i := 23) (v := .bool x45_32) (unb 24 16777215) rfl rfl hT (anyM hM (by kernel_rfl)) hE rfl (wanted_none rfl) (fun w => r_assign hE rfl) (fun a hE => ?_)
          refine d_done hT (doneM hM (by kernel_rfl)) ?_
          exact ⟨x45_32, hE.cut (.cons rfl Subs.nil), hR, H⟩
        · replace H := M.ite_f hb_28 H
          refine d_pureg (i := 7) (v := .bool x30_27) (unb 24 255) rfl rfl hT (anyM hM (by kernel_rfl)) hE rfl (wanted_none rfl) (fun w => r_pick_t hE rfl rfl) (fun a hE => ?_)
          refine d_pureg (i := 8) (v := .bool x30_27) (unb 24 511) rfl rfl hT (anyM hM (by kernel_rfl)) hE rfl (wanted_none rfl) (fun w => r_move hE rfl) (fun a hE => ?_)
          have hE := hE.reb 32 x30_27 false hb_28 rfl
          replace hE := hE.cut (l' := [(0, .string x0), (1, .int .u8 x1), (5, (x5_6 : Sl).v), (32, .bool false)]) (.cons rfl (.cons rfl (.cons rfl (.cons rfl Subs.nil))))
          refine d_offsM' [(9, some 33), (10, some 34), (11, some 35), (12, some 36), (13, some 37), (14, some 38), (15, some 39), (16, some 40), (17, some 41), (18, some 42), (19, some 43), (20, some 44), (21, some 45)] 2 hT hM hE (by kernel_rfl) (m' := 4194303) (by kernel_rfl) (fun a hE => ?_)
          refine d_pureg (i := 22) (v := .bool false) (unb 24 8388607) rfl rfl hT (anyM hM (by kernel_rfl)) hE rfl (wanted_none rfl) (fun w => r_pick_f hE rfl rfl) (fun a hE => ?_)
          refine d_pureg (i := 23) (v := .bool false) (unb 24 16777215) rfl rfl hT (anyM hM (by kernel_rfl)) hE rfl (wanted_none rfl) (fun w => r_assign hE rfl) (fun a hE => ?_)
          refine d_done hT (doneM hM (by kernel_rfl)) ?_
          exact ⟨false, hE.cut (.cons rfl Subs.nil), hR, H⟩
      · replace H := M.ite_f hb_24 H
        refine d_pureg (i := 1) (v := .bool x24_23) (unb 24 3) rfl rfl hT (anyM hM (by kernel_rfl)) hE rfl (wanted_none rfl) (fun w => r_move hE rfl) (fun a hE => ?_)
        have hE := hE.reb 25 x24_23 false hb_24 rfl
        replace hE := hE.cut (l' := [(0, .string x0), (1, .int .u8 x1), (5, (x5_6 : Sl).v), (25, .bool false)]) (.cons rfl (.cons rfl (.cons rfl (.cons rfl Subs.nil))))
        refine d_offsM' [(2, some 26), (3, some 27), (4, some 28), (5, some 29), (6, some 30)] 17 hT hM hE (by kernel_rfl) (m' := 127) (by kernel_rfl) (fun a hE => ?_)
        refine d_pureg (i := 7) (v := .bool false) (unb 24 255) rfl rfl hT (anyM hM (by kernel_rfl)) hE rfl (wanted_none rfl) (fun w => r_pick_f hE rfl rfl) (fun a hE => ?_)
        refine d_pureg (i := 8) (v := .bool false) (unb 24 511) rfl rfl hT (anyM hM (by kernel_rfl)) hE rfl (wanted_none rfl) (fun w => r_move hE rfl) (fun a hE => ?_)
        refine d_offsM' [(9, some 33), (10, some 34), (11, some 35), (12, some 36), (13, some 37), (14, some 38), (15, some 39), (16, some 40), (17, some 41), (18, some 42), (19, some 43), (20, some 44), (21, some 45)] 2 hT hM hE (by kernel_rfl) (m' := 4194303) (by kernel_rfl) (fun a hE => ?_)
        refine d_pureg (i := 22) (v := .bool false) (unb 24 8388607) rfl rfl hT (anyM hM (by kernel_rfl)) hE rfl (wanted_none rfl) (fun w => r_pick_f hE rfl rfl) (fun a hE => ?_)
        refine d_pureg (i := 23) (v := .bool false) (unb 24 16777215) rfl rfl hT (anyM hM (by kernel_rfl)) hE rfl (wanted_none rfl) (fun w => r_assign hE rfl) (fun a hE => ?_)
        refine d_done hT (doneM hM (by kernel_rfl)) ?_
        exact ⟨false, hE.cut (.cons rfl Subs.nil), hR, H⟩

/-- ramble/rambleref02.num -/
def rambleref02_num (x0 : Int) (x1 : Int) : M (Int) := do
  M.ite (decide (x0 < x1)) (do
    M.pure (-1)
    ) (do
    M.ite (decide (x0 > x1)) (do
      M.pure 1
      ) (do
      M.pure 0
      )
    )
theorem S_rambleref02_num (x0 : Int) (x1 : Int) : Sound Go.Proofs.Tryd.prog 72 #[.int .i64 x0, .int .i64 x1] (fun (r : Int) => .int .i64 r) (rambleref02_num x0 x1) := by
  refine sound_of [(0, .int .i64 x0), (1, .int .i64 x1)] Go.Proofs.Tryd.func72 rfl rfl (Nat.le_of_ble_eq_true rfl) (args_of ⟨rfl, rfl, trivial⟩) (fun w0 w Q R a hret hE hR H => ?_)
  unfold rambleref02_num at H
  refine w_seq (fun K hK_1 => ?_)
  refine t_region ?_
  refine t_val (v := .int .i64 0) rfl rfl hE rfl (r_assign hE rfl) (fun a hE => ?_)
  refine t_nil ?_
  refine hK_1 _ _ ?_
  refine w_seq (fun K hK_2 => ?_)
  refine w_seq (fun K hK_3 => ?_)
  refine t_region ?_
  refine t_val (v := .int .i64 x0) rfl rfl hE rfl (r_move hE rfl) (fun a hE => ?_)
  refine t_val (v := .int .i64 x1) rfl rfl hE rfl (r_move hE rfl) (fun a hE => ?_)
  refine t_val (v := .bool (decide (x0 < x1))) rfl rfl hE rfl (r_bin hE rfl rfl g_int b_lss) (fun a hE => ?_)
  refine t_nil ?_
  refine hK_3 _ _ ?_
  refine w_cond (decide (x0 < x1)) hE rfl (fun hb => ?_) (fun hb => ?_)
  · replace H := M.ite_t hb H
    refine w_seq (fun K hK_4 => ?_)
    refine t_region ?_
    refine t_val (v := .int .i64 (-1)) rfl rfl hE rfl (r_assign hE rfl) (fun a hE => ?_)
    refine t_nil ?_
    refine hK_4 _ _ ?_
    refine w_ret ?_
    exact hret _ _ _ (-1) _ hE hR (res_run hE rfl (RV.tmp rfl RV.nil)) rfl H
  · replace H := M.ite_f hb H
    refine w_skip ?_
    refine hK_2 _ _ ?_
    refine w_seq (fun K hK_5 => ?_)
    refine w_seq (fun K hK_6 => ?_)
    refine t_region ?_
    refine t_val (v := .int .i64 x0) rfl rfl hE rfl (r_move hE rfl) (fun a hE => ?_)
    refine t_val (v := .int .i64 x1) rfl rfl hE rfl (r_move hE rfl) (fun a hE => ?_)
    refine t_val (v := .bool (decide (x0 > x1))) rfl rfl hE rfl (r_bin hE rfl rfl g_int b_gtr) (fun a hE => ?_)
    refine t_nil ?_
    refine hK_6 _ _ ?_
    refine w_cond (decide (x0 > x1)) hE rfl (fun hb => ?_) (fun hb => ?_)
    · replace H := M.ite_t hb H
      refine w_seq (fun K hK_7 => ?_)
      refine t_region ?_
      refine t_val (v := .int .i64 1) rfl rfl hE rfl (r_assign hE rfl) (fun a hE => ?_)
      refine t_nil ?_
      refine hK_7 _ _ ?_
      refine w_ret ?_
      exact hret _ _ _ 1 _ hE hR (res_run hE rfl (RV.tmp rfl RV.nil)) rfl H
    · replace H := M.ite_f hb H
      refine w_skip ?_
      refine hK_5 _ _ ?_
      refine w_seq (fun K hK_8 => ?_)
      refine t_region ?_
      refine t_val (v := .int .i64 0) rfl rfl hE rfl (r_assign hE rfl) (fun a hE => ?_)
      refine t_nil ?_
      refine hK_8 _ _ ?_
      refine w_ret ?_
      exact hret _ _ _ 0 _ hE hR (res_run hE rfl (RV.tmp rfl RV.nil)) rfl H

/-- ramble/rambleref02.text -/
theorem tb73_4 : tabAt Go.Proofs.Tryd.f73 4 [[], [], [0, 1], [], [], [3, 4], [2, 5]] [[], [], [0, 1], [], [], [3, 4], [2, 5]] [[], [], [0, 1], [], [], [3, 4], [0, 1, 2, 3, 4, 5]] = true := by kernel_rfl
theorem tb73_5 : tabAt Go.Proofs.Tryd.f73 5 [[], [], [0, 1], [2], [], [], [4, 5], [6], [3, 7], [8, 8, 0, 1, 2, 3, 4, 5, 6, 7, 8]] [[], [], [0, 1], [2], [], [], [4, 5], [6], [3, 7], [8]] [[], [], [0, 1], [0, 1, 2], [], [], [4, 5], [4, 5, 6], [0, 1, 2, 3, 4, 5, 6, 7], [0, 1, 2, 3, 4, 5, 6, 7, 8]] = true := by kernel_rfl
def rambleref02_text_l1 (c0_5 : ByteArray) (c1_6 : ByteArray) (self1 : (Int) → M (Int)) : (Int) → M (Int) := fun s => match s with
  | x5_4 => do
    let x15_10 ← M.ite (decide (x5_4 < (c0_5.size : Int))) (do
      M.pure (decide (x5_4 < (c1_6.size : Int)))
      ) (do
      M.pure false
      )
    M.ite x15_10 (do
      let x20_13 ← ixS c0_5 x5_4
      let x23_14 ← ixS c1_6 x5_4
      M.ite (x20_13 != x23_14) (do
        let x27_16 ← ixS c0_5 x5_4
        let x31_17 ← ixS c1_6 x5_4
        let x33_18 ← rambleref02_num (IntKind.wrap .i64 x27_16) (IntKind.wrap .i64 x31_17)
        M.pure x33_18
        ) (do
        self1 (IntKind.wrap .i64 (x5_4 + 1))
        )
      ) (do
      let x38_20 ← rambleref02_num (c0_5.size : Int) (c1_6.size : Int)
      M.pure x38_20
      )
def rambleref02_text (x0 : ByteArray) (x1 : ByteArray) : M (Int) := do
  M.loop (rambleref02_text_l1 x0 x1) 0
theorem S_rambleref02_text (x0 : ByteArray) (x1 : ByteArray) : Sound Go.Proofs.Tryd.prog 73 #[.string x0, .string x1] (fun (r : Int) => .int .i64 r) (rambleref02_text x0 x1) := by
  refine sound_of [(0, .string x0), (1, .string x1)] Go.Proofs.Tryd.func73 rfl rfl (Nat.le_of_ble_eq_true rfl) (args_of ⟨rfl, rfl, trivial⟩) (fun w0 w Q R a hret hE hR H => ?_)
  unfold rambleref02_text at H
  refine w_seq (fun K hK_1 => ?_)
  refine t_region ?_
  refine t_val (v := .int .i64 0) rfl rfl hE rfl (r_assign hE rfl) (fun a hE => ?_)
  refine t_nil ?_
  refine hK_1 _ _ ?_
  refine w_seq (fun K hK_2 => ?_)
  refine w_seq (fun K hK_3 => ?_)
  refine t_region ?_
  refine t_val (v := .int .i64 0) rfl rfl hE rfl (r_assign hE rfl) (fun a hE => ?_)
  refine t_nil ?_
  refine hK_3 _ _ ?_
  refine w_block ?_
  refine l_loop (fun (s : Int) => (⟨39, []⟩ : Frm)) (fun (s : Int) => [(0, .string x0), (1, .string x1), (5, .int .i64 s)]) H (hE.cut (.cons rfl (.cons rfl (.cons rfl Subs.nil)))) hR (fun Y self1 hY_7 x5_4 a w hE hR H => ?_)
  replace hE : Env (⟨39, []⟩ : Frm) a [(0, .string x0), (1, .string x1), (5, .int .i64 x5_4)] := hE
  replace H : (rambleref02_text_l1 x0 x1 self1 x5_4).wp w.heap Q := H
  unfold rambleref02_text_l1 at H
  refine w_seq (fun K hK_8 => ?_)
  refine w_seq (fun K hK_9 => ?_)
  refine t_region ?_
  refine t_val (v := .int .i64 x5_4) rfl rfl hE rfl (r_move hE rfl) (fun a hE => ?_)
  refine t_val (v := .string x0) rfl rfl hE rfl (r_move hE rfl) (fun a hE => ?_)
  refine t_val (v := .int .i64 (x0.size : Int)) rfl rfl hE rfl (r_lenS hE rfl un9) (fun a hE => ?_)
  refine t_val (v := .bool (decide (x5_4 < (x0.size : Int)))) rfl rfl hE rfl (r_bin hE rfl rfl g_int b_lss) (fun a hE => ?_)
  refine t_val (v := .bool (decide (x5_4 < (x0.size : Int)))) rfl rfl hE rfl (r_move hE rfl) (fun a hE => ?_)
  refine t_grp (n := (⟨39, []⟩ : Frm)) (w0 := w0) 5 (fun x15_10 : Bool => [(0, .string x0), (1, .string x1), (5, .int .i64 x5_4), (15, .bool x15_10)]) (M.unbind H) (fun Kr hKr H => ?_) ?_
  · rcases bool_em (decide (x5_4 < (x0.size : Int))) with hb | hb
    · replace H := M.ite_t hb H
      have hE := hE.reb 10 (decide (x5_4 < (x0.size : Int))) true hb rfl
      refine t_on rfl hE rfl rfl rfl ?_
      refine t_val (v := .int .i64 x5_4) rfl rfl hE rfl (r_move hE rfl) (fun a hE => ?_)
      refine t_on rfl hE rfl rfl rfl ?_
      refine t_val (v := .string x1) rfl rfl hE rfl (r_move hE rfl) (fun a hE => ?_)
      refine t_on rfl hE rfl rfl rfl ?_
      refine t_val (v := .int .i64 (x1.size : Int)) rfl rfl hE rfl (r_lenS hE rfl un9) (fun a hE => ?_)
      refine t_on rfl hE rfl rfl rfl ?_
      refine t_val (v := .bool (decide (x5_4 < (x1.size : Int)))) rfl rfl hE rfl (r_bin hE rfl rfl g_int b_lss) (fun a hE => ?_)
      refine t_val rfl rfl hE rfl (r_pick_t hE rfl rfl) (fun a hE => ?_)
      refine t_nil ?_
      exact hKr _ _ _ (hE.cut (.cons rfl (.cons rfl (.cons rfl (.cons rfl Subs.nil))))) hR H
    · replace H := M.ite_f hb H
      have hE := hE.reb 10 (decide (x5_4 < (x0.size : Int))) false hb rfl
      refine t_off rfl hE rfl rfl rfl (fun a ea => ?_)
      have hE := Env.put_some hE rfl ea; clear ea
      refine t_off rfl hE rfl rfl rfl (fun a ea => ?_)
      have hE := Env.put_some hE rfl ea; clear ea
      refine t_off rfl hE rfl rfl rfl (fun a ea => ?_)
      have hE := Env.put_some hE rfl ea; clear ea
      refine t_off rfl hE rfl rfl rfl (fun a ea => ?_)
      have hE := Env.put_some hE rfl ea; clear ea
      refine t_val rfl rfl hE rfl (r_pick_f hE rfl rfl) (fun a hE => ?_)
      refine t_nil ?_
      exact hKr _ _ _ (hE.cut (.cons rfl (.cons rfl (.cons rfl (.cons rfl Subs.nil))))) hR H
  · intro x15_10 a w hE hR H
    refine t_nil ?_
    refine hK_9 _ _ ?_
    refine w_cond x15_10 hE rfl (fun hb => ?_) (fun hb => ?_)
    · replace H := M.ite_t hb H
      refine w_skip ?_
      refine hK_8 _ _ ?_
      refine w_seq (fun K hK_11 => ?_)
      refine w_block ?_
      refine w_seq (fun K hK_12 => ?_)
      obtain ⟨x20_13, qx20_13, H⟩ := H
      obtain ⟨x23_14, qx23_14, H⟩ := H
      have hT := tab_of tb73_4 rfl rfl
      refine d_start (fun w : World => (fun h : Heap => True) w.heap) [0, 1, 2, 3, 4, 5, 6] #[false, false, false, false, false, false, false] mo hR rfl rfl (fun w' e => by rw [e]; exact trivial) (fun w hh hR hs => ?_)
      replace H := M.at hh H; clear hh
      refine d_pureg (i := 0) (v := .string x0) #[true, false, false, false, false, false, false] rfl rfl hT (by kernel_rfl) hE rfl (wanted_none rfl) (fun w => r_move hE rfl) (fun a hE => ?_)
      refine d_pureg (i := 1) (v := .int .i64 x5_4) #[true, true, false, false, false, false, false] rfl rfl hT (by kernel_rfl) hE rfl (wanted_none rfl) (fun w => r_move hE rfl) (fun a hE => ?_)
      refine d_pureg (i := 2) (v := .int .u8 x20_13) #[true, true, true, false, false, false, false] rfl rfl hT (by kernel_rfl) hE rfl (wanted_none rfl) (fun w => r_indexS hE rfl rfl un9 qx20_13) (fun a hE => ?_)
      refine d_pureg (i := 3) (v := .string x1) #[true, true, true, true, false, false, false] rfl rfl hT (by kernel_rfl) hE rfl (wanted_none rfl) (fun w => r_move hE rfl) (fun a hE => ?_)
      refine d_pureg (i := 4) (v := .int .i64 x5_4) #[true, true, true, true, true, false, false] rfl rfl hT (by kernel_rfl) hE rfl (wanted_none rfl) (fun w => r_move hE rfl) (fun a hE => ?_)
      refine d_pureg (i := 5) (v := .int .u8 x23_14) #[true, true, true, true, true, true, false] rfl rfl hT (by kernel_rfl) hE rfl (wanted_none rfl) (fun w => r_indexS hE rfl rfl un9 qx23_14) (fun a hE => ?_)
      refine d_pureg (i := 6) (v := .bool (x20_13 != x23_14)) #[true, true, true, true, true, true, true] rfl rfl hT (by kernel_rfl) hE rfl (wanted_none rfl) (fun w => r_bin hE rfl rfl g_int b_neq) (fun a hE => ?_)
      refine d_done hT (by kernel_rfl) ?_
      refine hK_12 _ _ ?_
      refine w_cond (x20_13 != x23_14) hE rfl (fun hb => ?_) (fun hb => ?_)
      · replace H := M.ite_t hb H
        refine w_seq (fun K hK_15 => ?_)
        obtain ⟨x27_16, qx27_16, H⟩ := H
        obtain ⟨x31_17, qx31_17, H⟩ := H
        have hT := tab_of tb73_5 rfl rfl
        refine d_start (fun w : World => (fun h : Heap => True) w.heap) [0, 1, 2, 3, 4, 5, 6, 7, 8, 9] #[false, false, false, false, false, false, false, false, false, false] mo hR rfl rfl (fun w' e => by rw [e]; exact trivial) (fun w hh hR hs => ?_)
        replace H := M.at hh H; clear hh
        refine d_pureg (i := 0) (v := .string x0) #[true, false, false, false, false, false, false, false, false, false] rfl rfl hT (by kernel_rfl) hE rfl (wanted_none rfl) (fun w => r_move hE rfl) (fun a hE => ?_)
        refine d_pureg (i := 1) (v := .int .i64 x5_4) #[true, true, false, false, false, false, false, false, false, false] rfl rfl hT (by kernel_rfl) hE rfl (wanted_none rfl) (fun w => r_move hE rfl) (fun a hE => ?_)
        refine d_pureg (i := 2) (v := .int .u8 x27_16) #[true, true, true, false, false, false, false, false, false, false] rfl rfl hT (by kernel_rfl) hE rfl (wanted_none rfl) (fun w => r_indexS hE rfl rfl un9 qx27_16) (fun a hE => ?_)
        refine d_pureg (i := 3) (v := .int .i64 (IntKind.wrap .i64 x27_16)) #[true, true, true, true, false, false, false, false, false, false] rfl rfl hT (by kernel_rfl) hE rfl (wanted_none rfl) (fun w => r_convI hE rfl un5 un2) (fun a hE => ?_)
        refine d_pureg (i := 4) (v := .string x1) #[true, true, true, true, true, false, false, false, false, false] rfl rfl hT (by kernel_rfl) hE rfl (wanted_none rfl) (fun w => r_move hE rfl) (fun a hE => ?_)
        refine d_pureg (i := 5) (v := .int .i64 x5_4) #[true, true, true, true, true, true, false, false, false, false] rfl rfl hT (by kernel_rfl) hE rfl (wanted_none rfl) (fun w => r_move hE rfl) (fun a hE => ?_)
        refine d_pureg (i := 6) (v := .int .u8 x31_17) #[true, true, true, true, true, true, true, false, false, false] rfl rfl hT (by kernel_rfl) hE rfl (wanted_none rfl) (fun w => r_indexS hE rfl rfl un9 qx31_17) (fun a hE => ?_)
        refine d_pureg (i := 7) (v := .int .i64 (IntKind.wrap .i64 x31_17)) #[true, true, true, true, true, true, true, true, false, false] rfl rfl hT (by kernel_rfl) hE rfl (wanted_none rfl) (fun w => r_convI hE rfl un5 un2) (fun a hE => ?_)
        refine d_calll (i := 8) #[true, true, true, true, true, true, true, true, true, false] rfl rfl rfl hT (by kernel_rfl) rfl hE hR (wanted_none rfl) cl_rambleref02_num rfl (S_rambleref02_num (IntKind.wrap .i64 x27_16) (IntKind.wrap .i64 x31_17)) (M.unbind H) (fun x33_18 a w ea hR H => ?_)
        have hE := Env.put_some hE rfl ea; clear ea
        refine d_pureg (i := 9) (v := .int .i64 x33_18) #[true, true, true, true, true, true, true, true, true, true] rfl rfl hT (by kernel_rfl) hE rfl (wanted_none rfl) (fun w => r_assign hE rfl) (fun a hE => ?_)
        refine d_done hT (by kernel_rfl) ?_
        refine hK_15 _ _ ?_
        refine w_ret ?_
        exact hret _ _ _ x33_18 _ hE hR (res_run hE rfl (RV.tmp rfl RV.nil)) rfl H
      · replace H := M.ite_f hb H
        refine w_skip ?_
        refine hK_11 _ _ ?_
        refine t_region ?_
        refine t_val (v := .int .i64 x5_4) rfl rfl hE rfl (r_move hE rfl) (fun a hE => ?_)
        refine t_val (v := .int .i64 (IntKind.wrap .i64 (x5_4 + 1))) rfl rfl hE rfl (r_bin hE rfl rfl g_int b_add) (fun a hE => ?_)
        refine t_val (v := .int .i64 (IntKind.wrap .i64 (x5_4 + 1))) rfl rfl hE rfl (r_assign hE rfl) (fun a hE => ?_)
        refine t_nil ?_
        exact hY_7 (IntKind.wrap .i64 (x5_4 + 1)) _ _ (hE.cut (.cons rfl (.cons rfl (.cons rfl Subs.nil)))) hR H
    · replace H := M.ite_f hb H
      refine w_exit ?_
      refine Xu.same ?_
      refine hK_2 _ _ ?_
      refine w_seq (fun K hK_19 => ?_)
      refine t_region ?_
      refine t_val (v := .string x0) rfl rfl hE rfl (r_move hE rfl) (fun a hE => ?_)
      refine t_val (v := .int .i64 (x0.size : Int)) rfl rfl hE rfl (r_lenS hE rfl un9) (fun a hE => ?_)
      refine t_val (v := .string x1) rfl rfl hE rfl (r_move hE rfl) (fun a hE => ?_)
      refine t_val (v := .int .i64 (x1.size : Int)) rfl rfl hE rfl (r_lenS hE rfl un9) (fun a hE => ?_)
      refine t_call hE hR cl_rambleref02_num rfl (S_rambleref02_num (x0.size : Int) (x1.size : Int)) (M.unbind H) (fun x38_20 a w ea hR H => ?_)
      have hE := Env.put_some hE rfl ea; clear ea
      refine t_val (v := .int .i64 x38_20) rfl rfl hE rfl (r_assign hE rfl) (fun a hE => ?_)
      refine t_nil ?_
      refine hK_19 _ _ ?_
      refine w_ret ?_
      exact hret _ _ _ x38_20 _ hE hR (res_run hE rfl (RV.tmp rfl RV.nil)) rfl H

/-- ramble/rambleref02.Compare -/
theorem tb48_13 : tabAt Go.Proofs.Tryd.f48 13 [[], [0], [], [1, 2], [3], [], [5], [], [6, 7], [8], [4, 9], [10, 10, 0, 1, 2, 3, 4, 5, 6, 7, 8, 9, 10]] [[], [0], [], [1, 2], [3], [], [5], [], [6, 7], [8], [4, 9], [10]] [[], [0], [], [0, 1, 2], [0, 1, 2, 3], [], [5], [], [5, 6, 7], [5, 6, 7, 8], [0, 1, 2, 3, 4, 5, 6, 7, 8, 9], [0, 1, 2, 3, 4, 5, 6, 7, 8, 9, 10]] = true := by kernel_rfl
def rambleref02_Compare_l1 (c2_28 : Addr) (c3_29 : Addr) (self1 : (Int) → M (Int)) : (Int) → M (Int) := fun s => match s with
  | x8_27 => do
    let x36_33 ← ldL ((c2_28).add 3)
    let x45_34 ← M.ite (decide (x8_27 < (x36_33.len : Int))) (do
      let x42_35 ← ldL ((c3_29).add 3)
      M.pure (decide (x8_27 < (x42_35.len : Int)))
      ) (do
      M.pure false
      )
    M.ite x45_34 (do
      let x49_38 ← ldL ((c2_28).add 3)
      let x51_39 ← ixL x49_38 x8_27 4
      let x52_40 ← ldG 4 x51_39
      let x54_41 ← ldL ((c3_29).add 3)
      let x56_42 ← ixL x54_41 x8_27 4
      let x57_43 ← ldG 4 x56_42
      let x58_44 ← callF Go.Proofs.Tryd.prog fn_rambleref02_Compare #[.agg x52_40, .agg x57_43] (fun r : Int => .int .i64 r)
      M.ite (x58_44 != 0) (do
        M.pure x58_44
        ) (do
        self1 (IntKind.wrap .i64 (x8_27 + 1))
        )
      ) (do
      let x63_48 ← ldL ((c2_28).add 3)
      let x66_49 ← ldL ((c3_29).add 3)
      let x68_50 ← rambleref02_num (x63_48.len : Int) (x66_49.len : Int)
      M.pure x68_50
      )
def rambleref02_Compare (x0 : Array Value) (x1 : Array Value) : M (Int) := do
  let x2_2 ← mkB ty_api_Value x0
  let x3_3 ← mkB ty_api_Value x1
  let x11_6 ← ldI .i64 ((x2_2).add 0)
  let x13_7 ← ldI .i64 ((x3_3).add 0)
  let x14_8 ← rambleref02_num x11_6 x13_7
  M.ite (x14_8 != 0) (do
    M.pure x14_8
    ) (do
    let x19_13 ← ldI .i64 ((x2_2).add 1)
    let x21_14 ← ldI .i64 ((x3_3).add 1)
    let x22_15 ← rambleref02_num x19_13 x21_14
    M.ite (x22_15 != 0) (do
      M.pure x22_15
      ) (do
      let x27_20 ← ldS ((x2_2).add 2)
      let x29_21 ← ldS ((x3_3).add 2)
      let x30_22 ← rambleref02_text x27_20 x29_21
      M.ite (x30_22 != 0) (do
        M.pure x30_22
        ) (do
        M.loop (rambleref02_Compare_l1 x2_2 x3_3) 0
        )
      )
    )
theorem S_rambleref02_Compare (x0 : Array Value) (x1 : Array Value) : Sound Go.Proofs.Tryd.prog 48 #[.agg x0, .agg x1] (fun (r : Int) => .int .i64 r) (rambleref02_Compare x0 x1) := by
  refine sound_of [(0, .agg x0), (1, .agg x1)] Go.Proofs.Tryd.func48 rfl rfl (Nat.le_of_ble_eq_true rfl) (args_of ⟨rfl, rfl, trivial⟩) (fun w0 w Q R a hret hE hR H => ?_)
  unfold rambleref02_Compare at H
  refine w_seq (fun K hK_1 => ?_)
  refine t_region ?_
  obtain ⟨x2_2, qx2_2, H⟩ := H
  refine t_valh (v := .pointer (some x2_2)) rfl rfl hE rfl hR (r_box hE rfl qx2_2) (fun a w hE hR hh => ?_)
  replace H := M.at hh H; clear hh
  obtain ⟨x3_3, qx3_3, H⟩ := H
  refine t_valh (v := .pointer (some x3_3)) rfl rfl hE rfl hR (r_box hE rfl qx3_3) (fun a w hE hR hh => ?_)
  replace H := M.at hh H; clear hh
  refine t_val (v := .int .i64 0) rfl rfl hE rfl (r_assign hE rfl) (fun a hE => ?_)
  refine t_nil ?_
  refine hK_1 _ _ ?_
  refine w_seq (fun K hK_4 => ?_)
  refine w_seq (fun K hK_5 => ?_)
  refine t_region ?_
  refine t_val (v := .pointer (some ((x2_2).add 0))) rfl rfl hE rfl (r_fieldAddr hE rfl fd42_0) (fun a hE => ?_)
  obtain ⟨x11_6, qx11_6, H⟩ := H
  refine t_val (v := .int .i64 x11_6) rfl rfl hE rfl (r_load hE rfl sc3 qx11_6) (fun a hE => ?_)
  refine t_val (v := .pointer (some ((x3_3).add 0))) rfl rfl hE rfl (r_fieldAddr hE rfl fd42_0) (fun a hE => ?_)
  obtain ⟨x13_7, qx13_7, H⟩ := H
  refine t_val (v := .int .i64 x13_7) rfl rfl hE rfl (r_load hE rfl sc3 qx13_7) (fun a hE => ?_)
  refine t_call hE hR cl_rambleref02_num rfl (S_rambleref02_num x11_6 x13_7) (M.unbind H) (fun x14_8 a w ea hR H => ?_)
  have hE := Env.put_some hE rfl ea; clear ea
  refine t_val (v := .int .i64 x14_8) rfl rfl hE rfl (r_assign hE rfl) (fun a hE => ?_)
  refine t_nil ?_
  refine hK_5 _ _ ?_
  refine w_seq (fun K hK_9 => ?_)
  refine t_region ?_
  refine t_val (v := .int .i64 x14_8) rfl rfl hE rfl (r_move hE rfl) (fun a hE => ?_)
  refine t_val (v := .bool (x14_8 != 0)) rfl rfl hE rfl (r_bin hE rfl rfl g_int b_neq) (fun a hE => ?_)
  refine t_nil ?_
  refine hK_9 _ _ ?_
  refine w_cond (x14_8 != 0) hE rfl (fun hb => ?_) (fun hb => ?_)
  · replace H := M.ite_t hb H
    refine w_seq (fun K hK_10 => ?_)
    refine t_region ?_
    refine t_val (v := .int .i64 x14_8) rfl rfl hE rfl (r_move hE rfl) (fun a hE => ?_)
    refine t_val (v := .int .i64 x14_8) rfl rfl hE rfl (r_assign hE rfl) (fun a hE => ?_)
    refine t_nil ?_
    refine hK_10 _ _ ?_
    refine w_ret ?_
    exact hret _ _ _ x14_8 _ hE hR (res_run hE rfl (RV.tmp rfl RV.nil)) rfl H
  · replace H := M.ite_f hb H
    refine w_skip ?_
    refine hK_4 _ _ ?_
    refine w_seq (fun K hK_11 => ?_)
    refine w_seq (fun K hK_12 => ?_)
    refine t_region ?_
    refine t_val (v := .pointer (some ((x2_2).add 1))) rfl rfl hE rfl (r_fieldAddr hE rfl fd42_1) (fun a hE => ?_)
    obtain ⟨x19_13, qx19_13, H⟩ := H
    refine t_val (v := .int .i64 x19_13) rfl rfl hE rfl (r_load hE rfl sc2 qx19_13) (fun a hE => ?_)
    refine t_val (v := .pointer (some ((x3_3).add 1))) rfl rfl hE rfl (r_fieldAddr hE rfl fd42_1) (fun a hE => ?_)
    obtain ⟨x21_14, qx21_14, H⟩ := H
    refine t_val (v := .int .i64 x21_14) rfl rfl hE rfl (r_load hE rfl sc2 qx21_14) (fun a hE => ?_)
    refine t_call hE hR cl_rambleref02_num rfl (S_rambleref02_num x19_13 x21_14) (M.unbind H) (fun x22_15 a w ea hR H => ?_)
    have hE := Env.put_some hE rfl ea; clear ea
    refine t_val (v := .int .i64 x22_15) rfl rfl hE rfl (r_assign hE rfl) (fun a hE => ?_)
    refine t_nil ?_
    refine hK_12 _ _ ?_
    refine w_seq (fun K hK_16 => ?_)
    refine t_region ?_
    refine t_val (v := .int .i64 x22_15) rfl rfl hE rfl (r_move hE rfl) (fun a hE => ?_)
    refine t_val (v := .bool (x22_15 != 0)) rfl rfl hE rfl (r_bin hE rfl rfl g_int b_neq) (fun a hE => ?_)
    refine t_nil ?_
    refine hK_16 _ _ ?_
    refine w_cond (x22_15 != 0) hE rfl (fun hb => ?_) (fun hb => ?_)
    · replace H := M.ite_t hb H
      refine w_seq (fun K hK_17 => ?_)
      refine t_region ?_
      refine t_val (v := .int .i64 x22_15) rfl rfl hE rfl (r_move hE rfl) (fun a hE => ?_)
      refine t_val (v := .int .i64 x22_15) rfl rfl hE rfl (r_assign hE rfl) (fun a hE => ?_)
      refine t_nil ?_
      refine hK_17 _ _ ?_
      refine w_ret ?_
      exact hret _ _ _ x22_15 _ hE hR (res_run hE rfl (RV.tmp rfl RV.nil)) rfl H
    · replace H := M.ite_f hb H
      refine w_skip ?_
      refine hK_11 _ _ ?_
      refine w_seq (fun K hK_18 => ?_)
      refine w_seq (fun K hK_19 => ?_)
      refine t_region ?_
      refine t_val (v := .pointer (some ((x2_2).add 2))) rfl rfl hE rfl (r_fieldAddr hE rfl fd42_2) (fun a hE => ?_)
      obtain ⟨x27_20, qx27_20, H⟩ := H
      refine t_val (v := .string x27_20) rfl rfl hE rfl (r_load hE rfl sc9 qx27_20) (fun a hE => ?_)
      refine t_val (v := .pointer (some ((x3_3).add 2))) rfl rfl hE rfl (r_fieldAddr hE rfl fd42_2) (fun a hE => ?_)
      obtain ⟨x29_21, qx29_21, H⟩ := H
      refine t_val (v := .string x29_21) rfl rfl hE rfl (r_load hE rfl sc9 qx29_21) (fun a hE => ?_)
      refine t_call hE hR cl_rambleref02_text rfl (S_rambleref02_text x27_20 x29_21) (M.unbind H) (fun x30_22 a w ea hR H => ?_)
      have hE := Env.put_some hE rfl ea; clear ea
      refine t_val (v := .int .i64 x30_22) rfl rfl hE rfl (r_assign hE rfl) (fun a hE => ?_)
      refine t_nil ?_
      refine hK_19 _ _ ?_
      refine w_seq (fun K hK_23 => ?_)
      refine t_region ?_
      refine t_val (v := .int .i64 x30_22) rfl rfl hE rfl (r_move hE rfl) (fun a hE => ?_)
      refine t_val (v := .bool (x30_22 != 0)) rfl rfl hE rfl (r_bin hE rfl rfl g_int b_neq) (fun a hE => ?_)
      refine t_nil ?_
      refine hK_23 _ _ ?_
      refine w_cond (x30_22 != 0) hE rfl (fun hb => ?_) (fun hb => ?_)
      · replace H := M.ite_t hb H
        refine w_seq (fun K hK_24 => ?_)
        refine t_region ?_
        refine t_val (v := .int .i64 x30_22) rfl rfl hE rfl (r_move hE rfl) (fun a hE => ?_)
        refine t_val (v := .int .i64 x30_22) rfl rfl hE rfl (r_assign hE rfl) (fun a hE => ?_)
        refine t_nil ?_
        refine hK_24 _ _ ?_
        refine w_ret ?_
        exact hret _ _ _ x30_22 _ hE hR (res_run hE rfl (RV.tmp rfl RV.nil)) rfl H
      · replace H := M.ite_f hb H
        refine w_skip ?_
        refine hK_18 _ _ ?_
        refine w_seq (fun K hK_25 => ?_)
        refine w_seq (fun K hK_26 => ?_)
        refine t_region ?_
        refine t_val (v := .int .i64 0) rfl rfl hE rfl (r_assign hE rfl) (fun a hE => ?_)
        refine t_nil ?_
        refine hK_26 _ _ ?_
        refine w_block ?_
        refine l_loop (fun (s : Int) => (⟨69, []⟩ : Frm)) (fun (s : Int) => [(2, .pointer (some x2_2)), (3, .pointer (some x3_3)), (8, .int .i64 s)]) H (hE.cut (.cons rfl (.cons rfl (.cons rfl Subs.nil)))) hR (fun Y self1 hY_30 x8_27 a w hE hR H => ?_)
        replace hE : Env (⟨69, []⟩ : Frm) a [(2, .pointer (some x2_2)), (3, .pointer (some x3_3)), (8, .int .i64 x8_27)] := hE
        replace H : (rambleref02_Compare_l1 x2_2 x3_3 self1 x8_27).wp w.heap Q := H
        unfold rambleref02_Compare_l1 at H
        refine w_seq (fun K hK_31 => ?_)
        refine w_seq (fun K hK_32 => ?_)
        refine t_region ?_
        refine t_val (v := .int .i64 x8_27) rfl rfl hE rfl (r_move hE rfl) (fun a hE => ?_)
        refine t_val (v := .pointer (some ((x2_2).add 3))) rfl rfl hE rfl (r_fieldAddr hE rfl fd42_3) (fun a hE => ?_)
        obtain ⟨x36_33, qx36_33, H⟩ := H
        refine t_val (v := (x36_33 : Sl).v) rfl rfl hE rfl (r_load hE rfl sc22 qx36_33) (fun a hE => ?_)
        refine t_val (v := .int .i64 (x36_33.len : Int)) rfl rfl hE rfl (r_len hE rfl 42 un22) (fun a hE => ?_)
        refine t_val (v := .bool (decide (x8_27 < (x36_33.len : Int)))) rfl rfl hE rfl (r_bin hE rfl rfl g_int b_lss) (fun a hE => ?_)
        refine t_val (v := .bool (decide (x8_27 < (x36_33.len : Int)))) rfl rfl hE rfl (r_move hE rfl) (fun a hE => ?_)
        refine t_grp (n := (⟨69, []⟩ : Frm)) (w0 := w0) 6 (fun x45_34 : Bool => [(2, .pointer (some x2_2)), (3, .pointer (some x3_3)), (8, .int .i64 x8_27), (45, .bool x45_34)]) (M.unbind H) (fun Kr hKr H => ?_) ?_
        · rcases bool_em (decide (x8_27 < (x36_33.len : Int))) with hb | hb
          · replace H := M.ite_t hb H
            have hE := hE.reb 39 (decide (x8_27 < (x36_33.len : Int))) true hb rfl
            refine t_on rfl hE rfl rfl rfl ?_
            refine t_val (v := .int .i64 x8_27) rfl rfl hE rfl (r_move hE rfl) (fun a hE => ?_)
            refine t_on rfl hE rfl rfl rfl ?_
            refine t_val (v := .pointer (some ((x3_3).add 3))) rfl rfl hE rfl (r_fieldAddr hE rfl fd42_3) (fun a hE => ?_)
            refine t_on rfl hE rfl rfl rfl ?_
            obtain ⟨x42_35, qx42_35, H⟩ := H
            refine t_val (v := (x42_35 : Sl).v) rfl rfl hE rfl (r_load hE rfl sc22 qx42_35) (fun a hE => ?_)
            refine t_on rfl hE rfl rfl rfl ?_
            refine t_val (v := .int .i64 (x42_35.len : Int)) rfl rfl hE rfl (r_len hE rfl 42 un22) (fun a hE => ?_)
            refine t_on rfl hE rfl rfl rfl ?_
            refine t_val (v := .bool (decide (x8_27 < (x42_35.len : Int)))) rfl rfl hE rfl (r_bin hE rfl rfl g_int b_lss) (fun a hE => ?_)
            refine t_val rfl rfl hE rfl (r_pick_t hE rfl rfl) (fun a hE => ?_)
            refine t_nil ?_
            exact hKr _ _ _ (hE.cut (.cons rfl (.cons rfl (.cons rfl (.cons rfl Subs.nil))))) hR H
          · replace H := M.ite_f hb H
            have hE := hE.reb 39 (decide (x8_27 < (x36_33.len : Int))) false hb rfl
            refine t_off rfl hE rfl rfl rfl (fun a ea => ?_)
            have hE := Env.put_some hE rfl ea; clear ea
            refine t_off rfl hE rfl rfl rfl (fun a ea => ?_)
            have hE := Env.put_some hE rfl ea; clear ea
            refine t_off rfl hE rfl rfl rfl (fun a ea => ?_)
            have hE := Env.put_some hE rfl ea; clear ea
            refine t_off rfl hE rfl rfl rfl (fun a ea => ?_)
            have hE := Env.put_some hE rfl ea; clear ea
            refine t_off rfl hE rfl rfl rfl (fun a ea => ?_)
            have hE := Env.put_some hE rfl ea; clear ea
            refine t_val rfl rfl hE rfl (r_pick_f hE rfl rfl) (fun a hE => ?_)
            refine t_nil ?_
            exact hKr _ _ _ (hE.cut (.cons rfl (.cons rfl (.cons rfl (.cons rfl Subs.nil))))) hR H
        · intro x45_34 a w hE hR H
          refine t_nil ?_
          refine hK_32 _ _ ?_
          refine w_cond x45_34 hE rfl (fun hb => ?_) (fun hb => ?_)
          · replace H := M.ite_t hb H
            refine w_skip ?_
            refine hK_31 _ _ ?_
            refine w_seq (fun K hK_36 => ?_)
            refine w_block ?_
            refine w_seq (fun K hK_37 => ?_)
            obtain ⟨x49_38, qx49_38, H⟩ := H
            obtain ⟨x51_39, qx51_39, H⟩ := H
            obtain ⟨x52_40, qx52_40, H⟩ := H
            obtain ⟨x54_41, qx54_41, H⟩ := H
            obtain ⟨x56_42, qx56_42, H⟩ := H
            obtain ⟨x57_43, qx57_43, H⟩ := H
            have hT := tab_of tb48_13 rfl rfl
            refine d_start (fun w : World => (fun h : Heap => (hcell h ((x2_2).add 3) = some ((x49_38 : Sl).v)) ∧ (x52_40.size = 4 ∧ ∀ i, i < 4 → hcell h (Addr.add x51_39 i) = x52_40[i]?) ∧ (hcell h ((x3_3).add 3) = some ((x54_41 : Sl).v)) ∧ (x57_43.size = 4 ∧ ∀ i, i < 4 → hcell h (Addr.add x56_42 i) = x57_43[i]?)) w.heap) [10, 11] #[false, false, false, false, false, false, false, false, false, false, false, false] mo hR rfl rfl (fun w' e => by rw [e]; exact ⟨qx49_38, qx52_40, qx54_41, qx57_43⟩) (fun w hh hR hs => ?_)
            replace H := M.at hh H; clear hh
            refine d_pureg (i := 0) (v := .pointer (some ((x2_2).add 3))) #[true, false, false, false, false, false, false, false, false, false, false, false] rfl rfl hT (by kernel_rfl) hE rfl (wanted_none rfl) (fun w => r_fieldAddr hE rfl fd42_3) (fun a hE => ?_)
            refine d_pureg (i := 2) (v := .int .i64 x8_27) #[true, false, true, false, false, false, false, false, false, false, false, false] rfl rfl hT (by kernel_rfl) hE rfl (wanted_none rfl) (fun w => r_move hE rfl) (fun a hE => ?_)
            refine d_pureg (i := 5) (v := .pointer (some ((x3_3).add 3))) #[true, false, true, false, false, true, false, false, false, false, false, false] rfl rfl hT (by kernel_rfl) hE rfl (wanted_none rfl) (fun w => r_fieldAddr hE rfl fd42_3) (fun a hE => ?_)
            refine d_pureg (i := 7) (v := .int .i64 x8_27) #[true, false, true, false, false, true, false, true, false, false, false, false] rfl rfl hT (by kernel_rfl) hE rfl (wanted_none rfl) (fun w => r_move hE rfl) (fun a hE => ?_)
            refine d_read (i := 1) (v := (x49_38 : Sl).v) #[true, true, true, false, false, true, false, true, false, false, false, false] rfl rfl hT (by kernel_rfl) hE rfl (wanted_none rfl) hs (fun w s => r_load hE rfl sc22 s.1) (fun a hE => ?_)
            refine d_pureg (i := 3) (v := .pointer (some x51_39)) #[true, true, true, true, false, true, false, true, false, false, false, false] rfl rfl hT (by kernel_rfl) hE rfl (wanted_none rfl) (fun w => r_indexAddrL hE rfl rfl un22 sz42 qx51_39) (fun a hE => ?_)
            refine d_read (i := 4) (v := .agg x52_40) #[true, true, true, true, true, true, false, true, false, false, false, false] rfl rfl hT (by kernel_rfl) hE rfl (wanted_none rfl) hs (fun w s => r_loadG hE rfl ag42 s.2.1) (fun a hE => ?_)
            refine d_read (i := 6) (v := (x54_41 : Sl).v) #[true, true, true, true, true, true, true, true, false, false, false, false] rfl rfl hT (by kernel_rfl) hE rfl (wanted_none rfl) hs (fun w s => r_load hE rfl sc22 s.2.2.1) (fun a hE => ?_)
            refine d_pureg (i := 8) (v := .pointer (some x56_42)) #[true, true, true, true, true, true, true, true, true, false, false, false] rfl rfl hT (by kernel_rfl) hE rfl (wanted_none rfl) (fun w => r_indexAddrL hE rfl rfl un22 sz42 qx56_42) (fun a hE => ?_)
            refine d_read (i := 9) (v := .agg x57_43) #[true, true, true, true, true, true, true, true, true, true, false, false] rfl rfl hT (by kernel_rfl) hE rfl (wanted_none rfl) hs (fun w s => r_loadG hE rfl ag42 s.2.2.2) (fun a hE => ?_)
            refine d_calll (i := 10) #[true, true, true, true, true, true, true, true, true, true, true, false] rfl rfl rfl hT (by kernel_rfl) rfl hE hR (wanted_none rfl) cl_rambleref02_Compare rfl (sound_callF) (M.unbind H) (fun x58_44 a w ea hR H => ?_)
            have hE := Env.put_some hE rfl ea; clear ea
            refine d_pureg (i := 11) (v := .int .i64 x58_44) #[true, true, true, true, true, true, true, true, true, true, true, true] rfl rfl hT (by kernel_rfl) hE rfl (wanted_none rfl) (fun w => r_assign hE rfl) (fun a hE => ?_)
            refine d_done hT (by kernel_rfl) ?_
            refine hK_37 _ _ ?_
            refine w_seq (fun K hK_45 => ?_)
            refine t_region ?_
            refine t_val (v := .int .i64 x58_44) rfl rfl hE rfl (r_move hE rfl) (fun a hE => ?_)
            refine t_val (v := .bool (x58_44 != 0)) rfl rfl hE rfl (r_bin hE rfl rfl g_int b_neq) (fun a hE => ?_)
            refine t_nil ?_
            refine hK_45 _ _ ?_
            refine w_cond (x58_44 != 0) hE rfl (fun hb => ?_) (fun hb => ?_)
            · replace H := M.ite_t hb H
              refine w_seq (fun K hK_46 => ?_)
              refine t_region ?_
              refine t_val (v := .int .i64 x58_44) rfl rfl hE rfl (r_move hE rfl) (fun a hE => ?_)
              refine t_val (v := .int .i64 x58_44) rfl rfl hE rfl (r_assign hE rfl) (fun a hE => ?_)
              refine t_nil ?_
              refine hK_46 _ _ ?_
              refine w_ret ?_
              exact hret _ _ _ x58_44 _ hE hR (res_run hE rfl (RV.tmp rfl RV.nil)) rfl H
            · replace H := M.ite_f hb H
              refine w_skip ?_
              refine hK_36 _ _ ?_
              refine t_region ?_
              refine t_val (v := .int .i64 x8_27) rfl rfl hE rfl (r_move hE rfl) (fun a hE => ?_)
              refine t_val (v := .int .i64 (IntKind.wrap .i64 (x8_27 + 1))) rfl rfl hE rfl (r_bin hE rfl rfl g_int b_add) (fun a hE => ?_)
              refine t_val (v := .int .i64 (IntKind.wrap .i64 (x8_27 + 1))) rfl rfl hE rfl (r_assign hE rfl) (fun a hE => ?_)
              refine t_nil ?_
              exact hY_30 (IntKind.wrap .i64 (x8_27 + 1)) _ _ (hE.cut (.cons rfl (.cons rfl (.cons rfl Subs.nil)))) hR H
          · replace H := M.ite_f hb H
            refine w_exit ?_
            refine Xu.same ?_
            refine hK_25 _ _ ?_
            refine w_seq (fun K hK_47 => ?_)
            refine t_region ?_
            refine t_val (v := .pointer (some ((x2_2).add 3))) rfl rfl hE rfl (r_fieldAddr hE rfl fd42_3) (fun a hE => ?_)
            obtain ⟨x63_48, qx63_48, H⟩ := H
            refine t_val (v := (x63_48 : Sl).v) rfl rfl hE rfl (r_load hE rfl sc22 qx63_48) (fun a hE => ?_)
            refine t_val (v := .int .i64 (x63_48.len : Int)) rfl rfl hE rfl (r_len hE rfl 42 un22) (fun a hE => ?_)
            refine t_val (v := .pointer (some ((x3_3).add 3))) rfl rfl hE rfl (r_fieldAddr hE rfl fd42_3) (fun a hE => ?_)
            obtain ⟨x66_49, qx66_49, H⟩ := H
            refine t_val (v := (x66_49 : Sl).v) rfl rfl hE rfl (r_load hE rfl sc22 qx66_49) (fun a hE => ?_)
            refine t_val (v := .int .i64 (x66_49.len : Int)) rfl rfl hE rfl (r_len hE rfl 42 un22) (fun a hE => ?_)
            refine t_call hE hR cl_rambleref02_num rfl (S_rambleref02_num (x63_48.len : Int) (x66_49.len : Int)) (M.unbind H) (fun x68_50 a w ea hR H => ?_)
            have hE := Env.put_some hE rfl ea; clear ea
            refine t_val (v := .int .i64 x68_50) rfl rfl hE rfl (r_assign hE rfl) (fun a hE => ?_)
            refine t_nil ?_
            refine hK_47 _ _ ?_
            refine w_ret ?_
            exact hret _ _ _ x68_50 _ hE hR (res_run hE rfl (RV.tmp rfl RV.nil)) rfl H

end Gx
namespace Gx
open Go
set_option linter.unusedVariables false
set_option maxRecDepth 100000
/-- ramble/rambleref02.rises -/
theorem tb89_4 : tabAt Go.Proofs.Tryd.f89 4 [[], [], [1], [0, 2], [3], [], [], [5, 6], [7], [4, 8], [9]] [[], [], [1], [0, 2], [3], [], [], [5, 6], [7], [4, 8], [9]] [[], [], [1], [0, 1, 2], [0, 1, 2, 3], [], [], [5, 6], [5, 6, 7], [0, 1, 2, 3, 4, 5, 6, 7, 8], [0, 1, 2, 3, 4, 5, 6, 7, 8, 9]] = true := by kernel_rfl
def rambleref02_rises_l1 (c0_5 : Sl) (self1 : (Int) → M (Bool)) : (Int) → M (Bool) := fun s => match s with
  | x3_4 => do
    M.ite (decide (x3_4 < (c0_5.len : Int))) (do
      let x13_11 ← ixL c0_5 (IntKind.wrap .i64 (x3_4 - 2)) 4
      let x17_12 ← ixL c0_5 x3_4 4
      let x14_13 ← ldG 4 x13_11
      let x18_14 ← ldG 4 x17_12
      let x19_15 ← rambleref02_Compare x14_13 x18_14
      M.ite (decide (x19_15 ≥ 0)) (do
        M.pure false
        ) (do
        self1 (IntKind.wrap .i64 (x3_4 + 2))
        )
      ) (do
      M.pure true
      )
def rambleref02_rises (x0 : Sl) : M (Bool) := do
  M.loop (rambleref02_rises_l1 x0) 2
theorem S_rambleref02_rises (x0 : Sl) : Sound Go.Proofs.Tryd.prog 89 #[(x0 : Sl).v] (fun (r : Bool) => .bool r) (rambleref02_rises x0) := by
  refine sound_of [(0, (x0 : Sl).v)] Go.Proofs.Tryd.func89 rfl rfl (Nat.le_of_ble_eq_true rfl) (args_of ⟨rfl, trivial⟩) (fun w0 w Q R a hret hE hR H => ?_)
  unfold rambleref02_rises at H
  refine w_seq (fun K hK_1 => ?_)
  refine t_region ?_
  refine t_val (v := .bool false) rfl rfl hE rfl (r_assign hE rfl) (fun a hE => ?_)
  refine t_nil ?_
  refine hK_1 _ _ ?_
  refine w_seq (fun K hK_2 => ?_)
  refine w_seq (fun K hK_3 => ?_)
  refine t_region ?_
  refine t_val (v := .int .i64 2) rfl rfl hE rfl (r_assign hE rfl) (fun a hE => ?_)
  refine t_nil ?_
  refine hK_3 _ _ ?_
  refine w_block ?_
  refine l_loop (fun (s : Int) => (⟨21, []⟩ : Frm)) (fun (s : Int) => [(0, (x0 : Sl).v), (3, .int .i64 s)]) H (hE.cut (.cons rfl (.cons rfl Subs.nil))) hR (fun Y self1 hY_6 x3_4 a w hE hR H => ?_)
  replace hE : Env (⟨21, []⟩ : Frm) a [(0, (x0 : Sl).v), (3, .int .i64 x3_4)] := hE
  replace H : (rambleref02_rises_l1 x0 self1 x3_4).wp w.heap Q := H
  unfold rambleref02_rises_l1 at H
  refine w_seq (fun K hK_7 => ?_)
  refine w_seq (fun K hK_8 => ?_)
  refine t_region ?_
  refine t_val (v := .int .i64 x3_4) rfl rfl hE rfl (r_move hE rfl) (fun a hE => ?_)
  refine t_val (v := (x0 : Sl).v) rfl rfl hE rfl (r_move hE rfl) (fun a hE => ?_)
  refine t_val (v := .int .i64 (x0.len : Int)) rfl rfl hE rfl (r_len hE rfl 42 un22) (fun a hE => ?_)
  refine t_val (v := .bool (decide (x3_4 < (x0.len : Int)))) rfl rfl hE rfl (r_bin hE rfl rfl g_int b_lss) (fun a hE => ?_)
  refine t_nil ?_
  refine hK_8 _ _ ?_
  refine w_cond (decide (x3_4 < (x0.len : Int))) hE rfl (fun hb => ?_) (fun hb => ?_)
  · replace H := M.ite_t hb H
    refine w_skip ?_
    refine hK_7 _ _ ?_
    refine w_seq (fun K hK_9 => ?_)
    refine w_block ?_
    refine w_seq (fun K hK_10 => ?_)
    obtain ⟨x13_11, qx13_11, H⟩ := H
    obtain ⟨x17_12, qx17_12, H⟩ := H
    obtain ⟨x14_13, qx14_13, H⟩ := H
    obtain ⟨x18_14, qx18_14, H⟩ := H
    have hT := tab_of tb89_4 rfl rfl
    refine d_start (fun w : World => (fun h : Heap => (x14_13.size = 4 ∧ ∀ i, i < 4 → hcell h (Addr.add x13_11 i) = x14_13[i]?) ∧ (x18_14.size = 4 ∧ ∀ i, i < 4 → hcell h (Addr.add x17_12 i) = x18_14[i]?)) w.heap) [9, 10] #[false, false, false, false, false, false, false, false, false, false, false] mo hR rfl rfl (fun w' e => by rw [e]; exact ⟨qx14_13, qx18_14⟩) (fun w hh hR hs => ?_)
    replace H := M.at hh H; clear hh
    refine d_pureg (i := 0) (v := (x0 : Sl).v) #[true, false, false, false, false, false, false, false, false, false, false] rfl rfl hT (by kernel_rfl) hE rfl (wanted_none rfl) (fun w => r_move hE rfl) (fun a hE => ?_)
    refine d_pureg (i := 1) (v := .int .i64 x3_4) #[true, true, false, false, false, false, false, false, false, false, false] rfl rfl hT (by kernel_rfl) hE rfl (wanted_none rfl) (fun w => r_move hE rfl) (fun a hE => ?_)
    refine d_pureg (i := 2) (v := .int .i64 (IntKind.wrap .i64 (x3_4 - 2))) #[true, true, true, false, false, false, false, false, false, false, false] rfl rfl hT (by kernel_rfl) hE rfl (wanted_none rfl) (fun w => r_bin hE rfl rfl g_int b_sub) (fun a hE => ?_)
    refine d_pureg (i := 3) (v := .pointer (some x13_11)) #[true, true, true, true, false, false, false, false, false, false, false] rfl rfl hT (by kernel_rfl) hE rfl (wanted_none rfl) (fun w => r_indexAddrL hE rfl rfl un22 sz42 qx13_11) (fun a hE => ?_)
    refine d_pureg (i := 5) (v := (x0 : Sl).v) #[true, true, true, true, false, true, false, false, false, false, false] rfl rfl hT (by kernel_rfl) hE rfl (wanted_none rfl) (fun w => r_move hE rfl) (fun a hE => ?_)
    refine d_pureg (i := 6) (v := .int .i64 x3_4) #[true, true, true, true, false, true, true, false, false, false, false] rfl rfl hT (by kernel_rfl) hE rfl (wanted_none rfl) (fun w => r_move hE rfl) (fun a hE => ?_)
    refine d_pureg (i := 7) (v := .pointer (some x17_12)) #[true, true, true, true, false, true, true, true, false, false, false] rfl rfl hT (by kernel_rfl) hE rfl (wanted_none rfl) (fun w => r_indexAddrL hE rfl rfl un22 sz42 qx17_12) (fun a hE => ?_)
    refine d_read (i := 4) (v := .agg x14_13) #[true, true, true, true, true, true, true, true, false, false, false] rfl rfl hT (by kernel_rfl) hE rfl (wanted_none rfl) hs (fun w s => r_loadG hE rfl ag42 s.1) (fun a hE => ?_)
    refine d_read (i := 8) (v := .agg x18_14) #[true, true, true, true, true, true, true, true, true, false, false] rfl rfl hT (by kernel_rfl) hE rfl (wanted_none rfl) hs (fun w s => r_loadG hE rfl ag42 s.2) (fun a hE => ?_)
    refine d_calll (i := 9) #[true, true, true, true, true, true, true, true, true, true, false] rfl rfl rfl hT (by kernel_rfl) rfl hE hR (wanted_none rfl) cl_rambleref02_Compare rfl (S_rambleref02_Compare x14_13 x18_14) (M.unbind H) (fun x19_15 a w ea hR H => ?_)
    have hE := Env.put_some hE rfl ea; clear ea
    refine d_pureg (i := 10) (v := .bool (decide (x19_15 ≥ 0))) #[true, true, true, true, true, true, true, true, true, true, true] rfl rfl hT (by kernel_rfl) hE rfl (wanted_none rfl) (fun w => r_bin hE rfl rfl g_int b_geq) (fun a hE => ?_)
    refine d_done hT (by kernel_rfl) ?_
    refine hK_10 _ _ ?_
    refine w_cond (decide (x19_15 ≥ 0)) hE rfl (fun hb => ?_) (fun hb => ?_)
    · replace H := M.ite_t hb H
      refine w_seq (fun K hK_16 => ?_)
      refine t_region ?_
      refine t_val (v := .bool false) rfl rfl hE rfl (r_assign hE rfl) (fun a hE => ?_)
      refine t_nil ?_
      refine hK_16 _ _ ?_
      refine w_ret ?_
      exact hret _ _ _ false _ hE hR (res_run hE rfl (RV.tmp rfl RV.nil)) rfl H
    · replace H := M.ite_f hb H
      refine w_skip ?_
      refine hK_9 _ _ ?_
      refine t_region ?_
      refine t_val (v := .int .i64 x3_4) rfl rfl hE rfl (r_move hE rfl) (fun a hE => ?_)
      refine t_val (v := .int .i64 (IntKind.wrap .i64 (x3_4 + 2))) rfl rfl hE rfl (r_bin hE rfl rfl g_int b_add) (fun a hE => ?_)
      refine t_val (v := .int .i64 (IntKind.wrap .i64 (x3_4 + 2))) rfl rfl hE rfl (r_assign hE rfl) (fun a hE => ?_)
      refine t_nil ?_
      exact hY_6 (IntKind.wrap .i64 (x3_4 + 2)) _ _ (hE.cut (.cons rfl (.cons rfl Subs.nil))) hR H
  · replace H := M.ite_f hb H
    refine w_exit ?_
    refine Xu.same ?_
    refine hK_2 _ _ ?_
    refine w_seq (fun K hK_17 => ?_)
    refine t_region ?_
    refine t_val (v := .bool true) rfl rfl hE rfl (r_assign hE rfl) (fun a hE => ?_)
    refine t_nil ?_
    refine hK_17 _ _ ?_
    refine w_ret ?_
    exact hret _ _ _ true _ hE hR (res_run hE rfl (RV.tmp rfl RV.nil)) rfl H

end Gx
namespace Gx
open Go
set_option linter.unusedVariables false
set_option maxRecDepth 100000
/-- ramble/rambleref02.may -/
def rambleref02_may_j1 (c1_24 : Int) (c2_25 : Addr) (c8_26 : Int) (x41_23 : Bool) : M (Bool) := do
  M.ite x41_23 (do
    let x45_28 ← ldS ((c2_25).add 2)
    let x52_29 ← M.ite (sEq x45_28 ByteArray.empty) (do
      let x49_30 ← ldL ((c2_25).add 3)
      M.pure ((x49_30.len : Int) == 0)
      ) (do
      M.pure false
      )
    let x57_31 ← M.ite x52_29 (do
      let x55_32 ← ldI .i64 ((c2_25).add 1)
      M.pure (decide (x55_32 ≥ 1))
      ) (do
      M.pure false
      )
    let x62_33 ← M.ite x57_31 (do
      let x60_34 ← ldI .i64 ((c2_25).add 1)
      M.pure (decide (x60_34 ≤ 281474976710656))
      ) (do
      M.pure false
      )
    M.pure x62_33
    ) (do
    M.ite (c8_26 == 2) (do
      let x66_37 ← ldI .i64 ((c2_25).add 1)
      let x73_38 ← M.ite (x66_37 == 0) (do
        let x70_39 ← ldL ((c2_25).add 3)
        M.pure ((x70_39.len : Int) == 0)
        ) (do
        M.pure false
        )
      let x79_40 ← M.ite x73_38 (do
        let x76_41 ← ldS ((c2_25).add 2)
        M.pure (decide ((x76_41.size : Int) ≤ 128))
        ) (do
        M.pure false
        )
      M.pure x79_40
      ) (do
      M.ite (c8_26 == 4) (do
        let x83_44 ← ldI .i64 ((c2_25).add 1)
        let x89_45 ← M.ite (x83_44 == 0) (do
          let x87_46 ← ldS ((c2_25).add 2)
          M.pure (sEq x87_46 ByteArray.empty)
          ) (do
          M.pure false
          )
        let x95_47 ← M.ite x89_45 (do
          let x92_48 ← ldL ((c2_25).add 3)
          M.pure (decide ((x92_48.len : Int) ≤ 256))
          ) (do
          M.pure false
          )
        let x101_49 ← M.ite x95_47 (do
          let x98_50 ← ldL ((c2_25).add 3)
          let x100_51 ← callF Go.Proofs.Tryd.prog fn_rambleref02_all #[(x98_50 : Sl).v, .int .i64 c1_24] (fun r : Bool => .bool r)
          M.pure x100_51
          ) (do
          M.pure false
          )
        M.pure x101_49
        ) (do
        M.ite (c8_26 == 5) (do
          let x105_54 ← ldI .i64 ((c2_25).add 1)
          let x111_55 ← M.ite (x105_54 == 0) (do
            let x109_56 ← ldS ((c2_25).add 2)
            M.pure (sEq x109_56 ByteArray.empty)
            ) (do
            M.pure false
            )
          let x117_57 ← M.ite x111_55 (do
            let x114_58 ← ldL ((c2_25).add 3)
            M.pure (decide ((x114_58.len : Int) ≤ 512))
            ) (do
            M.pure false
            )
          let x124_59 ← M.ite x117_57 (do
            let x120_60 ← ldL ((c2_25).add 3)
            M.pure ((Int.tmod (x120_60.len : Int) 2) == 0)
            ) (do
            M.pure false
            )
          let x130_61 ← M.ite x124_59 (do
            let x127_62 ← ldL ((c2_25).add 3)
            let x129_63 ← callF Go.Proofs.Tryd.prog fn_rambleref02_all #[(x127_62 : Sl).v, .int .i64 c1_24] (fun r : Bool => .bool r)
            M.pure x129_63
            ) (do
            M.pure false
            )
          let x135_64 ← M.ite x130_61 (do
            let x133_65 ← ldL ((c2_25).add 3)
            let x134_66 ← rambleref02_rises x133_65
            M.pure x134_66
            ) (do
            M.pure false
            )
          M.pure x135_64
          ) (do
          M.pure false
          )
        )
      )
    )
def rambleref02_may (x0 : Array Value) (x1 : Int) : M (Bool) := do
  let x2_2 ← mkB ty_api_Value x0
  M.ite (decide (x1 ≥ 8)) (do
    M.pure false
    ) (do
    let x8_8 ← ldI .i64 ((x2_2).add 0)
    M.ite (x8_8 == 1) (do
      let x12_11 ← ldS ((x2_2).add 2)
      let x19_12 ← M.ite (sEq x12_11 ByteArray.empty) (do
        let x16_13 ← ldL ((x2_2).add 3)
        M.pure ((x16_13.len : Int) == 0)
        ) (do
        M.pure false
        )
      M.pure x19_12
      ) (do
      M.ite (x8_8 == 3) (do
        let x23_16 ← ldS ((x2_2).add 2)
        let x30_17 ← M.ite (sEq x23_16 ByteArray.empty) (do
          let x27_18 ← ldL ((x2_2).add 3)
          M.pure ((x27_18.len : Int) == 0)
          ) (do
          M.pure false
          )
        let x40_19 ← M.ite x30_17 (do
          let x33_20 ← ldI .i64 ((x2_2).add 1)
          let x39_21 ← M.ite (x33_20 == 0) (do
            M.pure true
            ) (do
            let x37_22 ← ldI .i64 ((x2_2).add 1)
            M.pure (x37_22 == 1)
            )
          M.pure x39_21
          ) (do
          M.pure false
          )
        M.pure x40_19
        ) (do
        M.ite (x8_8 == 6) (do
          rambleref02_may_j1 x1 x2_2 x8_8 (x8_8 == 6)
          ) (do
          rambleref02_may_j1 x1 x2_2 x8_8 (x8_8 == 7)
          )
        )
      )
    )
theorem S_rambleref02_may (x0 : Array Value) (x1 : Int) : Sound Go.Proofs.Tryd.prog 71 #[.agg x0, .int .i64 x1] (fun (r : Bool) => .bool r) (rambleref02_may x0 x1) := by
  refine sound_of [(0, .agg x0), (1, .int .i64 x1)] Go.Proofs.Tryd.func71 rfl rfl (Nat.le_of_ble_eq_true rfl) (args_of ⟨rfl, rfl, trivial⟩) (fun w0 w Q R a hret hE hR H => ?_)
  unfold rambleref02_may at H
  refine w_seq (fun K hK_1 => ?_)
  refine t_region ?_
  obtain ⟨x2_2, qx2_2, H⟩ := H
  refine t_valh (v := .pointer (some x2_2)) rfl rfl hE rfl hR (r_box hE rfl qx2_2) (fun a w hE hR hh => ?_)
  replace H := M.at hh H; clear hh
  refine t_val (v := .bool false) rfl rfl hE rfl (r_assign hE rfl) (fun a hE => ?_)
  refine t_nil ?_
  refine hK_1 _ _ ?_
  refine w_seq (fun K hK_3 => ?_)
  refine w_seq (fun K hK_4 => ?_)
  refine t_region ?_
  refine t_val (v := .int .i64 x1) rfl rfl hE rfl (r_move hE rfl) (fun a hE => ?_)
  refine t_val (v := .bool (decide (x1 ≥ 8))) rfl rfl hE rfl (r_bin hE rfl rfl g_int b_geq) (fun a hE => ?_)
  refine t_nil ?_
  refine hK_4 _ _ ?_
  refine w_cond (decide (x1 ≥ 8)) hE rfl (fun hb => ?_) (fun hb => ?_)
  · replace H := M.ite_t hb H
    refine w_seq (fun K hK_5 => ?_)
    refine t_region ?_
    refine t_val (v := .bool false) rfl rfl hE rfl (r_assign hE rfl) (fun a hE => ?_)
    refine t_nil ?_
    refine hK_5 _ _ ?_
    refine w_ret ?_
    exact hret _ _ _ false _ hE hR (res_run hE rfl (RV.tmp rfl RV.nil)) rfl H
  · replace H := M.ite_f hb H
    refine w_skip ?_
    refine hK_3 _ _ ?_
    refine w_seq (fun K hK_6 => ?_)
    refine w_seq (fun K hK_7 => ?_)
    refine t_region ?_
    refine t_val (v := .pointer (some ((x2_2).add 0))) rfl rfl hE rfl (r_fieldAddr hE rfl fd42_0) (fun a hE => ?_)
    obtain ⟨x8_8, qx8_8, H⟩ := H
    refine t_val (v := .int .i64 x8_8) rfl rfl hE rfl (r_load hE rfl sc3 qx8_8) (fun a hE => ?_)
    refine t_nil ?_
    refine hK_7 _ _ ?_
    refine w_block ?_
    refine w_seq (fun K hK_9 => ?_)
    refine t_region ?_
    refine t_val (v := .bool (x8_8 == 1)) rfl rfl hE rfl (r_bin hE rfl rfl g_int b_eql) (fun a hE => ?_)
    refine t_val (v := .bool (x8_8 == 1)) rfl rfl hE rfl (r_assign hE rfl) (fun a hE => ?_)
    refine t_nil ?_
    refine hK_9 _ _ ?_
    refine w_cond (x8_8 == 1) hE rfl (fun hb => ?_) (fun hb => ?_)
    · replace H := M.ite_t hb H
      refine w_seq (fun K hK_10 => ?_)
      refine t_region ?_
      refine t_val (v := .pointer (some ((x2_2).add 2))) rfl rfl hE rfl (r_fieldAddr hE rfl fd42_2) (fun a hE => ?_)
      obtain ⟨x12_11, qx12_11, H⟩ := H
      refine t_val (v := .string x12_11) rfl rfl hE rfl (r_load hE rfl sc9 qx12_11) (fun a hE => ?_)
      refine t_val (v := .bool (sEq x12_11 ByteArray.empty)) rfl rfl hE rfl (r_bin hE rfl rfl g_str b_eqlS) (fun a hE => ?_)
      refine t_val (v := .bool (sEq x12_11 ByteArray.empty)) rfl rfl hE rfl (r_move hE rfl) (fun a hE => ?_)
      refine t_grp (n := (⟨136, []⟩ : Frm)) (w0 := w0) 5 (fun x19_12 : Bool => [(4, .bool false), (19, .bool x19_12)]) (M.unbind H) (fun Kr hKr H => ?_) ?_
      · rcases bool_em (sEq x12_11 ByteArray.empty) with hb | hb
        · replace H := M.ite_t hb H
          have hE := hE.reb 14 (sEq x12_11 ByteArray.empty) true hb rfl
          refine t_on rfl hE rfl rfl rfl ?_
          refine t_val (v := .pointer (some ((x2_2).add 3))) rfl rfl hE rfl (r_fieldAddr hE rfl fd42_3) (fun a hE => ?_)
          refine t_on rfl hE rfl rfl rfl ?_
          obtain ⟨x16_13, qx16_13, H⟩ := H
          refine t_val (v := (x16_13 : Sl).v) rfl rfl hE rfl (r_load hE rfl sc22 qx16_13) (fun a hE => ?_)
          refine t_on rfl hE rfl rfl rfl ?_
          refine t_val (v := .int .i64 (x16_13.len : Int)) rfl rfl hE rfl (r_len hE rfl 42 un22) (fun a hE => ?_)
          refine t_on rfl hE rfl rfl rfl ?_
          refine t_val (v := .bool ((x16_13.len : Int) == 0)) rfl rfl hE rfl (r_bin hE rfl rfl g_int b_eql) (fun a hE => ?_)
          refine t_val rfl rfl hE rfl (r_pick_t hE rfl rfl) (fun a hE => ?_)
          refine t_nil ?_
          exact hKr _ _ _ (hE.cut (.cons rfl (.cons rfl Subs.nil))) hR H
        · replace H := M.ite_f hb H
          have hE := hE.reb 14 (sEq x12_11 ByteArray.empty) false hb rfl
          refine t_off rfl hE rfl rfl rfl (fun a ea => ?_)
          have hE := Env.put_some hE rfl ea; clear ea
          refine t_off rfl hE rfl rfl rfl (fun a ea => ?_)
          have hE := Env.put_some hE rfl ea; clear ea
          refine t_off rfl hE rfl rfl rfl (fun a ea => ?_)
          have hE := Env.put_some hE rfl ea; clear ea
          refine t_off rfl hE rfl rfl rfl (fun a ea => ?_)
          have hE := Env.put_some hE rfl ea; clear ea
          refine t_val rfl rfl hE rfl (r_pick_f hE rfl rfl) (fun a hE => ?_)
          refine t_nil ?_
          exact hKr _ _ _ (hE.cut (.cons rfl (.cons rfl Subs.nil))) hR H
      · intro x19_12 a w hE hR H
        refine t_val (v := .bool x19_12) rfl rfl hE rfl (r_assign hE rfl) (fun a hE => ?_)
        refine t_nil ?_
        refine hK_10 _ _ ?_
        refine w_ret ?_
        exact hret _ _ _ x19_12 _ hE hR (res_run hE rfl (RV.tmp rfl RV.nil)) rfl H
    · replace H := M.ite_f hb H
      refine w_seq (fun K hK_14 => ?_)
      refine t_region ?_
      refine t_val (v := .bool (x8_8 == 3)) rfl rfl hE rfl (r_bin hE rfl rfl g_int b_eql) (fun a hE => ?_)
      refine t_val (v := .bool (x8_8 == 3)) rfl rfl hE rfl (r_assign hE rfl) (fun a hE => ?_)
      refine t_nil ?_
      refine hK_14 _ _ ?_
      refine w_cond (x8_8 == 3) hE rfl (fun hb => ?_) (fun hb => ?_)
      · replace H := M.ite_t hb H
        refine w_seq (fun K hK_15 => ?_)
        refine t_region ?_
        refine t_val (v := .pointer (some ((x2_2).add 2))) rfl rfl hE rfl (r_fieldAddr hE rfl fd42_2) (fun a hE => ?_)
        obtain ⟨x23_16, qx23_16, H⟩ := H
        refine t_val (v := .string x23_16) rfl rfl hE rfl (r_load hE rfl sc9 qx23_16) (fun a hE => ?_)
        refine t_val (v := .bool (sEq x23_16 ByteArray.empty)) rfl rfl hE rfl (r_bin hE rfl rfl g_str b_eqlS) (fun a hE => ?_)
        refine t_val (v := .bool (sEq x23_16 ByteArray.empty)) rfl rfl hE rfl (r_move hE rfl) (fun a hE => ?_)
        refine t_grp (n := (⟨136, []⟩ : Frm)) (w0 := w0) 5 (fun x30_17 : Bool => [(2, .pointer (some x2_2)), (4, .bool false), (30, .bool x30_17)]) (M.unbind H) (fun Kr hKr H => ?_) ?_
        · rcases bool_em (sEq x23_16 ByteArray.empty) with hb | hb
          · replace H := M.ite_t hb H
            have hE := hE.reb 25 (sEq x23_16 ByteArray.empty) true hb rfl
            refine t_on rfl hE rfl rfl rfl ?_
            refine t_val (v := .pointer (some ((x2_2).add 3))) rfl rfl hE rfl (r_fieldAddr hE rfl fd42_3) (fun a hE => ?_)
            refine t_on rfl hE rfl rfl rfl ?_
            obtain ⟨x27_18, qx27_18, H⟩ := H
            refine t_val (v := (x27_18 : Sl).v) rfl rfl hE rfl (r_load hE rfl sc22 qx27_18) (fun a hE => ?_)
            refine t_on rfl hE rfl rfl rfl ?_
            refine t_val (v := .int .i64 (x27_18.len : Int)) rfl rfl hE rfl (r_len hE rfl 42 un22) (fun a hE => ?_)
            refine t_on rfl hE rfl rfl rfl ?_
            refine t_val (v := .bool ((x27_18.len : Int) == 0)) rfl rfl hE rfl (r_bin hE rfl rfl g_int b_eql) (fun a hE => ?_)
            refine t_val rfl rfl hE rfl (r_pick_t hE rfl rfl) (fun a hE => ?_)
            refine t_nil ?_
            exact hKr _ _ _ (hE.cut (.cons rfl (.cons rfl (.cons rfl Subs.nil)))) hR H
          · replace H := M.ite_f hb H
            have hE := hE.reb 25 (sEq x23_16 ByteArray.empty) false hb rfl
            refine t_off rfl hE rfl rfl rfl (fun a ea => ?_)
            have hE := Env.put_some hE rfl ea; clear ea
            refine t_off rfl hE rfl rfl rfl (fun a ea => ?_)
            have hE := Env.put_some hE rfl ea; clear ea
            refine t_off rfl hE rfl rfl rfl (fun a ea => ?_)
            have hE := Env.put_some hE rfl ea; clear ea
            refine t_off rfl hE rfl rfl rfl (fun a ea => ?_)
            have hE := Env.put_some hE rfl ea; clear ea
            refine t_val rfl rfl hE rfl (r_pick_f hE rfl rfl) (fun a hE => ?_)
            refine t_nil ?_
            exact hKr _ _ _ (hE.cut (.cons rfl (.cons rfl (.cons rfl Subs.nil)))) hR H
        · intro x30_17 a w hE hR H
          refine t_val (v := .bool x30_17) rfl rfl hE rfl (r_move hE rfl) (fun a hE => ?_)
          refine t_grp (n := (⟨136, []⟩ : Frm)) (w0 := w0) 9 (fun x40_19 : Bool => [(4, .bool false), (40, .bool x40_19)]) (M.unbind H) (fun Kr hKr H => ?_) ?_
          · rcases bool_em x30_17 with hb | hb
            · replace H := M.ite_t hb H
              have hE := hE.reb 31 x30_17 true hb rfl
              refine t_on rfl hE rfl rfl rfl ?_
              refine t_val (v := .pointer (some ((x2_2).add 1))) rfl rfl hE rfl (r_fieldAddr hE rfl fd42_1) (fun a hE => ?_)
              refine t_on rfl hE rfl rfl rfl ?_
              obtain ⟨x33_20, qx33_20, H⟩ := H
              refine t_val (v := .int .i64 x33_20) rfl rfl hE rfl (r_load hE rfl sc2 qx33_20) (fun a hE => ?_)
              refine t_on rfl hE rfl rfl rfl ?_
              refine t_val (v := .bool (x33_20 == 0)) rfl rfl hE rfl (r_bin hE rfl rfl g_int b_eql) (fun a hE => ?_)
              refine t_on rfl hE rfl rfl rfl ?_
              refine t_val (v := .bool (x33_20 == 0)) rfl rfl hE rfl (r_move hE rfl) (fun a hE => ?_)
              refine t_grp (n := (⟨136, []⟩ : Frm)) (w0 := w0) 4 (fun x39_21 : Bool => [(4, .bool false), (31, .bool true), (39, .bool x39_21)]) (M.unbind H) (fun Kr hKr H => ?_) ?_
              · rcases bool_em (x33_20 == 0) with hb | hb
                · replace H := M.ite_t hb H
                  have hE := hE.reb 35 (x33_20 == 0) true hb rfl
                  refine t_off rfl hE rfl rfl rfl (fun a ea => ?_)
                  have hE := Env.put_some hE rfl ea; clear ea
                  refine t_off rfl hE rfl rfl rfl (fun a ea => ?_)
                  have hE := Env.put_some hE rfl ea; clear ea
                  refine t_off rfl hE rfl rfl rfl (fun a ea => ?_)
                  have hE := Env.put_some hE rfl ea; clear ea
                  refine t_on rfl hE rfl rfl rfl ?_
                  refine t_val rfl rfl hE rfl (r_pick_t hE rfl rfl) (fun a hE => ?_)
                  refine t_nil ?_
                  exact hKr _ _ _ (hE.cut (.cons rfl (.cons rfl (.cons rfl Subs.nil)))) hR H
                · replace H := M.ite_f hb H
                  have hE := hE.reb 35 (x33_20 == 0) false hb rfl
                  refine t_on rfl hE rfl rfl rfl ?_
                  refine t_val (v := .pointer (some ((x2_2).add 1))) rfl rfl hE rfl (r_fieldAddr hE rfl fd42_1) (fun a hE => ?_)
                  refine t_on rfl hE rfl rfl rfl ?_
                  obtain ⟨x37_22, qx37_22, H⟩ := H
                  refine t_val (v := .int .i64 x37_22) rfl rfl hE rfl (r_load hE rfl sc2 qx37_22) (fun a hE => ?_)
                  refine t_on rfl hE rfl rfl rfl ?_
                  refine t_val (v := .bool (x37_22 == 1)) rfl rfl hE rfl (r_bin hE rfl rfl g_int b_eql) (fun a hE => ?_)
                  refine t_on rfl hE rfl rfl rfl ?_
                  refine t_val rfl rfl hE rfl (r_pick_f hE rfl rfl) (fun a hE => ?_)
                  refine t_nil ?_
                  exact hKr _ _ _ (hE.cut (.cons rfl (.cons rfl (.cons rfl Subs.nil)))) hR H
              · intro x39_21 a w hE hR H
                refine t_val rfl rfl hE rfl (r_pick_t hE rfl rfl) (fun a hE => ?_)
                refine t_nil ?_
                exact hKr _ _ _ (hE.cut (.cons rfl (.cons rfl Subs.nil))) hR H
            · replace H := M.ite_f hb H
              have hE := hE.reb 31 x30_17 false hb rfl
              refine t_off rfl hE rfl rfl rfl (fun a ea => ?_)
              have hE := Env.put_some hE rfl ea; clear ea
              refine t_off rfl hE rfl rfl rfl (fun a ea => ?_)
              have hE := Env.put_some hE rfl ea; clear ea
              refine t_off rfl hE rfl rfl rfl (fun a ea => ?_)
              have hE := Env.put_some hE rfl ea; clear ea
              refine t_off rfl hE rfl rfl rfl (fun a ea => ?_)
              have hE := Env.put_some hE rfl ea; clear ea
              refine t_off' rfl hE rfl rfl (fun b hb => by cases hb) (fun a ea => ?_)
              have hE := Env.put_some hE rfl ea; clear ea
              refine t_off' rfl hE rfl rfl (fun b hb => by cases hb) (fun a ea => ?_)
              have hE := Env.put_some hE rfl ea; clear ea
              refine t_off' rfl hE rfl rfl (fun b hb => by cases hb) (fun a ea => ?_)
              have hE := Env.put_some hE rfl ea; clear ea
              refine t_off rfl hE rfl rfl rfl (fun a ea => ?_)
              have hE := Env.put_some hE rfl ea; clear ea
              refine t_val rfl rfl hE rfl (r_pick_f hE rfl rfl) (fun a hE => ?_)
              refine t_nil ?_
              exact hKr _ _ _ (hE.cut (.cons rfl (.cons rfl Subs.nil))) hR H
          · intro x40_19 a w hE hR H
            refine t_val (v := .bool x40_19) rfl rfl hE rfl (r_assign hE rfl) (fun a hE => ?_)
            refine t_nil ?_
            refine hK_15 _ _ ?_
            refine w_ret ?_
            exact hret _ _ _ x40_19 _ hE hR (res_run hE rfl (RV.tmp rfl RV.nil)) rfl H
      · replace H := M.ite_f hb H
        refine w_seq_join (fun a w => ∃ (x41_23 : Bool), Env (⟨136, []⟩ : Frm) a [(1, .int .i64 x1), (2, .pointer (some x2_2)), (8, .int .i64 x8_8), (41, .bool x41_23)] ∧ Rest w0 w ∧ (rambleref02_may_j1 x1 x2_2 x8_8 x41_23).wp w.heap Q) ?_ ?_
        · rintro a w ⟨x41_23, hE, hR, H⟩
          unfold rambleref02_may_j1 at H
          refine w_cond x41_23 hE rfl (fun hb => ?_) (fun hb => ?_)
          · replace H := M.ite_t hb H
            refine w_seq (fun K hK_27 => ?_)
            refine t_region ?_
            refine t_val (v := .pointer (some ((x2_2).add 2))) rfl rfl hE rfl (r_fieldAddr hE rfl fd42_2) (fun a hE => ?_)
            obtain ⟨x45_28, qx45_28, H⟩ := H
            refine t_val (v := .string x45_28) rfl rfl hE rfl (r_load hE rfl sc9 qx45_28) (fun a hE => ?_)
            refine t_val (v := .bool (sEq x45_28 ByteArray.empty)) rfl rfl hE rfl (r_bin hE rfl rfl g_str b_eqlS) (fun a hE => ?_)
            refine t_val (v := .bool (sEq x45_28 ByteArray.empty)) rfl rfl hE rfl (r_move hE rfl) (fun a hE => ?_)
            refine t_grp (n := (⟨136, []⟩ : Frm)) (w0 := w0) 5 (fun x52_29 : Bool => [(2, .pointer (some x2_2)), (52, .bool x52_29)]) (M.unbind H) (fun Kr hKr H => ?_) ?_
            · rcases bool_em (sEq x45_28 ByteArray.empty) with hb | hb
              · replace H := M.ite_t hb H
                have hE := hE.reb 47 (sEq x45_28 ByteArray.empty) true hb rfl
                refine t_on rfl hE rfl rfl rfl ?_
                refine t_val (v := .pointer (some ((x2_2).add 3))) rfl rfl hE rfl (r_fieldAddr hE rfl fd42_3) (fun a hE => ?_)
                refine t_on rfl hE rfl rfl rfl ?_
                obtain ⟨x49_30, qx49_30, H⟩ := H
                refine t_val (v := (x49_30 : Sl).v) rfl rfl hE rfl (r_load hE rfl sc22 qx49_30) (fun a hE => ?_)
                refine t_on rfl hE rfl rfl rfl ?_
                refine t_val (v := .int .i64 (x49_30.len : Int)) rfl rfl hE rfl (r_len hE rfl 42 un22) (fun a hE => ?_)
                refine t_on rfl hE rfl rfl rfl ?_
                refine t_val (v := .bool ((x49_30.len : Int) == 0)) rfl rfl hE rfl (r_bin hE rfl rfl g_int b_eql) (fun a hE => ?_)
                refine t_val rfl rfl hE rfl (r_pick_t hE rfl rfl) (fun a hE => ?_)
                refine t_nil ?_
                exact hKr _ _ _ (hE.cut (.cons rfl (.cons rfl Subs.nil))) hR H
              · replace H := M.ite_f hb H
                have hE := hE.reb 47 (sEq x45_28 ByteArray.empty) false hb rfl
                refine t_off rfl hE rfl rfl rfl (fun a ea => ?_)
                have hE := Env.put_some hE rfl ea; clear ea
                refine t_off rfl hE rfl rfl rfl (fun a ea => ?_)
                have hE := Env.put_some hE rfl ea; clear ea
                refine t_off rfl hE rfl rfl rfl (fun a ea => ?_)
                have hE := Env.put_some hE rfl ea; clear ea
                refine t_off rfl hE rfl rfl rfl (fun a ea => ?_)
                have hE := Env.put_some hE rfl ea; clear ea
                refine t_val rfl rfl hE rfl (r_pick_f hE rfl rfl) (fun a hE => ?_)
                refine t_nil ?_
                exact hKr _ _ _ (hE.cut (.cons rfl (.cons rfl Subs.nil))) hR H
            · intro x52_29 a w hE hR H
              refine t_val (v := .bool x52_29) rfl rfl hE rfl (r_move hE rfl) (fun a hE => ?_)
              refine t_grp (n := (⟨136, []⟩ : Frm)) (w0 := w0) 4 (fun x57_31 : Bool => [(2, .pointer (some x2_2)), (57, .bool x57_31)]) (M.unbind H) (fun Kr hKr H => ?_) ?_
              · rcases bool_em x52_29 with hb | hb
                · replace H := M.ite_t hb H
                  have hE := hE.reb 53 x52_29 true hb rfl
                  refine t_on rfl hE rfl rfl rfl ?_
                  refine t_val (v := .pointer (some ((x2_2).add 1))) rfl rfl hE rfl (r_fieldAddr hE rfl fd42_1) (fun a hE => ?_)
                  refine t_on rfl hE rfl rfl rfl ?_
                  obtain ⟨x55_32, qx55_32, H⟩ := H
                  refine t_val (v := .int .i64 x55_32) rfl rfl hE rfl (r_load hE rfl sc2 qx55_32) (fun a hE => ?_)
                  refine t_on rfl hE rfl rfl rfl ?_
                  refine t_val (v := .bool (decide (x55_32 ≥ 1))) rfl rfl hE rfl (r_bin hE rfl rfl g_int b_geq) (fun a hE => ?_)
                  refine t_val rfl rfl hE rfl (r_pick_t hE rfl rfl) (fun a hE => ?_)
                  refine t_nil ?_
                  exact hKr _ _ _ (hE.cut (.cons rfl (.cons rfl Subs.nil))) hR H
                · replace H := M.ite_f hb H
                  have hE := hE.reb 53 x52_29 false hb rfl
                  refine t_off rfl hE rfl rfl rfl (fun a ea => ?_)
                  have hE := Env.put_some hE rfl ea; clear ea
                  refine t_off rfl hE rfl rfl rfl (fun a ea => ?_)
                  have hE := Env.put_some hE rfl ea; clear ea
                  refine t_off rfl hE rfl rfl rfl (fun a ea => ?_)
                  have hE := Env.put_some hE rfl ea; clear ea
                  refine t_val rfl rfl hE rfl (r_pick_f hE rfl rfl) (fun a hE => ?_)
                  refine t_nil ?_
                  exact hKr _ _ _ (hE.cut (.cons rfl (.cons rfl Subs.nil))) hR H
              · intro x57_31 a w hE hR H
                refine t_val (v := .bool x57_31) rfl rfl hE rfl (r_move hE rfl) (fun a hE => ?_)
                refine t_grp (n := (⟨136, []⟩ : Frm)) (w0 := w0) 4 (fun x62_33 : Bool => [(62, .bool x62_33)]) (M.unbind H) (fun Kr hKr H => ?_) ?_
                · rcases bool_em x57_31 with hb | hb
                  · replace H := M.ite_t hb H
                    have hE := hE.reb 58 x57_31 true hb rfl
                    refine t_on rfl hE rfl rfl rfl ?_
                    refine t_val (v := .pointer (some ((x2_2).add 1))) rfl rfl hE rfl (r_fieldAddr hE rfl fd42_1) (fun a hE => ?_)
                    refine t_on rfl hE rfl rfl rfl ?_
                    obtain ⟨x60_34, qx60_34, H⟩ := H
                    refine t_val (v := .int .i64 x60_34) rfl rfl hE rfl (r_load hE rfl sc2 qx60_34) (fun a hE => ?_)
                    refine t_on rfl hE rfl rfl rfl ?_
                    refine t_val (v := .bool (decide (x60_34 ≤ 281474976710656))) rfl rfl hE rfl (r_bin hE rfl rfl g_int b_leq) (fun a hE => ?_)
                    refine t_val rfl rfl hE rfl (r_pick_t hE rfl rfl) (fun a hE => ?_)
                    refine t_nil ?_
                    exact hKr _ _ _ (hE.cut (.cons rfl Subs.nil)) hR H
                  · replace H := M.ite_f hb H
                    have hE := hE.reb 58 x57_31 false hb rfl
                    refine t_off rfl hE rfl rfl rfl (fun a ea => ?_)
                    have hE := Env.put_some hE rfl ea; clear ea
                    refine t_off rfl hE rfl rfl rfl (fun a ea => ?_)
                    have hE := Env.put_some hE rfl ea; clear ea
                    refine t_off rfl hE rfl rfl rfl (fun a ea => ?_)
                    have hE := Env.put_some hE rfl ea; clear ea
                    refine t_val rfl rfl hE rfl (r_pick_f hE rfl rfl) (fun a hE => ?_)
                    refine t_nil ?_
                    exact hKr _ _ _ (hE.cut (.cons rfl Subs.nil)) hR H
                · intro x62_33 a w hE hR H
                  refine t_val (v := .bool x62_33) rfl rfl hE rfl (r_assign hE rfl) (fun a hE => ?_)
                  refine t_nil ?_
                  refine hK_27 _ _ ?_
                  refine w_ret ?_
                  exact hret _ _ _ x62_33 _ hE hR (res_run hE rfl (RV.tmp rfl RV.nil)) rfl H
          · replace H := M.ite_f hb H
            refine w_seq (fun K hK_35 => ?_)
            refine t_region ?_
            refine t_val (v := .bool (x8_8 == 2)) rfl rfl hE rfl (r_bin hE rfl rfl g_int b_eql) (fun a hE => ?_)
            refine t_val (v := .bool (x8_8 == 2)) rfl rfl hE rfl (r_assign hE rfl) (fun a hE => ?_)
            refine t_nil ?_
            refine hK_35 _ _ ?_
            refine w_cond (x8_8 == 2) hE rfl (fun hb => ?_) (fun hb => ?_)
            · replace H := M.ite_t hb H
              refine w_seq (fun K hK_36 => ?_)
              refine t_region ?_
              refine t_val (v := .pointer (some ((x2_2).add 1))) rfl rfl hE rfl (r_fieldAddr hE rfl fd42_1) (fun a hE => ?_)
              obtain ⟨x66_37, qx66_37, H⟩ := H
              refine t_val (v := .int .i64 x66_37) rfl rfl hE rfl (r_load hE rfl sc2 qx66_37) (fun a hE => ?_)
              refine t_val (v := .bool (x66_37 == 0)) rfl rfl hE rfl (r_bin hE rfl rfl g_int b_eql) (fun a hE => ?_)
              refine t_val (v := .bool (x66_37 == 0)) rfl rfl hE rfl (r_move hE rfl) (fun a hE => ?_)
              refine t_grp (n := (⟨136, []⟩ : Frm)) (w0 := w0) 5 (fun x73_38 : Bool => [(2, .pointer (some x2_2)), (73, .bool x73_38)]) (M.unbind H) (fun Kr hKr H => ?_) ?_
              · rcases bool_em (x66_37 == 0) with hb | hb
                · replace H := M.ite_t hb H
                  have hE := hE.reb 68 (x66_37 == 0) true hb rfl
                  refine t_on rfl hE rfl rfl rfl ?_
                  refine t_val (v := .pointer (some ((x2_2).add 3))) rfl rfl hE rfl (r_fieldAddr hE rfl fd42_3) (fun a hE => ?_)
                  refine t_on rfl hE rfl rfl rfl ?_
                  obtain ⟨x70_39, qx70_39, H⟩ := H
                  refine t_val (v := (x70_39 : Sl).v) rfl rfl hE rfl (r_load hE rfl sc22 qx70_39) (fun a hE => ?_)
                  refine t_on rfl hE rfl rfl rfl ?_
                  refine t_val (v := .int .i64 (x70_39.len : Int)) rfl rfl hE rfl (r_len hE rfl 42 un22) (fun a hE => ?_)
                  refine t_on rfl hE rfl rfl rfl ?_
                  refine t_val (v := .bool ((x70_39.len : Int) == 0)) rfl rfl hE rfl (r_bin hE rfl rfl g_int b_eql) (fun a hE => ?_)
                  refine t_val rfl rfl hE rfl (r_pick_t hE rfl rfl) (fun a hE => ?_)
                  refine t_nil ?_
                  exact hKr _ _ _ (hE.cut (.cons rfl (.cons rfl Subs.nil))) hR H
                · replace H := M.ite_f hb H
                  have hE := hE.reb 68 (x66_37 == 0) false hb rfl
                  refine t_off rfl hE rfl rfl rfl (fun a ea => ?_)
                  have hE := Env.put_some hE rfl ea; clear ea
                  refine t_off rfl hE rfl rfl rfl (fun a ea => ?_)
                  have hE := Env.put_some hE rfl ea; clear ea
                  refine t_off rfl hE rfl rfl rfl (fun a ea => ?_)
                  have hE := Env.put_some hE rfl ea; clear ea
                  refine t_off rfl hE rfl rfl rfl (fun a ea => ?_)
                  have hE := Env.put_some hE rfl ea; clear ea
                  refine t_val rfl rfl hE rfl (r_pick_f hE rfl rfl) (fun a hE => ?_)
                  refine t_nil ?_
                  exact hKr _ _ _ (hE.cut (.cons rfl (.cons rfl Subs.nil))) hR H
              · intro x73_38 a w hE hR H
                refine t_val (v := .bool x73_38) rfl rfl hE rfl (r_move hE rfl) (fun a hE => ?_)
                refine t_grp (n := (⟨136, []⟩ : Frm)) (w0 := w0) 5 (fun x79_40 : Bool => [(79, .bool x79_40)]) (M.unbind H) (fun Kr hKr H => ?_) ?_
                · rcases bool_em x73_38 with hb | hb
                  · replace H := M.ite_t hb H
                    have hE := hE.reb 74 x73_38 true hb rfl
                    refine t_on rfl hE rfl rfl rfl ?_
                    refine t_val (v := .pointer (some ((x2_2).add 2))) rfl rfl hE rfl (r_fieldAddr hE rfl fd42_2) (fun a hE => ?_)
                    refine t_on rfl hE rfl rfl rfl ?_
                    obtain ⟨x76_41, qx76_41, H⟩ := H
                    refine t_val (v := .string x76_41) rfl rfl hE rfl (r_load hE rfl sc9 qx76_41) (fun a hE => ?_)
                    refine t_on rfl hE rfl rfl rfl ?_
                    refine t_val (v := .int .i64 (x76_41.size : Int)) rfl rfl hE rfl (r_lenS hE rfl un9) (fun a hE => ?_)
                    refine t_on rfl hE rfl rfl rfl ?_
                    refine t_val (v := .bool (decide ((x76_41.size : Int) ≤ 128))) rfl rfl hE rfl (r_bin hE rfl rfl g_int b_leq) (fun a hE => ?_)
                    refine t_val rfl rfl hE rfl (r_pick_t hE rfl rfl) (fun a hE => ?_)
                    refine t_nil ?_
                    exact hKr _ _ _ (hE.cut (.cons rfl Subs.nil)) hR H
                  · replace H := M.ite_f hb H
                    have hE := hE.reb 74 x73_38 false hb rfl
                    refine t_off rfl hE rfl rfl rfl (fun a ea => ?_)
                    have hE := Env.put_some hE rfl ea; clear ea
                    refine t_off rfl hE rfl rfl rfl (fun a ea => ?_)
                    have hE := Env.put_some hE rfl ea; clear ea
                    refine t_off rfl hE rfl rfl rfl (fun a ea => ?_)
                    have hE := Env.put_some hE rfl ea; clear ea
                    refine t_off rfl hE rfl rfl rfl (fun a ea => ?_)
                    have hE := Env.put_some hE rfl ea; clear ea
                    refine t_val rfl rfl hE rfl (r_pick_f hE rfl rfl) (fun a hE => ?_)
                    refine t_nil ?_
                    exact hKr _ _ _ (hE.cut (.cons rfl Subs.nil)) hR H
                · intro x79_40 a w hE hR H
                  refine t_val (v := .bool x79_40) rfl rfl hE rfl (r_assign hE rfl) (fun a hE => ?_)
                  refine t_nil ?_
                  refine hK_36 _ _ ?_
                  refine w_ret ?_
                  exact hret _ _ _ x79_40 _ hE hR (res_run hE rfl (RV.tmp rfl RV.nil)) rfl H
            · replace H := M.ite_f hb H
              refine w_seq (fun K hK_42 => ?_)
              refine t_region ?_
              refine t_val (v := .bool (x8_8 == 4)) rfl rfl hE rfl (r_bin hE rfl rfl g_int b_eql) (fun a hE => ?_)
              refine t_val (v := .bool (x8_8 == 4)) rfl rfl hE rfl (r_assign hE rfl) (fun a hE => ?_)
              refine t_nil ?_
              refine hK_42 _ _ ?_
              refine w_cond (x8_8 == 4) hE rfl (fun hb => ?_) (fun hb => ?_)
              · replace H := M.ite_t hb H
                refine w_seq (fun K hK_43 => ?_)
                refine t_region ?_
                refine t_val (v := .pointer (some ((x2_2).add 1))) rfl rfl hE rfl (r_fieldAddr hE rfl fd42_1) (fun a hE => ?_)
                obtain ⟨x83_44, qx83_44, H⟩ := H
                refine t_val (v := .int .i64 x83_44) rfl rfl hE rfl (r_load hE rfl sc2 qx83_44) (fun a hE => ?_)
                refine t_val (v := .bool (x83_44 == 0)) rfl rfl hE rfl (r_bin hE rfl rfl g_int b_eql) (fun a hE => ?_)
                refine t_val (v := .bool (x83_44 == 0)) rfl rfl hE rfl (r_move hE rfl) (fun a hE => ?_)
                refine t_grp (n := (⟨136, []⟩ : Frm)) (w0 := w0) 4 (fun x89_45 : Bool => [(1, .int .i64 x1), (2, .pointer (some x2_2)), (89, .bool x89_45)]) (M.unbind H) (fun Kr hKr H => ?_) ?_
                · rcases bool_em (x83_44 == 0) with hb | hb
                  · replace H := M.ite_t hb H
                    have hE := hE.reb 85 (x83_44 == 0) true hb rfl
                    refine t_on rfl hE rfl rfl rfl ?_
                    refine t_val (v := .pointer (some ((x2_2).add 2))) rfl rfl hE rfl (r_fieldAddr hE rfl fd42_2) (fun a hE => ?_)
                    refine t_on rfl hE rfl rfl rfl ?_
                    obtain ⟨x87_46, qx87_46, H⟩ := H
                    refine t_val (v := .string x87_46) rfl rfl hE rfl (r_load hE rfl sc9 qx87_46) (fun a hE => ?_)
                    refine t_on rfl hE rfl rfl rfl ?_
                    refine t_val (v := .bool (sEq x87_46 ByteArray.empty)) rfl rfl hE rfl (r_bin hE rfl rfl g_str b_eqlS) (fun a hE => ?_)
                    refine t_val rfl rfl hE rfl (r_pick_t hE rfl rfl) (fun a hE => ?_)
                    refine t_nil ?_
                    exact hKr _ _ _ (hE.cut (.cons rfl (.cons rfl (.cons rfl Subs.nil)))) hR H
                  · replace H := M.ite_f hb H
                    have hE := hE.reb 85 (x83_44 == 0) false hb rfl
                    refine t_off rfl hE rfl rfl rfl (fun a ea => ?_)
                    have hE := Env.put_some hE rfl ea; clear ea
                    refine t_off rfl hE rfl rfl rfl (fun a ea => ?_)
                    have hE := Env.put_some hE rfl ea; clear ea
                    refine t_off rfl hE rfl rfl rfl (fun a ea => ?_)
                    have hE := Env.put_some hE rfl ea; clear ea
                    refine t_val rfl rfl hE rfl (r_pick_f hE rfl rfl) (fun a hE => ?_)
                    refine t_nil ?_
                    exact hKr _ _ _ (hE.cut (.cons rfl (.cons rfl (.cons rfl Subs.nil)))) hR H
                · intro x89_45 a w hE hR H
                  refine t_val (v := .bool x89_45) rfl rfl hE rfl (r_move hE rfl) (fun a hE => ?_)
                  refine t_grp (n := (⟨136, []⟩ : Frm)) (w0 := w0) 5 (fun x95_47 : Bool => [(1, .int .i64 x1), (2, .pointer (some x2_2)), (95, .bool x95_47)]) (M.unbind H) (fun Kr hKr H => ?_) ?_
                  · rcases bool_em x89_45 with hb | hb
                    · replace H := M.ite_t hb H
                      have hE := hE.reb 90 x89_45 true hb rfl
                      refine t_on rfl hE rfl rfl rfl ?_
                      refine t_val (v := .pointer (some ((x2_2).add 3))) rfl rfl hE rfl (r_fieldAddr hE rfl fd42_3) (fun a hE => ?_)
                      refine t_on rfl hE rfl rfl rfl ?_
                      obtain ⟨x92_48, qx92_48, H⟩ := H
                      refine t_val (v := (x92_48 : Sl).v) rfl rfl hE rfl (r_load hE rfl sc22 qx92_48) (fun a hE => ?_)
                      refine t_on rfl hE rfl rfl rfl ?_
                      refine t_val (v := .int .i64 (x92_48.len : Int)) rfl rfl hE rfl (r_len hE rfl 42 un22) (fun a hE => ?_)
                      refine t_on rfl hE rfl rfl rfl ?_
                      refine t_val (v := .bool (decide ((x92_48.len : Int) ≤ 256))) rfl rfl hE rfl (r_bin hE rfl rfl g_int b_leq) (fun a hE => ?_)
                      refine t_val rfl rfl hE rfl (r_pick_t hE rfl rfl) (fun a hE => ?_)
                      refine t_nil ?_
                      exact hKr _ _ _ (hE.cut (.cons rfl (.cons rfl (.cons rfl Subs.nil)))) hR H
                    · replace H := M.ite_f hb H
                      have hE := hE.reb 90 x89_45 false hb rfl
                      refine t_off rfl hE rfl rfl rfl (fun a ea => ?_)
                      have hE := Env.put_some hE rfl ea; clear ea
                      refine t_off rfl hE rfl rfl rfl (fun a ea => ?_)
                      have hE := Env.put_some hE rfl ea; clear ea
                      refine t_off rfl hE rfl rfl rfl (fun a ea => ?_)
                      have hE := Env.put_some hE rfl ea; clear ea
                      refine t_off rfl hE rfl rfl rfl (fun a ea => ?_)
                      have hE := Env.put_some hE rfl ea; clear ea
                      refine t_val rfl rfl hE rfl (r_pick_f hE rfl rfl) (fun a hE => ?_)
                      refine t_nil ?_
                      exact hKr _ _ _ (hE.cut (.cons rfl (.cons rfl (.cons rfl Subs.nil)))) hR H
                  · intro x95_47 a w hE hR H
                    refine t_val (v := .bool x95_47) rfl rfl hE rfl (r_move hE rfl) (fun a hE => ?_)
                    refine t_grp (n := (⟨136, []⟩ : Frm)) (w0 := w0) 5 (fun x101_49 : Bool => [(101, .bool x101_49)]) (M.unbind H) (fun Kr hKr H => ?_) ?_
                    · rcases bool_em x95_47 with hb | hb
                      · replace H := M.ite_t hb H
                        have hE := hE.reb 96 x95_47 true hb rfl
                        refine t_on rfl hE rfl rfl rfl ?_
                        refine t_val (v := .pointer (some ((x2_2).add 3))) rfl rfl hE rfl (r_fieldAddr hE rfl fd42_3) (fun a hE => ?_)
                        refine t_on rfl hE rfl rfl rfl ?_
                        obtain ⟨x98_50, qx98_50, H⟩ := H
                        refine t_val (v := (x98_50 : Sl).v) rfl rfl hE rfl (r_load hE rfl sc22 qx98_50) (fun a hE => ?_)
                        refine t_on rfl hE rfl rfl rfl ?_
                        refine t_val (v := .int .i64 x1) rfl rfl hE rfl (r_move hE rfl) (fun a hE => ?_)
                        refine t_on rfl hE rfl rfl rfl ?_
                        refine t_call hE hR cl_rambleref02_all rfl (sound_callF) (M.unbind H) (fun x100_51 a w ea hR H => ?_)
                        have hE := Env.put_some hE rfl ea; clear ea
                        refine t_val rfl rfl hE rfl (r_pick_t hE rfl rfl) (fun a hE => ?_)
                        refine t_nil ?_
                        exact hKr _ _ _ (hE.cut (.cons rfl Subs.nil)) hR H
                      · replace H := M.ite_f hb H
                        have hE := hE.reb 96 x95_47 false hb rfl
                        refine t_off rfl hE rfl rfl rfl (fun a ea => ?_)
                        have hE := Env.put_some hE rfl ea; clear ea
                        refine t_off rfl hE rfl rfl rfl (fun a ea => ?_)
                        have hE := Env.put_some hE rfl ea; clear ea
                        refine t_off rfl hE rfl rfl rfl (fun a ea => ?_)
                        have hE := Env.put_some hE rfl ea; clear ea
                        refine t_off rfl hE rfl rfl rfl (fun a ea => ?_)
                        have hE := Env.put_some hE rfl ea; clear ea
                        refine t_val rfl rfl hE rfl (r_pick_f hE rfl rfl) (fun a hE => ?_)
                        refine t_nil ?_
                        exact hKr _ _ _ (hE.cut (.cons rfl Subs.nil)) hR H
                    · intro x101_49 a w hE hR H
                      refine t_val (v := .bool x101_49) rfl rfl hE rfl (r_assign hE rfl) (fun a hE => ?_)
                      refine t_nil ?_
                      refine hK_43 _ _ ?_
                      refine w_ret ?_
                      exact hret _ _ _ x101_49 _ hE hR (res_run hE rfl (RV.tmp rfl RV.nil)) rfl H
              · replace H := M.ite_f hb H
                refine w_seq (fun K hK_52 => ?_)
                refine t_region ?_
                refine t_val (v := .bool (x8_8 == 5)) rfl rfl hE rfl (r_bin hE rfl rfl g_int b_eql) (fun a hE => ?_)
                refine t_val (v := .bool (x8_8 == 5)) rfl rfl hE rfl (r_assign hE rfl) (fun a hE => ?_)
                refine t_nil ?_
                refine hK_52 _ _ ?_
                refine w_cond (x8_8 == 5) hE rfl (fun hb => ?_) (fun hb => ?_)
                · replace H := M.ite_t hb H
                  refine w_seq (fun K hK_53 => ?_)
                  refine t_region ?_
                  refine t_val (v := .pointer (some ((x2_2).add 1))) rfl rfl hE rfl (r_fieldAddr hE rfl fd42_1) (fun a hE => ?_)
                  obtain ⟨x105_54, qx105_54, H⟩ := H
                  refine t_val (v := .int .i64 x105_54) rfl rfl hE rfl (r_load hE rfl sc2 qx105_54) (fun a hE => ?_)
                  refine t_val (v := .bool (x105_54 == 0)) rfl rfl hE rfl (r_bin hE rfl rfl g_int b_eql) (fun a hE => ?_)
                  refine t_val (v := .bool (x105_54 == 0)) rfl rfl hE rfl (r_move hE rfl) (fun a hE => ?_)
                  refine t_grp (n := (⟨136, []⟩ : Frm)) (w0 := w0) 4 (fun x111_55 : Bool => [(1, .int .i64 x1), (2, .pointer (some x2_2)), (111, .bool x111_55)]) (M.unbind H) (fun Kr hKr H => ?_) ?_
                  · rcases bool_em (x105_54 == 0) with hb | hb
                    · replace H := M.ite_t hb H
                      have hE := hE.reb 107 (x105_54 == 0) true hb rfl
                      refine t_on rfl hE rfl rfl rfl ?_
                      refine t_val (v := .pointer (some ((x2_2).add 2))) rfl rfl hE rfl (r_fieldAddr hE rfl fd42_2) (fun a hE => ?_)
                      refine t_on rfl hE rfl rfl rfl ?_
                      obtain ⟨x109_56, qx109_56, H⟩ := H
                      refine t_val (v := .string x109_56) rfl rfl hE rfl (r_load hE rfl sc9 qx109_56) (fun a hE => ?_)
                      refine t_on rfl hE rfl rfl rfl ?_
                      refine t_val (v := .bool (sEq x109_56 ByteArray.empty)) rfl rfl hE rfl (r_bin hE rfl rfl g_str b_eqlS) (fun a hE => ?_)
                      refine t_val rfl rfl hE rfl (r_pick_t hE rfl rfl) (fun a hE => ?_)
                      refine t_nil ?_
                      exact hKr _ _ _ (hE.cut (.cons rfl (.cons rfl (.cons rfl Subs.nil)))) hR H
                    · replace H := M.ite_f hb H
                      have hE := hE.reb 107 (x105_54 == 0) false hb rfl
                      refine t_off rfl hE rfl rfl rfl (fun a ea => ?_)
                      have hE := Env.put_some hE rfl ea; clear ea
                      refine t_off rfl hE rfl rfl rfl (fun a ea => ?_)
                      have hE := Env.put_some hE rfl ea; clear ea
                      refine t_off rfl hE rfl rfl rfl (fun a ea => ?_)
                      have hE := Env.put_some hE rfl ea; clear ea
                      refine t_val rfl rfl hE rfl (r_pick_f hE rfl rfl) (fun a hE => ?_)
                      refine t_nil ?_
                      exact hKr _ _ _ (hE.cut (.cons rfl (.cons rfl (.cons rfl Subs.nil)))) hR H
                  · intro x111_55 a w hE hR H
                    refine t_val (v := .bool x111_55) rfl rfl hE rfl (r_move hE rfl) (fun a hE => ?_)
                    refine t_grp (n := (⟨136, []⟩ : Frm)) (w0 := w0) 5 (fun x117_57 : Bool => [(1, .int .i64 x1), (2, .pointer (some x2_2)), (117, .bool x117_57)]) (M.unbind H) (fun Kr hKr H => ?_) ?_
                    · rcases bool_em x111_55 with hb | hb
                      · replace H := M.ite_t hb H
                        have hE := hE.reb 112 x111_55 true hb rfl
                        refine t_on rfl hE rfl rfl rfl ?_
                        refine t_val (v := .pointer (some ((x2_2).add 3))) rfl rfl hE rfl (r_fieldAddr hE rfl fd42_3) (fun a hE => ?_)
                        refine t_on rfl hE rfl rfl rfl ?_
                        obtain ⟨x114_58, qx114_58, H⟩ := H
                        refine t_val (v := (x114_58 : Sl).v) rfl rfl hE rfl (r_load hE rfl sc22 qx114_58) (fun a hE => ?_)
                        refine t_on rfl hE rfl rfl rfl ?_
                        refine t_val (v := .int .i64 (x114_58.len : Int)) rfl rfl hE rfl (r_len hE rfl 42 un22) (fun a hE => ?_)
                        refine t_on rfl hE rfl rfl rfl ?_
                        refine t_val (v := .bool (decide ((x114_58.len : Int) ≤ 512))) rfl rfl hE rfl (r_bin hE rfl rfl g_int b_leq) (fun a hE => ?_)
                        refine t_val rfl rfl hE rfl (r_pick_t hE rfl rfl) (fun a hE => ?_)
                        refine t_nil ?_
                        exact hKr _ _ _ (hE.cut (.cons rfl (.cons rfl (.cons rfl Subs.nil)))) hR H
                      · replace H := M.ite_f hb H
                        have hE := hE.reb 112 x111_55 false hb rfl
                        refine t_off rfl hE rfl rfl rfl (fun a ea => ?_)
                        have hE := Env.put_some hE rfl ea; clear ea
                        refine t_off rfl hE rfl rfl rfl (fun a ea => ?_)
                        have hE := Env.put_some hE rfl ea; clear ea
                        refine t_off rfl hE rfl rfl rfl (fun a ea => ?_)
                        have hE := Env.put_some hE rfl ea; clear ea
                        refine t_off rfl hE rfl rfl rfl (fun a ea => ?_)
                        have hE := Env.put_some hE rfl ea; clear ea
                        refine t_val rfl rfl hE rfl (r_pick_f hE rfl rfl) (fun a hE => ?_)
                        refine t_nil ?_
                        exact hKr _ _ _ (hE.cut (.cons rfl (.cons rfl (.cons rfl Subs.nil)))) hR H
                    · intro x117_57 a w hE hR H
                      refine t_val (v := .bool x117_57) rfl rfl hE rfl (r_move hE rfl) (fun a hE => ?_)
                      refine t_grp (n := (⟨136, []⟩ : Frm)) (w0 := w0) 6 (fun x124_59 : Bool => [(1, .int .i64 x1), (2, .pointer (some x2_2)), (124, .bool x124_59)]) (M.unbind H) (fun Kr hKr H => ?_) ?_
                      · rcases bool_em x117_57 with hb | hb
                        · replace H := M.ite_t hb H
                          have hE := hE.reb 118 x117_57 true hb rfl
                          refine t_on rfl hE rfl rfl rfl ?_
                          refine t_val (v := .pointer (some ((x2_2).add 3))) rfl rfl hE rfl (r_fieldAddr hE rfl fd42_3) (fun a hE => ?_)
                          refine t_on rfl hE rfl rfl rfl ?_
                          obtain ⟨x120_60, qx120_60, H⟩ := H
                          refine t_val (v := (x120_60 : Sl).v) rfl rfl hE rfl (r_load hE rfl sc22 qx120_60) (fun a hE => ?_)
                          refine t_on rfl hE rfl rfl rfl ?_
                          refine t_val (v := .int .i64 (x120_60.len : Int)) rfl rfl hE rfl (r_len hE rfl 42 un22) (fun a hE => ?_)
                          refine t_on rfl hE rfl rfl rfl ?_
                          refine t_val (v := .int .i64 (Int.tmod (x120_60.len : Int) 2)) rfl rfl hE rfl (r_bin hE rfl rfl g_int (b_rem ⟨by decide, rfl⟩)) (fun a hE => ?_)
                          refine t_on rfl hE rfl rfl rfl ?_
                          refine t_val (v := .bool ((Int.tmod (x120_60.len : Int) 2) == 0)) rfl rfl hE rfl (r_bin hE rfl rfl g_int b_eql) (fun a hE => ?_)
                          refine t_val rfl rfl hE rfl (r_pick_t hE rfl rfl) (fun a hE => ?_)
                          refine t_nil ?_
                          exact hKr _ _ _ (hE.cut (.cons rfl (.cons rfl (.cons rfl Subs.nil)))) hR H
                        · replace H := M.ite_f hb H
                          have hE := hE.reb 118 x117_57 false hb rfl
                          refine t_off rfl hE rfl rfl rfl (fun a ea => ?_)
                          have hE := Env.put_some hE rfl ea; clear ea
                          refine t_off rfl hE rfl rfl rfl (fun a ea => ?_)
                          have hE := Env.put_some hE rfl ea; clear ea
                          refine t_off rfl hE rfl rfl rfl (fun a ea => ?_)
                          have hE := Env.put_some hE rfl ea; clear ea
                          refine t_off rfl hE rfl rfl rfl (fun a ea => ?_)
                          have hE := Env.put_some hE rfl ea; clear ea
                          refine t_off rfl hE rfl rfl rfl (fun a ea => ?_)
                          have hE := Env.put_some hE rfl ea; clear ea
                          refine t_val rfl rfl hE rfl (r_pick_f hE rfl rfl) (fun a hE => ?_)
                          refine t_nil ?_
                          exact hKr _ _ _ (hE.cut (.cons rfl (.cons rfl (.cons rfl Subs.nil)))) hR H
                      · intro x124_59 a w hE hR H
                        refine t_val (v := .bool x124_59) rfl rfl hE rfl (r_move hE rfl) (fun a hE => ?_)
                        refine t_grp (n := (⟨136, []⟩ : Frm)) (w0 := w0) 5 (fun x130_61 : Bool => [(2, .pointer (some x2_2)), (130, .bool x130_61)]) (M.unbind H) (fun Kr hKr H => ?_) ?_
                        · rcases bool_em x124_59 with hb | hb
                          · replace H := M.ite_t hb H
                            have hE := hE.reb 125 x124_59 true hb rfl
                            refine t_on rfl hE rfl rfl rfl ?_
                            refine t_val (v := .pointer (some ((x2_2).add 3))) rfl rfl hE rfl (r_fieldAddr hE rfl fd42_3) (fun a hE => ?_)
                            refine t_on rfl hE rfl rfl rfl ?_
                            obtain ⟨x127_62, qx127_62, H⟩ := H
                            refine t_val (v := (x127_62 : Sl).v) rfl rfl hE rfl (r_load hE rfl sc22 qx127_62) (fun a hE => ?_)
                            refine t_on rfl hE rfl rfl rfl ?_
                            refine t_val (v := .int .i64 x1) rfl rfl hE rfl (r_move hE rfl) (fun a hE => ?_)
                            refine t_on rfl hE rfl rfl rfl ?_
                            refine t_call hE hR cl_rambleref02_all rfl (sound_callF) (M.unbind H) (fun x129_63 a w ea hR H => ?_)
                            have hE := Env.put_some hE rfl ea; clear ea
                            refine t_val rfl rfl hE rfl (r_pick_t hE rfl rfl) (fun a hE => ?_)
                            refine t_nil ?_
                            exact hKr _ _ _ (hE.cut (.cons rfl (.cons rfl Subs.nil))) hR H
                          · replace H := M.ite_f hb H
                            have hE := hE.reb 125 x124_59 false hb rfl
                            refine t_off rfl hE rfl rfl rfl (fun a ea => ?_)
                            have hE := Env.put_some hE rfl ea; clear ea
                            refine t_off rfl hE rfl rfl rfl (fun a ea => ?_)
                            have hE := Env.put_some hE rfl ea; clear ea
                            refine t_off rfl hE rfl rfl rfl (fun a ea => ?_)
                            have hE := Env.put_some hE rfl ea; clear ea
                            refine t_off rfl hE rfl rfl rfl (fun a ea => ?_)
                            have hE := Env.put_some hE rfl ea; clear ea
                            refine t_val rfl rfl hE rfl (r_pick_f hE rfl rfl) (fun a hE => ?_)
                            refine t_nil ?_
                            exact hKr _ _ _ (hE.cut (.cons rfl (.cons rfl Subs.nil))) hR H
                        · intro x130_61 a w hE hR H
                          refine t_val (v := .bool x130_61) rfl rfl hE rfl (r_move hE rfl) (fun a hE => ?_)
                          refine t_grp (n := (⟨136, []⟩ : Frm)) (w0 := w0) 4 (fun x135_64 : Bool => [(135, .bool x135_64)]) (M.unbind H) (fun Kr hKr H => ?_) ?_
                          · rcases bool_em x130_61 with hb | hb
                            · replace H := M.ite_t hb H
                              have hE := hE.reb 131 x130_61 true hb rfl
                              refine t_on rfl hE rfl rfl rfl ?_
                              refine t_val (v := .pointer (some ((x2_2).add 3))) rfl rfl hE rfl (r_fieldAddr hE rfl fd42_3) (fun a hE => ?_)
                              refine t_on rfl hE rfl rfl rfl ?_
                              obtain ⟨x133_65, qx133_65, H⟩ := H
                              refine t_val (v := (x133_65 : Sl).v) rfl rfl hE rfl (r_load hE rfl sc22 qx133_65) (fun a hE => ?_)
                              refine t_on rfl hE rfl rfl rfl ?_
                              refine t_call hE hR cl_rambleref02_rises rfl (S_rambleref02_rises x133_65) (M.unbind H) (fun x134_66 a w ea hR H => ?_)
                              have hE := Env.put_some hE rfl ea; clear ea
                              refine t_val rfl rfl hE rfl (r_pick_t hE rfl rfl) (fun a hE => ?_)
                              refine t_nil ?_
                              exact hKr _ _ _ (hE.cut (.cons rfl Subs.nil)) hR H
                            · replace H := M.ite_f hb H
                              have hE := hE.reb 131 x130_61 false hb rfl
                              refine t_off rfl hE rfl rfl rfl (fun a ea => ?_)
                              have hE := Env.put_some hE rfl ea; clear ea
                              refine t_off rfl hE rfl rfl rfl (fun a ea => ?_)
                              have hE := Env.put_some hE rfl ea; clear ea
                              refine t_off rfl hE rfl rfl rfl (fun a ea => ?_)
                              have hE := Env.put_some hE rfl ea; clear ea
                              refine t_val rfl rfl hE rfl (r_pick_f hE rfl rfl) (fun a hE => ?_)
                              refine t_nil ?_
                              exact hKr _ _ _ (hE.cut (.cons rfl Subs.nil)) hR H
                          · intro x135_64 a w hE hR H
                            refine t_val (v := .bool x135_64) rfl rfl hE rfl (r_assign hE rfl) (fun a hE => ?_)
                            refine t_nil ?_
                            refine hK_53 _ _ ?_
                            refine w_ret ?_
                            exact hret _ _ _ x135_64 _ hE hR (res_run hE rfl (RV.tmp rfl RV.nil)) rfl H
                · replace H := M.ite_f hb H
                  refine w_skip ?_
                  refine hK_6 _ _ ?_
                  refine w_seq (fun K hK_67 => ?_)
                  refine t_region ?_
                  refine t_val (v := .bool false) rfl rfl hE rfl (r_assign hE rfl) (fun a hE => ?_)
                  refine t_nil ?_
                  refine hK_67 _ _ ?_
                  refine w_ret ?_
                  exact hret _ _ _ false _ hE hR (res_run hE rfl (RV.tmp rfl RV.nil)) rfl H
        · skip
          refine w_seq (fun K hK_68 => ?_)
          refine t_region ?_
          refine t_val (v := .bool (x8_8 == 6)) rfl rfl hE rfl (r_bin hE rfl rfl g_int b_eql) (fun a hE => ?_)
          refine t_val (v := .bool (x8_8 == 6)) rfl rfl hE rfl (r_assign hE rfl) (fun a hE => ?_)
          refine t_nil ?_
          refine hK_68 _ _ ?_
          refine w_cond (x8_8 == 6) hE rfl (fun hb => ?_) (fun hb => ?_)
          · replace H := M.ite_t hb H
            refine w_skip ?_
            exact ⟨x8_8 == 6, hE.cut (.cons rfl (.cons rfl (.cons rfl (.cons rfl Subs.nil)))), hR, H⟩
          · replace H := M.ite_f hb H
            refine t_region ?_
            refine t_val (v := .bool (x8_8 == 7)) rfl rfl hE rfl (r_bin hE rfl rfl g_int b_eql) (fun a hE => ?_)
            refine t_val (v := .bool (x8_8 == 7)) rfl rfl hE rfl (r_assign hE rfl) (fun a hE => ?_)
            refine t_nil ?_
            exact ⟨x8_8 == 7, hE.cut (.cons rfl (.cons rfl (.cons rfl (.cons rfl Subs.nil)))), hR, H⟩

/-- ramble/rambleref02.Check -/
def rambleref02_Check (x0 : Array Value) : M (Int) := do
  let x1_2 ← mkB ty_api_Value x0
  let x3_5 ← ldG 4 x1_2
  let x4_6 ← rambleref02_may x3_5 0
  M.ite (!x4_6) (do
    M.pure 20
    ) (do
    M.pure 0
    )
theorem S_rambleref02_Check (x0 : Array Value) : Sound Go.Proofs.Tryd.prog 47 #[.agg x0] (fun (r : Int) => .int .i64 r) (rambleref02_Check x0) := by
  refine sound_of [(0, .agg x0)] Go.Proofs.Tryd.func47 rfl rfl (Nat.le_of_ble_eq_true rfl) (args_of ⟨rfl, trivial⟩) (fun w0 w Q R a hret hE hR H => ?_)
  unfold rambleref02_Check at H
  refine w_seq (fun K hK_1 => ?_)
  refine t_region ?_
  obtain ⟨x1_2, qx1_2, H⟩ := H
  refine t_valh (v := .pointer (some x1_2)) rfl rfl hE rfl hR (r_box hE rfl qx1_2) (fun a w hE hR hh => ?_)
  replace H := M.at hh H; clear hh
  refine t_val (v := .int .i64 0) rfl rfl hE rfl (r_assign hE rfl) (fun a hE => ?_)
  refine t_nil ?_
  refine hK_1 _ _ ?_
  refine w_seq (fun K hK_3 => ?_)
  refine w_seq (fun K hK_4 => ?_)
  refine t_region ?_
  obtain ⟨x3_5, qx3_5, H⟩ := H
  refine t_val (v := .agg x3_5) rfl rfl hE rfl (r_loadG hE rfl ag42 qx3_5) (fun a hE => ?_)
  refine t_call hE hR cl_rambleref02_may rfl (S_rambleref02_may x3_5 0) (M.unbind H) (fun x4_6 a w ea hR H => ?_)
  have hE := Env.put_some hE rfl ea; clear ea
  refine t_val (v := .bool (!x4_6)) rfl rfl hE rfl (r_un hE rfl u_not) (fun a hE => ?_)
  refine t_nil ?_
  refine hK_4 _ _ ?_
  refine w_cond (!x4_6) hE rfl (fun hb => ?_) (fun hb => ?_)
  · replace H := M.ite_t hb H
    refine w_seq (fun K hK_7 => ?_)
    refine t_region ?_
    refine t_val (v := .int .i64 20) rfl rfl hE rfl (r_assign hE rfl) (fun a hE => ?_)
    refine t_nil ?_
    refine hK_7 _ _ ?_
    refine w_ret ?_
    exact hret _ _ _ 20 _ hE hR (res_run hE rfl (RV.tmp rfl RV.nil)) rfl H
  · replace H := M.ite_f hb H
    refine w_skip ?_
    refine hK_3 _ _ ?_
    refine w_seq (fun K hK_8 => ?_)
    refine t_region ?_
    refine t_val (v := .int .i64 0) rfl rfl hE rfl (r_assign hE rfl) (fun a hE => ?_)
    refine t_nil ?_
    refine hK_8 _ _ ?_
    refine w_ret ?_
    exact hret _ _ _ 0 _ hE hR (res_run hE rfl (RV.tmp rfl RV.nil)) rfl H

end Gx
