/- Printed by program: Go functions as Lean programs, each tied to its code. No condition. -/
import Derived.Test.YthelieedlghccaaDoorP0
import Derived.Test.YthelieedlghccaaDoorP1
import Derived.Test.YthelieedlghccaaDoorP2
import Derived.Test.YthelieedlghccaaDoorP3
import Derived.Test.YthelieedlghccaaDoorP4
set_option linter.unusedVariables false
set_option linter.unusedSimpArgs false
namespace Gx
open Go
set_option linter.unusedVariables false
set_option maxRecDepth 100000
/-- ramble/rambleref23.check -/
def rambleref23_check_l1 (c0_5 : Sl) (self1 : (Int) → M (Int)) : (Int) → M (Int) := fun s => match s with
  | x3_4 => do
    M.ite (decide (x3_4 < (c0_5.len : Int))) (do
      let x13_11 ← ixL c0_5 x3_4 4
      let x14_12 ← ldG 4 x13_11
      let x15_13 ← rambleref02_Check x14_12
      M.ite (x15_13 != 0) (do
        M.pure x15_13
        ) (do
        self1 (IntKind.wrap .i64 (x3_4 + 1))
        )
      ) (do
      M.pure 0
      )
def rambleref23_check (x0 : Sl) : M (Int) := do
  M.loop (rambleref23_check_l1 x0) 0
theorem S_rambleref23_check (x0 : Sl) : Sound Go.Proofs.Tryd.prog 26 #[(x0 : Sl).v] (fun (r : Int) => .int .i64 r) (rambleref23_check x0) := by
  refine sound_of [(0, (x0 : Sl).v)] Go.Proofs.Tryd.func26 rfl rfl (Nat.le_of_ble_eq_true rfl) (args_of ⟨rfl, trivial⟩) (fun w0 w Q R a hret hE hR H => ?_)
  unfold rambleref23_check at H
  refine w_seq (fun K hK_1 => ?_)
  refine t_region ?_
  refine t_val (v := .int .i64 0) rfl rfl hE rfl (r_assign hE rfl) (fun a hE => ?_)
  refine t_nil ?_
  refine hK_1 _ _ ?_
  refine w_seq (fun K hK_2 => ?_)
  refine w_seq (fun K hK_3 => ?_)
  refine t_region ?_
  refine t_val (v := .int .i64 0) rfl rfl hE rfl (r_assign hE rfl) (fun a hE => ?_)
  refine t_nil ?_
  refine hK_3 _ _ ?_
  refine w_block ?_
  refine l_loop (fun (s : Int) => (⟨19, []⟩ : Frm)) (fun (s : Int) => [(0, (x0 : Sl).v), (3, .int .i64 s)]) H (hE.cut (.cons rfl (.cons rfl Subs.nil))) hR (fun Y self1 hY_6 x3_4 a w hE hR H => ?_)
  replace hE : Env (⟨19, []⟩ : Frm) a [(0, (x0 : Sl).v), (3, .int .i64 x3_4)] := hE
  replace H : (rambleref23_check_l1 x0 self1 x3_4).wp w.heap Q := H
  unfold rambleref23_check_l1 at H
  refine w_seq (fun K hK_7 => ?_)
  refine w_seq (fun K hK_8 => ?_)
  refine t_region ?_
  refine t_val (v := .int .i64 x3_4) rfl rfl hE rfl (r_move hE rfl) (fun a hE => ?_)
  refine t_val (v := (x0 : Sl).v) rfl rfl hE rfl (r_move hE rfl) (fun a hE => ?_)
  refine t_val (v := .int .i64 (x0.len : Int)) rfl rfl hE rfl (r_len hE rfl 42 un22) (fun a hE => ?_)
  refine t_val (v := .bool (decide (x3_4 < (x0.len : Int)))) rfl rfl hE rfl (r_bin hE rfl rfl g_int b_lss) (fun a hE => ?_)
  refine t_nil ?_
  refine hK_8 _ _ ?_
  refine w_cond (decide (x3_4 < (x0.len : Int))) hE rfl (fun hb => ?_) (fun hb => ?_)
  · replace H := M.ite_t hb H
    refine w_skip ?_
    refine hK_7 _ _ ?_
    refine w_seq (fun K hK_9 => ?_)
    refine w_block ?_
    refine w_seq (fun K hK_10 => ?_)
    refine t_region ?_
    refine t_val (v := (x0 : Sl).v) rfl rfl hE rfl (r_move hE rfl) (fun a hE => ?_)
    refine t_val (v := .int .i64 x3_4) rfl rfl hE rfl (r_move hE rfl) (fun a hE => ?_)
    obtain ⟨x13_11, qx13_11, H⟩ := H
    refine t_val (v := .pointer (some x13_11)) rfl rfl hE rfl (r_indexAddrL hE rfl rfl un22 sz42 qx13_11) (fun a hE => ?_)
    obtain ⟨x14_12, qx14_12, H⟩ := H
    refine t_val (v := .agg x14_12) rfl rfl hE rfl (r_loadG hE rfl ag42 qx14_12) (fun a hE => ?_)
    refine t_call hE hR cl_rambleref02_Check rfl (S_rambleref02_Check x14_12) (M.unbind H) (fun x15_13 a w ea hR H => ?_)
    have hE := Env.put_some hE rfl ea; clear ea
    refine t_val (v := .int .i64 x15_13) rfl rfl hE rfl (r_assign hE rfl) (fun a hE => ?_)
    refine t_nil ?_
    refine hK_10 _ _ ?_
    refine w_seq (fun K hK_14 => ?_)
    refine t_region ?_
    refine t_val (v := .int .i64 x15_13) rfl rfl hE rfl (r_move hE rfl) (fun a hE => ?_)
    refine t_val (v := .bool (x15_13 != 0)) rfl rfl hE rfl (r_bin hE rfl rfl g_int b_neq) (fun a hE => ?_)
    refine t_nil ?_
    refine hK_14 _ _ ?_
    refine w_cond (x15_13 != 0) hE rfl (fun hb => ?_) (fun hb => ?_)
    · replace H := M.ite_t hb H
      refine w_seq (fun K hK_15 => ?_)
      refine t_region ?_
      refine t_val (v := .int .i64 x15_13) rfl rfl hE rfl (r_move hE rfl) (fun a hE => ?_)
      refine t_val (v := .int .i64 x15_13) rfl rfl hE rfl (r_assign hE rfl) (fun a hE => ?_)
      refine t_nil ?_
      refine hK_15 _ _ ?_
      refine w_ret ?_
      exact hret _ _ _ x15_13 _ hE hR (res_run hE rfl (RV.tmp rfl RV.nil)) rfl H
    · replace H := M.ite_f hb H
      refine w_skip ?_
      refine hK_9 _ _ ?_
      refine t_region ?_
      refine t_val (v := .int .i64 x3_4) rfl rfl hE rfl (r_move hE rfl) (fun a hE => ?_)
      refine t_val (v := .int .i64 (IntKind.wrap .i64 (x3_4 + 1))) rfl rfl hE rfl (r_bin hE rfl rfl g_int b_add) (fun a hE => ?_)
      refine t_val (v := .int .i64 (IntKind.wrap .i64 (x3_4 + 1))) rfl rfl hE rfl (r_assign hE rfl) (fun a hE => ?_)
      refine t_nil ?_
      exact hY_6 (IntKind.wrap .i64 (x3_4 + 1)) _ _ (hE.cut (.cons rfl (.cons rfl Subs.nil))) hR H
  · replace H := M.ite_f hb H
    refine w_exit ?_
    refine Xu.same ?_
    refine hK_2 _ _ ?_
    refine w_seq (fun K hK_16 => ?_)
    refine t_region ?_
    refine t_val (v := .int .i64 0) rfl rfl hE rfl (r_assign hE rfl) (fun a hE => ?_)
    refine t_nil ?_
    refine hK_16 _ _ ?_
    refine w_ret ?_
    exact hret _ _ _ 0 _ hE hR (res_run hE rfl (RV.tmp rfl RV.nil)) rfl H

/-- ramble/rambleref02.Same -/
def rambleref02_Same (x0 : Array Value) (x1 : Array Value) : M (Bool) := do
  let x2_2 ← mkB ty_api_Value x0
  let x3_3 ← mkB ty_api_Value x1
  let x5_5 ← ldG 4 x2_2
  let x6_6 ← ldG 4 x3_3
  let x7_7 ← rambleref02_Compare x5_5 x6_6
  M.pure (x7_7 == 0)
theorem S_rambleref02_Same (x0 : Array Value) (x1 : Array Value) : Sound Go.Proofs.Tryd.prog 49 #[.agg x0, .agg x1] (fun (r : Bool) => .bool r) (rambleref02_Same x0 x1) := by
  refine sound_of [(0, .agg x0), (1, .agg x1)] Go.Proofs.Tryd.func49 rfl rfl (Nat.le_of_ble_eq_true rfl) (args_of ⟨rfl, rfl, trivial⟩) (fun w0 w Q R a hret hE hR H => ?_)
  unfold rambleref02_Same at H
  refine w_seq (fun K hK_1 => ?_)
  refine t_region ?_
  obtain ⟨x2_2, qx2_2, H⟩ := H
  refine t_valh (v := .pointer (some x2_2)) rfl rfl hE rfl hR (r_box hE rfl qx2_2) (fun a w hE hR hh => ?_)
  replace H := M.at hh H; clear hh
  obtain ⟨x3_3, qx3_3, H⟩ := H
  refine t_valh (v := .pointer (some x3_3)) rfl rfl hE rfl hR (r_box hE rfl qx3_3) (fun a w hE hR hh => ?_)
  replace H := M.at hh H; clear hh
  refine t_val (v := .bool false) rfl rfl hE rfl (r_assign hE rfl) (fun a hE => ?_)
  refine t_nil ?_
  refine hK_1 _ _ ?_
  refine w_seq (fun K hK_4 => ?_)
  refine t_region ?_
  obtain ⟨x5_5, qx5_5, H⟩ := H
  refine t_val (v := .agg x5_5) rfl rfl hE rfl (r_loadG hE rfl ag42 qx5_5) (fun a hE => ?_)
  obtain ⟨x6_6, qx6_6, H⟩ := H
  refine t_val (v := .agg x6_6) rfl rfl hE rfl (r_loadG hE rfl ag42 qx6_6) (fun a hE => ?_)
  refine t_call hE hR cl_rambleref02_Compare rfl (S_rambleref02_Compare x5_5 x6_6) (M.unbind H) (fun x7_7 a w ea hR H => ?_)
  have hE := Env.put_some hE rfl ea; clear ea
  refine t_val (v := .bool (x7_7 == 0)) rfl rfl hE rfl (r_bin hE rfl rfl g_int b_eql) (fun a hE => ?_)
  refine t_val (v := .bool (x7_7 == 0)) rfl rfl hE rfl (r_assign hE rfl) (fun a hE => ?_)
  refine t_nil ?_
  refine hK_4 _ _ ?_
  refine w_ret ?_
  exact hret _ _ _ (x7_7 == 0) _ hE hR (res_run hE rfl (RV.tmp rfl RV.nil)) rfl H

/-- ramble/rambleref02.Get -/
theorem tb29_6 : tabAt Go.Proofs.Tryd.f29 6 [[], [0], [], [1, 2], [3], [], [4, 5]] [[], [0], [], [1, 2], [3], [], [4, 5]] [[], [0], [], [0, 1, 2], [0, 1, 2, 3], [], [0, 1, 2, 3, 4, 5]] = true := by kernel_rfl
def rambleref02_Get_l1 (c2_14 : Addr) (c3_15 : Addr) (c4_16 : Addr) (self1 : (Int) → M (Array Value × Bool)) : (Int) → M (Array Value × Bool) := fun s => match s with
  | x6_13 => do
    let x14_20 ← ldL ((c2_14).add 3)
    M.ite (decide ((IntKind.wrap .i64 (x6_13 + 1)) < (x14_20.len : Int))) (do
      let x20_23 ← ldL ((c2_14).add 3)
      let x22_24 ← ixL x20_23 x6_13 4
      let x23_25 ← ldG 4 x22_24
      let x24_26 ← ldG 4 c3_15
      let x25_27 ← rambleref02_Same x23_25 x24_26
      M.ite x25_27 (do
        let x27_29 ← ldL ((c2_14).add 3)
        let x30_30 ← ixL x27_29 (IntKind.wrap .i64 (x6_13 + 1)) 4
        let x31_31 ← ldG 4 x30_30
        M.need (x31_31.size = 4)
        stG c4_16 x31_31
        let r4_33 ← ldG 4 c4_16
        M.pure (r4_33, true)
        ) (do
        self1 (IntKind.wrap .i64 (x6_13 + 2))
        )
      ) (do
      M.need ((#[.int .i64 0, .int .i64 0, .string ByteArray.empty, .slice none 0 0] : Array Value).size = 4)
      stG c4_16 (#[.int .i64 0, .int .i64 0, .string ByteArray.empty, .slice none 0 0] : Array Value)
      let r4_36 ← ldG 4 c4_16
      M.pure (r4_36, false)
      )
def rambleref02_Get (x0 : Array Value) (x1 : Array Value) : M (Array Value × Bool) := do
  let x2_2 ← mkB ty_api_Value x0
  let x3_3 ← mkB ty_api_Value x1
  let x4_4 ← mkB ty_api_Value (#[.int .i64 0, .int .i64 0, .string ByteArray.empty, .slice none 0 0] : Array Value)
  let x8_7 ← ldI .i64 ((x2_2).add 0)
  M.ite (x8_7 != 5) (do
    M.need ((#[.int .i64 0, .int .i64 0, .string ByteArray.empty, .slice none 0 0] : Array Value).size = 4)
    stG x4_4 (#[.int .i64 0, .int .i64 0, .string ByteArray.empty, .slice none 0 0] : Array Value)
    let r4_10 ← ldG 4 x4_4
    M.pure (r4_10, false)
    ) (do
    M.loop (rambleref02_Get_l1 x2_2 x3_3 x4_4) 0
    )
theorem S_rambleref02_Get (x0 : Array Value) (x1 : Array Value) : Sound Go.Proofs.Tryd.prog 29 #[.agg x0, .agg x1] (fun (r : Array Value × Bool) => .tuple #[.agg r.1, .bool r.2]) (rambleref02_Get x0 x1) := by
  refine sound_of [(0, .agg x0), (1, .agg x1)] Go.Proofs.Tryd.func29 rfl rfl (Nat.le_of_ble_eq_true rfl) (args_of ⟨rfl, rfl, trivial⟩) (fun w0 w Q R a hret hE hR H => ?_)
  unfold rambleref02_Get at H
  refine w_seq (fun K hK_1 => ?_)
  refine t_region ?_
  obtain ⟨x2_2, qx2_2, H⟩ := H
  refine t_valh (v := .pointer (some x2_2)) rfl rfl hE rfl hR (r_box hE rfl qx2_2) (fun a w hE hR hh => ?_)
  replace H := M.at hh H; clear hh
  obtain ⟨x3_3, qx3_3, H⟩ := H
  refine t_valh (v := .pointer (some x3_3)) rfl rfl hE rfl hR (r_box hE rfl qx3_3) (fun a w hE hR hh => ?_)
  replace H := M.at hh H; clear hh
  obtain ⟨x4_4, qx4_4, H⟩ := H
  refine t_valh (v := .pointer (some x4_4)) rfl rfl hE rfl hR (r_alloc zr42 qx4_4) (fun a w hE hR hh => ?_)
  replace H := M.at hh H; clear hh
  refine t_val (v := .bool false) rfl rfl hE rfl (r_assign hE rfl) (fun a hE => ?_)
  refine t_nil ?_
  refine hK_1 _ _ ?_
  refine w_seq (fun K hK_5 => ?_)
  refine w_seq (fun K hK_6 => ?_)
  refine t_region ?_
  refine t_val (v := .pointer (some ((x2_2).add 0))) rfl rfl hE rfl (r_fieldAddr hE rfl fd42_0) (fun a hE => ?_)
  obtain ⟨x8_7, qx8_7, H⟩ := H
  refine t_val (v := .int .i64 x8_7) rfl rfl hE rfl (r_load hE rfl sc3 qx8_7) (fun a hE => ?_)
  refine t_val (v := .bool (x8_7 != 5)) rfl rfl hE rfl (r_bin hE rfl rfl g_int b_neq) (fun a hE => ?_)
  refine t_nil ?_
  refine hK_6 _ _ ?_
  refine w_cond (x8_7 != 5) hE rfl (fun hb => ?_) (fun hb => ?_)
  · replace H := M.ite_t hb H
    refine w_seq (fun K hK_8 => ?_)
    refine t_region ?_
    refine t_val (v := .agg (#[.int .i64 0, .int .i64 0, .string ByteArray.empty, .slice none 0 0] : Array Value)) rfl rfl hE rfl (r_build0 bd42) (fun a hE => ?_)
    obtain ⟨qz, H⟩ := H
    obtain ⟨u_9, qu_9, H⟩ := H
    refine t_sth rfl rfl hE hR (r_storeG hE rfl rfl sz42 qz qu_9) (fun a w hE hR hh => ?_)
    replace H := M.at hh H; clear hh
    refine t_val (v := .bool false) rfl rfl hE rfl (r_assign hE rfl) (fun a hE => ?_)
    refine t_nil ?_
    refine hK_8 _ _ ?_
    refine w_ret ?_
    obtain ⟨r4_10, qr4_10, H⟩ := H
    exact hret _ _ _ (r4_10, false) _ hE hR (res_run hE rfl (RV.cellG rfl ag42 qr4_10 (RV.tmp rfl RV.nil))) rfl H
  · replace H := M.ite_f hb H
    refine w_skip ?_
    refine hK_5 _ _ ?_
    refine w_seq (fun K hK_11 => ?_)
    refine w_seq (fun K hK_12 => ?_)
    refine t_region ?_
    refine t_val (v := .int .i64 0) rfl rfl hE rfl (r_assign hE rfl) (fun a hE => ?_)
    refine t_nil ?_
    refine hK_12 _ _ ?_
    refine w_block ?_
    refine l_loop (fun (s : Int) => (⟨33, []⟩ : Frm)) (fun (s : Int) => [(2, .pointer (some x2_2)), (3, .pointer (some x3_3)), (4, .pointer (some x4_4)), (6, .int .i64 s)]) H (hE.cut (.cons rfl (.cons rfl (.cons rfl (.cons rfl Subs.nil))))) hR (fun Y self1 hY_17 x6_13 a w hE hR H => ?_)
    replace hE : Env (⟨33, []⟩ : Frm) a [(2, .pointer (some x2_2)), (3, .pointer (some x3_3)), (4, .pointer (some x4_4)), (6, .int .i64 x6_13)] := hE
    replace H : (rambleref02_Get_l1 x2_2 x3_3 x4_4 self1 x6_13).wp w.heap Q := H
    unfold rambleref02_Get_l1 at H
    refine w_seq (fun K hK_18 => ?_)
    refine w_seq (fun K hK_19 => ?_)
    refine t_region ?_
    refine t_val (v := .int .i64 x6_13) rfl rfl hE rfl (r_move hE rfl) (fun a hE => ?_)
    refine t_val (v := .int .i64 (IntKind.wrap .i64 (x6_13 + 1))) rfl rfl hE rfl (r_bin hE rfl rfl g_int b_add) (fun a hE => ?_)
    refine t_val (v := .pointer (some ((x2_2).add 3))) rfl rfl hE rfl (r_fieldAddr hE rfl fd42_3) (fun a hE => ?_)
    obtain ⟨x14_20, qx14_20, H⟩ := H
    refine t_val (v := (x14_20 : Sl).v) rfl rfl hE rfl (r_load hE rfl sc22 qx14_20) (fun a hE => ?_)
    refine t_val (v := .int .i64 (x14_20.len : Int)) rfl rfl hE rfl (r_len hE rfl 42 un22) (fun a hE => ?_)
    refine t_val (v := .bool (decide ((IntKind.wrap .i64 (x6_13 + 1)) < (x14_20.len : Int)))) rfl rfl hE rfl (r_bin hE rfl rfl g_int b_lss) (fun a hE => ?_)
    refine t_nil ?_
    refine hK_19 _ _ ?_
    refine w_cond (decide ((IntKind.wrap .i64 (x6_13 + 1)) < (x14_20.len : Int))) hE rfl (fun hb => ?_) (fun hb => ?_)
    · replace H := M.ite_t hb H
      refine w_skip ?_
      refine hK_18 _ _ ?_
      refine w_seq (fun K hK_21 => ?_)
      refine w_block ?_
      refine w_seq (fun K hK_22 => ?_)
      obtain ⟨x20_23, qx20_23, H⟩ := H
      obtain ⟨x22_24, qx22_24, H⟩ := H
      obtain ⟨x23_25, qx23_25, H⟩ := H
      obtain ⟨x24_26, qx24_26, H⟩ := H
      have hT := tab_of tb29_6 rfl rfl
      refine d_start (fun w : World => (fun h : Heap => (hcell h ((x2_2).add 3) = some ((x20_23 : Sl).v)) ∧ (x23_25.size = 4 ∧ ∀ i, i < 4 → hcell h (Addr.add x22_24 i) = x23_25[i]?) ∧ (x24_26.size = 4 ∧ ∀ i, i < 4 → hcell h (Addr.add x3_3 i) = x24_26[i]?)) w.heap) [6] #[false, false, false, false, false, false, false] mo hR rfl rfl (fun w' e => by rw [e]; exact ⟨qx20_23, qx23_25, qx24_26⟩) (fun w hh hR hs => ?_)
      replace H := M.at hh H; clear hh
      refine d_pureg (i := 0) (v := .pointer (some ((x2_2).add 3))) #[true, false, false, false, false, false, false] rfl rfl hT (by kernel_rfl) hE rfl (wanted_none rfl) (fun w => r_fieldAddr hE rfl fd42_3) (fun a hE => ?_)
      refine d_pureg (i := 2) (v := .int .i64 x6_13) #[true, false, true, false, false, false, false] rfl rfl hT (by kernel_rfl) hE rfl (wanted_none rfl) (fun w => r_move hE rfl) (fun a hE => ?_)
      refine d_read (i := 1) (v := (x20_23 : Sl).v) #[true, true, true, false, false, false, false] rfl rfl hT (by kernel_rfl) hE rfl (wanted_none rfl) hs (fun w s => r_load hE rfl sc22 s.1) (fun a hE => ?_)
      refine d_pureg (i := 3) (v := .pointer (some x22_24)) #[true, true, true, true, false, false, false] rfl rfl hT (by kernel_rfl) hE rfl (wanted_none rfl) (fun w => r_indexAddrL hE rfl rfl un22 sz42 qx22_24) (fun a hE => ?_)
      refine d_read (i := 4) (v := .agg x23_25) #[true, true, true, true, true, false, false] rfl rfl hT (by kernel_rfl) hE rfl (wanted_none rfl) hs (fun w s => r_loadG hE rfl ag42 s.2.1) (fun a hE => ?_)
      refine d_read (i := 5) (v := .agg x24_26) #[true, true, true, true, true, true, false] rfl rfl hT (by kernel_rfl) hE rfl (wanted_none rfl) hs (fun w s => r_loadG hE rfl ag42 s.2.2) (fun a hE => ?_)
      refine d_calll (i := 6) #[true, true, true, true, true, true, true] rfl rfl rfl hT (by kernel_rfl) rfl hE hR (wanted_none rfl) cl_rambleref02_Same rfl (S_rambleref02_Same x23_25 x24_26) (M.unbind H) (fun x25_27 a w ea hR H => ?_)
      have hE := Env.put_some hE rfl ea; clear ea
      refine d_done hT (by kernel_rfl) ?_
      refine hK_22 _ _ ?_
      refine w_cond x25_27 hE rfl (fun hb => ?_) (fun hb => ?_)
      · replace H := M.ite_t hb H
        refine w_seq (fun K hK_28 => ?_)
        refine t_region ?_
        refine t_val (v := .pointer (some ((x2_2).add 3))) rfl rfl hE rfl (r_fieldAddr hE rfl fd42_3) (fun a hE => ?_)
        obtain ⟨x27_29, qx27_29, H⟩ := H
        refine t_val (v := (x27_29 : Sl).v) rfl rfl hE rfl (r_load hE rfl sc22 qx27_29) (fun a hE => ?_)
        refine t_val (v := .int .i64 x6_13) rfl rfl hE rfl (r_move hE rfl) (fun a hE => ?_)
        refine t_val (v := .int .i64 (IntKind.wrap .i64 (x6_13 + 1))) rfl rfl hE rfl (r_bin hE rfl rfl g_int b_add) (fun a hE => ?_)
        obtain ⟨x30_30, qx30_30, H⟩ := H
        refine t_val (v := .pointer (some x30_30)) rfl rfl hE rfl (r_indexAddrL hE rfl rfl un22 sz42 qx30_30) (fun a hE => ?_)
        obtain ⟨x31_31, qx31_31, H⟩ := H
        refine t_val (v := .agg x31_31) rfl rfl hE rfl (r_loadG hE rfl ag42 qx31_31) (fun a hE => ?_)
        obtain ⟨qz, H⟩ := H
        obtain ⟨u_32, qu_32, H⟩ := H
        refine t_sth rfl rfl hE hR (r_storeG hE rfl rfl sz42 qz qu_32) (fun a w hE hR hh => ?_)
        replace H := M.at hh H; clear hh
        refine t_val (v := .bool true) rfl rfl hE rfl (r_assign hE rfl) (fun a hE => ?_)
        refine t_nil ?_
        refine hK_28 _ _ ?_
        refine w_ret ?_
        obtain ⟨r4_33, qr4_33, H⟩ := H
        exact hret _ _ _ (r4_33, true) _ hE hR (res_run hE rfl (RV.cellG rfl ag42 qr4_33 (RV.tmp rfl RV.nil))) rfl H
      · replace H := M.ite_f hb H
        refine w_skip ?_
        refine hK_21 _ _ ?_
        refine t_region ?_
        refine t_val (v := .int .i64 x6_13) rfl rfl hE rfl (r_move hE rfl) (fun a hE => ?_)
        refine t_val (v := .int .i64 (IntKind.wrap .i64 (x6_13 + 2))) rfl rfl hE rfl (r_bin hE rfl rfl g_int b_add) (fun a hE => ?_)
        refine t_val (v := .int .i64 (IntKind.wrap .i64 (x6_13 + 2))) rfl rfl hE rfl (r_assign hE rfl) (fun a hE => ?_)
        refine t_nil ?_
        exact hY_17 (IntKind.wrap .i64 (x6_13 + 2)) _ _ (hE.cut (.cons rfl (.cons rfl (.cons rfl (.cons rfl Subs.nil))))) hR H
    · replace H := M.ite_f hb H
      refine w_exit ?_
      refine Xu.same ?_
      refine hK_11 _ _ ?_
      refine w_seq (fun K hK_34 => ?_)
      refine t_region ?_
      refine t_val (v := .agg (#[.int .i64 0, .int .i64 0, .string ByteArray.empty, .slice none 0 0] : Array Value)) rfl rfl hE rfl (r_build0 bd42) (fun a hE => ?_)
      obtain ⟨qz, H⟩ := H
      obtain ⟨u_35, qu_35, H⟩ := H
      refine t_sth rfl rfl hE hR (r_storeG hE rfl rfl sz42 qz qu_35) (fun a w hE hR hh => ?_)
      replace H := M.at hh H; clear hh
      refine t_val (v := .bool false) rfl rfl hE rfl (r_assign hE rfl) (fun a hE => ?_)
      refine t_nil ?_
      refine hK_34 _ _ ?_
      refine w_ret ?_
      obtain ⟨r4_36, qr4_36, H⟩ := H
      exact hret _ _ _ (r4_36, false) _ hE hR (res_run hE rfl (RV.cellG rfl ag42 qr4_36 (RV.tmp rfl RV.nil))) rfl H

/-- ramble/rambleref01.bare -/
def rambleref01_bare (x0 : Int) : M (Int) := do
  M.ite (decide (x0 < 0)) (do
    M.pure (IntKind.wrap .u64 (0 - (IntKind.wrap .u64 x0)))
    ) (do
    M.pure (IntKind.wrap .u64 x0)
    )
theorem S_rambleref01_bare (x0 : Int) : Sound Go.Proofs.Tryd.prog 99 #[.int .i64 x0] (fun (r : Int) => .int .u64 r) (rambleref01_bare x0) := by
  refine sound_of [(0, .int .i64 x0)] Go.Proofs.Tryd.func99 rfl rfl (Nat.le_of_ble_eq_true rfl) (args_of ⟨rfl, trivial⟩) (fun w0 w Q R a hret hE hR H => ?_)
  unfold rambleref01_bare at H
  refine w_seq (fun K hK_1 => ?_)
  refine t_region ?_
  refine t_val (v := .int .u64 0) rfl rfl hE rfl (r_assign hE rfl) (fun a hE => ?_)
  refine t_nil ?_
  refine hK_1 _ _ ?_
  refine w_seq (fun K hK_2 => ?_)
  refine w_seq (fun K hK_3 => ?_)
  refine t_region ?_
  refine t_val (v := .int .i64 x0) rfl rfl hE rfl (r_move hE rfl) (fun a hE => ?_)
  refine t_val (v := .bool (decide (x0 < 0))) rfl rfl hE rfl (r_bin hE rfl rfl g_int b_lss) (fun a hE => ?_)
  refine t_nil ?_
  refine hK_3 _ _ ?_
  refine w_cond (decide (x0 < 0)) hE rfl (fun hb => ?_) (fun hb => ?_)
  · replace H := M.ite_t hb H
    refine w_seq (fun K hK_4 => ?_)
    refine t_region ?_
    refine t_val (v := .int .i64 x0) rfl rfl hE rfl (r_move hE rfl) (fun a hE => ?_)
    refine t_val (v := .int .u64 (IntKind.wrap .u64 x0)) rfl rfl hE rfl (r_convI hE rfl un2 un95) (fun a hE => ?_)
    refine t_val (v := .int .u64 (IntKind.wrap .u64 (0 - (IntKind.wrap .u64 x0)))) rfl rfl hE rfl (r_bin hE rfl rfl g_int b_sub) (fun a hE => ?_)
    refine t_val (v := .int .u64 (IntKind.wrap .u64 (0 - (IntKind.wrap .u64 x0)))) rfl rfl hE rfl (r_assign hE rfl) (fun a hE => ?_)
    refine t_nil ?_
    refine hK_4 _ _ ?_
    refine w_ret ?_
    exact hret _ _ _ (IntKind.wrap .u64 (0 - (IntKind.wrap .u64 x0))) _ hE hR (res_run hE rfl (RV.tmp rfl RV.nil)) rfl H
  · replace H := M.ite_f hb H
    refine w_skip ?_
    refine hK_2 _ _ ?_
    refine w_seq (fun K hK_5 => ?_)
    refine t_region ?_
    refine t_val (v := .int .i64 x0) rfl rfl hE rfl (r_move hE rfl) (fun a hE => ?_)
    refine t_val (v := .int .u64 (IntKind.wrap .u64 x0)) rfl rfl hE rfl (r_convI hE rfl un2 un95) (fun a hE => ?_)
    refine t_val (v := .int .u64 (IntKind.wrap .u64 x0)) rfl rfl hE rfl (r_assign hE rfl) (fun a hE => ?_)
    refine t_nil ?_
    refine hK_5 _ _ ?_
    refine w_ret ?_
    exact hret _ _ _ (IntKind.wrap .u64 x0) _ hE hR (res_run hE rfl (RV.tmp rfl RV.nil)) rfl H

/-- ramble/rambleref01.Digits -/
def rambleref01_Digits_l1 (self1 : (Int × Sl) → M (Sl)) : (Int × Sl) → M (Sl) := fun s => match s with
  | (x3_6, x4_7) => do
    let x13_11 ← M.ite (decide (x3_6 > 0)) (do
      M.pure true
      ) (do
      M.pure ((x4_7.len : Int) == 0)
      )
    M.ite x13_11 (do
      let x17_13 ← bdL ty_int 1 #[.int .i64 (IntKind.wrap .i64 (Int.tmod x3_6 10))]
      let x19_14 ← apL ty_int 1 8 (#[.int .i64 0] : Array Value) x17_13 x4_7
      self1 (IntKind.wrap .u64 (Int.tdiv x3_6 10), x19_14)
      ) (do
      M.pure x4_7
      )
def rambleref01_Digits (x0 : Int) : M (Sl) := do
  let x6_3 ← rambleref01_bare x0
  M.loop rambleref01_Digits_l1 (x6_3, Sl.nil)
theorem S_rambleref01_Digits (x0 : Int) : Sound Go.Proofs.Tryd.prog 90 #[.int .i64 x0] (fun (r : Sl) => (r : Sl).v) (rambleref01_Digits x0) := by
  refine sound_of [(0, .int .i64 x0)] Go.Proofs.Tryd.func90 rfl rfl (Nat.le_of_ble_eq_true rfl) (args_of ⟨rfl, trivial⟩) (fun w0 w Q R a hret hE hR H => ?_)
  unfold rambleref01_Digits at H
  refine w_seq (fun K hK_1 => ?_)
  refine t_region ?_
  refine t_val (v := (Sl.nil : Sl).v) rfl rfl hE rfl (r_assign hE rfl) (fun a hE => ?_)
  refine t_nil ?_
  refine hK_1 _ _ ?_
  refine w_seq (fun K hK_2 => ?_)
  refine t_region ?_
  refine t_val (v := .int .i64 x0) rfl rfl hE rfl (r_move hE rfl) (fun a hE => ?_)
  refine t_call hE hR cl_rambleref01_bare rfl (S_rambleref01_bare x0) (M.unbind H) (fun x6_3 a w ea hR H => ?_)
  have hE := Env.put_some hE rfl ea; clear ea
  refine t_val (v := .int .u64 x6_3) rfl rfl hE rfl (r_assign hE rfl) (fun a hE => ?_)
  refine t_nil ?_
  refine hK_2 _ _ ?_
  refine w_seq (fun K hK_4 => ?_)
  refine t_region ?_
  refine t_val (v := (Sl.nil : Sl).v) rfl rfl hE rfl (r_assign hE rfl) (fun a hE => ?_)
  refine t_nil ?_
  refine hK_4 _ _ ?_
  refine w_seq (fun K hK_5 => ?_)
  refine w_block ?_
  refine l_loop (fun (s : Int × Sl) => (⟨23, []⟩ : Frm)) (fun (s : Int × Sl) => [(3, .int .u64 s.1), (4, (s.2 : Sl).v)]) H (hE.cut (.cons rfl (.cons rfl Subs.nil))) hR (fun Y self1 hY_8 s a w hE hR H => ?_)
  rcases s with ⟨x3_6, x4_7⟩
  replace hE : Env (⟨23, []⟩ : Frm) a [(3, .int .u64 x3_6), (4, (x4_7 : Sl).v)] := hE
  replace H : (rambleref01_Digits_l1 self1 (x3_6, x4_7)).wp w.heap Q := H
  unfold rambleref01_Digits_l1 at H
  refine w_seq (fun K hK_9 => ?_)
  refine w_seq (fun K hK_10 => ?_)
  refine t_region ?_
  refine t_val (v := .int .u64 x3_6) rfl rfl hE rfl (r_move hE rfl) (fun a hE => ?_)
  refine t_val (v := .bool (decide (x3_6 > 0))) rfl rfl hE rfl (r_bin hE rfl rfl g_int b_gtr) (fun a hE => ?_)
  refine t_val (v := .bool (decide (x3_6 > 0))) rfl rfl hE rfl (r_move hE rfl) (fun a hE => ?_)
  refine t_grp (n := (⟨23, []⟩ : Frm)) (w0 := w0) 4 (fun x13_11 : Bool => [(3, .int .u64 x3_6), (4, (x4_7 : Sl).v), (13, .bool x13_11)]) (M.unbind H) (fun Kr hKr H => ?_) ?_
  · rcases bool_em (decide (x3_6 > 0)) with hb | hb
    · replace H := M.ite_t hb H
      have hE := hE.reb 9 (decide (x3_6 > 0)) true hb rfl
      refine t_off rfl hE rfl rfl rfl (fun a ea => ?_)
      have hE := Env.put_some hE rfl ea; clear ea
      refine t_off rfl hE rfl rfl rfl (fun a ea => ?_)
      have hE := Env.put_some hE rfl ea; clear ea
      refine t_off rfl hE rfl rfl rfl (fun a ea => ?_)
      have hE := Env.put_some hE rfl ea; clear ea
      refine t_val rfl rfl hE rfl (r_pick_t hE rfl rfl) (fun a hE => ?_)
      refine t_nil ?_
      exact hKr _ _ _ (hE.cut (.cons rfl (.cons rfl (.cons rfl Subs.nil)))) hR H
    · replace H := M.ite_f hb H
      have hE := hE.reb 9 (decide (x3_6 > 0)) false hb rfl
      refine t_on rfl hE rfl rfl rfl ?_
      refine t_val (v := (x4_7 : Sl).v) rfl rfl hE rfl (r_move hE rfl) (fun a hE => ?_)
      refine t_on rfl hE rfl rfl rfl ?_
      refine t_val (v := .int .i64 (x4_7.len : Int)) rfl rfl hE rfl (r_len hE rfl 3 un96) (fun a hE => ?_)
      refine t_on rfl hE rfl rfl rfl ?_
      refine t_val (v := .bool ((x4_7.len : Int) == 0)) rfl rfl hE rfl (r_bin hE rfl rfl g_int b_eql) (fun a hE => ?_)
      refine t_val rfl rfl hE rfl (r_pick_f hE rfl rfl) (fun a hE => ?_)
      refine t_nil ?_
      exact hKr _ _ _ (hE.cut (.cons rfl (.cons rfl (.cons rfl Subs.nil)))) hR H
  · intro x13_11 a w hE hR H
    refine t_nil ?_
    refine hK_10 _ _ ?_
    refine w_cond x13_11 hE rfl (fun hb => ?_) (fun hb => ?_)
    · replace H := M.ite_t hb H
      refine w_skip ?_
      refine hK_9 _ _ ?_
      refine w_block ?_
      refine w_seq (fun K hK_12 => ?_)
      refine t_region ?_
      refine t_val (v := .int .u64 x3_6) rfl rfl hE rfl (r_move hE rfl) (fun a hE => ?_)
      refine t_val (v := .int .u64 (Int.tmod x3_6 10)) rfl rfl hE rfl (r_bin hE rfl rfl g_int (b_rem ⟨by decide, rfl⟩)) (fun a hE => ?_)
      refine t_val (v := .int .i64 (IntKind.wrap .i64 (Int.tmod x3_6 10))) rfl rfl hE rfl (r_convI hE rfl un95 un3) (fun a hE => ?_)
      obtain ⟨x17_13, qx17_13, H⟩ := H
      refine t_valh (v := (x17_13 : Sl).v) rfl rfl hE rfl hR (r_buildL (cells := #[.int .i64 (IntKind.wrap .i64 (Int.tmod x3_6 10))]) hE rfl un96 sz3 zr3 rfl rfl qx17_13) (fun a w hE hR hh => ?_)
      replace H := M.at hh H; clear hh
      refine t_val (v := (x4_7 : Sl).v) rfl rfl hE rfl (r_move hE rfl) (fun a hE => ?_)
      refine t_ex (fun x19_14 => (x19_14 : Sl).v) rfl rfl hR (M.unbind H) (fun Q H => ap_run hE rfl rfl ap96 H) (fun x19_14 a w ea hR H => ?_)
      have hE := Env.put_some hE rfl ea; clear ea
      refine t_val (v := (x19_14 : Sl).v) rfl rfl hE rfl (r_assign hE rfl) (fun a hE => ?_)
      refine t_nil ?_
      refine hK_12 _ _ ?_
      refine t_region ?_
      refine t_val (v := .int .u64 x3_6) rfl rfl hE rfl (r_move hE rfl) (fun a hE => ?_)
      refine t_val (v := .int .u64 (IntKind.wrap .u64 (Int.tdiv x3_6 10))) rfl rfl hE rfl (r_bin hE rfl rfl g_int (b_quo ⟨by decide, rfl⟩)) (fun a hE => ?_)
      refine t_val (v := .int .u64 (IntKind.wrap .u64 (Int.tdiv x3_6 10))) rfl rfl hE rfl (r_assign hE rfl) (fun a hE => ?_)
      refine t_nil ?_
      exact hY_8 (IntKind.wrap .u64 (Int.tdiv x3_6 10), x19_14) _ _ (hE.cut (.cons rfl (.cons rfl Subs.nil))) hR H
    · replace H := M.ite_f hb H
      refine w_exit ?_
      refine Xu.same ?_
      refine hK_5 _ _ ?_
      refine w_seq (fun K hK_15 => ?_)
      refine t_region ?_
      refine t_val (v := (x4_7 : Sl).v) rfl rfl hE rfl (r_move hE rfl) (fun a hE => ?_)
      refine t_val (v := (x4_7 : Sl).v) rfl rfl hE rfl (r_assign hE rfl) (fun a hE => ?_)
      refine t_nil ?_
      refine hK_15 _ _ ?_
      refine w_ret ?_
      exact hret _ _ _ x4_7 _ hE hR (res_run hE rfl (RV.tmp rfl RV.nil)) rfl H

/-- ramble/rambleref01.Text -/
def rambleref01_Text_l1 (c4_11 : Sl) (self1 : (ByteArray × Int) → M (ByteArray)) : (ByteArray × Int) → M (ByteArray) := fun s => match s with
  | (x3_9, x5_10) => do
    M.ite (decide (x5_10 < (c4_11.len : Int))) (do
      let x19_16 ← ixL c4_11 x5_10 1
      let x20_17 ← ldI .i64 x19_16
      let x23_18 ← bdL ty_uint8 1 #[.int .u8 (IntKind.wrap .u8 (IntKind.wrap .i64 (48 + x20_17)))]
      let x24_19 ← b2s x23_18
      let x25_20 ← sCat x3_9 x24_19
      self1 (x25_20, IntKind.wrap .i64 (x5_10 + 1))
      ) (do
      M.pure x3_9
      )
def rambleref01_Text_j1 (c0_4 : Int) (x3_3 : ByteArray) : M (ByteArray) := do
  let x9_6 ← rambleref01_Digits c0_4
  M.loop (rambleref01_Text_l1 x9_6) (x3_3, 0)
def rambleref01_Text (x0 : Int) : M (ByteArray) := do
  M.ite (decide (x0 < 0)) (do
    rambleref01_Text_j1 x0 (⟨#[45]⟩ : ByteArray)
    ) (do
    rambleref01_Text_j1 x0 ByteArray.empty
    )
theorem S_rambleref01_Text (x0 : Int) : Sound Go.Proofs.Tryd.prog 74 #[.int .i64 x0] (fun (r : ByteArray) => .string r) (rambleref01_Text x0) := by
  refine sound_of [(0, .int .i64 x0)] Go.Proofs.Tryd.func74 rfl rfl (Nat.le_of_ble_eq_true rfl) (args_of ⟨rfl, trivial⟩) (fun w0 w Q R a hret hE hR H => ?_)
  unfold rambleref01_Text at H
  refine w_seq (fun K hK_1 => ?_)
  refine t_region ?_
  refine t_val (v := .string ByteArray.empty) rfl rfl hE rfl (r_assign hE rfl) (fun a hE => ?_)
  refine t_nil ?_
  refine hK_1 _ _ ?_
  refine w_seq (fun K hK_2 => ?_)
  refine t_region ?_
  refine t_val (v := .string ByteArray.empty) rfl rfl hE rfl (r_assign hE rfl) (fun a hE => ?_)
  refine t_nil ?_
  refine hK_2 _ _ ?_
  refine w_seq_join (fun a w => ∃ (x3_3 : ByteArray), Env (⟨27, []⟩ : Frm) a [(0, .int .i64 x0), (3, .string x3_3)] ∧ Rest w0 w ∧ (rambleref01_Text_j1 x0 x3_3).wp w.heap Q) ?_ ?_
  · rintro a w ⟨x3_3, hE, hR, H⟩
    unfold rambleref01_Text_j1 at H
    refine w_seq (fun K hK_5 => ?_)
    refine t_region ?_
    refine t_val (v := .int .i64 x0) rfl rfl hE rfl (r_move hE rfl) (fun a hE => ?_)
    refine t_call hE hR cl_rambleref01_Digits rfl (S_rambleref01_Digits x0) (M.unbind H) (fun x9_6 a w ea hR H => ?_)
    have hE := Env.put_some hE rfl ea; clear ea
    refine t_val (v := (x9_6 : Sl).v) rfl rfl hE rfl (r_assign hE rfl) (fun a hE => ?_)
    refine t_nil ?_
    refine hK_5 _ _ ?_
    refine w_seq (fun K hK_7 => ?_)
    refine w_seq (fun K hK_8 => ?_)
    refine t_region ?_
    refine t_val (v := .int .i64 0) rfl rfl hE rfl (r_assign hE rfl) (fun a hE => ?_)
    refine t_nil ?_
    refine hK_8 _ _ ?_
    refine w_block ?_
    refine l_loop (fun (s : ByteArray × Int) => (⟨27, []⟩ : Frm)) (fun (s : ByteArray × Int) => [(3, .string s.1), (4, (x9_6 : Sl).v), (5, .int .i64 s.2)]) H (hE.cut (.cons rfl (.cons rfl (.cons rfl Subs.nil)))) hR (fun Y self1 hY_12 s a w hE hR H => ?_)
    rcases s with ⟨x3_9, x5_10⟩
    replace hE : Env (⟨27, []⟩ : Frm) a [(3, .string x3_9), (4, (x9_6 : Sl).v), (5, .int .i64 x5_10)] := hE
    replace H : (rambleref01_Text_l1 x9_6 self1 (x3_9, x5_10)).wp w.heap Q := H
    unfold rambleref01_Text_l1 at H
    refine w_seq (fun K hK_13 => ?_)
    refine w_seq (fun K hK_14 => ?_)
    refine t_region ?_
    refine t_val (v := .int .i64 x5_10) rfl rfl hE rfl (r_move hE rfl) (fun a hE => ?_)
    refine t_val (v := (x9_6 : Sl).v) rfl rfl hE rfl (r_move hE rfl) (fun a hE => ?_)
    refine t_val (v := .int .i64 (x9_6.len : Int)) rfl rfl hE rfl (r_len hE rfl 3 un96) (fun a hE => ?_)
    refine t_val (v := .bool (decide (x5_10 < (x9_6.len : Int)))) rfl rfl hE rfl (r_bin hE rfl rfl g_int b_lss) (fun a hE => ?_)
    refine t_nil ?_
    refine hK_14 _ _ ?_
    refine w_cond (decide (x5_10 < (x9_6.len : Int))) hE rfl (fun hb => ?_) (fun hb => ?_)
    · replace H := M.ite_t hb H
      refine w_skip ?_
      refine hK_13 _ _ ?_
      refine w_seq (fun K hK_15 => ?_)
      refine w_block ?_
      refine t_region ?_
      refine t_val (v := .string x3_9) rfl rfl hE rfl (r_move hE rfl) (fun a hE => ?_)
      refine t_val (v := (x9_6 : Sl).v) rfl rfl hE rfl (r_move hE rfl) (fun a hE => ?_)
      refine t_val (v := .int .i64 x5_10) rfl rfl hE rfl (r_move hE rfl) (fun a hE => ?_)
      obtain ⟨x19_16, qx19_16, H⟩ := H
      refine t_val (v := .pointer (some x19_16)) rfl rfl hE rfl (r_indexAddrL hE rfl rfl un96 sz3 qx19_16) (fun a hE => ?_)
      obtain ⟨x20_17, qx20_17, H⟩ := H
      refine t_val (v := .int .i64 x20_17) rfl rfl hE rfl (r_load hE rfl sc3 qx20_17) (fun a hE => ?_)
      refine t_val (v := .int .i64 (IntKind.wrap .i64 (48 + x20_17))) rfl rfl hE rfl (r_bin hE rfl rfl g_int b_add) (fun a hE => ?_)
      refine t_val (v := .int .u8 (IntKind.wrap .u8 (IntKind.wrap .i64 (48 + x20_17)))) rfl rfl hE rfl (r_convI hE rfl un3 un5) (fun a hE => ?_)
      obtain ⟨x23_18, qx23_18, H⟩ := H
      refine t_valh (v := (x23_18 : Sl).v) rfl rfl hE rfl hR (r_buildL (cells := #[.int .u8 (IntKind.wrap .u8 (IntKind.wrap .i64 (48 + x20_17)))]) hE rfl un51 sz5 zr5 rfl rfl qx23_18) (fun a w hE hR hh => ?_)
      replace H := M.at hh H; clear hh
      obtain ⟨x24_19, qx24_19, H⟩ := H
      refine t_val (v := .string x24_19) rfl rfl hE rfl (b2s_run hE rfl un51 un9 un5 qx24_19) (fun a hE => ?_)
      obtain ⟨x25_20, qx25_20, H⟩ := H
      refine t_val (v := .string x25_20) rfl rfl hE rfl (r_bin hE rfl rfl g_str (b_addS qx25_20)) (fun a hE => ?_)
      refine t_val (v := .string x25_20) rfl rfl hE rfl (r_assign hE rfl) (fun a hE => ?_)
      refine t_nil ?_
      refine hK_15 _ _ ?_
      refine t_region ?_
      refine t_val (v := .int .i64 x5_10) rfl rfl hE rfl (r_move hE rfl) (fun a hE => ?_)
      refine t_val (v := .int .i64 (IntKind.wrap .i64 (x5_10 + 1))) rfl rfl hE rfl (r_bin hE rfl rfl g_int b_add) (fun a hE => ?_)
      refine t_val (v := .int .i64 (IntKind.wrap .i64 (x5_10 + 1))) rfl rfl hE rfl (r_assign hE rfl) (fun a hE => ?_)
      refine t_nil ?_
      exact hY_12 (x25_20, IntKind.wrap .i64 (x5_10 + 1)) _ _ (hE.cut (.cons rfl (.cons rfl (.cons rfl Subs.nil)))) hR H
    · replace H := M.ite_f hb H
      refine w_exit ?_
      refine Xu.same ?_
      refine hK_7 _ _ ?_
      refine w_seq (fun K hK_21 => ?_)
      refine t_region ?_
      refine t_val (v := .string x3_9) rfl rfl hE rfl (r_move hE rfl) (fun a hE => ?_)
      refine t_val (v := .string x3_9) rfl rfl hE rfl (r_assign hE rfl) (fun a hE => ?_)
      refine t_nil ?_
      refine hK_21 _ _ ?_
      refine w_ret ?_
      exact hret _ _ _ x3_9 _ hE hR (res_run hE rfl (RV.tmp rfl RV.nil)) rfl H
  · skip
    refine w_seq (fun K hK_22 => ?_)
    refine t_region ?_
    refine t_val (v := .int .i64 x0) rfl rfl hE rfl (r_move hE rfl) (fun a hE => ?_)
    refine t_val (v := .bool (decide (x0 < 0))) rfl rfl hE rfl (r_bin hE rfl rfl g_int b_lss) (fun a hE => ?_)
    refine t_nil ?_
    refine hK_22 _ _ ?_
    refine w_cond (decide (x0 < 0)) hE rfl (fun hb => ?_) (fun hb => ?_)
    · replace H := M.ite_t hb H
      refine t_region ?_
      refine t_val (v := .string (⟨#[45]⟩ : ByteArray)) rfl rfl hE rfl (r_assign hE rfl) (fun a hE => ?_)
      refine t_nil ?_
      exact ⟨(⟨#[45]⟩ : ByteArray), hE.cut (.cons rfl (.cons rfl Subs.nil)), hR, H⟩
    · replace H := M.ite_f hb H
      refine w_skip ?_
      exact ⟨ByteArray.empty, hE.cut (.cons rfl (.cons rfl Subs.nil)), hR, H⟩

/-- ramble/rambleref02.Quote -/
def rambleref02_Quote_j1 (self1 : (Sl × Int) → M (ByteArray)) (c4_14 : Int) (x3_12 : Sl) : M (ByteArray) := do
  self1 (x3_12, IntKind.wrap .i64 (c4_14 + 1))
theorem tb75_10 : tabAt Go.Proofs.Tryd.f75 10 [[], [], [1], [2], [], [4], [5], [3, 6], [0, 7], [8, 8, 0, 1, 2, 3, 4, 5, 6, 7, 8]] [[], [], [1], [2], [], [4], [5], [3, 6], [0, 7], [0, 8]] [[], [], [1], [1, 2], [], [4], [4, 5], [1, 2, 3, 4, 5, 6], [0, 1, 2, 3, 4, 5, 6, 7], [0, 1, 2, 3, 4, 5, 6, 7, 8]] = true := by kernel_rfl
def rambleref02_Quote_l1 (c0_8 : ByteArray) (self1 : (Sl × Int) → M (ByteArray)) : (Sl × Int) → M (ByteArray) := fun s => match s with
  | (x3_6, x4_7) => do
    M.ite (decide (x4_7 < (c0_8.size : Int))) (do
      let x15_16 ← ixS c0_8 x4_7
      let x26_18 ← M.ite (x15_16 == 39) (do
        M.pure true
        ) (do
        M.pure (x15_16 == 92)
        )
      M.ite x26_18 (do
        let x29_19 ← bdL ty_uint8 2 #[.int .u8 92, .int .u8 x15_16]
        let x30_20 ← apL ty_uint8 1 1 (#[.int .u8 0] : Array Value) x3_6 x29_19
        rambleref02_Quote_j1 self1 x4_7 x30_20
        ) (do
        let x37_22 ← M.ite (decide (x15_16 < 32)) (do
          M.pure true
          ) (do
          M.pure (decide (x15_16 > 126))
          )
        M.ite x37_22 (do
          let x41_23 ← ixS (⟨#[48, 49, 50, 51, 52, 53, 54, 55, 56, 57, 97, 98, 99, 100, 101, 102]⟩ : ByteArray) (IntKind.wrap .u8 (Int.tdiv x15_16 16))
          let x44_24 ← ixS (⟨#[48, 49, 50, 51, 52, 53, 54, 55, 56, 57, 97, 98, 99, 100, 101, 102]⟩ : ByteArray) (Int.tmod x15_16 16)
          let x45_25 ← bdL ty_uint8 4 #[.int .u8 92, .int .u8 120, .int .u8 x41_23, .int .u8 x44_24]
          let x46_26 ← apL ty_uint8 1 1 (#[.int .u8 0] : Array Value) x3_6 x45_25
          rambleref02_Quote_j1 self1 x4_7 x46_26
          ) (do
          let x18_27 ← bdL ty_uint8 1 #[.int .u8 x15_16]
          let x19_28 ← apL ty_uint8 1 1 (#[.int .u8 0] : Array Value) x3_6 x18_27
          rambleref02_Quote_j1 self1 x4_7 x19_28
          )
        )
      ) (do
      let x48_30 ← bdL ty_uint8 1 #[.int .u8 39]
      let x49_31 ← apL ty_uint8 1 1 (#[.int .u8 0] : Array Value) x3_6 x48_30
      let x50_32 ← b2s x49_31
      M.pure x50_32
      )
def rambleref02_Quote (x0 : ByteArray) : M (ByteArray) := do
  let x6_3 ← bdL ty_uint8 1 #[.int .u8 39]
  M.loop (rambleref02_Quote_l1 x0) (x6_3, 0)
theorem S_rambleref02_Quote (x0 : ByteArray) : Sound Go.Proofs.Tryd.prog 75 #[.string x0] (fun (r : ByteArray) => .string r) (rambleref02_Quote x0) := by
  refine sound_of [(0, .string x0)] Go.Proofs.Tryd.func75 rfl rfl (Nat.le_of_ble_eq_true rfl) (args_of ⟨rfl, trivial⟩) (fun w0 w Q R a hret hE hR H => ?_)
  unfold rambleref02_Quote at H
  refine w_seq (fun K hK_1 => ?_)
  refine t_region ?_
  refine t_val (v := .string ByteArray.empty) rfl rfl hE rfl (r_assign hE rfl) (fun a hE => ?_)
  refine t_nil ?_
  refine hK_1 _ _ ?_
  refine w_seq (fun K hK_2 => ?_)
  refine t_region ?_
  obtain ⟨x6_3, qx6_3, H⟩ := H
  refine t_valh (v := (x6_3 : Sl).v) rfl rfl hE rfl hR (r_buildL (cells := #[.int .u8 39]) hE rfl un51 sz5 zr5 rfl rfl qx6_3) (fun a w hE hR hh => ?_)
  replace H := M.at hh H; clear hh
  refine t_val (v := (x6_3 : Sl).v) rfl rfl hE rfl (r_assign hE rfl) (fun a hE => ?_)
  refine t_nil ?_
  refine hK_2 _ _ ?_
  refine w_seq (fun K hK_4 => ?_)
  refine w_seq (fun K hK_5 => ?_)
  refine t_region ?_
  refine t_val (v := .int .i64 0) rfl rfl hE rfl (r_assign hE rfl) (fun a hE => ?_)
  refine t_nil ?_
  refine hK_5 _ _ ?_
  refine w_block ?_
  refine l_loop (fun (s : Sl × Int) => (⟨51, []⟩ : Frm)) (fun (s : Sl × Int) => [(0, .string x0), (3, (s.1 : Sl).v), (4, .int .i64 s.2)]) H (hE.cut (.cons rfl (.cons rfl (.cons rfl Subs.nil)))) hR (fun Y self1 hY_9 s a w hE hR H => ?_)
  rcases s with ⟨x3_6, x4_7⟩
  replace hE : Env (⟨51, []⟩ : Frm) a [(0, .string x0), (3, (x3_6 : Sl).v), (4, .int .i64 x4_7)] := hE
  replace H : (rambleref02_Quote_l1 x0 self1 (x3_6, x4_7)).wp w.heap Q := H
  unfold rambleref02_Quote_l1 at H
  refine w_seq (fun K hK_10 => ?_)
  refine w_seq (fun K hK_11 => ?_)
  refine t_region ?_
  refine t_val (v := .int .i64 x4_7) rfl rfl hE rfl (r_move hE rfl) (fun a hE => ?_)
  refine t_val (v := .string x0) rfl rfl hE rfl (r_move hE rfl) (fun a hE => ?_)
  refine t_val (v := .int .i64 (x0.size : Int)) rfl rfl hE rfl (r_lenS hE rfl un9) (fun a hE => ?_)
  refine t_val (v := .bool (decide (x4_7 < (x0.size : Int)))) rfl rfl hE rfl (r_bin hE rfl rfl g_int b_lss) (fun a hE => ?_)
  refine t_nil ?_
  refine hK_11 _ _ ?_
  refine w_cond (decide (x4_7 < (x0.size : Int))) hE rfl (fun hb => ?_) (fun hb => ?_)
  · replace H := M.ite_t hb H
    refine w_skip ?_
    refine hK_10 _ _ ?_
    refine w_seq_join (fun a w => ∃ (x3_12 : Sl), Env (⟨51, []⟩ : Frm) a [(0, .string x0), (4, .int .i64 x4_7), (3, (x3_12 : Sl).v)] ∧ Rest w0 w ∧ (rambleref02_Quote_j1 self1 x4_7 x3_12).wp w.heap Q) ?_ ?_
    · rintro a w ⟨x3_12, hE, hR, H⟩
      unfold rambleref02_Quote_j1 at H
      refine t_region ?_
      refine t_val (v := .int .i64 x4_7) rfl rfl hE rfl (r_move hE rfl) (fun a hE => ?_)
      refine t_val (v := .int .i64 (IntKind.wrap .i64 (x4_7 + 1))) rfl rfl hE rfl (r_bin hE rfl rfl g_int b_add) (fun a hE => ?_)
      refine t_val (v := .int .i64 (IntKind.wrap .i64 (x4_7 + 1))) rfl rfl hE rfl (r_assign hE rfl) (fun a hE => ?_)
      refine t_nil ?_
      exact hY_9 (x3_12, IntKind.wrap .i64 (x4_7 + 1)) _ _ (hE.cut (.cons rfl (.cons rfl (.cons rfl Subs.nil)))) hR H
    · skip
      refine w_block ?_
      refine w_seq (fun K hK_15 => ?_)
      refine t_region ?_
      refine t_val (v := .string x0) rfl rfl hE rfl (r_move hE rfl) (fun a hE => ?_)
      refine t_val (v := .int .i64 x4_7) rfl rfl hE rfl (r_move hE rfl) (fun a hE => ?_)
      obtain ⟨x15_16, qx15_16, H⟩ := H
      refine t_val (v := .int .u8 x15_16) rfl rfl hE rfl (r_indexS hE rfl rfl un9 qx15_16) (fun a hE => ?_)
      refine t_val (v := .int .u8 x15_16) rfl rfl hE rfl (r_assign hE rfl) (fun a hE => ?_)
      refine t_nil ?_
      refine hK_15 _ _ ?_
      refine w_block ?_
      refine w_seq (fun K hK_17 => ?_)
      refine t_region ?_
      refine t_val (v := .int .u8 x15_16) rfl rfl hE rfl (r_move hE rfl) (fun a hE => ?_)
      refine t_val (v := .bool (x15_16 == 39)) rfl rfl hE rfl (r_bin hE rfl rfl g_int b_eql) (fun a hE => ?_)
      refine t_val (v := .bool (x15_16 == 39)) rfl rfl hE rfl (r_move hE rfl) (fun a hE => ?_)
      refine t_grp (n := (⟨51, []⟩ : Frm)) (w0 := w0) 3 (fun x26_18 : Bool => [(0, .string x0), (3, (x3_6 : Sl).v), (4, .int .i64 x4_7), (5, .int .u8 x15_16), (26, .bool x26_18)]) (M.unbind H) (fun Kr hKr H => ?_) ?_
      · rcases bool_em (x15_16 == 39) with hb | hb
        · replace H := M.ite_t hb H
          have hE := hE.reb 23 (x15_16 == 39) true hb rfl
          refine t_off rfl hE rfl rfl rfl (fun a ea => ?_)
          have hE := Env.put_some hE rfl ea; clear ea
          refine t_off rfl hE rfl rfl rfl (fun a ea => ?_)
          have hE := Env.put_some hE rfl ea; clear ea
          refine t_val rfl rfl hE rfl (r_pick_t hE rfl rfl) (fun a hE => ?_)
          refine t_nil ?_
          exact hKr _ _ _ (hE.cut (.cons rfl (.cons rfl (.cons rfl (.cons rfl (.cons rfl Subs.nil)))))) hR H
        · replace H := M.ite_f hb H
          have hE := hE.reb 23 (x15_16 == 39) false hb rfl
          refine t_on rfl hE rfl rfl rfl ?_
          refine t_val (v := .int .u8 x15_16) rfl rfl hE rfl (r_move hE rfl) (fun a hE => ?_)
          refine t_on rfl hE rfl rfl rfl ?_
          refine t_val (v := .bool (x15_16 == 92)) rfl rfl hE rfl (r_bin hE rfl rfl g_int b_eql) (fun a hE => ?_)
          refine t_val rfl rfl hE rfl (r_pick_f hE rfl rfl) (fun a hE => ?_)
          refine t_nil ?_
          exact hKr _ _ _ (hE.cut (.cons rfl (.cons rfl (.cons rfl (.cons rfl (.cons rfl Subs.nil)))))) hR H
      · intro x26_18 a w hE hR H
        refine t_val (v := .bool x26_18) rfl rfl hE rfl (r_assign hE rfl) (fun a hE => ?_)
        refine t_nil ?_
        refine hK_17 _ _ ?_
        refine w_cond x26_18 hE rfl (fun hb => ?_) (fun hb => ?_)
        · replace H := M.ite_t hb H
          refine t_region ?_
          refine t_val (v := (x3_6 : Sl).v) rfl rfl hE rfl (r_move hE rfl) (fun a hE => ?_)
          refine t_val (v := .int .u8 x15_16) rfl rfl hE rfl (r_move hE rfl) (fun a hE => ?_)
          obtain ⟨x29_19, qx29_19, H⟩ := H
          refine t_valh (v := (x29_19 : Sl).v) rfl rfl hE rfl hR (r_buildL (cells := #[.int .u8 92, .int .u8 x15_16]) hE rfl un51 sz5 zr5 rfl rfl qx29_19) (fun a w hE hR hh => ?_)
          replace H := M.at hh H; clear hh
          refine t_ex (fun x30_20 => (x30_20 : Sl).v) rfl rfl hR (M.unbind H) (fun Q H => ap_run hE rfl rfl ap51 H) (fun x30_20 a w ea hR H => ?_)
          have hE := Env.put_some hE rfl ea; clear ea
          refine t_val (v := (x30_20 : Sl).v) rfl rfl hE rfl (r_assign hE rfl) (fun a hE => ?_)
          refine t_nil ?_
          exact ⟨x30_20, hE.cut (.cons rfl (.cons rfl (.cons rfl Subs.nil))), hR, H⟩
        · replace H := M.ite_f hb H
          refine w_seq (fun K hK_21 => ?_)
          refine t_region ?_
          refine t_val (v := .int .u8 x15_16) rfl rfl hE rfl (r_move hE rfl) (fun a hE => ?_)
          refine t_val (v := .bool (decide (x15_16 < 32))) rfl rfl hE rfl (r_bin hE rfl rfl g_int b_lss) (fun a hE => ?_)
          refine t_val (v := .bool (decide (x15_16 < 32))) rfl rfl hE rfl (r_move hE rfl) (fun a hE => ?_)
          refine t_grp (n := (⟨51, []⟩ : Frm)) (w0 := w0) 3 (fun x37_22 : Bool => [(0, .string x0), (3, (x3_6 : Sl).v), (4, .int .i64 x4_7), (5, .int .u8 x15_16), (37, .bool x37_22)]) (M.unbind H) (fun Kr hKr H => ?_) ?_
          · rcases bool_em (decide (x15_16 < 32)) with hb | hb
            · replace H := M.ite_t hb H
              have hE := hE.reb 34 (decide (x15_16 < 32)) true hb rfl
              refine t_off rfl hE rfl rfl rfl (fun a ea => ?_)
              have hE := Env.put_some hE rfl ea; clear ea
              refine t_off rfl hE rfl rfl rfl (fun a ea => ?_)
              have hE := Env.put_some hE rfl ea; clear ea
              refine t_val rfl rfl hE rfl (r_pick_t hE rfl rfl) (fun a hE => ?_)
              refine t_nil ?_
              exact hKr _ _ _ (hE.cut (.cons rfl (.cons rfl (.cons rfl (.cons rfl (.cons rfl Subs.nil)))))) hR H
            · replace H := M.ite_f hb H
              have hE := hE.reb 34 (decide (x15_16 < 32)) false hb rfl
              refine t_on rfl hE rfl rfl rfl ?_
              refine t_val (v := .int .u8 x15_16) rfl rfl hE rfl (r_move hE rfl) (fun a hE => ?_)
              refine t_on rfl hE rfl rfl rfl ?_
              refine t_val (v := .bool (decide (x15_16 > 126))) rfl rfl hE rfl (r_bin hE rfl rfl g_int b_gtr) (fun a hE => ?_)
              refine t_val rfl rfl hE rfl (r_pick_f hE rfl rfl) (fun a hE => ?_)
              refine t_nil ?_
              exact hKr _ _ _ (hE.cut (.cons rfl (.cons rfl (.cons rfl (.cons rfl (.cons rfl Subs.nil)))))) hR H
          · intro x37_22 a w hE hR H
            refine t_val (v := .bool x37_22) rfl rfl hE rfl (r_assign hE rfl) (fun a hE => ?_)
            refine t_nil ?_
            refine hK_21 _ _ ?_
            refine w_cond x37_22 hE rfl (fun hb => ?_) (fun hb => ?_)
            · replace H := M.ite_t hb H
              obtain ⟨x41_23, qx41_23, H⟩ := H
              obtain ⟨x44_24, qx44_24, H⟩ := H
              have hT := tab_of tb75_10 rfl rfl
              refine d_start (fun w : World => (fun h : Heap => True) w.heap) [0, 1, 2, 3, 4, 5, 6, 7, 8, 9] #[false, false, false, false, false, false, false, false, false, false] mo hR rfl rfl (fun w' e => by rw [e]; exact trivial) (fun w hh hR hs => ?_)
              replace H := M.at hh H; clear hh
              refine d_pureg (i := 0) (v := (x3_6 : Sl).v) #[true, false, false, false, false, false, false, false, false, false] rfl rfl hT (by kernel_rfl) hE rfl (wanted_none rfl) (fun w => r_move hE rfl) (fun a hE => ?_)
              refine d_pureg (i := 1) (v := .int .u8 x15_16) #[true, true, false, false, false, false, false, false, false, false] rfl rfl hT (by kernel_rfl) hE rfl (wanted_none rfl) (fun w => r_move hE rfl) (fun a hE => ?_)
              refine d_pureg (i := 2) (v := .int .u8 (IntKind.wrap .u8 (Int.tdiv x15_16 16))) #[true, true, true, false, false, false, false, false, false, false] rfl rfl hT (by kernel_rfl) hE rfl (wanted_none rfl) (fun w => r_bin hE rfl rfl g_int (b_quo ⟨by decide, rfl⟩)) (fun a hE => ?_)
              refine d_pureg (i := 3) (v := .int .u8 x41_23) #[true, true, true, true, false, false, false, false, false, false] rfl rfl hT (by kernel_rfl) hE rfl (wanted_none rfl) (fun w => r_indexS hE rfl rfl un9 qx41_23) (fun a hE => ?_)
              refine d_pureg (i := 4) (v := .int .u8 x15_16) #[true, true, true, true, true, false, false, false, false, false] rfl rfl hT (by kernel_rfl) hE rfl (wanted_none rfl) (fun w => r_move hE rfl) (fun a hE => ?_)
              refine d_pureg (i := 5) (v := .int .u8 (Int.tmod x15_16 16)) #[true, true, true, true, true, true, false, false, false, false] rfl rfl hT (by kernel_rfl) hE rfl (wanted_none rfl) (fun w => r_bin hE rfl rfl g_int (b_rem ⟨by decide, rfl⟩)) (fun a hE => ?_)
              refine d_pureg (i := 6) (v := .int .u8 x44_24) #[true, true, true, true, true, true, true, false, false, false] rfl rfl hT (by kernel_rfl) hE rfl (wanted_none rfl) (fun w => r_indexS hE rfl rfl un9 qx44_24) (fun a hE => ?_)
              obtain ⟨x45_25, qx45_25, H⟩ := H
              refine d_lasth (i := 7) (v := (x45_25 : Sl).v) #[true, true, true, true, true, true, true, true, false, false] rfl rfl hT (by kernel_rfl) rfl hE hR rfl (wanted_none rfl) (r_buildL (cells := #[.int .u8 92, .int .u8 120, .int .u8 x41_23, .int .u8 x44_24]) hE rfl un51 sz5 zr5 rfl rfl qx45_25)  (fun a w hE hR hh => ?_)
              replace H := M.at hh H; clear hh
              refine d_exl (i := 8) (fun x46_26 => (x46_26 : Sl).v) #[true, true, true, true, true, true, true, true, true, false] rfl rfl hT (by kernel_rfl) rfl hR (wanted_none rfl) (M.unbind H) (fun Q H => ap_run hE rfl rfl ap51 H) (fun x46_26 a w ea hR H => ?_)
              have hE := Env.put_some hE rfl ea; clear ea
              refine d_pureg (i := 9) (v := (x46_26 : Sl).v) #[true, true, true, true, true, true, true, true, true, true] rfl rfl hT (by kernel_rfl) hE rfl (wanted_none rfl) (fun w => r_assign hE rfl) (fun a hE => ?_)
              refine d_done hT (by kernel_rfl) ?_
              exact ⟨x46_26, hE.cut (.cons rfl (.cons rfl (.cons rfl Subs.nil))), hR, H⟩
            · replace H := M.ite_f hb H
              refine t_region ?_
              refine t_val (v := (x3_6 : Sl).v) rfl rfl hE rfl (r_move hE rfl) (fun a hE => ?_)
              refine t_val (v := .int .u8 x15_16) rfl rfl hE rfl (r_move hE rfl) (fun a hE => ?_)
              obtain ⟨x18_27, qx18_27, H⟩ := H
              refine t_valh (v := (x18_27 : Sl).v) rfl rfl hE rfl hR (r_buildL (cells := #[.int .u8 x15_16]) hE rfl un51 sz5 zr5 rfl rfl qx18_27) (fun a w hE hR hh => ?_)
              replace H := M.at hh H; clear hh
              refine t_ex (fun x19_28 => (x19_28 : Sl).v) rfl rfl hR (M.unbind H) (fun Q H => ap_run hE rfl rfl ap51 H) (fun x19_28 a w ea hR H => ?_)
              have hE := Env.put_some hE rfl ea; clear ea
              refine t_val (v := (x19_28 : Sl).v) rfl rfl hE rfl (r_assign hE rfl) (fun a hE => ?_)
              refine t_nil ?_
              exact ⟨x19_28, hE.cut (.cons rfl (.cons rfl (.cons rfl Subs.nil))), hR, H⟩
  · replace H := M.ite_f hb H
    refine w_exit ?_
    refine Xu.same ?_
    refine hK_4 _ _ ?_
    refine w_seq (fun K hK_29 => ?_)
    refine t_region ?_
    refine t_val (v := (x3_6 : Sl).v) rfl rfl hE rfl (r_move hE rfl) (fun a hE => ?_)
    obtain ⟨x48_30, qx48_30, H⟩ := H
    refine t_valh (v := (x48_30 : Sl).v) rfl rfl hE rfl hR (r_buildL (cells := #[.int .u8 39]) hE rfl un51 sz5 zr5 rfl rfl qx48_30) (fun a w hE hR hh => ?_)
    replace H := M.at hh H; clear hh
    refine t_ex (fun x49_31 => (x49_31 : Sl).v) rfl rfl hR (M.unbind H) (fun Q H => ap_run hE rfl rfl ap51 H) (fun x49_31 a w ea hR H => ?_)
    have hE := Env.put_some hE rfl ea; clear ea
    obtain ⟨x50_32, qx50_32, H⟩ := H
    refine t_val (v := .string x50_32) rfl rfl hE rfl (b2s_run hE rfl un51 un9 un5 qx50_32) (fun a hE => ?_)
    refine t_val (v := .string x50_32) rfl rfl hE rfl (r_assign hE rfl) (fun a hE => ?_)
    refine t_nil ?_
    refine hK_29 _ _ ?_
    refine w_ret ?_
    exact hret _ _ _ x50_32 _ hE hR (res_run hE rfl (RV.tmp rfl RV.nil)) rfl H

end Gx
namespace Gx
open Go
set_option linter.unusedVariables false
set_option maxRecDepth 100000
/-- ramble/rambleref02.show -/
def rambleref02_show (x0 : Array Value) (x1 : Int) : M (ByteArray) := do
  let x2_2 ← mkB ty_api_Value x0
  M.ite (decide (x1 ≥ 8)) (do
    M.pure (⟨#[63]⟩ : ByteArray)
    ) (do
    let x8_8 ← ldI .i64 ((x2_2).add 0)
    M.ite (x8_8 == 1) (do
      let x12_11 ← ldI .i64 ((x2_2).add 1)
      let x13_12 ← rambleref01_Text x12_11
      M.pure x13_12
      ) (do
      M.ite (x8_8 == 2) (do
        let x17_15 ← ldS ((x2_2).add 2)
        let x18_16 ← rambleref02_Quote x17_15
        M.pure x18_16
        ) (do
        M.ite (x8_8 == 3) (do
          let x22_20 ← ldI .i64 ((x2_2).add 1)
          M.ite (x22_20 == 1) (do
            M.pure (⟨#[116, 114, 117, 101]⟩ : ByteArray)
            ) (do
            M.pure (⟨#[102, 97, 108, 115, 101]⟩ : ByteArray)
            )
          ) (do
          M.ite (x8_8 == 6) (do
            let x27_25 ← ldI .i64 ((x2_2).add 1)
            let x28_26 ← rambleref01_Text x27_25
            let x29_27 ← sCat (⟨#[118, 91]⟩ : ByteArray) x28_26
            let x30_28 ← sCat x29_27 (⟨#[93]⟩ : ByteArray)
            M.pure x30_28
            ) (do
            M.ite (x8_8 == 7) (do
              let x34_31 ← ldI .i64 ((x2_2).add 1)
              let x35_32 ← rambleref01_Text x34_31
              let x36_33 ← sCat (⟨#[101, 91]⟩ : ByteArray) x35_32
              let x37_34 ← sCat x36_33 (⟨#[93]⟩ : ByteArray)
              M.pure x37_34
              ) (do
              M.ite (x8_8 == 4) (do
                let x41_37 ← ldL ((x2_2).add 3)
                let x43_38 ← callF Go.Proofs.Tryd.prog fn_rambleref02_shows #[(x41_37 : Sl).v, .int .i64 x1, .string (⟨#[44, 32]⟩ : ByteArray), .string (⟨#[44, 32]⟩ : ByteArray)] (fun r : ByteArray => .string r)
                let x44_39 ← sCat (⟨#[91]⟩ : ByteArray) x43_38
                let x45_40 ← sCat x44_39 (⟨#[93]⟩ : ByteArray)
                M.pure x45_40
                ) (do
                M.ite (x8_8 == 5) (do
                  let x49_43 ← ldL ((x2_2).add 3)
                  let x51_44 ← callF Go.Proofs.Tryd.prog fn_rambleref02_shows #[(x49_43 : Sl).v, .int .i64 x1, .string (⟨#[58, 32]⟩ : ByteArray), .string (⟨#[44, 32]⟩ : ByteArray)] (fun r : ByteArray => .string r)
                  let x52_45 ← sCat (⟨#[123]⟩ : ByteArray) x51_44
                  let x53_46 ← sCat x52_45 (⟨#[125]⟩ : ByteArray)
                  M.pure x53_46
                  ) (do
                  M.pure (⟨#[63]⟩ : ByteArray)
                  )
                )
              )
            )
          )
        )
      )
    )
theorem S_rambleref02_show (x0 : Array Value) (x1 : Int) : Sound Go.Proofs.Tryd.prog 50 #[.agg x0, .int .i64 x1] (fun (r : ByteArray) => .string r) (rambleref02_show x0 x1) := by
  refine sound_of [(0, .agg x0), (1, .int .i64 x1)] Go.Proofs.Tryd.func50 rfl rfl (Nat.le_of_ble_eq_true rfl) (args_of ⟨rfl, rfl, trivial⟩) (fun w0 w Q R a hret hE hR H => ?_)
  unfold rambleref02_show at H
  refine w_seq (fun K hK_1 => ?_)
  refine t_region ?_
  obtain ⟨x2_2, qx2_2, H⟩ := H
  refine t_valh (v := .pointer (some x2_2)) rfl rfl hE rfl hR (r_box hE rfl qx2_2) (fun a w hE hR hh => ?_)
  replace H := M.at hh H; clear hh
  refine t_val (v := .string ByteArray.empty) rfl rfl hE rfl (r_assign hE rfl) (fun a hE => ?_)
  refine t_nil ?_
  refine hK_1 _ _ ?_
  refine w_seq (fun K hK_3 => ?_)
  refine w_seq (fun K hK_4 => ?_)
  refine t_region ?_
  refine t_val (v := .int .i64 x1) rfl rfl hE rfl (r_move hE rfl) (fun a hE => ?_)
  refine t_val (v := .bool (decide (x1 ≥ 8))) rfl rfl hE rfl (r_bin hE rfl rfl g_int b_geq) (fun a hE => ?_)
  refine t_nil ?_
  refine hK_4 _ _ ?_
  refine w_cond (decide (x1 ≥ 8)) hE rfl (fun hb => ?_) (fun hb => ?_)
  · replace H := M.ite_t hb H
    refine w_seq (fun K hK_5 => ?_)
    refine t_region ?_
    refine t_val (v := .string (⟨#[63]⟩ : ByteArray)) rfl rfl hE rfl (r_assign hE rfl) (fun a hE => ?_)
    refine t_nil ?_
    refine hK_5 _ _ ?_
    refine w_ret ?_
    exact hret _ _ _ (⟨#[63]⟩ : ByteArray) _ hE hR (res_run hE rfl (RV.tmp rfl RV.nil)) rfl H
  · replace H := M.ite_f hb H
    refine w_skip ?_
    refine hK_3 _ _ ?_
    refine w_seq (fun K hK_6 => ?_)
    refine w_seq (fun K hK_7 => ?_)
    refine t_region ?_
    refine t_val (v := .pointer (some ((x2_2).add 0))) rfl rfl hE rfl (r_fieldAddr hE rfl fd42_0) (fun a hE => ?_)
    obtain ⟨x8_8, qx8_8, H⟩ := H
    refine t_val (v := .int .i64 x8_8) rfl rfl hE rfl (r_load hE rfl sc3 qx8_8) (fun a hE => ?_)
    refine t_nil ?_
    refine hK_7 _ _ ?_
    refine w_block ?_
    refine w_seq (fun K hK_9 => ?_)
    refine t_region ?_
    refine t_val (v := .bool (x8_8 == 1)) rfl rfl hE rfl (r_bin hE rfl rfl g_int b_eql) (fun a hE => ?_)
    refine t_val (v := .bool (x8_8 == 1)) rfl rfl hE rfl (r_assign hE rfl) (fun a hE => ?_)
    refine t_nil ?_
    refine hK_9 _ _ ?_
    refine w_cond (x8_8 == 1) hE rfl (fun hb => ?_) (fun hb => ?_)
    · replace H := M.ite_t hb H
      refine w_seq (fun K hK_10 => ?_)
      refine t_region ?_
      refine t_val (v := .pointer (some ((x2_2).add 1))) rfl rfl hE rfl (r_fieldAddr hE rfl fd42_1) (fun a hE => ?_)
      obtain ⟨x12_11, qx12_11, H⟩ := H
      refine t_val (v := .int .i64 x12_11) rfl rfl hE rfl (r_load hE rfl sc2 qx12_11) (fun a hE => ?_)
      refine t_call hE hR cl_rambleref01_Text rfl (S_rambleref01_Text x12_11) (M.unbind H) (fun x13_12 a w ea hR H => ?_)
      have hE := Env.put_some hE rfl ea; clear ea
      refine t_val (v := .string x13_12) rfl rfl hE rfl (r_assign hE rfl) (fun a hE => ?_)
      refine t_nil ?_
      refine hK_10 _ _ ?_
      refine w_ret ?_
      exact hret _ _ _ x13_12 _ hE hR (res_run hE rfl (RV.tmp rfl RV.nil)) rfl H
    · replace H := M.ite_f hb H
      refine w_seq (fun K hK_13 => ?_)
      refine t_region ?_
      refine t_val (v := .bool (x8_8 == 2)) rfl rfl hE rfl (r_bin hE rfl rfl g_int b_eql) (fun a hE => ?_)
      refine t_val (v := .bool (x8_8 == 2)) rfl rfl hE rfl (r_assign hE rfl) (fun a hE => ?_)
      refine t_nil ?_
      refine hK_13 _ _ ?_
      refine w_cond (x8_8 == 2) hE rfl (fun hb => ?_) (fun hb => ?_)
      · replace H := M.ite_t hb H
        refine w_seq (fun K hK_14 => ?_)
        refine t_region ?_
        refine t_val (v := .pointer (some ((x2_2).add 2))) rfl rfl hE rfl (r_fieldAddr hE rfl fd42_2) (fun a hE => ?_)
        obtain ⟨x17_15, qx17_15, H⟩ := H
        refine t_val (v := .string x17_15) rfl rfl hE rfl (r_load hE rfl sc9 qx17_15) (fun a hE => ?_)
        refine t_call hE hR cl_rambleref02_Quote rfl (S_rambleref02_Quote x17_15) (M.unbind H) (fun x18_16 a w ea hR H => ?_)
        have hE := Env.put_some hE rfl ea; clear ea
        refine t_val (v := .string x18_16) rfl rfl hE rfl (r_assign hE rfl) (fun a hE => ?_)
        refine t_nil ?_
        refine hK_14 _ _ ?_
        refine w_ret ?_
        exact hret _ _ _ x18_16 _ hE hR (res_run hE rfl (RV.tmp rfl RV.nil)) rfl H
      · replace H := M.ite_f hb H
        refine w_seq (fun K hK_17 => ?_)
        refine t_region ?_
        refine t_val (v := .bool (x8_8 == 3)) rfl rfl hE rfl (r_bin hE rfl rfl g_int b_eql) (fun a hE => ?_)
        refine t_val (v := .bool (x8_8 == 3)) rfl rfl hE rfl (r_assign hE rfl) (fun a hE => ?_)
        refine t_nil ?_
        refine hK_17 _ _ ?_
        refine w_cond (x8_8 == 3) hE rfl (fun hb => ?_) (fun hb => ?_)
        · replace H := M.ite_t hb H
          refine w_seq (fun K hK_18 => ?_)
          refine w_seq (fun K hK_19 => ?_)
          refine t_region ?_
          refine t_val (v := .pointer (some ((x2_2).add 1))) rfl rfl hE rfl (r_fieldAddr hE rfl fd42_1) (fun a hE => ?_)
          obtain ⟨x22_20, qx22_20, H⟩ := H
          refine t_val (v := .int .i64 x22_20) rfl rfl hE rfl (r_load hE rfl sc2 qx22_20) (fun a hE => ?_)
          refine t_val (v := .bool (x22_20 == 1)) rfl rfl hE rfl (r_bin hE rfl rfl g_int b_eql) (fun a hE => ?_)
          refine t_nil ?_
          refine hK_19 _ _ ?_
          refine w_cond (x22_20 == 1) hE rfl (fun hb => ?_) (fun hb => ?_)
          · replace H := M.ite_t hb H
            refine w_seq (fun K hK_21 => ?_)
            refine t_region ?_
            refine t_val (v := .string (⟨#[116, 114, 117, 101]⟩ : ByteArray)) rfl rfl hE rfl (r_assign hE rfl) (fun a hE => ?_)
            refine t_nil ?_
            refine hK_21 _ _ ?_
            refine w_ret ?_
            exact hret _ _ _ (⟨#[116, 114, 117, 101]⟩ : ByteArray) _ hE hR (res_run hE rfl (RV.tmp rfl RV.nil)) rfl H
          · replace H := M.ite_f hb H
            refine w_skip ?_
            refine hK_18 _ _ ?_
            refine w_seq (fun K hK_22 => ?_)
            refine t_region ?_
            refine t_val (v := .string (⟨#[102, 97, 108, 115, 101]⟩ : ByteArray)) rfl rfl hE rfl (r_assign hE rfl) (fun a hE => ?_)
            refine t_nil ?_
            refine hK_22 _ _ ?_
            refine w_ret ?_
            exact hret _ _ _ (⟨#[102, 97, 108, 115, 101]⟩ : ByteArray) _ hE hR (res_run hE rfl (RV.tmp rfl RV.nil)) rfl H
        · replace H := M.ite_f hb H
          refine w_seq (fun K hK_23 => ?_)
          refine t_region ?_
          refine t_val (v := .bool (x8_8 == 6)) rfl rfl hE rfl (r_bin hE rfl rfl g_int b_eql) (fun a hE => ?_)
          refine t_val (v := .bool (x8_8 == 6)) rfl rfl hE rfl (r_assign hE rfl) (fun a hE => ?_)
          refine t_nil ?_
          refine hK_23 _ _ ?_
          refine w_cond (x8_8 == 6) hE rfl (fun hb => ?_) (fun hb => ?_)
          · replace H := M.ite_t hb H
            refine w_seq (fun K hK_24 => ?_)
            refine t_region ?_
            refine t_val (v := .pointer (some ((x2_2).add 1))) rfl rfl hE rfl (r_fieldAddr hE rfl fd42_1) (fun a hE => ?_)
            obtain ⟨x27_25, qx27_25, H⟩ := H
            refine t_val (v := .int .i64 x27_25) rfl rfl hE rfl (r_load hE rfl sc2 qx27_25) (fun a hE => ?_)
            refine t_call hE hR cl_rambleref01_Text rfl (S_rambleref01_Text x27_25) (M.unbind H) (fun x28_26 a w ea hR H => ?_)
            have hE := Env.put_some hE rfl ea; clear ea
            obtain ⟨x29_27, qx29_27, H⟩ := H
            refine t_val (v := .string x29_27) rfl rfl hE rfl (r_bin hE rfl rfl g_str (b_addS qx29_27)) (fun a hE => ?_)
            obtain ⟨x30_28, qx30_28, H⟩ := H
            refine t_val (v := .string x30_28) rfl rfl hE rfl (r_bin hE rfl rfl g_str (b_addS qx30_28)) (fun a hE => ?_)
            refine t_val (v := .string x30_28) rfl rfl hE rfl (r_assign hE rfl) (fun a hE => ?_)
            refine t_nil ?_
            refine hK_24 _ _ ?_
            refine w_ret ?_
            exact hret _ _ _ x30_28 _ hE hR (res_run hE rfl (RV.tmp rfl RV.nil)) rfl H
          · replace H := M.ite_f hb H
            refine w_seq (fun K hK_29 => ?_)
            refine t_region ?_
            refine t_val (v := .bool (x8_8 == 7)) rfl rfl hE rfl (r_bin hE rfl rfl g_int b_eql) (fun a hE => ?_)
            refine t_val (v := .bool (x8_8 == 7)) rfl rfl hE rfl (r_assign hE rfl) (fun a hE => ?_)
            refine t_nil ?_
            refine hK_29 _ _ ?_
            refine w_cond (x8_8 == 7) hE rfl (fun hb => ?_) (fun hb => ?_)
            · replace H := M.ite_t hb H
              refine w_seq (fun K hK_30 => ?_)
              refine t_region ?_
              refine t_val (v := .pointer (some ((x2_2).add 1))) rfl rfl hE rfl (r_fieldAddr hE rfl fd42_1) (fun a hE => ?_)
              obtain ⟨x34_31, qx34_31, H⟩ := H
              refine t_val (v := .int .i64 x34_31) rfl rfl hE rfl (r_load hE rfl sc2 qx34_31) (fun a hE => ?_)
              refine t_call hE hR cl_rambleref01_Text rfl (S_rambleref01_Text x34_31) (M.unbind H) (fun x35_32 a w ea hR H => ?_)
              have hE := Env.put_some hE rfl ea; clear ea
              obtain ⟨x36_33, qx36_33, H⟩ := H
              refine t_val (v := .string x36_33) rfl rfl hE rfl (r_bin hE rfl rfl g_str (b_addS qx36_33)) (fun a hE => ?_)
              obtain ⟨x37_34, qx37_34, H⟩ := H
              refine t_val (v := .string x37_34) rfl rfl hE rfl (r_bin hE rfl rfl g_str (b_addS qx37_34)) (fun a hE => ?_)
              refine t_val (v := .string x37_34) rfl rfl hE rfl (r_assign hE rfl) (fun a hE => ?_)
              refine t_nil ?_
              refine hK_30 _ _ ?_
              refine w_ret ?_
              exact hret _ _ _ x37_34 _ hE hR (res_run hE rfl (RV.tmp rfl RV.nil)) rfl H
            · replace H := M.ite_f hb H
              refine w_seq (fun K hK_35 => ?_)
              refine t_region ?_
              refine t_val (v := .bool (x8_8 == 4)) rfl rfl hE rfl (r_bin hE rfl rfl g_int b_eql) (fun a hE => ?_)
              refine t_val (v := .bool (x8_8 == 4)) rfl rfl hE rfl (r_assign hE rfl) (fun a hE => ?_)
              refine t_nil ?_
              refine hK_35 _ _ ?_
              refine w_cond (x8_8 == 4) hE rfl (fun hb => ?_) (fun hb => ?_)
              · replace H := M.ite_t hb H
                refine w_seq (fun K hK_36 => ?_)
                refine t_region ?_
                refine t_val (v := .pointer (some ((x2_2).add 3))) rfl rfl hE rfl (r_fieldAddr hE rfl fd42_3) (fun a hE => ?_)
                obtain ⟨x41_37, qx41_37, H⟩ := H
                refine t_val (v := (x41_37 : Sl).v) rfl rfl hE rfl (r_load hE rfl sc22 qx41_37) (fun a hE => ?_)
                refine t_val (v := .int .i64 x1) rfl rfl hE rfl (r_move hE rfl) (fun a hE => ?_)
                refine t_call hE hR cl_rambleref02_shows rfl (sound_callF) (M.unbind H) (fun x43_38 a w ea hR H => ?_)
                have hE := Env.put_some hE rfl ea; clear ea
                obtain ⟨x44_39, qx44_39, H⟩ := H
                refine t_val (v := .string x44_39) rfl rfl hE rfl (r_bin hE rfl rfl g_str (b_addS qx44_39)) (fun a hE => ?_)
                obtain ⟨x45_40, qx45_40, H⟩ := H
                refine t_val (v := .string x45_40) rfl rfl hE rfl (r_bin hE rfl rfl g_str (b_addS qx45_40)) (fun a hE => ?_)
                refine t_val (v := .string x45_40) rfl rfl hE rfl (r_assign hE rfl) (fun a hE => ?_)
                refine t_nil ?_
                refine hK_36 _ _ ?_
                refine w_ret ?_
                exact hret _ _ _ x45_40 _ hE hR (res_run hE rfl (RV.tmp rfl RV.nil)) rfl H
              · replace H := M.ite_f hb H
                refine w_seq (fun K hK_41 => ?_)
                refine t_region ?_
                refine t_val (v := .bool (x8_8 == 5)) rfl rfl hE rfl (r_bin hE rfl rfl g_int b_eql) (fun a hE => ?_)
                refine t_val (v := .bool (x8_8 == 5)) rfl rfl hE rfl (r_assign hE rfl) (fun a hE => ?_)
                refine t_nil ?_
                refine hK_41 _ _ ?_
                refine w_cond (x8_8 == 5) hE rfl (fun hb => ?_) (fun hb => ?_)
                · replace H := M.ite_t hb H
                  refine w_seq (fun K hK_42 => ?_)
                  refine t_region ?_
                  refine t_val (v := .pointer (some ((x2_2).add 3))) rfl rfl hE rfl (r_fieldAddr hE rfl fd42_3) (fun a hE => ?_)
                  obtain ⟨x49_43, qx49_43, H⟩ := H
                  refine t_val (v := (x49_43 : Sl).v) rfl rfl hE rfl (r_load hE rfl sc22 qx49_43) (fun a hE => ?_)
                  refine t_val (v := .int .i64 x1) rfl rfl hE rfl (r_move hE rfl) (fun a hE => ?_)
                  refine t_call hE hR cl_rambleref02_shows rfl (sound_callF) (M.unbind H) (fun x51_44 a w ea hR H => ?_)
                  have hE := Env.put_some hE rfl ea; clear ea
                  obtain ⟨x52_45, qx52_45, H⟩ := H
                  refine t_val (v := .string x52_45) rfl rfl hE rfl (r_bin hE rfl rfl g_str (b_addS qx52_45)) (fun a hE => ?_)
                  obtain ⟨x53_46, qx53_46, H⟩ := H
                  refine t_val (v := .string x53_46) rfl rfl hE rfl (r_bin hE rfl rfl g_str (b_addS qx53_46)) (fun a hE => ?_)
                  refine t_val (v := .string x53_46) rfl rfl hE rfl (r_assign hE rfl) (fun a hE => ?_)
                  refine t_nil ?_
                  refine hK_42 _ _ ?_
                  refine w_ret ?_
                  exact hret _ _ _ x53_46 _ hE hR (res_run hE rfl (RV.tmp rfl RV.nil)) rfl H
                · replace H := M.ite_f hb H
                  refine w_skip ?_
                  refine hK_6 _ _ ?_
                  refine w_seq (fun K hK_47 => ?_)
                  refine t_region ?_
                  refine t_val (v := .string (⟨#[63]⟩ : ByteArray)) rfl rfl hE rfl (r_assign hE rfl) (fun a hE => ?_)
                  refine t_nil ?_
                  refine hK_47 _ _ ?_
                  refine w_ret ?_
                  exact hret _ _ _ (⟨#[63]⟩ : ByteArray) _ hE hR (res_run hE rfl (RV.tmp rfl RV.nil)) rfl H

/-- ramble/rambleref02.Text -/
def rambleref02_Text (x0 : Array Value) : M (ByteArray) := do
  let x1_2 ← mkB ty_api_Value x0
  let x3_4 ← ldG 4 x1_2
  let x4_5 ← rambleref02_show x3_4 0
  M.pure x4_5
theorem S_rambleref02_Text (x0 : Array Value) : Sound Go.Proofs.Tryd.prog 28 #[.agg x0] (fun (r : ByteArray) => .string r) (rambleref02_Text x0) := by
  refine sound_of [(0, .agg x0)] Go.Proofs.Tryd.func28 rfl rfl (Nat.le_of_ble_eq_true rfl) (args_of ⟨rfl, trivial⟩) (fun w0 w Q R a hret hE hR H => ?_)
  unfold rambleref02_Text at H
  refine w_seq (fun K hK_1 => ?_)
  refine t_region ?_
  obtain ⟨x1_2, qx1_2, H⟩ := H
  refine t_valh (v := .pointer (some x1_2)) rfl rfl hE rfl hR (r_box hE rfl qx1_2) (fun a w hE hR hh => ?_)
  replace H := M.at hh H; clear hh
  refine t_val (v := .string ByteArray.empty) rfl rfl hE rfl (r_assign hE rfl) (fun a hE => ?_)
  refine t_nil ?_
  refine hK_1 _ _ ?_
  refine w_seq (fun K hK_3 => ?_)
  refine t_region ?_
  obtain ⟨x3_4, qx3_4, H⟩ := H
  refine t_val (v := .agg x3_4) rfl rfl hE rfl (r_loadG hE rfl ag42 qx3_4) (fun a hE => ?_)
  refine t_call hE hR cl_rambleref02_show rfl (S_rambleref02_show x3_4 0) (M.unbind H) (fun x4_5 a w ea hR H => ?_)
  have hE := Env.put_some hE rfl ea; clear ea
  refine t_val (v := .string x4_5) rfl rfl hE rfl (r_assign hE rfl) (fun a hE => ?_)
  refine t_nil ?_
  refine hK_3 _ _ ?_
  refine w_ret ?_
  exact hret _ _ _ x4_5 _ hE hR (res_run hE rfl (RV.tmp rfl RV.nil)) rfl H

/-- ramble/value.may$1 -/
def value_may_1 (x0 : Array Value) (x1 : Addr) : M (Bool) := do
  let x2_2 ← mkB ty_api_Value x0
  let x4_4 ← ldG 4 x2_2
  let x5_5 ← ldI .i64 x1
  let x7_6 ← value_may x4_4 (IntKind.wrap .i64 (x5_5 + 1))
  M.pure (!x7_6)
theorem S_value_may_1 (x0 : Array Value) (x1 : Addr) : Sound Go.Proofs.Tryd.prog 79 #[.agg x0, .pointer (some x1)] (fun (r : Bool) => .bool r) (value_may_1 x0 x1) := by
  refine sound_of [(0, .agg x0), (1, .pointer (some x1))] Go.Proofs.Tryd.func79 rfl rfl (Nat.le_of_ble_eq_true rfl) (args_of ⟨rfl, rfl, trivial⟩) (fun w0 w Q R a hret hE hR H => ?_)
  unfold value_may_1 at H
  refine w_seq (fun K hK_1 => ?_)
  refine t_region ?_
  obtain ⟨x2_2, qx2_2, H⟩ := H
  refine t_valh (v := .pointer (some x2_2)) rfl rfl hE rfl hR (r_box hE rfl qx2_2) (fun a w hE hR hh => ?_)
  replace H := M.at hh H; clear hh
  refine t_val (v := .bool false) rfl rfl hE rfl (r_assign hE rfl) (fun a hE => ?_)
  refine t_nil ?_
  refine hK_1 _ _ ?_
  refine w_seq (fun K hK_3 => ?_)
  refine t_region ?_
  obtain ⟨x4_4, qx4_4, H⟩ := H
  refine t_val (v := .agg x4_4) rfl rfl hE rfl (r_loadG hE rfl ag42 qx4_4) (fun a hE => ?_)
  obtain ⟨x5_5, qx5_5, H⟩ := H
  refine t_val (v := .int .i64 x5_5) rfl rfl hE rfl (r_load hE rfl sc3 qx5_5) (fun a hE => ?_)
  refine t_val (v := .int .i64 (IntKind.wrap .i64 (x5_5 + 1))) rfl rfl hE rfl (r_bin hE rfl rfl g_int b_add) (fun a hE => ?_)
  refine t_call hE hR cl_value_may rfl (S_value_may x4_4 (IntKind.wrap .i64 (x5_5 + 1))) (M.unbind H) (fun x7_6 a w ea hR H => ?_)
  have hE := Env.put_some hE rfl ea; clear ea
  refine t_val (v := .bool (!x7_6)) rfl rfl hE rfl (r_un hE rfl u_not) (fun a hE => ?_)
  refine t_val (v := .bool (!x7_6)) rfl rfl hE rfl (r_assign hE rfl) (fun a hE => ?_)
  refine t_nil ?_
  refine hK_3 _ _ ?_
  refine w_ret ?_
  exact hret _ _ _ (!x7_6) _ hE hR (res_run hE rfl (RV.tmp rfl RV.nil)) rfl H

/-- slices.Chunk[[]ramble/api.Value,ramble/api.Value]$1 -/
theorem tb36_3 : tabAt Go.Proofs.Tryd.f36 3 [[], [], [], [1, 2], [3], [0, 4], [5, 0, 1, 2, 3, 4, 5]] [[], [], [], [1, 2], [3], [0, 4], [5]] [[], [], [], [1, 2], [1, 2, 3], [0, 1, 2, 3, 4], [0, 1, 2, 3, 4, 5]] = true := by kernel_rfl
def slices_Chunk_slapi_Value_api_Value_1_l1 (c0_3 : Value) (c1_4 : Addr) (c2_5 : Addr) (self1 : (Int) → M (Unit)) : (Int) → M (Unit) := fun s => match s with
  | x4_2 => do
    let x7_9 ← ldL c1_4
    M.ite (decide (x4_2 < (x7_9.len : Int))) (do
      let x13_12 ← ldI .i64 c2_5
      let x14_13 ← ldL c1_4
      let x16_14 ← slL x14_13 x4_2 x14_13.len 4
      let x20_16 ← ldL c1_4
      let x28_17 ← slL3 x20_16 x4_2 (IntKind.wrap .i64 (x4_2 + (iMin x13_12 (x16_14.len : Int)))) (IntKind.wrap .i64 (x4_2 + (iMin x13_12 (x16_14.len : Int)))) 4
      let x29_18 ← callV Go.Proofs.Tryd.prog (fun r : Bool => .bool r) c0_3 [(x28_17 : Sl).v]
      M.ite (!x29_18) (do
        M.pure ()
        ) (do
        let x11_19 ← ldI .i64 c2_5
        self1 (IntKind.wrap .i64 (x4_2 + x11_19))
        )
      ) (do
      M.pure ()
      )
def slices_Chunk_slapi_Value_api_Value_1 (x0 : Value) (x1 : Addr) (x2 : Addr) : M (Unit) := do
  M.loop (slices_Chunk_slapi_Value_api_Value_1_l1 x0 x1 x2) 0
theorem S_slices_Chunk_slapi_Value_api_Value_1 (x0 : Value) (x1 : Addr) (x2 : Addr) : Sound Go.Proofs.Tryd.prog 36 #[x0, .pointer (some x1), .pointer (some x2)] (fun (r : Unit) => .tuple #[]) (slices_Chunk_slapi_Value_api_Value_1 x0 x1 x2) := by
  refine sound_of [(0, x0), (1, .pointer (some x1)), (2, .pointer (some x2))] Go.Proofs.Tryd.func36 rfl rfl (Nat.le_of_ble_eq_true rfl) (args_of ⟨rfl, rfl, rfl, trivial⟩) (fun w0 w Q R a hret hE hR H => ?_)
  unfold slices_Chunk_slapi_Value_api_Value_1 at H
  refine w_seq (fun K hK_1 => ?_)
  refine t_region ?_
  refine t_val (v := .int .i64 0) rfl rfl hE rfl (r_assign hE rfl) (fun a hE => ?_)
  refine t_nil ?_
  refine hK_1 _ _ ?_
  refine w_block ?_
  refine l_loop (fun (s : Int) => (⟨31, []⟩ : Frm)) (fun (s : Int) => [(0, x0), (1, .pointer (some x1)), (2, .pointer (some x2)), (4, .int .i64 s)]) H (hE.cut (.cons rfl (.cons rfl (.cons rfl (.cons rfl Subs.nil))))) hR (fun Y self1 hY_6 x4_2 a w hE hR H => ?_)
  replace hE : Env (⟨31, []⟩ : Frm) a [(0, x0), (1, .pointer (some x1)), (2, .pointer (some x2)), (4, .int .i64 x4_2)] := hE
  replace H : (slices_Chunk_slapi_Value_api_Value_1_l1 x0 x1 x2 self1 x4_2).wp w.heap Q := H
  unfold slices_Chunk_slapi_Value_api_Value_1_l1 at H
  refine w_seq (fun K hK_7 => ?_)
  refine w_seq (fun K hK_8 => ?_)
  refine t_region ?_
  refine t_val (v := .int .i64 x4_2) rfl rfl hE rfl (r_move hE rfl) (fun a hE => ?_)
  obtain ⟨x7_9, qx7_9, H⟩ := H
  refine t_val (v := (x7_9 : Sl).v) rfl rfl hE rfl (r_load hE rfl sc22 qx7_9) (fun a hE => ?_)
  refine t_val (v := .int .i64 (x7_9.len : Int)) rfl rfl hE rfl (r_len hE rfl 42 un22) (fun a hE => ?_)
  refine t_val (v := .bool (decide (x4_2 < (x7_9.len : Int)))) rfl rfl hE rfl (r_bin hE rfl rfl g_int b_lss) (fun a hE => ?_)
  refine t_nil ?_
  refine hK_8 _ _ ?_
  refine w_cond (decide (x4_2 < (x7_9.len : Int))) hE rfl (fun hb => ?_) (fun hb => ?_)
  · replace H := M.ite_t hb H
    refine w_skip ?_
    refine hK_7 _ _ ?_
    refine w_seq (fun K hK_10 => ?_)
    refine w_block ?_
    refine w_seq (fun K hK_11 => ?_)
    obtain ⟨x13_12, qx13_12, H⟩ := H
    obtain ⟨x14_13, qx14_13, H⟩ := H
    obtain ⟨x16_14, qx16_14, H⟩ := H
    have hT := tab_of tb36_3 rfl rfl
    refine d_start (fun w : World => (fun h : Heap => (hcell h x2 = some (.int .i64 x13_12)) ∧ (hcell h x1 = some ((x14_13 : Sl).v))) w.heap) [5, 6] #[false, false, false, false, false, false, false] mo hR rfl rfl (fun w' e => by rw [e]; exact ⟨qx13_12, qx14_13⟩) (fun w hh hR hs => ?_)
    replace H := M.at hh H; clear hh
    refine d_pureg (i := 2) (v := .int .i64 x4_2) #[false, false, true, false, false, false, false] rfl rfl hT (by kernel_rfl) hE rfl (wanted_none rfl) (fun w => r_move hE rfl) (fun a hE => ?_)
    refine d_read (i := 0) (v := .int .i64 x13_12) #[true, false, true, false, false, false, false] rfl rfl hT (by kernel_rfl) hE rfl (wanted_none rfl) hs (fun w s => r_load hE rfl sc3 s.1) (fun a hE => ?_)
    refine d_read (i := 1) (v := (x14_13 : Sl).v) #[true, true, true, false, false, false, false] rfl rfl hT (by kernel_rfl) hE rfl (wanted_none rfl) hs (fun w s => r_load hE rfl sc22 s.2) (fun a hE => ?_)
    refine d_pureg (i := 3) (v := (x16_14 : Sl).v) #[true, true, true, true, false, false, false] rfl rfl hT (by kernel_rfl) hE rfl (wanted_none rfl) (fun w => r_sliceL_l hE rfl rfl un22 sz42 qx16_14) (fun a hE => ?_)
    refine d_pureg (i := 4) (v := .int .i64 (x16_14.len : Int)) #[true, true, true, true, true, false, false] rfl rfl hT (by kernel_rfl) hE rfl (wanted_none rfl) (fun w => r_len hE rfl 42 un22) (fun a hE => ?_)
    refine d_pureg (i := 5) (v := .int .i64 (iMin x13_12 (x16_14.len : Int))) #[true, true, true, true, true, true, false] rfl rfl hT (by kernel_rfl) hE rfl (wanted_none rfl) (fun w => r_min hE rfl rfl) (fun a hE => ?_)
    refine d_pureg (i := 6) (v := .int .i64 (iMin x13_12 (x16_14.len : Int))) #[true, true, true, true, true, true, true] rfl rfl hT (by kernel_rfl) hE rfl (wanted_none rfl) (fun w => r_assign hE rfl) (fun a hE => ?_)
    refine d_done hT (by kernel_rfl) ?_
    refine hK_11 _ _ ?_
    refine w_seq (fun K hK_15 => ?_)
    refine t_region ?_
    refine t_val (v := x0) rfl rfl hE rfl (r_move hE rfl) (fun a hE => ?_)
    obtain ⟨x20_16, qx20_16, H⟩ := H
    refine t_val (v := (x20_16 : Sl).v) rfl rfl hE rfl (r_load hE rfl sc22 qx20_16) (fun a hE => ?_)
    refine t_val (v := .int .i64 x4_2) rfl rfl hE rfl (r_move hE rfl) (fun a hE => ?_)
    refine t_val (v := .int .i64 x4_2) rfl rfl hE rfl (r_move hE rfl) (fun a hE => ?_)
    refine t_val (v := .int .i64 (iMin x13_12 (x16_14.len : Int))) rfl rfl hE rfl (r_move hE rfl) (fun a hE => ?_)
    refine t_val (v := .int .i64 (IntKind.wrap .i64 (x4_2 + (iMin x13_12 (x16_14.len : Int))))) rfl rfl hE rfl (r_bin hE rfl rfl g_int b_add) (fun a hE => ?_)
    refine t_val (v := .int .i64 x4_2) rfl rfl hE rfl (r_move hE rfl) (fun a hE => ?_)
    refine t_val (v := .int .i64 (iMin x13_12 (x16_14.len : Int))) rfl rfl hE rfl (r_move hE rfl) (fun a hE => ?_)
    refine t_val (v := .int .i64 (IntKind.wrap .i64 (x4_2 + (iMin x13_12 (x16_14.len : Int))))) rfl rfl hE rfl (r_bin hE rfl rfl g_int b_add) (fun a hE => ?_)
    obtain ⟨x28_17, qx28_17, H⟩ := H
    refine t_val (v := (x28_17 : Sl).v) rfl rfl hE rfl (r_sliceL3 hE rfl rfl rfl rfl un22 sz42 qx28_17) (fun a hE => ?_)
    refine t_callV hE hR rfl rfl (M.unbind H) (fun x29_18 a w ea hR H => ?_)
    have hE := Env.put_some hE rfl ea; clear ea
    refine t_val (v := .bool (!x29_18)) rfl rfl hE rfl (r_un hE rfl u_not) (fun a hE => ?_)
    refine t_nil ?_
    refine hK_15 _ _ ?_
    refine w_cond (!x29_18) hE rfl (fun hb => ?_) (fun hb => ?_)
    · replace H := M.ite_t hb H
      refine w_ret ?_
      exact hret _ _ _ () _ hE hR (res_run hE rfl RV.nil) rfl H
    · replace H := M.ite_f hb H
      refine w_skip ?_
      refine hK_10 _ _ ?_
      refine t_region ?_
      refine t_val (v := .int .i64 x4_2) rfl rfl hE rfl (r_move hE rfl) (fun a hE => ?_)
      obtain ⟨x11_19, qx11_19, H⟩ := H
      refine t_val (v := .int .i64 x11_19) rfl rfl hE rfl (r_load hE rfl sc3 qx11_19) (fun a hE => ?_)
      refine t_val (v := .int .i64 (IntKind.wrap .i64 (x4_2 + x11_19))) rfl rfl hE rfl (r_bin hE rfl rfl g_int b_add) (fun a hE => ?_)
      refine t_val (v := .int .i64 (IntKind.wrap .i64 (x4_2 + x11_19))) rfl rfl hE rfl (r_assign hE rfl) (fun a hE => ?_)
      refine t_nil ?_
      exact hY_6 (IntKind.wrap .i64 (x4_2 + x11_19)) _ _ (hE.cut (.cons rfl (.cons rfl (.cons rfl (.cons rfl Subs.nil))))) hR H
  · replace H := M.ite_f hb H
    refine w_exit ?_
    refine Xu.same ?_
    exact hret _ _ _ () _ hE hR (res_run hE rfl RV.nil) rfl H

/-- ramble/value.Same -/
def value_Same (x0 : Array Value) (x1 : Array Value) : M (Bool) := do
  let x2_2 ← mkB ty_api_Value x0
  let x3_3 ← mkB ty_api_Value x1
  let x5_5 ← ldG 4 x2_2
  let x6_6 ← ldG 4 x3_3
  let x7_7 ← value_Compare x5_5 x6_6
  M.pure (x7_7 == 0)
theorem S_value_Same (x0 : Array Value) (x1 : Array Value) : Sound Go.Proofs.Tryd.prog 18 #[.agg x0, .agg x1] (fun (r : Bool) => .bool r) (value_Same x0 x1) := by
  refine sound_of [(0, .agg x0), (1, .agg x1)] Go.Proofs.Tryd.func18 rfl rfl (Nat.le_of_ble_eq_true rfl) (args_of ⟨rfl, rfl, trivial⟩) (fun w0 w Q R a hret hE hR H => ?_)
  unfold value_Same at H
  refine w_seq (fun K hK_1 => ?_)
  refine t_region ?_
  obtain ⟨x2_2, qx2_2, H⟩ := H
  refine t_valh (v := .pointer (some x2_2)) rfl rfl hE rfl hR (r_box hE rfl qx2_2) (fun a w hE hR hh => ?_)
  replace H := M.at hh H; clear hh
  obtain ⟨x3_3, qx3_3, H⟩ := H
  refine t_valh (v := .pointer (some x3_3)) rfl rfl hE rfl hR (r_box hE rfl qx3_3) (fun a w hE hR hh => ?_)
  replace H := M.at hh H; clear hh
  refine t_val (v := .bool false) rfl rfl hE rfl (r_assign hE rfl) (fun a hE => ?_)
  refine t_nil ?_
  refine hK_1 _ _ ?_
  refine w_seq (fun K hK_4 => ?_)
  refine t_region ?_
  obtain ⟨x5_5, qx5_5, H⟩ := H
  refine t_val (v := .agg x5_5) rfl rfl hE rfl (r_loadG hE rfl ag42 qx5_5) (fun a hE => ?_)
  obtain ⟨x6_6, qx6_6, H⟩ := H
  refine t_val (v := .agg x6_6) rfl rfl hE rfl (r_loadG hE rfl ag42 qx6_6) (fun a hE => ?_)
  refine t_call hE hR cl_value_Compare rfl (S_value_Compare x5_5 x6_6) (M.unbind H) (fun x7_7 a w ea hR H => ?_)
  have hE := Env.put_some hE rfl ea; clear ea
  refine t_val (v := .bool (x7_7 == 0)) rfl rfl hE rfl (r_bin hE rfl rfl g_int b_eql) (fun a hE => ?_)
  refine t_val (v := .bool (x7_7 == 0)) rfl rfl hE rfl (r_assign hE rfl) (fun a hE => ?_)
  refine t_nil ?_
  refine hK_4 _ _ ?_
  refine w_ret ?_
  exact hret _ _ _ (x7_7 == 0) _ hE hR (res_run hE rfl (RV.tmp rfl RV.nil)) rfl H

/-- ramble/result.Table$1 -/
def result_Table_1_j1 (self1 : (Int) → M (Unit)) (c0_18 : Value) (c2_19 : Addr) (c5_20 : Addr) (c8_23 : Int) : M (Unit) := do
  let x17_24 ← ldG 4 c5_20
  let x18_25 ← callV Go.Proofs.Tryd.prog (fun r : ByteArray => .string r) c0_18 [.agg x17_24]
  let x19_26 ← strings_Builder_WriteString (some c2_19) x18_25
  self1 (IntKind.wrap .i64 (c8_23 + 1))
def result_Table_1_l1 (c0_5 : Value) (c2_6 : Addr) (c6_7 : Sl) (c7_8 : Int) (self1 : (Int) → M (Unit)) : (Int) → M (Unit) := fun s => match s with
  | x8_4 => do
    M.ite (decide (x8_4 < c7_8)) (do
      let x11_14 ← ixL c6_7 x8_4 4
      let x12_15 ← ldG 4 x11_14
      let x5_16 ← mkB ty_api_Value (#[.int .i64 0, .int .i64 0, .string ByteArray.empty, .slice none 0 0] : Array Value)
      M.need (x12_15.size = 4)
      stG x5_16 x12_15
      M.ite (decide (x8_4 > 0)) (do
        let x15_28 ← strings_Builder_WriteString (some c2_6) (⟨#[32, 124, 32]⟩ : ByteArray)
        result_Table_1_j1 self1 c0_5 c2_6 x5_16 x8_4
        ) (do
        result_Table_1_j1 self1 c0_5 c2_6 x5_16 x8_4
        )
      ) (do
      let x21_29 ← strings_Builder_WriteByte (some c2_6) 10
      M.pure ()
      )
def result_Table_1 (x0 : Value) (x1 : Addr) (x2 : Addr) : M (Unit) := do
  let x6_3 ← ldL x1
  M.loop (result_Table_1_l1 x0 x2 x6_3 (x6_3.len : Int)) 0
theorem S_result_Table_1 (x0 : Value) (x1 : Addr) (x2 : Addr) : Sound Go.Proofs.Tryd.prog 19 #[x0, .pointer (some x1), .pointer (some x2)] (fun (r : Unit) => .tuple #[]) (result_Table_1 x0 x1 x2) := by
  refine sound_of [(0, x0), (1, .pointer (some x1)), (2, .pointer (some x2))] Go.Proofs.Tryd.func19 rfl rfl (Nat.le_of_ble_eq_true rfl) (args_of ⟨rfl, rfl, rfl, trivial⟩) (fun w0 w Q R a hret hE hR H => ?_)
  unfold result_Table_1 at H
  refine w_seq (fun K hK_1 => ?_)
  refine w_seq (fun K hK_2 => ?_)
  refine t_region ?_
  obtain ⟨x6_3, qx6_3, H⟩ := H
  refine t_val (v := (x6_3 : Sl).v) rfl rfl hE rfl (r_load hE rfl sc22 qx6_3) (fun a hE => ?_)
  refine t_val (v := .int .i64 (x6_3.len : Int)) rfl rfl hE rfl (r_len hE rfl 42 un22) (fun a hE => ?_)
  refine t_val (v := .int .i64 0) rfl rfl hE rfl (r_move hE rfl) (fun a hE => ?_)
  refine t_nil ?_
  refine hK_2 _ _ ?_
  refine w_block ?_
  refine l_loop (fun (s : Int) => (⟨22, []⟩ : Frm)) (fun (s : Int) => [(0, x0), (2, .pointer (some x2)), (6, (x6_3 : Sl).v), (7, .int .i64 (x6_3.len : Int)), (8, .int .i64 s)]) H (hE.cut (.cons rfl (.cons rfl (.cons rfl (.cons rfl (.cons rfl Subs.nil)))))) hR (fun Y self1 hY_9 x8_4 a w hE hR H => ?_)
  replace hE : Env (⟨22, []⟩ : Frm) a [(0, x0), (2, .pointer (some x2)), (6, (x6_3 : Sl).v), (7, .int .i64 (x6_3.len : Int)), (8, .int .i64 x8_4)] := hE
  replace H : (result_Table_1_l1 x0 x2 x6_3 (x6_3.len : Int) self1 x8_4).wp w.heap Q := H
  unfold result_Table_1_l1 at H
  refine w_seq (fun K hK_10 => ?_)
  refine t_region ?_
  refine t_val (v := .bool (decide (x8_4 < (x6_3.len : Int)))) rfl rfl hE rfl (r_bin hE rfl rfl g_int b_lss) (fun a hE => ?_)
  refine t_nil ?_
  refine hK_10 _ _ ?_
  refine w_seq (fun K hK_11 => ?_)
  refine w_cond (decide (x8_4 < (x6_3.len : Int))) hE rfl (fun hb => ?_) (fun hb => ?_)
  · replace H := M.ite_t hb H
    refine w_skip ?_
    refine hK_11 _ _ ?_
    refine w_seq (fun K hK_12 => ?_)
    refine w_block ?_
    refine w_seq (fun K hK_13 => ?_)
    refine t_region ?_
    refine t_val (v := .int .i64 x8_4) rfl rfl hE rfl (r_move hE rfl) (fun a hE => ?_)
    obtain ⟨x11_14, qx11_14, H⟩ := H
    refine t_val (v := .pointer (some x11_14)) rfl rfl hE rfl (r_indexAddrL hE rfl rfl un22 sz42 qx11_14) (fun a hE => ?_)
    obtain ⟨x12_15, qx12_15, H⟩ := H
    refine t_val (v := .agg x12_15) rfl rfl hE rfl (r_loadG hE rfl ag42 qx12_15) (fun a hE => ?_)
    obtain ⟨x5_16, qx5_16, H⟩ := H
    refine t_valh (v := .pointer (some x5_16)) rfl rfl hE rfl hR (r_alloc zr42 qx5_16) (fun a w hE hR hh => ?_)
    replace H := M.at hh H; clear hh
    refine t_val (v := .int .i64 x8_4) rfl rfl hE rfl (r_assign hE rfl) (fun a hE => ?_)
    obtain ⟨qz, H⟩ := H
    obtain ⟨u_17, qu_17, H⟩ := H
    refine t_sth rfl rfl hE hR (r_storeG hE rfl rfl sz42 qz qu_17) (fun a w hE hR hh => ?_)
    replace H := M.at hh H; clear hh
    refine t_nil ?_
    refine hK_13 _ _ ?_
    refine w_seq_join (fun a w => Env (⟨22, []⟩ : Frm) a [(0, x0), (2, .pointer (some x2)), (5, .pointer (some x5_16)), (6, (x6_3 : Sl).v), (7, .int .i64 (x6_3.len : Int)), (8, .int .i64 x8_4)] ∧ Rest w0 w ∧ (result_Table_1_j1 self1 x0 x2 x5_16 x8_4).wp w.heap Q) ?_ ?_
    · rintro a w ⟨hE, hR, H⟩
      unfold result_Table_1_j1 at H
      refine t_region ?_
      refine t_val (v := x0) rfl rfl hE rfl (r_move hE rfl) (fun a hE => ?_)
      obtain ⟨x17_24, qx17_24, H⟩ := H
      refine t_val (v := .agg x17_24) rfl rfl hE rfl (r_loadG hE rfl ag42 qx17_24) (fun a hE => ?_)
      refine t_callV hE hR rfl rfl (M.unbind H) (fun x18_25 a w ea hR H => ?_)
      have hE := Env.put_some hE rfl ea; clear ea
      refine t_call hE hR cl_strings_Builder_WriteString rfl (S_strings_Builder_WriteString (some x2) x18_25) (M.unbind H) (fun x19_26 a w ea hR H => ?_)
      have hE := Env.put_some hE rfl ea; clear ea
      refine t_nil ?_
      refine hK_12 _ _ ?_
      refine t_region ?_
      refine t_val (v := .int .i64 (IntKind.wrap .i64 (x8_4 + 1))) rfl rfl hE rfl (r_bin hE rfl rfl g_int b_add) (fun a hE => ?_)
      refine t_val (v := .int .i64 (IntKind.wrap .i64 (x8_4 + 1))) rfl rfl hE rfl (r_move hE rfl) (fun a hE => ?_)
      refine t_nil ?_
      exact hY_9 (IntKind.wrap .i64 (x8_4 + 1)) _ _ (hE.cut (.cons rfl (.cons rfl (.cons rfl (.cons rfl (.cons rfl Subs.nil)))))) hR H
    · skip
      refine w_seq (fun K hK_27 => ?_)
      refine t_region ?_
      refine t_val (v := .int .i64 x8_4) rfl rfl hE rfl (r_move hE rfl) (fun a hE => ?_)
      refine t_val (v := .bool (decide (x8_4 > 0))) rfl rfl hE rfl (r_bin hE rfl rfl g_int b_gtr) (fun a hE => ?_)
      refine t_nil ?_
      refine hK_27 _ _ ?_
      refine w_cond (decide (x8_4 > 0)) hE rfl (fun hb => ?_) (fun hb => ?_)
      · replace H := M.ite_t hb H
        refine t_region ?_
        refine t_call hE hR cl_strings_Builder_WriteString rfl (S_strings_Builder_WriteString (some x2) (⟨#[32, 124, 32]⟩ : ByteArray)) (M.unbind H) (fun x15_28 a w ea hR H => ?_)
        have hE := Env.put_some hE rfl ea; clear ea
        refine t_nil ?_
        exact ⟨hE.cut (.cons rfl (.cons rfl (.cons rfl (.cons rfl (.cons rfl (.cons rfl Subs.nil)))))), hR, H⟩
      · replace H := M.ite_f hb H
        refine w_skip ?_
        exact ⟨hE.cut (.cons rfl (.cons rfl (.cons rfl (.cons rfl (.cons rfl (.cons rfl Subs.nil)))))), hR, H⟩
  · replace H := M.ite_f hb H
    refine w_exit ?_
    refine Xu.same ?_
    refine hK_1 _ _ ?_
    refine t_region ?_
    refine t_call hE hR cl_strings_Builder_WriteByte rfl (S_strings_Builder_WriteByte (some x2) 10) (M.unbind H) (fun x21_29 a w ea hR H => ?_)
    have hE := Env.put_some hE rfl ea; clear ea
    refine t_nil ?_
    exact hret _ _ _ () _ hE hR (res_run hE rfl RV.nil) rfl H

/-- slices.Clone[[]ramble/api.Value,ramble/api.Value] -/
def slices_Clone_slapi_Value_api_Value (x0 : Sl) : M (Sl) := do
  M.ite ((x0).base.isNone) (do
    M.pure Sl.nil
    ) (do
    let y_7 ← fillL 4 0 (#[.int .i64 0, .int .i64 0, .string ByteArray.empty, .slice none 0 0] : Array Value) []
    let x5_6 ← bdL ty_api_Value 0 y_7
    let x7_8 ← apL ty_api_Value 4 56 (#[.int .i64 0, .int .i64 0, .string ByteArray.empty, .slice none 0 0] : Array Value) x5_6 x0
    M.pure x7_8
    )
theorem S_slices_Clone_slapi_Value_api_Value (x0 : Sl) : Sound Go.Proofs.Tryd.prog 70 #[(x0 : Sl).v] (fun (r : Sl) => (r : Sl).v) (slices_Clone_slapi_Value_api_Value x0) := by
  refine sound_of [(0, (x0 : Sl).v)] Go.Proofs.Tryd.func70 rfl rfl (Nat.le_of_ble_eq_true rfl) (args_of ⟨rfl, trivial⟩) (fun w0 w Q R a hret hE hR H => ?_)
  unfold slices_Clone_slapi_Value_api_Value at H
  refine w_seq (fun K hK_1 => ?_)
  refine t_region ?_
  refine t_val (v := (Sl.nil : Sl).v) rfl rfl hE rfl (r_assign hE rfl) (fun a hE => ?_)
  refine t_nil ?_
  refine hK_1 _ _ ?_
  refine w_seq (fun K hK_2 => ?_)
  refine w_seq (fun K hK_3 => ?_)
  refine t_region ?_
  refine t_val (v := (x0 : Sl).v) rfl rfl hE rfl (r_move hE rfl) (fun a hE => ?_)
  refine t_val (v := .bool ((x0).base.isNone)) rfl rfl hE rfl (r_bin hE rfl rfl (g_sl (v := Sl.nil)) (b_eqlL un22)) (fun a hE => ?_)
  refine t_nil ?_
  refine hK_3 _ _ ?_
  refine w_cond ((x0).base.isNone) hE rfl (fun hb => ?_) (fun hb => ?_)
  · replace H := M.ite_t hb H
    refine w_seq (fun K hK_4 => ?_)
    refine t_region ?_
    refine t_val (v := (Sl.nil : Sl).v) rfl rfl hE rfl (r_assign hE rfl) (fun a hE => ?_)
    refine t_nil ?_
    refine hK_4 _ _ ?_
    refine w_ret ?_
    exact hret _ _ _ Sl.nil _ hE hR (res_run hE rfl (RV.tmp rfl RV.nil)) rfl H
  · replace H := M.ite_f hb H
    refine w_skip ?_
    refine hK_2 _ _ ?_
    refine w_seq (fun K hK_5 => ?_)
    refine t_region ?_
    obtain ⟨y_7, qy_7, H⟩ := H
    obtain ⟨x5_6, qx5_6, H⟩ := H
    refine t_valh (v := (x5_6 : Sl).v) rfl rfl hE rfl hR (r_buildL hE rfl un22 sz42 zr42 rfl qy_7 qx5_6) (fun a w hE hR hh => ?_)
    replace H := M.at hh H; clear hh
    refine t_val (v := (x0 : Sl).v) rfl rfl hE rfl (r_move hE rfl) (fun a hE => ?_)
    refine t_ex (fun x7_8 => (x7_8 : Sl).v) rfl rfl hR (M.unbind H) (fun Q H => ap_run hE rfl rfl ap22 H) (fun x7_8 a w ea hR H => ?_)
    have hE := Env.put_some hE rfl ea; clear ea
    refine t_val (v := (x7_8 : Sl).v) rfl rfl hE rfl (r_assign hE rfl) (fun a hE => ?_)
    refine t_nil ?_
    refine hK_5 _ _ ?_
    refine w_ret ?_
    exact hret _ _ _ x7_8 _ hE hR (res_run hE rfl (RV.tmp rfl RV.nil)) rfl H

/-- ramble/value.Clone -/
theorem tb46_5 : tabAt Go.Proofs.Tryd.f46 5 [[], [0], [], [], [3], [], [4, 5], [6], [7], [1, 2, 0, 1, 2, 3, 4, 5, 6, 7, 8], [9, 8, 8, 0, 1, 2, 3, 4, 5, 6, 7, 8]] [[], [0], [], [], [3], [], [4, 5], [6], [7], [1, 2], [8, 9]] [[], [0], [], [], [3], [], [3, 4, 5], [3, 4, 5, 6], [3, 4, 5, 6, 7], [0, 1, 2, 3, 4, 5, 6, 7, 8], [0, 1, 2, 3, 4, 5, 6, 7, 8, 9]] = true := by kernel_rfl
def value_Clone_l1 (c1_12 : Addr) (c2_13 : Addr) (c10_14 : Int) (self1 : (Int) → M (Array Value)) : (Int) → M (Array Value) := fun s => match s with
  | x11_11 => do
    M.ite (decide (x11_11 < c10_14)) (do
      let x15_20 ← ldL ((c1_12).add 3)
      let x18_21 ← ldL ((c1_12).add 3)
      let x20_22 ← ixL x18_21 x11_11 4
      let x21_23 ← ldG 4 x20_22
      let x22_24 ← callF Go.Proofs.Tryd.prog fn_value_Clone #[.agg x21_23] (fun r : Array Value => .agg r)
      chk (fun h : Heap => (hcell h ((c1_12).add 3) = some ((x15_20 : Sl).v)) ∧ (hcell h ((c1_12).add 3) = some ((x18_21 : Sl).v)) ∧ (x21_23.size = 4 ∧ ∀ i, i < 4 → hcell h (Addr.add x20_22 i) = x21_23[i]?))
      let x23_25 ← ixL x15_20 x11_11 4
      M.need (x22_24.size = 4)
      stG x23_25 x22_24
      self1 (IntKind.wrap .i64 (x11_11 + 1))
      ) (do
      let x25_28 ← ldG 4 c1_12
      M.need (x25_28.size = 4)
      stG c2_13 x25_28
      let r2_30 ← ldG 4 c2_13
      M.pure r2_30
      )
def value_Clone (x0 : Array Value) : M (Array Value) := do
  let x1_2 ← mkB ty_api_Value x0
  let x2_3 ← mkB ty_api_Value (#[.int .i64 0, .int .i64 0, .string ByteArray.empty, .slice none 0 0] : Array Value)
  let x5_5 ← ldL ((x1_2).add 3)
  let x6_6 ← slices_Clone_slapi_Value_api_Value x5_5
  stV ((x1_2).add 3) ((x6_6 : Sl).v)
  let x9_10 ← ldL ((x1_2).add 3)
  M.loop (value_Clone_l1 x1_2 x2_3 (x9_10.len : Int)) 0
theorem S_value_Clone (x0 : Array Value) : Sound Go.Proofs.Tryd.prog 46 #[.agg x0] (fun (r : Array Value) => .agg r) (value_Clone x0) := by
  refine sound_of [(0, .agg x0)] Go.Proofs.Tryd.func46 rfl rfl (Nat.le_of_ble_eq_true rfl) (args_of ⟨rfl, trivial⟩) (fun w0 w Q R a hret hE hR H => ?_)
  unfold value_Clone at H
  refine w_seq (fun K hK_1 => ?_)
  refine t_region ?_
  obtain ⟨x1_2, qx1_2, H⟩ := H
  refine t_valh (v := .pointer (some x1_2)) rfl rfl hE rfl hR (r_box hE rfl qx1_2) (fun a w hE hR hh => ?_)
  replace H := M.at hh H; clear hh
  obtain ⟨x2_3, qx2_3, H⟩ := H
  refine t_valh (v := .pointer (some x2_3)) rfl rfl hE rfl hR (r_alloc zr42 qx2_3) (fun a w hE hR hh => ?_)
  replace H := M.at hh H; clear hh
  refine t_nil ?_
  refine hK_1 _ _ ?_
  refine w_seq (fun K hK_4 => ?_)
  refine t_region ?_
  refine t_val (v := .pointer (some ((x1_2).add 3))) rfl rfl hE rfl (r_fieldAddr hE rfl fd42_3) (fun a hE => ?_)
  obtain ⟨x5_5, qx5_5, H⟩ := H
  refine t_val (v := (x5_5 : Sl).v) rfl rfl hE rfl (r_load hE rfl sc22 qx5_5) (fun a hE => ?_)
  refine t_call hE hR cl_slices_Clone_slapi_Value_api_Value rfl (S_slices_Clone_slapi_Value_api_Value x5_5) (M.unbind H) (fun x6_6 a w ea hR H => ?_)
  have hE := Env.put_some hE rfl ea; clear ea
  refine t_val (v := .pointer (some ((x1_2).add 3))) rfl rfl hE rfl (r_fieldAddr hE rfl fd42_3) (fun a hE => ?_)
  obtain ⟨u_7, qu_7, H⟩ := H
  refine t_sth rfl rfl hE hR (r_store hE rfl rfl sz22 qu_7) (fun a w hE hR hh => ?_)
  replace H := M.at hh H; clear hh
  refine t_nil ?_
  refine hK_4 _ _ ?_
  refine w_seq (fun K hK_8 => ?_)
  refine w_seq (fun K hK_9 => ?_)
  refine t_region ?_
  refine t_val (v := .pointer (some ((x1_2).add 3))) rfl rfl hE rfl (r_fieldAddr hE rfl fd42_3) (fun a hE => ?_)
  obtain ⟨x9_10, qx9_10, H⟩ := H
  refine t_val (v := (x9_10 : Sl).v) rfl rfl hE rfl (r_load hE rfl sc22 qx9_10) (fun a hE => ?_)
  refine t_val (v := .int .i64 (x9_10.len : Int)) rfl rfl hE rfl (r_len hE rfl 42 un22) (fun a hE => ?_)
  refine t_val (v := .int .i64 0) rfl rfl hE rfl (r_move hE rfl) (fun a hE => ?_)
  refine t_nil ?_
  refine hK_9 _ _ ?_
  refine w_block ?_
  refine l_loop (fun (s : Int) => (⟨26, []⟩ : Frm)) (fun (s : Int) => [(1, .pointer (some x1_2)), (2, .pointer (some x2_3)), (10, .int .i64 (x9_10.len : Int)), (11, .int .i64 s)]) H (hE.cut (.cons rfl (.cons rfl (.cons rfl (.cons rfl Subs.nil))))) hR (fun Y self1 hY_15 x11_11 a w hE hR H => ?_)
  replace hE : Env (⟨26, []⟩ : Frm) a [(1, .pointer (some x1_2)), (2, .pointer (some x2_3)), (10, .int .i64 (x9_10.len : Int)), (11, .int .i64 x11_11)] := hE
  replace H : (value_Clone_l1 x1_2 x2_3 (x9_10.len : Int) self1 x11_11).wp w.heap Q := H
  unfold value_Clone_l1 at H
  refine w_seq (fun K hK_16 => ?_)
  refine t_region ?_
  refine t_val (v := .bool (decide (x11_11 < (x9_10.len : Int)))) rfl rfl hE rfl (r_bin hE rfl rfl g_int b_lss) (fun a hE => ?_)
  refine t_nil ?_
  refine hK_16 _ _ ?_
  refine w_seq (fun K hK_17 => ?_)
  refine w_cond (decide (x11_11 < (x9_10.len : Int))) hE rfl (fun hb => ?_) (fun hb => ?_)
  · replace H := M.ite_t hb H
    refine w_skip ?_
    refine hK_17 _ _ ?_
    refine w_seq (fun K hK_18 => ?_)
    refine w_block ?_
    refine w_seq (fun K hK_19 => ?_)
    refine t_region ?_
    refine t_val (v := .int .i64 x11_11) rfl rfl hE rfl (r_move hE rfl) (fun a hE => ?_)
    refine t_val (v := .int .i64 x11_11) rfl rfl hE rfl (r_assign hE rfl) (fun a hE => ?_)
    refine t_nil ?_
    refine hK_19 _ _ ?_
    obtain ⟨x15_20, qx15_20, H⟩ := H
    obtain ⟨x18_21, qx18_21, H⟩ := H
    obtain ⟨x20_22, qx20_22, H⟩ := H
    obtain ⟨x21_23, qx21_23, H⟩ := H
    have hT := tab_of tb46_5 rfl rfl
    refine d_start (fun w : World => (fun h : Heap => (hcell h ((x1_2).add 3) = some ((x15_20 : Sl).v)) ∧ (hcell h ((x1_2).add 3) = some ((x18_21 : Sl).v)) ∧ (x21_23.size = 4 ∧ ∀ i, i < 4 → hcell h (Addr.add x20_22 i) = x21_23[i]?)) w.heap) [9, 10] #[false, false, false, false, false, false, false, false, false, false, false] mo hR rfl rfl (fun w' e => by rw [e]; exact ⟨qx15_20, qx18_21, qx21_23⟩) (fun w hh hR hs => ?_)
    replace H := M.at hh H; clear hh
    refine d_pureg (i := 0) (v := .pointer (some ((x1_2).add 3))) #[true, false, false, false, false, false, false, false, false, false, false] rfl rfl hT (by kernel_rfl) hE rfl (wanted_none rfl) (fun w => r_fieldAddr hE rfl fd42_3) (fun a hE => ?_)
    refine d_pureg (i := 2) (v := .int .i64 x11_11) #[true, false, true, false, false, false, false, false, false, false, false] rfl rfl hT (by kernel_rfl) hE rfl (wanted_none rfl) (fun w => r_move hE rfl) (fun a hE => ?_)
    refine d_pureg (i := 3) (v := .pointer (some ((x1_2).add 3))) #[true, false, true, true, false, false, false, false, false, false, false] rfl rfl hT (by kernel_rfl) hE rfl (wanted_none rfl) (fun w => r_fieldAddr hE rfl fd42_3) (fun a hE => ?_)
    refine d_pureg (i := 5) (v := .int .i64 x11_11) #[true, false, true, true, false, true, false, false, false, false, false] rfl rfl hT (by kernel_rfl) hE rfl (wanted_none rfl) (fun w => r_move hE rfl) (fun a hE => ?_)
    refine d_read (i := 1) (v := (x15_20 : Sl).v) #[true, true, true, true, false, true, false, false, false, false, false] rfl rfl hT (by kernel_rfl) hE rfl (wanted_none rfl) hs (fun w s => r_load hE rfl sc22 s.1) (fun a hE => ?_)
    refine d_read (i := 4) (v := (x18_21 : Sl).v) #[true, true, true, true, true, true, false, false, false, false, false] rfl rfl hT (by kernel_rfl) hE rfl (wanted_none rfl) hs (fun w s => r_load hE rfl sc22 s.2.1) (fun a hE => ?_)
    refine d_pureg (i := 6) (v := .pointer (some x20_22)) #[true, true, true, true, true, true, true, false, false, false, false] rfl rfl hT (by kernel_rfl) hE rfl (wanted_none rfl) (fun w => r_indexAddrL hE rfl rfl un22 sz42 qx20_22) (fun a hE => ?_)
    refine d_read (i := 7) (v := .agg x21_23) #[true, true, true, true, true, true, true, true, false, false, false] rfl rfl hT (by kernel_rfl) hE rfl (wanted_none rfl) hs (fun w s => r_loadG hE rfl ag42 s.2.2) (fun a hE => ?_)
    refine d_call (i := 8) #[true, true, true, true, true, true, true, true, true, false, false] rfl rfl rfl hT (by kernel_rfl) rfl hE hR (wanted_none rfl) cl_value_Clone rfl (sound_callF) (M.unbind H) (fun r h H w' e => by obtain ⟨_, sA, H⟩ := H; rw [e]; exact sA) (fun x22_24 a w ea hR H hs => ?_)
    obtain ⟨_, sA, H⟩ := H; clear sA
    have hE := Env.put_some hE rfl ea; clear ea
    obtain ⟨x23_25, qx23_25, H⟩ := H
    refine d_pureg (i := 9) (v := .pointer (some x23_25)) #[true, true, true, true, true, true, true, true, true, true, false] rfl rfl hT (by kernel_rfl) hE rfl (wanted_none rfl) (fun w => r_indexAddrL hE rfl rfl un22 sz42 qx23_25) (fun a hE => ?_)
    obtain ⟨qz, H⟩ := H
    obtain ⟨u_26, qu_26, H⟩ := H
    refine d_stlh (i := 10) #[true, true, true, true, true, true, true, true, true, true, true] rfl rfl hT (by kernel_rfl) rfl hE hR (wanted_none rfl) (r_storeG hE rfl rfl sz42 qz qu_26)  (fun a w hE hR hh => ?_)
    replace H := M.at hh H; clear hh
    refine d_done hT (by kernel_rfl) ?_
    refine hK_18 _ _ ?_
    refine t_region ?_
    refine t_val (v := .int .i64 (IntKind.wrap .i64 (x11_11 + 1))) rfl rfl hE rfl (r_bin hE rfl rfl g_int b_add) (fun a hE => ?_)
    refine t_val (v := .int .i64 (IntKind.wrap .i64 (x11_11 + 1))) rfl rfl hE rfl (r_move hE rfl) (fun a hE => ?_)
    refine t_nil ?_
    exact hY_15 (IntKind.wrap .i64 (x11_11 + 1)) _ _ (hE.cut (.cons rfl (.cons rfl (.cons rfl (.cons rfl Subs.nil))))) hR H
  · replace H := M.ite_f hb H
    refine w_exit ?_
    refine Xu.same ?_
    refine hK_8 _ _ ?_
    refine w_seq (fun K hK_27 => ?_)
    refine t_region ?_
    obtain ⟨x25_28, qx25_28, H⟩ := H
    refine t_val (v := .agg x25_28) rfl rfl hE rfl (r_loadG hE rfl ag42 qx25_28) (fun a hE => ?_)
    obtain ⟨qz, H⟩ := H
    obtain ⟨u_29, qu_29, H⟩ := H
    refine t_sth rfl rfl hE hR (r_storeG hE rfl rfl sz42 qz qu_29) (fun a w hE hR hh => ?_)
    replace H := M.at hh H; clear hh
    refine t_nil ?_
    refine hK_27 _ _ ?_
    refine w_ret ?_
    obtain ⟨r2_30, qr2_30, H⟩ := H
    exact hret _ _ _ r2_30 _ hE hR (res_run hE rfl (RV.cellG rfl ag42 qr2_30 RV.nil)) rfl H

end Gx
namespace Gx
open Go
set_option linter.unusedVariables false
set_option maxRecDepth 100000
/-- ramble/value.Get -/
theorem tb24_6 : tabAt Go.Proofs.Tryd.f24 6 [[], [0], [], [1, 2], [3], [], [4, 5]] [[], [0], [], [1, 2], [3], [], [4, 5]] [[], [0], [], [0, 1, 2], [0, 1, 2, 3], [], [0, 1, 2, 3, 4, 5]] = true := by kernel_rfl
def value_Get_l1 (c2_14 : Addr) (c3_15 : Addr) (c4_16 : Addr) (self1 : (Int) → M (Array Value × Bool)) : (Int) → M (Array Value × Bool) := fun s => match s with
  | x6_13 => do
    let x14_20 ← ldL ((c2_14).add 3)
    M.ite (decide ((IntKind.wrap .i64 (x6_13 + 1)) < (x14_20.len : Int))) (do
      let x20_23 ← ldL ((c2_14).add 3)
      let x22_24 ← ixL x20_23 x6_13 4
      let x23_25 ← ldG 4 x22_24
      let x24_26 ← ldG 4 c3_15
      let x25_27 ← value_Same x23_25 x24_26
      M.ite x25_27 (do
        let x27_29 ← ldL ((c2_14).add 3)
        let x30_30 ← ixL x27_29 (IntKind.wrap .i64 (x6_13 + 1)) 4
        let x31_31 ← ldG 4 x30_30
        let x32_32 ← value_Clone x31_31
        M.need (x32_32.size = 4)
        stG c4_16 x32_32
        let r4_34 ← ldG 4 c4_16
        M.pure (r4_34, true)
        ) (do
        self1 (IntKind.wrap .i64 (x6_13 + 2))
        )
      ) (do
      M.need ((#[.int .i64 0, .int .i64 0, .string ByteArray.empty, .slice none 0 0] : Array Value).size = 4)
      stG c4_16 (#[.int .i64 0, .int .i64 0, .string ByteArray.empty, .slice none 0 0] : Array Value)
      let r4_37 ← ldG 4 c4_16
      M.pure (r4_37, false)
      )
def value_Get (x0 : Array Value) (x1 : Array Value) : M (Array Value × Bool) := do
  let x2_2 ← mkB ty_api_Value x0
  let x3_3 ← mkB ty_api_Value x1
  let x4_4 ← mkB ty_api_Value (#[.int .i64 0, .int .i64 0, .string ByteArray.empty, .slice none 0 0] : Array Value)
  let x8_7 ← ldI .i64 ((x2_2).add 0)
  M.ite (x8_7 != 5) (do
    M.need ((#[.int .i64 0, .int .i64 0, .string ByteArray.empty, .slice none 0 0] : Array Value).size = 4)
    stG x4_4 (#[.int .i64 0, .int .i64 0, .string ByteArray.empty, .slice none 0 0] : Array Value)
    let r4_10 ← ldG 4 x4_4
    M.pure (r4_10, false)
    ) (do
    M.loop (value_Get_l1 x2_2 x3_3 x4_4) 0
    )
theorem S_value_Get (x0 : Array Value) (x1 : Array Value) : Sound Go.Proofs.Tryd.prog 24 #[.agg x0, .agg x1] (fun (r : Array Value × Bool) => .tuple #[.agg r.1, .bool r.2]) (value_Get x0 x1) := by
  refine sound_of [(0, .agg x0), (1, .agg x1)] Go.Proofs.Tryd.func24 rfl rfl (Nat.le_of_ble_eq_true rfl) (args_of ⟨rfl, rfl, trivial⟩) (fun w0 w Q R a hret hE hR H => ?_)
  unfold value_Get at H
  refine w_seq (fun K hK_1 => ?_)
  refine t_region ?_
  obtain ⟨x2_2, qx2_2, H⟩ := H
  refine t_valh (v := .pointer (some x2_2)) rfl rfl hE rfl hR (r_box hE rfl qx2_2) (fun a w hE hR hh => ?_)
  replace H := M.at hh H; clear hh
  obtain ⟨x3_3, qx3_3, H⟩ := H
  refine t_valh (v := .pointer (some x3_3)) rfl rfl hE rfl hR (r_box hE rfl qx3_3) (fun a w hE hR hh => ?_)
  replace H := M.at hh H; clear hh
  obtain ⟨x4_4, qx4_4, H⟩ := H
  refine t_valh (v := .pointer (some x4_4)) rfl rfl hE rfl hR (r_alloc zr42 qx4_4) (fun a w hE hR hh => ?_)
  replace H := M.at hh H; clear hh
  refine t_val (v := .bool false) rfl rfl hE rfl (r_assign hE rfl) (fun a hE => ?_)
  refine t_nil ?_
  refine hK_1 _ _ ?_
  refine w_seq (fun K hK_5 => ?_)
  refine w_seq (fun K hK_6 => ?_)
  refine t_region ?_
  refine t_val (v := .pointer (some ((x2_2).add 0))) rfl rfl hE rfl (r_fieldAddr hE rfl fd42_0) (fun a hE => ?_)
  obtain ⟨x8_7, qx8_7, H⟩ := H
  refine t_val (v := .int .i64 x8_7) rfl rfl hE rfl (r_load hE rfl sc3 qx8_7) (fun a hE => ?_)
  refine t_val (v := .bool (x8_7 != 5)) rfl rfl hE rfl (r_bin hE rfl rfl g_int b_neq) (fun a hE => ?_)
  refine t_nil ?_
  refine hK_6 _ _ ?_
  refine w_cond (x8_7 != 5) hE rfl (fun hb => ?_) (fun hb => ?_)
  · replace H := M.ite_t hb H
    refine w_seq (fun K hK_8 => ?_)
    refine t_region ?_
    refine t_val (v := .agg (#[.int .i64 0, .int .i64 0, .string ByteArray.empty, .slice none 0 0] : Array Value)) rfl rfl hE rfl (r_build0 bd42) (fun a hE => ?_)
    obtain ⟨qz, H⟩ := H
    obtain ⟨u_9, qu_9, H⟩ := H
    refine t_sth rfl rfl hE hR (r_storeG hE rfl rfl sz42 qz qu_9) (fun a w hE hR hh => ?_)
    replace H := M.at hh H; clear hh
    refine t_val (v := .bool false) rfl rfl hE rfl (r_assign hE rfl) (fun a hE => ?_)
    refine t_nil ?_
    refine hK_8 _ _ ?_
    refine w_ret ?_
    obtain ⟨r4_10, qr4_10, H⟩ := H
    exact hret _ _ _ (r4_10, false) _ hE hR (res_run hE rfl (RV.cellG rfl ag42 qr4_10 (RV.tmp rfl RV.nil))) rfl H
  · replace H := M.ite_f hb H
    refine w_skip ?_
    refine hK_5 _ _ ?_
    refine w_seq (fun K hK_11 => ?_)
    refine w_seq (fun K hK_12 => ?_)
    refine t_region ?_
    refine t_val (v := .int .i64 0) rfl rfl hE rfl (r_assign hE rfl) (fun a hE => ?_)
    refine t_nil ?_
    refine hK_12 _ _ ?_
    refine w_block ?_
    refine l_loop (fun (s : Int) => (⟨34, []⟩ : Frm)) (fun (s : Int) => [(2, .pointer (some x2_2)), (3, .pointer (some x3_3)), (4, .pointer (some x4_4)), (6, .int .i64 s)]) H (hE.cut (.cons rfl (.cons rfl (.cons rfl (.cons rfl Subs.nil))))) hR (fun Y self1 hY_17 x6_13 a w hE hR H => ?_)
    replace hE : Env (⟨34, []⟩ : Frm) a [(2, .pointer (some x2_2)), (3, .pointer (some x3_3)), (4, .pointer (some x4_4)), (6, .int .i64 x6_13)] := hE
    replace H : (value_Get_l1 x2_2 x3_3 x4_4 self1 x6_13).wp w.heap Q := H
    unfold value_Get_l1 at H
    refine w_seq (fun K hK_18 => ?_)
    refine w_seq (fun K hK_19 => ?_)
    refine t_region ?_
    refine t_val (v := .int .i64 x6_13) rfl rfl hE rfl (r_move hE rfl) (fun a hE => ?_)
    refine t_val (v := .int .i64 (IntKind.wrap .i64 (x6_13 + 1))) rfl rfl hE rfl (r_bin hE rfl rfl g_int b_add) (fun a hE => ?_)
    refine t_val (v := .pointer (some ((x2_2).add 3))) rfl rfl hE rfl (r_fieldAddr hE rfl fd42_3) (fun a hE => ?_)
    obtain ⟨x14_20, qx14_20, H⟩ := H
    refine t_val (v := (x14_20 : Sl).v) rfl rfl hE rfl (r_load hE rfl sc22 qx14_20) (fun a hE => ?_)
    refine t_val (v := .int .i64 (x14_20.len : Int)) rfl rfl hE rfl (r_len hE rfl 42 un22) (fun a hE => ?_)
    refine t_val (v := .bool (decide ((IntKind.wrap .i64 (x6_13 + 1)) < (x14_20.len : Int)))) rfl rfl hE rfl (r_bin hE rfl rfl g_int b_lss) (fun a hE => ?_)
    refine t_nil ?_
    refine hK_19 _ _ ?_
    refine w_cond (decide ((IntKind.wrap .i64 (x6_13 + 1)) < (x14_20.len : Int))) hE rfl (fun hb => ?_) (fun hb => ?_)
    · replace H := M.ite_t hb H
      refine w_skip ?_
      refine hK_18 _ _ ?_
      refine w_seq (fun K hK_21 => ?_)
      refine w_block ?_
      refine w_seq (fun K hK_22 => ?_)
      obtain ⟨x20_23, qx20_23, H⟩ := H
      obtain ⟨x22_24, qx22_24, H⟩ := H
      obtain ⟨x23_25, qx23_25, H⟩ := H
      obtain ⟨x24_26, qx24_26, H⟩ := H
      have hT := tab_of tb24_6 rfl rfl
      refine d_start (fun w : World => (fun h : Heap => (hcell h ((x2_2).add 3) = some ((x20_23 : Sl).v)) ∧ (x23_25.size = 4 ∧ ∀ i, i < 4 → hcell h (Addr.add x22_24 i) = x23_25[i]?) ∧ (x24_26.size = 4 ∧ ∀ i, i < 4 → hcell h (Addr.add x3_3 i) = x24_26[i]?)) w.heap) [6] #[false, false, false, false, false, false, false] mo hR rfl rfl (fun w' e => by rw [e]; exact ⟨qx20_23, qx23_25, qx24_26⟩) (fun w hh hR hs => ?_)
      replace H := M.at hh H; clear hh
      refine d_pureg (i := 0) (v := .pointer (some ((x2_2).add 3))) #[true, false, false, false, false, false, false] rfl rfl hT (by kernel_rfl) hE rfl (wanted_none rfl) (fun w => r_fieldAddr hE rfl fd42_3) (fun a hE => ?_)
      refine d_pureg (i := 2) (v := .int .i64 x6_13) #[true, false, true, false, false, false, false] rfl rfl hT (by kernel_rfl) hE rfl (wanted_none rfl) (fun w => r_move hE rfl) (fun a hE => ?_)
      refine d_read (i := 1) (v := (x20_23 : Sl).v) #[true, true, true, false, false, false, false] rfl rfl hT (by kernel_rfl) hE rfl (wanted_none rfl) hs (fun w s => r_load hE rfl sc22 s.1) (fun a hE => ?_)
      refine d_pureg (i := 3) (v := .pointer (some x22_24)) #[true, true, true, true, false, false, false] rfl rfl hT (by kernel_rfl) hE rfl (wanted_none rfl) (fun w => r_indexAddrL hE rfl rfl un22 sz42 qx22_24) (fun a hE => ?_)
      refine d_read (i := 4) (v := .agg x23_25) #[true, true, true, true, true, false, false] rfl rfl hT (by kernel_rfl) hE rfl (wanted_none rfl) hs (fun w s => r_loadG hE rfl ag42 s.2.1) (fun a hE => ?_)
      refine d_read (i := 5) (v := .agg x24_26) #[true, true, true, true, true, true, false] rfl rfl hT (by kernel_rfl) hE rfl (wanted_none rfl) hs (fun w s => r_loadG hE rfl ag42 s.2.2) (fun a hE => ?_)
      refine d_calll (i := 6) #[true, true, true, true, true, true, true] rfl rfl rfl hT (by kernel_rfl) rfl hE hR (wanted_none rfl) cl_value_Same rfl (S_value_Same x23_25 x24_26) (M.unbind H) (fun x25_27 a w ea hR H => ?_)
      have hE := Env.put_some hE rfl ea; clear ea
      refine d_done hT (by kernel_rfl) ?_
      refine hK_22 _ _ ?_
      refine w_cond x25_27 hE rfl (fun hb => ?_) (fun hb => ?_)
      · replace H := M.ite_t hb H
        refine w_seq (fun K hK_28 => ?_)
        refine t_region ?_
        refine t_val (v := .pointer (some ((x2_2).add 3))) rfl rfl hE rfl (r_fieldAddr hE rfl fd42_3) (fun a hE => ?_)
        obtain ⟨x27_29, qx27_29, H⟩ := H
        refine t_val (v := (x27_29 : Sl).v) rfl rfl hE rfl (r_load hE rfl sc22 qx27_29) (fun a hE => ?_)
        refine t_val (v := .int .i64 x6_13) rfl rfl hE rfl (r_move hE rfl) (fun a hE => ?_)
        refine t_val (v := .int .i64 (IntKind.wrap .i64 (x6_13 + 1))) rfl rfl hE rfl (r_bin hE rfl rfl g_int b_add) (fun a hE => ?_)
        obtain ⟨x30_30, qx30_30, H⟩ := H
        refine t_val (v := .pointer (some x30_30)) rfl rfl hE rfl (r_indexAddrL hE rfl rfl un22 sz42 qx30_30) (fun a hE => ?_)
        obtain ⟨x31_31, qx31_31, H⟩ := H
        refine t_val (v := .agg x31_31) rfl rfl hE rfl (r_loadG hE rfl ag42 qx31_31) (fun a hE => ?_)
        refine t_call hE hR cl_value_Clone rfl (S_value_Clone x31_31) (M.unbind H) (fun x32_32 a w ea hR H => ?_)
        have hE := Env.put_some hE rfl ea; clear ea
        obtain ⟨qz, H⟩ := H
        obtain ⟨u_33, qu_33, H⟩ := H
        refine t_sth rfl rfl hE hR (r_storeG hE rfl rfl sz42 qz qu_33) (fun a w hE hR hh => ?_)
        replace H := M.at hh H; clear hh
        refine t_val (v := .bool true) rfl rfl hE rfl (r_assign hE rfl) (fun a hE => ?_)
        refine t_nil ?_
        refine hK_28 _ _ ?_
        refine w_ret ?_
        obtain ⟨r4_34, qr4_34, H⟩ := H
        exact hret _ _ _ (r4_34, true) _ hE hR (res_run hE rfl (RV.cellG rfl ag42 qr4_34 (RV.tmp rfl RV.nil))) rfl H
      · replace H := M.ite_f hb H
        refine w_skip ?_
        refine hK_21 _ _ ?_
        refine t_region ?_
        refine t_val (v := .int .i64 x6_13) rfl rfl hE rfl (r_move hE rfl) (fun a hE => ?_)
        refine t_val (v := .int .i64 (IntKind.wrap .i64 (x6_13 + 2))) rfl rfl hE rfl (r_bin hE rfl rfl g_int b_add) (fun a hE => ?_)
        refine t_val (v := .int .i64 (IntKind.wrap .i64 (x6_13 + 2))) rfl rfl hE rfl (r_assign hE rfl) (fun a hE => ?_)
        refine t_nil ?_
        exact hY_17 (IntKind.wrap .i64 (x6_13 + 2)) _ _ (hE.cut (.cons rfl (.cons rfl (.cons rfl (.cons rfl Subs.nil))))) hR H
    · replace H := M.ite_f hb H
      refine w_exit ?_
      refine Xu.same ?_
      refine hK_11 _ _ ?_
      refine w_seq (fun K hK_35 => ?_)
      refine t_region ?_
      refine t_val (v := .agg (#[.int .i64 0, .int .i64 0, .string ByteArray.empty, .slice none 0 0] : Array Value)) rfl rfl hE rfl (r_build0 bd42) (fun a hE => ?_)
      obtain ⟨qz, H⟩ := H
      obtain ⟨u_36, qu_36, H⟩ := H
      refine t_sth rfl rfl hE hR (r_storeG hE rfl rfl sz42 qz qu_36) (fun a w hE hR hh => ?_)
      replace H := M.at hh H; clear hh
      refine t_val (v := .bool false) rfl rfl hE rfl (r_assign hE rfl) (fun a hE => ?_)
      refine t_nil ?_
      refine hK_35 _ _ ?_
      refine w_ret ?_
      obtain ⟨r4_37, qr4_37, H⟩ := H
      exact hret _ _ _ (r4_37, false) _ hE hR (res_run hE rfl (RV.cellG rfl ag42 qr4_37 (RV.tmp rfl RV.nil))) rfl H

/-- ramble/result.Table$2 -/
def result_Table_2 (x0 : Array Value) (x1 : Addr) : M (ByteArray) := do
  let x2_2 ← mkB ty_api_Value x0
  let x7_5 ← ldG 4 x1
  let x8_6 ← ldG 4 x2_2
  let x9_7 ← value_Get x7_5 x8_6
  let x4_8 ← mkB ty_api_Value (#[.int .i64 0, .int .i64 0, .string ByteArray.empty, .slice none 0 0] : Array Value)
  M.need (x9_7.1.size = 4)
  stG x4_8 x9_7.1
  M.ite x9_7.2 (do
    let x13_12 ← ldG 4 x4_8
    let x14_13 ← value_Text x13_12
    M.pure x14_13
    ) (do
    M.pure (⟨#[45]⟩ : ByteArray)
    )
theorem S_result_Table_2 (x0 : Array Value) (x1 : Addr) : Sound Go.Proofs.Tryd.prog 23 #[.agg x0, .pointer (some x1)] (fun (r : ByteArray) => .string r) (result_Table_2 x0 x1) := by
  refine sound_of [(0, .agg x0), (1, .pointer (some x1))] Go.Proofs.Tryd.func23 rfl rfl (Nat.le_of_ble_eq_true rfl) (args_of ⟨rfl, rfl, trivial⟩) (fun w0 w Q R a hret hE hR H => ?_)
  unfold result_Table_2 at H
  refine w_seq (fun K hK_1 => ?_)
  refine t_region ?_
  obtain ⟨x2_2, qx2_2, H⟩ := H
  refine t_valh (v := .pointer (some x2_2)) rfl rfl hE rfl hR (r_box hE rfl qx2_2) (fun a w hE hR hh => ?_)
  replace H := M.at hh H; clear hh
  refine t_val (v := .string ByteArray.empty) rfl rfl hE rfl (r_assign hE rfl) (fun a hE => ?_)
  refine t_nil ?_
  refine hK_1 _ _ ?_
  refine w_seq (fun K hK_3 => ?_)
  refine w_seq (fun K hK_4 => ?_)
  refine t_region ?_
  obtain ⟨x7_5, qx7_5, H⟩ := H
  refine t_val (v := .agg x7_5) rfl rfl hE rfl (r_loadG hE rfl ag42 qx7_5) (fun a hE => ?_)
  obtain ⟨x8_6, qx8_6, H⟩ := H
  refine t_val (v := .agg x8_6) rfl rfl hE rfl (r_loadG hE rfl ag42 qx8_6) (fun a hE => ?_)
  refine t_call hE hR cl_value_Get rfl (S_value_Get x7_5 x8_6) (M.unbind H) (fun x9_7 a w ea hR H => ?_)
  have hE := Env.put_some hE rfl ea; clear ea
  refine t_val (v := .tuple #[.agg x9_7.1, .bool x9_7.2]) rfl rfl hE rfl (r_move hE rfl) (fun a hE => ?_)
  refine t_val (v := .agg x9_7.1) rfl rfl hE rfl (r_extract hE rfl rfl) (fun a hE => ?_)
  refine t_val (v := .bool x9_7.2) rfl rfl hE rfl (r_extract hE rfl rfl) (fun a hE => ?_)
  obtain ⟨x4_8, qx4_8, H⟩ := H
  refine t_valh (v := .pointer (some x4_8)) rfl rfl hE rfl hR (r_alloc zr42 qx4_8) (fun a w hE hR hh => ?_)
  replace H := M.at hh H; clear hh
  obtain ⟨qz, H⟩ := H
  obtain ⟨u_9, qu_9, H⟩ := H
  refine t_sth rfl rfl hE hR (r_storeG hE rfl rfl sz42 qz qu_9) (fun a w hE hR hh => ?_)
  replace H := M.at hh H; clear hh
  refine t_val (v := .bool x9_7.2) rfl rfl hE rfl (r_assign hE rfl) (fun a hE => ?_)
  refine t_nil ?_
  refine hK_4 _ _ ?_
  refine w_seq (fun K hK_10 => ?_)
  refine t_region ?_
  refine t_val (v := .bool x9_7.2) rfl rfl hE rfl (r_move hE rfl) (fun a hE => ?_)
  refine t_nil ?_
  refine hK_10 _ _ ?_
  refine w_cond x9_7.2 hE rfl (fun hb => ?_) (fun hb => ?_)
  · replace H := M.ite_t hb H
    refine w_seq (fun K hK_11 => ?_)
    refine t_region ?_
    obtain ⟨x13_12, qx13_12, H⟩ := H
    refine t_val (v := .agg x13_12) rfl rfl hE rfl (r_loadG hE rfl ag42 qx13_12) (fun a hE => ?_)
    refine t_call hE hR cl_value_Text rfl (S_value_Text x13_12) (M.unbind H) (fun x14_13 a w ea hR H => ?_)
    have hE := Env.put_some hE rfl ea; clear ea
    refine t_val (v := .string x14_13) rfl rfl hE rfl (r_assign hE rfl) (fun a hE => ?_)
    refine t_nil ?_
    refine hK_11 _ _ ?_
    refine w_ret ?_
    exact hret _ _ _ x14_13 _ hE hR (res_run hE rfl (RV.tmp rfl RV.nil)) rfl H
  · replace H := M.ite_f hb H
    refine w_skip ?_
    refine hK_3 _ _ ?_
    refine w_seq (fun K hK_14 => ?_)
    refine t_region ?_
    refine t_val (v := .string (⟨#[45]⟩ : ByteArray)) rfl rfl hE rfl (r_assign hE rfl) (fun a hE => ?_)
    refine t_nil ?_
    refine hK_14 _ _ ?_
    refine w_ret ?_
    exact hret _ _ _ (⟨#[45]⟩ : ByteArray) _ hE hR (res_run hE rfl (RV.tmp rfl RV.nil)) rfl H

/-- internal/strconv.small -/
def internal_strconv_small (x0 : Int) : M (ByteArray) := do
  M.ite (decide (x0 < 10)) (do
    let x8_5 ← slS (⟨#[48, 49, 50, 51, 52, 53, 54, 55, 56, 57, 97, 98, 99, 100, 101, 102, 103, 104, 105, 106, 107, 108, 109, 110, 111, 112, 113, 114, 115, 116, 117, 118, 119, 120, 121, 122]⟩ : ByteArray) x0 (IntKind.wrap .i64 (x0 + 1))
    M.pure x8_5
    ) (do
    let x14_7 ← slS (⟨#[48, 48, 48, 49, 48, 50, 48, 51, 48, 52, 48, 53, 48, 54, 48, 55, 48, 56, 48, 57, 49, 48, 49, 49, 49, 50, 49, 51, 49, 52, 49, 53, 49, 54, 49, 55, 49, 56, 49, 57, 50, 48, 50, 49, 50, 50, 50, 51, 50, 52, 50, 53, 50, 54, 50, 55, 50, 56, 50, 57, 51, 48, 51, 49, 51, 50, 51, 51, 51, 52, 51, 53, 51, 54, 51, 55, 51, 56, 51, 57, 52, 48, 52, 49, 52, 50, 52, 51, 52, 52, 52, 53, 52, 54, 52, 55, 52, 56, 52, 57, 53, 48, 53, 49, 53, 50, 53, 51, 53, 52, 53, 53, 53, 54, 53, 55, 53, 56, 53, 57, 54, 48, 54, 49, 54, 50, 54, 51, 54, 52, 54, 53, 54, 54, 54, 55, 54, 56, 54, 57, 55, 48, 55, 49, 55, 50, 55, 51, 55, 52, 55, 53, 55, 54, 55, 55, 55, 56, 55, 57, 56, 48, 56, 49, 56, 50, 56, 51, 56, 52, 56, 53, 56, 54, 56, 55, 56, 56, 56, 57, 57, 48, 57, 49, 57, 50, 57, 51, 57, 52, 57, 53, 57, 54, 57, 55, 57, 56, 57, 57]⟩ : ByteArray) (IntKind.wrap .i64 (x0 * 2)) (IntKind.wrap .i64 ((IntKind.wrap .i64 (x0 * 2)) + 2))
    M.pure x14_7
    )
theorem S_internal_strconv_small (x0 : Int) : Sound Go.Proofs.Tryd.prog 102 #[.int .i64 x0] (fun (r : ByteArray) => .string r) (internal_strconv_small x0) := by
  refine sound_of [(0, .int .i64 x0)] Go.Proofs.Tryd.func102 rfl rfl (Nat.le_of_ble_eq_true rfl) (args_of ⟨rfl, trivial⟩) (fun w0 w Q R a hret hE hR H => ?_)
  unfold internal_strconv_small at H
  refine w_seq (fun K hK_1 => ?_)
  refine t_region ?_
  refine t_val (v := .string ByteArray.empty) rfl rfl hE rfl (r_assign hE rfl) (fun a hE => ?_)
  refine t_nil ?_
  refine hK_1 _ _ ?_
  refine w_seq (fun K hK_2 => ?_)
  refine w_seq (fun K hK_3 => ?_)
  refine t_region ?_
  refine t_val (v := .int .i64 x0) rfl rfl hE rfl (r_move hE rfl) (fun a hE => ?_)
  refine t_val (v := .bool (decide (x0 < 10))) rfl rfl hE rfl (r_bin hE rfl rfl g_int b_lss) (fun a hE => ?_)
  refine t_nil ?_
  refine hK_3 _ _ ?_
  refine w_cond (decide (x0 < 10)) hE rfl (fun hb => ?_) (fun hb => ?_)
  · replace H := M.ite_t hb H
    refine w_seq (fun K hK_4 => ?_)
    refine t_region ?_
    refine t_val (v := .int .i64 x0) rfl rfl hE rfl (r_move hE rfl) (fun a hE => ?_)
    refine t_val (v := .int .i64 x0) rfl rfl hE rfl (r_move hE rfl) (fun a hE => ?_)
    refine t_val (v := .int .i64 (IntKind.wrap .i64 (x0 + 1))) rfl rfl hE rfl (r_bin hE rfl rfl g_int b_add) (fun a hE => ?_)
    obtain ⟨x8_5, qx8_5, H⟩ := H
    refine t_val (v := .string x8_5) rfl rfl hE rfl (r_sliceS_lh hE rfl rfl rfl un9 qx8_5) (fun a hE => ?_)
    refine t_val (v := .string x8_5) rfl rfl hE rfl (r_assign hE rfl) (fun a hE => ?_)
    refine t_nil ?_
    refine hK_4 _ _ ?_
    refine w_ret ?_
    exact hret _ _ _ x8_5 _ hE hR (res_run hE rfl (RV.tmp rfl RV.nil)) rfl H
  · replace H := M.ite_f hb H
    refine w_skip ?_
    refine hK_2 _ _ ?_
    refine w_seq (fun K hK_6 => ?_)
    refine t_region ?_
    refine t_val (v := .int .i64 x0) rfl rfl hE rfl (r_move hE rfl) (fun a hE => ?_)
    refine t_val (v := .int .i64 (IntKind.wrap .i64 (x0 * 2))) rfl rfl hE rfl (r_bin hE rfl rfl g_int b_mul) (fun a hE => ?_)
    refine t_val (v := .int .i64 x0) rfl rfl hE rfl (r_move hE rfl) (fun a hE => ?_)
    refine t_val (v := .int .i64 (IntKind.wrap .i64 (x0 * 2))) rfl rfl hE rfl (r_bin hE rfl rfl g_int b_mul) (fun a hE => ?_)
    refine t_val (v := .int .i64 (IntKind.wrap .i64 ((IntKind.wrap .i64 (x0 * 2)) + 2))) rfl rfl hE rfl (r_bin hE rfl rfl g_int b_add) (fun a hE => ?_)
    obtain ⟨x14_7, qx14_7, H⟩ := H
    refine t_val (v := .string x14_7) rfl rfl hE rfl (r_sliceS_lh hE rfl rfl rfl un9 qx14_7) (fun a hE => ?_)
    refine t_val (v := .string x14_7) rfl rfl hE rfl (r_assign hE rfl) (fun a hE => ?_)
    refine t_nil ?_
    refine hK_6 _ _ ?_
    refine w_ret ?_
    exact hret _ _ _ x14_7 _ hE hR (res_run hE rfl (RV.tmp rfl RV.nil)) rfl H

/-- math/bits.Len64 -/
def math_bits_Len64_j3 (x0_6 : Int) (x2_7 : Int) : M (Int) := do
  let x22_9 ← ixS (⟨#[0, 1, 2, 2, 3, 3, 3, 3, 4, 4, 4, 4, 4, 4, 4, 4, 5, 5, 5, 5, 5, 5, 5, 5, 5, 5, 5, 5, 5, 5, 5, 5, 6, 6, 6, 6, 6, 6, 6, 6, 6, 6, 6, 6, 6, 6, 6, 6, 6, 6, 6, 6, 6, 6, 6, 6, 6, 6, 6, 6, 6, 6, 6, 6, 7, 7, 7, 7, 7, 7, 7, 7, 7, 7, 7, 7, 7, 7, 7, 7, 7, 7, 7, 7, 7, 7, 7, 7, 7, 7, 7, 7, 7, 7, 7, 7, 7, 7, 7, 7, 7, 7, 7, 7, 7, 7, 7, 7, 7, 7, 7, 7, 7, 7, 7, 7, 7, 7, 7, 7, 7, 7, 7, 7, 7, 7, 7, 7, 8, 8, 8, 8, 8, 8, 8, 8, 8, 8, 8, 8, 8, 8, 8, 8, 8, 8, 8, 8, 8, 8, 8, 8, 8, 8, 8, 8, 8, 8, 8, 8, 8, 8, 8, 8, 8, 8, 8, 8, 8, 8, 8, 8, 8, 8, 8, 8, 8, 8, 8, 8, 8, 8, 8, 8, 8, 8, 8, 8, 8, 8, 8, 8, 8, 8, 8, 8, 8, 8, 8, 8, 8, 8, 8, 8, 8, 8, 8, 8, 8, 8, 8, 8, 8, 8, 8, 8, 8, 8, 8, 8, 8, 8, 8, 8, 8, 8, 8, 8, 8, 8, 8, 8, 8, 8, 8, 8, 8, 8, 8, 8, 8, 8, 8, 8, 8, 8, 8, 8, 8, 8, 8, 8, 8, 8, 8, 8]⟩ : ByteArray) (IntKind.wrap .u8 x0_6)
  M.pure (IntKind.wrap .i64 (x2_7 + (IntKind.wrap .i64 x22_9)))
def math_bits_Len64_j2 (x0_4 : Int) (x2_5 : Int) : M (Int) := do
  M.ite (decide (x0_4 ≥ 256)) (do
    math_bits_Len64_j3 (iShr .u64 x0_4 8) (IntKind.wrap .i64 (x2_5 + 8))
    ) (do
    math_bits_Len64_j3 x0_4 x2_5
    )
def math_bits_Len64_j1 (x0_2 : Int) (x2_3 : Int) : M (Int) := do
  M.ite (decide (x0_2 ≥ 65536)) (do
    math_bits_Len64_j2 (iShr .u64 x0_2 16) (IntKind.wrap .i64 (x2_3 + 16))
    ) (do
    math_bits_Len64_j2 x0_2 x2_3
    )
def math_bits_Len64 (x0 : Int) : M (Int) := do
  M.ite (decide (x0 ≥ 4294967296)) (do
    math_bits_Len64_j1 (iShr .u64 x0 32) 32
    ) (do
    math_bits_Len64_j1 x0 0
    )
theorem S_math_bits_Len64 (x0 : Int) : Sound Go.Proofs.Tryd.prog 62 #[.int .u64 x0] (fun (r : Int) => .int .i64 r) (math_bits_Len64 x0) := by
  refine sound_of [(0, .int .u64 x0)] Go.Proofs.Tryd.func62 rfl rfl (Nat.le_of_ble_eq_true rfl) (args_of ⟨rfl, trivial⟩) (fun w0 w Q R a hret hE hR H => ?_)
  unfold math_bits_Len64 at H
  refine w_seq (fun K hK_1 => ?_)
  refine t_region ?_
  refine t_val (v := .int .i64 0) rfl rfl hE rfl (r_assign hE rfl) (fun a hE => ?_)
  refine t_nil ?_
  refine hK_1 _ _ ?_
  refine w_seq_join (fun a w => ∃ (x0_2 : Int), ∃ (x2_3 : Int), Env (⟨25, []⟩ : Frm) a [(0, .int .u64 x0_2), (2, .int .i64 x2_3)] ∧ Rest w0 w ∧ (math_bits_Len64_j1 x0_2 x2_3).wp w.heap Q) ?_ ?_
  · rintro a w ⟨x0_2, x2_3, hE, hR, H⟩
    unfold math_bits_Len64_j1 at H
    refine w_seq_join (fun a w => ∃ (x0_4 : Int), ∃ (x2_5 : Int), Env (⟨25, []⟩ : Frm) a [(0, .int .u64 x0_4), (2, .int .i64 x2_5)] ∧ Rest w0 w ∧ (math_bits_Len64_j2 x0_4 x2_5).wp w.heap Q) ?_ ?_
    · rintro a w ⟨x0_4, x2_5, hE, hR, H⟩
      unfold math_bits_Len64_j2 at H
      refine w_seq_join (fun a w => ∃ (x0_6 : Int), ∃ (x2_7 : Int), Env (⟨25, []⟩ : Frm) a [(0, .int .u64 x0_6), (2, .int .i64 x2_7)] ∧ Rest w0 w ∧ (math_bits_Len64_j3 x0_6 x2_7).wp w.heap Q) ?_ ?_
      · rintro a w ⟨x0_6, x2_7, hE, hR, H⟩
        unfold math_bits_Len64_j3 at H
        refine w_seq (fun K hK_8 => ?_)
        refine t_region ?_
        refine t_val (v := .int .i64 x2_7) rfl rfl hE rfl (r_move hE rfl) (fun a hE => ?_)
        refine t_val (v := .int .u64 x0_6) rfl rfl hE rfl (r_move hE rfl) (fun a hE => ?_)
        refine t_val (v := .int .u8 (IntKind.wrap .u8 x0_6)) rfl rfl hE rfl (r_convI hE rfl un95 un5) (fun a hE => ?_)
        obtain ⟨x22_9, qx22_9, H⟩ := H
        refine t_val (v := .int .u8 x22_9) rfl rfl hE rfl (r_indexS hE rfl rfl un9 qx22_9) (fun a hE => ?_)
        refine t_val (v := .int .i64 (IntKind.wrap .i64 x22_9)) rfl rfl hE rfl (r_convI hE rfl un5 un3) (fun a hE => ?_)
        refine t_val (v := .int .i64 (IntKind.wrap .i64 (x2_7 + (IntKind.wrap .i64 x22_9)))) rfl rfl hE rfl (r_bin hE rfl rfl g_int b_add) (fun a hE => ?_)
        refine t_val (v := .int .i64 (IntKind.wrap .i64 (x2_7 + (IntKind.wrap .i64 x22_9)))) rfl rfl hE rfl (r_assign hE rfl) (fun a hE => ?_)
        refine t_nil ?_
        refine hK_8 _ _ ?_
        refine w_ret ?_
        exact hret _ _ _ (IntKind.wrap .i64 (x2_7 + (IntKind.wrap .i64 x22_9))) _ hE hR (res_run hE rfl (RV.tmp rfl RV.nil)) rfl H
      · skip
        refine w_seq (fun K hK_10 => ?_)
        refine t_region ?_
        refine t_val (v := .int .u64 x0_4) rfl rfl hE rfl (r_move hE rfl) (fun a hE => ?_)
        refine t_val (v := .bool (decide (x0_4 ≥ 256))) rfl rfl hE rfl (r_bin hE rfl rfl g_int b_geq) (fun a hE => ?_)
        refine t_nil ?_
        refine hK_10 _ _ ?_
        refine w_cond (decide (x0_4 ≥ 256)) hE rfl (fun hb => ?_) (fun hb => ?_)
        · replace H := M.ite_t hb H
          refine w_seq (fun K hK_11 => ?_)
          refine t_region ?_
          refine t_val (v := .int .u64 x0_4) rfl rfl hE rfl (r_move hE rfl) (fun a hE => ?_)
          refine t_val (v := .int .u64 (iShr .u64 x0_4 8)) rfl rfl hE rfl (r_bin hE rfl rfl g_int (b_shr ⟨by decide, rfl⟩)) (fun a hE => ?_)
          refine t_val (v := .int .u64 (iShr .u64 x0_4 8)) rfl rfl hE rfl (r_assign hE rfl) (fun a hE => ?_)
          refine t_nil ?_
          refine hK_11 _ _ ?_
          refine t_region ?_
          refine t_val (v := .int .i64 x2_5) rfl rfl hE rfl (r_move hE rfl) (fun a hE => ?_)
          refine t_val (v := .int .i64 (IntKind.wrap .i64 (x2_5 + 8))) rfl rfl hE rfl (r_bin hE rfl rfl g_int b_add) (fun a hE => ?_)
          refine t_val (v := .int .i64 (IntKind.wrap .i64 (x2_5 + 8))) rfl rfl hE rfl (r_assign hE rfl) (fun a hE => ?_)
          refine t_nil ?_
          exact ⟨iShr .u64 x0_4 8, IntKind.wrap .i64 (x2_5 + 8), hE.cut (.cons rfl (.cons rfl Subs.nil)), hR, H⟩
        · replace H := M.ite_f hb H
          refine w_skip ?_
          exact ⟨x0_4, x2_5, hE.cut (.cons rfl (.cons rfl Subs.nil)), hR, H⟩
    · skip
      refine w_seq (fun K hK_12 => ?_)
      refine t_region ?_
      refine t_val (v := .int .u64 x0_2) rfl rfl hE rfl (r_move hE rfl) (fun a hE => ?_)
      refine t_val (v := .bool (decide (x0_2 ≥ 65536))) rfl rfl hE rfl (r_bin hE rfl rfl g_int b_geq) (fun a hE => ?_)
      refine t_nil ?_
      refine hK_12 _ _ ?_
      refine w_cond (decide (x0_2 ≥ 65536)) hE rfl (fun hb => ?_) (fun hb => ?_)
      · replace H := M.ite_t hb H
        refine w_seq (fun K hK_13 => ?_)
        refine t_region ?_
        refine t_val (v := .int .u64 x0_2) rfl rfl hE rfl (r_move hE rfl) (fun a hE => ?_)
        refine t_val (v := .int .u64 (iShr .u64 x0_2 16)) rfl rfl hE rfl (r_bin hE rfl rfl g_int (b_shr ⟨by decide, rfl⟩)) (fun a hE => ?_)
        refine t_val (v := .int .u64 (iShr .u64 x0_2 16)) rfl rfl hE rfl (r_assign hE rfl) (fun a hE => ?_)
        refine t_nil ?_
        refine hK_13 _ _ ?_
        refine t_region ?_
        refine t_val (v := .int .i64 x2_3) rfl rfl hE rfl (r_move hE rfl) (fun a hE => ?_)
        refine t_val (v := .int .i64 (IntKind.wrap .i64 (x2_3 + 16))) rfl rfl hE rfl (r_bin hE rfl rfl g_int b_add) (fun a hE => ?_)
        refine t_val (v := .int .i64 (IntKind.wrap .i64 (x2_3 + 16))) rfl rfl hE rfl (r_assign hE rfl) (fun a hE => ?_)
        refine t_nil ?_
        exact ⟨iShr .u64 x0_2 16, IntKind.wrap .i64 (x2_3 + 16), hE.cut (.cons rfl (.cons rfl Subs.nil)), hR, H⟩
      · replace H := M.ite_f hb H
        refine w_skip ?_
        exact ⟨x0_2, x2_3, hE.cut (.cons rfl (.cons rfl Subs.nil)), hR, H⟩
  · skip
    refine w_seq (fun K hK_14 => ?_)
    refine t_region ?_
    refine t_val (v := .int .u64 x0) rfl rfl hE rfl (r_move hE rfl) (fun a hE => ?_)
    refine t_val (v := .bool (decide (x0 ≥ 4294967296))) rfl rfl hE rfl (r_bin hE rfl rfl g_int b_geq) (fun a hE => ?_)
    refine t_nil ?_
    refine hK_14 _ _ ?_
    refine w_cond (decide (x0 ≥ 4294967296)) hE rfl (fun hb => ?_) (fun hb => ?_)
    · replace H := M.ite_t hb H
      refine w_seq (fun K hK_15 => ?_)
      refine t_region ?_
      refine t_val (v := .int .u64 x0) rfl rfl hE rfl (r_move hE rfl) (fun a hE => ?_)
      refine t_val (v := .int .u64 (iShr .u64 x0 32)) rfl rfl hE rfl (r_bin hE rfl rfl g_int (b_shr ⟨by decide, rfl⟩)) (fun a hE => ?_)
      refine t_val (v := .int .u64 (iShr .u64 x0 32)) rfl rfl hE rfl (r_assign hE rfl) (fun a hE => ?_)
      refine t_nil ?_
      refine hK_15 _ _ ?_
      refine t_region ?_
      refine t_val (v := .int .i64 32) rfl rfl hE rfl (r_assign hE rfl) (fun a hE => ?_)
      refine t_nil ?_
      exact ⟨iShr .u64 x0 32, 32, hE.cut (.cons rfl (.cons rfl Subs.nil)), hR, H⟩
    · replace H := M.ite_f hb H
      refine w_skip ?_
      exact ⟨x0, 0, hE.cut (.cons rfl (.cons rfl Subs.nil)), hR, H⟩

/-- internal/strconv.log10Pow2 -/
def internal_strconv_log10Pow2 (x0 : Int) : M (Int) := do
  M.pure (iShr .i64 (IntKind.wrap .i64 (x0 * 78913)) 18)
theorem S_internal_strconv_log10Pow2 (x0 : Int) : Sound Go.Proofs.Tryd.prog 107 #[.int .i64 x0] (fun (r : Int) => .int .i64 r) (internal_strconv_log10Pow2 x0) := by
  refine sound_of [(0, .int .i64 x0)] Go.Proofs.Tryd.func107 rfl rfl (Nat.le_of_ble_eq_true rfl) (args_of ⟨rfl, trivial⟩) (fun w0 w Q R a hret hE hR H => ?_)
  unfold internal_strconv_log10Pow2 at H
  refine w_seq (fun K hK_1 => ?_)
  refine t_region ?_
  refine t_val (v := .int .i64 0) rfl rfl hE rfl (r_assign hE rfl) (fun a hE => ?_)
  refine t_nil ?_
  refine hK_1 _ _ ?_
  refine w_seq (fun K hK_2 => ?_)
  refine t_region ?_
  refine t_val (v := .int .i64 x0) rfl rfl hE rfl (r_move hE rfl) (fun a hE => ?_)
  refine t_val (v := .int .i64 (IntKind.wrap .i64 (x0 * 78913))) rfl rfl hE rfl (r_bin hE rfl rfl g_int b_mul) (fun a hE => ?_)
  refine t_val (v := .int .i64 (iShr .i64 (IntKind.wrap .i64 (x0 * 78913)) 18)) rfl rfl hE rfl (r_bin hE rfl rfl g_int (b_shr ⟨by decide, rfl⟩)) (fun a hE => ?_)
  refine t_val (v := .int .i64 (iShr .i64 (IntKind.wrap .i64 (x0 * 78913)) 18)) rfl rfl hE rfl (r_assign hE rfl) (fun a hE => ?_)
  refine t_nil ?_
  refine hK_2 _ _ ?_
  refine w_ret ?_
  exact hret _ _ _ (iShr .i64 (IntKind.wrap .i64 (x0 * 78913)) 18) _ hE hR (res_run hE rfl (RV.tmp rfl RV.nil)) rfl H

/-- internal/strconv.bool2[int] -/
def internal_strconv_bool2_int (x0 : Bool) : M (Int) := do
  M.ite x0 (do
    M.pure 1
    ) (do
    M.pure 0
    )
theorem S_internal_strconv_bool2_int (x0 : Bool) : Sound Go.Proofs.Tryd.prog 108 #[.bool x0] (fun (r : Int) => .int .i64 r) (internal_strconv_bool2_int x0) := by
  refine sound_of [(0, .bool x0)] Go.Proofs.Tryd.func108 rfl rfl (Nat.le_of_ble_eq_true rfl) (args_of ⟨rfl, trivial⟩) (fun w0 w Q R a hret hE hR H => ?_)
  unfold internal_strconv_bool2_int at H
  refine w_seq (fun K hK_1 => ?_)
  refine t_region ?_
  refine t_val (v := .int .i64 0) rfl rfl hE rfl (r_assign hE rfl) (fun a hE => ?_)
  refine t_nil ?_
  refine hK_1 _ _ ?_
  refine w_seq (fun K hK_2 => ?_)
  refine w_seq (fun K hK_3 => ?_)
  refine t_region ?_
  refine t_val (v := .bool x0) rfl rfl hE rfl (r_move hE rfl) (fun a hE => ?_)
  refine t_nil ?_
  refine hK_3 _ _ ?_
  refine w_cond x0 hE rfl (fun hb => ?_) (fun hb => ?_)
  · replace H := M.ite_t hb H
    refine w_seq (fun K hK_4 => ?_)
    refine t_region ?_
    refine t_val (v := .int .i64 1) rfl rfl hE rfl (r_assign hE rfl) (fun a hE => ?_)
    refine t_nil ?_
    refine hK_4 _ _ ?_
    refine w_ret ?_
    exact hret _ _ _ 1 _ hE hR (res_run hE rfl (RV.tmp rfl RV.nil)) rfl H
  · replace H := M.ite_f hb H
    refine w_skip ?_
    refine hK_2 _ _ ?_
    refine w_seq (fun K hK_5 => ?_)
    refine t_region ?_
    refine t_val (v := .int .i64 0) rfl rfl hE rfl (r_assign hE rfl) (fun a hE => ?_)
    refine t_nil ?_
    refine hK_5 _ _ ?_
    refine w_ret ?_
    exact hret _ _ _ 0 _ hE hR (res_run hE rfl (RV.tmp rfl RV.nil)) rfl H

/-- internal/strconv.numDigits -/
def internal_strconv_numDigits (x0 : Int) : M (Int) := do
  let x5_3 ← math_bits_Len64 x0
  let x6_4 ← internal_strconv_log10Pow2 x5_3
  let x10_6 ← ixA (⟨1, 0, none⟩ : Addr) 20 x6_4 1
  let x11_7 ← ldI .u64 x10_6
  let x13_8 ← internal_strconv_bool2_int (decide (x0 ≥ x11_7))
  M.pure (IntKind.wrap .i64 (x6_4 + x13_8))
theorem S_internal_strconv_numDigits (x0 : Int) : Sound Go.Proofs.Tryd.prog 103 #[.int .u64 x0] (fun (r : Int) => .int .i64 r) (internal_strconv_numDigits x0) := by
  refine sound_of [(0, .int .u64 x0)] Go.Proofs.Tryd.func103 rfl rfl (Nat.le_of_ble_eq_true rfl) (args_of ⟨rfl, trivial⟩) (fun w0 w Q R a hret hE hR H => ?_)
  unfold internal_strconv_numDigits at H
  refine w_seq (fun K hK_1 => ?_)
  refine t_region ?_
  refine t_val (v := .int .i64 0) rfl rfl hE rfl (r_assign hE rfl) (fun a hE => ?_)
  refine t_nil ?_
  refine hK_1 _ _ ?_
  refine w_seq (fun K hK_2 => ?_)
  refine t_region ?_
  refine t_val (v := .int .u64 x0) rfl rfl hE rfl (r_move hE rfl) (fun a hE => ?_)
  refine t_call hE hR cl_math_bits_Len64 rfl (S_math_bits_Len64 x0) (M.unbind H) (fun x5_3 a w ea hR H => ?_)
  have hE := Env.put_some hE rfl ea; clear ea
  refine t_call hE hR cl_internal_strconv_log10Pow2 rfl (S_internal_strconv_log10Pow2 x5_3) (M.unbind H) (fun x6_4 a w ea hR H => ?_)
  have hE := Env.put_some hE rfl ea; clear ea
  refine t_val (v := .int .i64 x6_4) rfl rfl hE rfl (r_assign hE rfl) (fun a hE => ?_)
  refine t_nil ?_
  refine hK_2 _ _ ?_
  refine w_seq (fun K hK_5 => ?_)
  refine t_region ?_
  refine t_val (v := .int .i64 x6_4) rfl rfl hE rfl (r_move hE rfl) (fun a hE => ?_)
  refine t_val (v := .int .u64 x0) rfl rfl hE rfl (r_move hE rfl) (fun a hE => ?_)
  refine t_val (v := .int .i64 x6_4) rfl rfl hE rfl (r_move hE rfl) (fun a hE => ?_)
  obtain ⟨x10_6, qx10_6, H⟩ := H
  refine t_val (v := .pointer (some x10_6)) rfl rfl hE rfl (r_indexAddrA hE rfl rfl un134 sz95 qx10_6) (fun a hE => ?_)
  obtain ⟨x11_7, qx11_7, H⟩ := H
  refine t_val (v := .int .u64 x11_7) rfl rfl hE rfl (r_load hE rfl sc95 qx11_7) (fun a hE => ?_)
  refine t_val (v := .bool (decide (x0 ≥ x11_7))) rfl rfl hE rfl (r_bin hE rfl rfl g_int b_geq) (fun a hE => ?_)
  refine t_call hE hR cl_internal_strconv_bool2_int rfl (S_internal_strconv_bool2_int (decide (x0 ≥ x11_7))) (M.unbind H) (fun x13_8 a w ea hR H => ?_)
  have hE := Env.put_some hE rfl ea; clear ea
  refine t_val (v := .int .i64 (IntKind.wrap .i64 (x6_4 + x13_8))) rfl rfl hE rfl (r_bin hE rfl rfl g_int b_add) (fun a hE => ?_)
  refine t_val (v := .int .i64 (IntKind.wrap .i64 (x6_4 + x13_8))) rfl rfl hE rfl (r_assign hE rfl) (fun a hE => ?_)
  refine t_nil ?_
  refine hK_5 _ _ ?_
  refine w_ret ?_
  exact hret _ _ _ (IntKind.wrap .i64 (x6_4 + x13_8)) _ hE hR (res_run hE rfl (RV.tmp rfl RV.nil)) rfl H

end Gx
