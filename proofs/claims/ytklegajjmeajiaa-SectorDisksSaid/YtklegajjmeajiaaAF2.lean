/- Printed by program: Go functions as Lean programs, each tied to its code. No condition. -/
import Derived.Test.YtklegajjmeajiaaAT
import Derived.Test.YtklegajjmeajiaaAF0
import Derived.Test.YtklegajjmeajiaaAF1
namespace Gx
open Go
set_option linter.unusedVariables false
set_option maxRecDepth 100000
/-- ramble/rambleref05.Open -/
theorem tb11_5 : tabAt Go.Proofs.Try.f11 5 [[], [0], [1], [], [3], [4], [5], [6], [2, 7], [0, 1, 2, 3, 4, 5, 6, 7, 8], [9, 8, 0, 1, 2, 3, 4, 5, 6, 7, 8]] [[], [0], [1], [], [3], [4], [5], [6], [2, 7], [], [8, 9]] [[], [0], [0, 1], [], [3], [3, 4], [3, 4, 5], [3, 4, 5, 6], [0, 1, 2, 3, 4, 5, 6, 7], [0, 1, 2, 3, 4, 5, 6, 7, 8], [0, 1, 2, 3, 4, 5, 6, 7, 8, 9]] = true := by kernel_rfl
theorem tb11_8 : tabAt Go.Proofs.Try.f11 8 [[], [0], [], [2], [3], [4], [5], [1, 6], [0, 1, 2, 3, 4, 5, 6, 7], [8, 7, 7, 0, 1, 2, 3, 4, 5, 6, 7]] [[], [0], [], [2], [3], [4], [5], [1, 6], [], [7, 8]] [[], [0], [], [2], [2, 3], [2, 3, 4], [2, 3, 4, 5], [0, 1, 2, 3, 4, 5, 6], [0, 1, 2, 3, 4, 5, 6, 7], [0, 1, 2, 3, 4, 5, 6, 7, 8]] = true := by kernel_rfl
def rambleref05_Open_l1 (c1_12 : Addr) (c2_13 : Addr) (c4_14 : Addr) (self1 : (Int) → M (Array Value × Int)) : (Int) → M (Array Value × Int) := fun s => match s with
  | x5_11 => do
    M.ite (decide (x5_11 < 8)) (do
      let x21_19 ← ixA c1_12 128 (IntKind.wrap .i64 (2 + x5_11)) 1
      let x17_20 ← ldI .i64 ((c4_14).add 1)
      let x22_21 ← ldI .u8 x21_19
      stV ((c4_14).add 1) (.int .i64 (iOr .i64 (iShl .i64 x17_20 8) (IntKind.wrap .i64 x22_21)))
      self1 (IntKind.wrap .i64 (x5_11 + 1))
      ) (do
      let x26_25 ← ixA c1_12 128 1 1
      let x27_26 ← ldI .u8 x26_25
      M.ite (decide (x27_26 > 112)) (do
        M.need ((#[.int .i64 0, .int .i64 0, .slice none 0 0] : Array Value).size = 3)
        stG c2_13 (#[.int .i64 0, .int .i64 0, .slice none 0 0] : Array Value)
        let r2_29 ← ldG 3 c2_13
        M.pure (r2_29, 50)
        ) (do
        let x32_31 ← ixA c1_12 128 1 1
        let x31_32 ← ldL ((c4_14).add 2)
        let x33_33 ← ldI .u8 x32_31
        let x36_34 ← slA c1_12 128 10 (IntKind.wrap .i64 (10 + (IntKind.wrap .i64 x33_33))) 1
        let x37_35 ← apL ty_uint8 1 1 (#[.int .u8 0] : Array Value) x31_32 x36_34
        stV ((c4_14).add 2) ((x37_35 : Sl).v)
        let x40_38 ← ldG 3 c4_14
        let x41_39 ← rambleref05_Seal x40_38
        let x6_40 ← mkB ty_api_Sector (Array.replicate 128 (.int .u8 0) : Array Value)
        M.need (x41_39.1.size = 128)
        stG x6_40 x41_39.1
        let x50_44 ← M.ite (x41_39.2 != 0) (do
          M.pure true
          ) (do
          let x47_45 ← ldG 128 x6_40
          let x48_46 ← ldG 128 c1_12
          let x49_47 ← eqA .u8 128 x47_45 x48_46
          M.pure (!x49_47)
          )
        M.ite x50_44 (do
          M.need ((#[.int .i64 0, .int .i64 0, .slice none 0 0] : Array Value).size = 3)
          stG c2_13 (#[.int .i64 0, .int .i64 0, .slice none 0 0] : Array Value)
          let r2_50 ← ldG 3 c2_13
          M.pure (r2_50, 50)
          ) (do
          let x52_52 ← ldG 3 c4_14
          M.need (x52_52.size = 3)
          stG c2_13 x52_52
          let r2_54 ← ldG 3 c2_13
          M.pure (r2_54, 0)
          )
        )
      )
def rambleref05_Open (x0 : Array Value) : M (Array Value × Int) := do
  let x1_2 ← mkB ty_api_Sector x0
  let x2_3 ← mkB ty_api_Frame (#[.int .i64 0, .int .i64 0, .slice none 0 0] : Array Value)
  let x8_5 ← ixA x1_2 128 0 1
  let x9_6 ← ldI .u8 x8_5
  let x4_7 ← mkB ty_api_Frame (#[.int .i64 0, .int .i64 0, .slice none 0 0] : Array Value)
  M.need ((#[.int .i64 (IntKind.wrap .i64 x9_6), .int .i64 0, .slice none 0 0] : Array Value).size = 3)
  stG x4_7 (#[.int .i64 (IntKind.wrap .i64 x9_6), .int .i64 0, .slice none 0 0] : Array Value)
  M.loop (rambleref05_Open_l1 x1_2 x2_3 x4_7) 0
theorem S_rambleref05_Open (x0 : Array Value) : Sound Go.Proofs.Try.prog 11 #[.agg x0] (fun (r : Array Value × Int) => .tuple #[.agg r.1, .int .i64 r.2]) (rambleref05_Open x0) := by
  refine sound_of [(0, .agg x0)] Go.Proofs.Try.func11 rfl rfl (Nat.le_of_ble_eq_true rfl) (args_of ⟨rfl, trivial⟩) (fun w0 w Q R a hret hE hR H => ?_)
  unfold rambleref05_Open at H
  refine w_seq (fun K hK_1 => ?_)
  refine t_region ?_
  obtain ⟨x1_2, qx1_2, H⟩ := H
  refine t_valh (v := .pointer (some x1_2)) rfl rfl hE rfl hR (r_box hE rfl qx1_2) (fun a w hE hR hh => ?_)
  replace H := M.at hh H; clear hh
  obtain ⟨x2_3, qx2_3, H⟩ := H
  refine t_valh (v := .pointer (some x2_3)) rfl rfl hE rfl hR (r_alloc zr24 qx2_3) (fun a w hE hR hh => ?_)
  replace H := M.at hh H; clear hh
  refine t_val (v := .int .i64 0) rfl rfl hE rfl (r_assign hE rfl) (fun a hE => ?_)
  refine t_nil ?_
  refine hK_1 _ _ ?_
  refine w_seq (fun K hK_4 => ?_)
  refine t_region ?_
  obtain ⟨x8_5, qx8_5, H⟩ := H
  refine t_val (v := .pointer (some x8_5)) rfl rfl hE rfl (r_indexAddrA hE rfl rfl un26 sz5 qx8_5) (fun a hE => ?_)
  obtain ⟨x9_6, qx9_6, H⟩ := H
  refine t_val (v := .int .u8 x9_6) rfl rfl hE rfl (r_load hE rfl sc5 qx9_6) (fun a hE => ?_)
  refine t_val (v := .int .i64 (IntKind.wrap .i64 x9_6)) rfl rfl hE rfl (r_convI hE rfl un5 un3) (fun a hE => ?_)
  refine t_val (v := .agg (#[.int .i64 (IntKind.wrap .i64 x9_6), .int .i64 0, .slice none 0 0] : Array Value)) rfl rfl hE rfl (r_build hE rfl zr24 pl24 (by rfl)) (fun a hE => ?_)
  obtain ⟨x4_7, qx4_7, H⟩ := H
  refine t_valh (v := .pointer (some x4_7)) rfl rfl hE rfl hR (r_alloc zr24 qx4_7) (fun a w hE hR hh => ?_)
  replace H := M.at hh H; clear hh
  obtain ⟨qz, H⟩ := H
  obtain ⟨u_8, qu_8, H⟩ := H
  refine t_sth rfl rfl hE hR (r_storeG hE rfl rfl sz24 qz qu_8) (fun a w hE hR hh => ?_)
  replace H := M.at hh H; clear hh
  refine t_nil ?_
  refine hK_4 _ _ ?_
  refine w_seq (fun K hK_9 => ?_)
  refine w_seq (fun K hK_10 => ?_)
  refine t_region ?_
  refine t_val (v := .int .i64 0) rfl rfl hE rfl (r_assign hE rfl) (fun a hE => ?_)
  refine t_nil ?_
  refine hK_10 _ _ ?_
  refine w_block ?_
  refine l_loop (fun (s : Int) => [(1, .pointer (some x1_2)), (2, .pointer (some x2_3)), (4, .pointer (some x4_7)), (5, .int .i64 s)]) H (hE.cut (.cons rfl (.cons rfl (.cons rfl (.cons rfl Subs.nil))))) hR (fun Y self1 hY_15 x5_11 a w hE hR H => ?_)
  replace hE : Env 53 a [(1, .pointer (some x1_2)), (2, .pointer (some x2_3)), (4, .pointer (some x4_7)), (5, .int .i64 x5_11)] := hE
  replace H : (rambleref05_Open_l1 x1_2 x2_3 x4_7 self1 x5_11).wp w.heap Q := H
  unfold rambleref05_Open_l1 at H
  refine w_seq (fun K hK_16 => ?_)
  refine w_seq (fun K hK_17 => ?_)
  refine t_region ?_
  refine t_val (v := .int .i64 x5_11) rfl rfl hE rfl (r_move hE rfl) (fun a hE => ?_)
  refine t_val (v := .bool (decide (x5_11 < 8))) rfl rfl hE rfl (r_bin hE rfl rfl g_int b_lss) (fun a hE => ?_)
  refine t_nil ?_
  refine hK_17 _ _ ?_
  refine w_cond (decide (x5_11 < 8)) hE rfl (fun hb => ?_) (fun hb => ?_)
  · replace H := M.ite_t hb H
    refine w_skip ?_
    refine hK_16 _ _ ?_
    refine w_seq (fun K hK_18 => ?_)
    refine w_block ?_
    obtain ⟨x21_19, qx21_19, H⟩ := H
    obtain ⟨x17_20, qx17_20, H⟩ := H
    obtain ⟨x22_21, qx22_21, H⟩ := H
    have hT := tab_of tb11_5 rfl rfl
    refine d_start (fun w : World => (fun h : Heap => (hcell h ((x4_7).add 1) = some (.int .i64 x17_20)) ∧ (hcell h x21_19 = some (.int .u8 x22_21))) w.heap) [8, 9, 10] #[false, false, false, false, false, false, false, false, false, false, false] mo hR rfl rfl (fun w' e => by rw [e]; exact ⟨qx17_20, qx22_21⟩) (fun w hh hR hs => ?_)
    replace H := M.at hh H; clear hh
    refine d_pureg (i := 0) (v := .pointer (some ((x4_7).add 1))) #[true, false, false, false, false, false, false, false, false, false, false] rfl rfl hT (by kernel_rfl) hE rfl (wanted_none rfl) (fun w => r_fieldAddr hE rfl fd24_1) (fun a hE => ?_)
    refine d_pureg (i := 3) (v := .int .i64 x5_11) #[true, false, false, true, false, false, false, false, false, false, false] rfl rfl hT (by kernel_rfl) hE rfl (wanted_none rfl) (fun w => r_move hE rfl) (fun a hE => ?_)
    refine d_pureg (i := 4) (v := .int .i64 (IntKind.wrap .i64 (2 + x5_11))) #[true, false, false, true, true, false, false, false, false, false, false] rfl rfl hT (by kernel_rfl) hE rfl (wanted_none rfl) (fun w => r_bin hE rfl rfl g_int b_add) (fun a hE => ?_)
    refine d_pureg (i := 5) (v := .pointer (some x21_19)) #[true, false, false, true, true, true, false, false, false, false, false] rfl rfl hT (by kernel_rfl) hE rfl (wanted_none rfl) (fun w => r_indexAddrA hE rfl rfl un26 sz5 qx21_19) (fun a hE => ?_)
    refine d_read (i := 1) (v := .int .i64 x17_20) #[true, true, false, true, true, true, false, false, false, false, false] rfl rfl hT (by kernel_rfl) hE rfl (wanted_none rfl) hs (fun w s => r_load hE rfl sc2 s.1) (fun a hE => ?_)
    refine d_pureg (i := 2) (v := .int .i64 (iShl .i64 x17_20 8)) #[true, true, true, true, true, true, false, false, false, false, false] rfl rfl hT (by kernel_rfl) hE rfl (wanted_none rfl) (fun w => r_bin hE rfl rfl g_int (b_shl ⟨by decide, rfl⟩)) (fun a hE => ?_)
    refine d_read (i := 6) (v := .int .u8 x22_21) #[true, true, true, true, true, true, true, false, false, false, false] rfl rfl hT (by kernel_rfl) hE rfl (wanted_none rfl) hs (fun w s => r_load hE rfl sc5 s.2) (fun a hE => ?_)
    refine d_pureg (i := 7) (v := .int .i64 (IntKind.wrap .i64 x22_21)) #[true, true, true, true, true, true, true, true, false, false, false] rfl rfl hT (by kernel_rfl) hE rfl (wanted_none rfl) (fun w => r_convI hE rfl un5 un2) (fun a hE => ?_)
    refine d_pureg (i := 8) (v := .int .i64 (iOr .i64 (iShl .i64 x17_20 8) (IntKind.wrap .i64 x22_21))) #[true, true, true, true, true, true, true, true, true, false, false] rfl rfl hT (by kernel_rfl) hE rfl (wanted_none rfl) (fun w => r_bin hE rfl rfl g_int b_or) (fun a hE => ?_)
    refine d_pureg (i := 9) (v := .pointer (some ((x4_7).add 1))) #[true, true, true, true, true, true, true, true, true, true, false] rfl rfl hT (by kernel_rfl) hE rfl (wanted_none rfl) (fun w => r_fieldAddr hE rfl fd24_1) (fun a hE => ?_)
    obtain ⟨u_22, qu_22, H⟩ := H
    refine d_stlh (i := 10) #[true, true, true, true, true, true, true, true, true, true, true] rfl rfl hT (by kernel_rfl) rfl hE hR (wanted_none rfl) (r_store hE rfl rfl sz2 qu_22)  (fun a w hE hR hh => ?_)
    replace H := M.at hh H; clear hh
    refine d_done hT (by kernel_rfl) ?_
    refine hK_18 _ _ ?_
    refine t_region ?_
    refine t_val (v := .int .i64 x5_11) rfl rfl hE rfl (r_move hE rfl) (fun a hE => ?_)
    refine t_val (v := .int .i64 (IntKind.wrap .i64 (x5_11 + 1))) rfl rfl hE rfl (r_bin hE rfl rfl g_int b_add) (fun a hE => ?_)
    refine t_val (v := .int .i64 (IntKind.wrap .i64 (x5_11 + 1))) rfl rfl hE rfl (r_assign hE rfl) (fun a hE => ?_)
    refine t_nil ?_
    exact hY_15 (IntKind.wrap .i64 (x5_11 + 1)) _ _ (hE.cut (.cons rfl (.cons rfl (.cons rfl (.cons rfl Subs.nil))))) hR H
  · replace H := M.ite_f hb H
    refine w_exit ?_
    refine Xu.same ?_
    refine hK_9 _ _ ?_
    refine w_seq (fun K hK_23 => ?_)
    refine w_seq (fun K hK_24 => ?_)
    refine t_region ?_
    obtain ⟨x26_25, qx26_25, H⟩ := H
    refine t_val (v := .pointer (some x26_25)) rfl rfl hE rfl (r_indexAddrA hE rfl rfl un26 sz5 qx26_25) (fun a hE => ?_)
    obtain ⟨x27_26, qx27_26, H⟩ := H
    refine t_val (v := .int .u8 x27_26) rfl rfl hE rfl (r_load hE rfl sc5 qx27_26) (fun a hE => ?_)
    refine t_val (v := .bool (decide (x27_26 > 112))) rfl rfl hE rfl (r_bin hE rfl rfl g_int b_gtr) (fun a hE => ?_)
    refine t_nil ?_
    refine hK_24 _ _ ?_
    refine w_cond (decide (x27_26 > 112)) hE rfl (fun hb => ?_) (fun hb => ?_)
    · replace H := M.ite_t hb H
      refine w_seq (fun K hK_27 => ?_)
      refine t_region ?_
      refine t_val (v := .agg (#[.int .i64 0, .int .i64 0, .slice none 0 0] : Array Value)) rfl rfl hE rfl (r_build0 bd24) (fun a hE => ?_)
      obtain ⟨qz, H⟩ := H
      obtain ⟨u_28, qu_28, H⟩ := H
      refine t_sth rfl rfl hE hR (r_storeG hE rfl rfl sz24 qz qu_28) (fun a w hE hR hh => ?_)
      replace H := M.at hh H; clear hh
      refine t_val (v := .int .i64 50) rfl rfl hE rfl (r_assign hE rfl) (fun a hE => ?_)
      refine t_nil ?_
      refine hK_27 _ _ ?_
      refine w_ret ?_
      obtain ⟨r2_29, qr2_29, H⟩ := H
      exact hret _ _ _ (r2_29, 50) _ hE hR (res_run hE rfl (RV.cellG rfl ag24 qr2_29 (RV.tmp rfl RV.nil))) rfl H
    · replace H := M.ite_f hb H
      refine w_skip ?_
      refine hK_23 _ _ ?_
      refine w_seq (fun K hK_30 => ?_)
      obtain ⟨x32_31, qx32_31, H⟩ := H
      obtain ⟨x31_32, qx31_32, H⟩ := H
      obtain ⟨x33_33, qx33_33, H⟩ := H
      obtain ⟨x36_34, qx36_34, H⟩ := H
      have hT := tab_of tb11_8 rfl rfl
      refine d_start (fun w : World => (fun h : Heap => (hcell h ((x4_7).add 2) = some ((x31_32 : Sl).v)) ∧ (hcell h x32_31 = some (.int .u8 x33_33))) w.heap) [7, 8, 9] #[false, false, false, false, false, false, false, false, false, false] mo hR rfl rfl (fun w' e => by rw [e]; exact ⟨qx31_32, qx33_33⟩) (fun w hh hR hs => ?_)
      replace H := M.at hh H; clear hh
      refine d_pureg (i := 0) (v := .pointer (some ((x4_7).add 2))) #[true, false, false, false, false, false, false, false, false, false] rfl rfl hT (by kernel_rfl) hE rfl (wanted_none rfl) (fun w => r_fieldAddr hE rfl fd24_2) (fun a hE => ?_)
      refine d_pureg (i := 2) (v := .pointer (some x32_31)) #[true, false, true, false, false, false, false, false, false, false] rfl rfl hT (by kernel_rfl) hE rfl (wanted_none rfl) (fun w => r_indexAddrA hE rfl rfl un26 sz5 qx32_31) (fun a hE => ?_)
      refine d_read (i := 1) (v := (x31_32 : Sl).v) #[true, true, true, false, false, false, false, false, false, false] rfl rfl hT (by kernel_rfl) hE rfl (wanted_none rfl) hs (fun w s => r_load hE rfl sc22 s.1) (fun a hE => ?_)
      refine d_read (i := 3) (v := .int .u8 x33_33) #[true, true, true, true, false, false, false, false, false, false] rfl rfl hT (by kernel_rfl) hE rfl (wanted_none rfl) hs (fun w s => r_load hE rfl sc5 s.2) (fun a hE => ?_)
      refine d_pureg (i := 4) (v := .int .i64 (IntKind.wrap .i64 x33_33)) #[true, true, true, true, true, false, false, false, false, false] rfl rfl hT (by kernel_rfl) hE rfl (wanted_none rfl) (fun w => r_convI hE rfl un5 un3) (fun a hE => ?_)
      refine d_pureg (i := 5) (v := .int .i64 (IntKind.wrap .i64 (10 + (IntKind.wrap .i64 x33_33)))) #[true, true, true, true, true, true, false, false, false, false] rfl rfl hT (by kernel_rfl) hE rfl (wanted_none rfl) (fun w => r_bin hE rfl rfl g_int b_add) (fun a hE => ?_)
      refine d_pureg (i := 6) (v := (x36_34 : Sl).v) #[true, true, true, true, true, true, true, false, false, false] rfl rfl hT (by kernel_rfl) hE rfl (wanted_none rfl) (fun w => r_sliceA_lh hE rfl rfl rfl un26 sz5 qx36_34) (fun a hE => ?_)
      refine d_exl (i := 7) (fun x37_35 => (x37_35 : Sl).v) #[true, true, true, true, true, true, true, true, false, false] rfl rfl hT (by kernel_rfl) rfl hR (wanted_none rfl) (M.unbind H) (fun Q H => ap_run hE rfl rfl ap22 H) (fun x37_35 a w ea hR H => ?_)
      have hE := Env.put_some hE rfl ea; clear ea
      refine d_pureg (i := 8) (v := .pointer (some ((x4_7).add 2))) #[true, true, true, true, true, true, true, true, true, false] rfl rfl hT (by kernel_rfl) hE rfl (wanted_none rfl) (fun w => r_fieldAddr hE rfl fd24_2) (fun a hE => ?_)
      obtain ⟨u_36, qu_36, H⟩ := H
      refine d_stlh (i := 9) #[true, true, true, true, true, true, true, true, true, true] rfl rfl hT (by kernel_rfl) rfl hE hR (wanted_none rfl) (r_store hE rfl rfl sz22 qu_36)  (fun a w hE hR hh => ?_)
      replace H := M.at hh H; clear hh
      refine d_done hT (by kernel_rfl) ?_
      refine hK_30 _ _ ?_
      refine w_seq (fun K hK_37 => ?_)
      refine t_region ?_
      obtain ⟨x40_38, qx40_38, H⟩ := H
      refine t_val (v := .agg x40_38) rfl rfl hE rfl (r_loadG hE rfl ag24 qx40_38) (fun a hE => ?_)
      refine t_call hE hR cl9 rfl (S_rambleref05_Seal x40_38) (M.unbind H) (fun x41_39 a w ea hR H => ?_)
      have hE := Env.put_some hE rfl ea; clear ea
      refine t_val (v := .tuple #[.agg x41_39.1, .int .i64 x41_39.2]) rfl rfl hE rfl (r_move hE rfl) (fun a hE => ?_)
      refine t_val (v := .agg x41_39.1) rfl rfl hE rfl (r_extract hE rfl rfl) (fun a hE => ?_)
      refine t_val (v := .int .i64 x41_39.2) rfl rfl hE rfl (r_extract hE rfl rfl) (fun a hE => ?_)
      obtain ⟨x6_40, qx6_40, H⟩ := H
      refine t_valh (v := .pointer (some x6_40)) rfl rfl hE rfl hR (r_alloc zr26 qx6_40) (fun a w hE hR hh => ?_)
      replace H := M.at hh H; clear hh
      obtain ⟨qz, H⟩ := H
      obtain ⟨u_41, qu_41, H⟩ := H
      refine t_sth rfl rfl hE hR (r_storeG hE rfl rfl sz26 qz qu_41) (fun a w hE hR hh => ?_)
      replace H := M.at hh H; clear hh
      refine t_val (v := .int .i64 x41_39.2) rfl rfl hE rfl (r_assign hE rfl) (fun a hE => ?_)
      refine t_nil ?_
      refine hK_37 _ _ ?_
      refine w_seq (fun K hK_42 => ?_)
      refine w_seq (fun K hK_43 => ?_)
      refine t_region ?_
      refine t_val (v := .int .i64 x41_39.2) rfl rfl hE rfl (r_move hE rfl) (fun a hE => ?_)
      refine t_val (v := .bool (x41_39.2 != 0)) rfl rfl hE rfl (r_bin hE rfl rfl g_int b_neq) (fun a hE => ?_)
      refine t_val (v := .bool (x41_39.2 != 0)) rfl rfl hE rfl (r_move hE rfl) (fun a hE => ?_)
      refine t_grp (n := 53) (w0 := w0) 4 (fun x50_44 : Bool => [(2, .pointer (some x2_3)), (4, .pointer (some x4_7)), (50, .bool x50_44)]) (M.unbind H) (fun Kr hKr H => ?_) ?_
      · rcases bool_em (x41_39.2 != 0) with hb | hb
        · replace H := M.ite_t hb H
          have hE := hE.reb 46 (x41_39.2 != 0) true hb rfl
          refine t_off rfl hE rfl rfl rfl (fun a ea => ?_)
          have hE := Env.put_some hE rfl ea; clear ea
          refine t_off rfl hE rfl rfl rfl (fun a ea => ?_)
          have hE := Env.put_some hE rfl ea; clear ea
          refine t_off rfl hE rfl rfl rfl (fun a ea => ?_)
          have hE := Env.put_some hE rfl ea; clear ea
          refine t_val rfl rfl hE rfl (r_pick_t hE rfl rfl) (fun a hE => ?_)
          refine t_nil ?_
          exact hKr _ _ _ (hE.cut (.cons rfl (.cons rfl (.cons rfl Subs.nil)))) hR H
        · replace H := M.ite_f hb H
          have hE := hE.reb 46 (x41_39.2 != 0) false hb rfl
          refine t_on rfl hE rfl rfl rfl ?_
          obtain ⟨x47_45, qx47_45, H⟩ := H
          refine t_val (v := .agg x47_45) rfl rfl hE rfl (r_loadG hE rfl ag26 qx47_45) (fun a hE => ?_)
          refine t_on rfl hE rfl rfl rfl ?_
          obtain ⟨x48_46, qx48_46, H⟩ := H
          refine t_val (v := .agg x48_46) rfl rfl hE rfl (r_loadG hE rfl ag26 qx48_46) (fun a hE => ?_)
          refine t_on rfl hE rfl rfl rfl ?_
          obtain ⟨x49_47, qx49_47, H⟩ := H
          refine t_val (v := .bool (!x49_47)) rfl rfl hE rfl (r_bin hE rfl rfl (g_agg eg26) (b_neqA un26 un5 sz5 qx49_47)) (fun a hE => ?_)
          refine t_val rfl rfl hE rfl (r_pick_f hE rfl rfl) (fun a hE => ?_)
          refine t_nil ?_
          exact hKr _ _ _ (hE.cut (.cons rfl (.cons rfl (.cons rfl Subs.nil)))) hR H
      · intro x50_44 a w hE hR H
        refine t_nil ?_
        refine hK_43 _ _ ?_
        refine w_cond x50_44 hE rfl (fun hb => ?_) (fun hb => ?_)
        · replace H := M.ite_t hb H
          refine w_seq (fun K hK_48 => ?_)
          refine t_region ?_
          refine t_val (v := .agg (#[.int .i64 0, .int .i64 0, .slice none 0 0] : Array Value)) rfl rfl hE rfl (r_build0 bd24) (fun a hE => ?_)
          obtain ⟨qz, H⟩ := H
          obtain ⟨u_49, qu_49, H⟩ := H
          refine t_sth rfl rfl hE hR (r_storeG hE rfl rfl sz24 qz qu_49) (fun a w hE hR hh => ?_)
          replace H := M.at hh H; clear hh
          refine t_val (v := .int .i64 50) rfl rfl hE rfl (r_assign hE rfl) (fun a hE => ?_)
          refine t_nil ?_
          refine hK_48 _ _ ?_
          refine w_ret ?_
          obtain ⟨r2_50, qr2_50, H⟩ := H
          exact hret _ _ _ (r2_50, 50) _ hE hR (res_run hE rfl (RV.cellG rfl ag24 qr2_50 (RV.tmp rfl RV.nil))) rfl H
        · replace H := M.ite_f hb H
          refine w_skip ?_
          refine hK_42 _ _ ?_
          refine w_seq (fun K hK_51 => ?_)
          refine t_region ?_
          obtain ⟨x52_52, qx52_52, H⟩ := H
          refine t_val (v := .agg x52_52) rfl rfl hE rfl (r_loadG hE rfl ag24 qx52_52) (fun a hE => ?_)
          obtain ⟨qz, H⟩ := H
          obtain ⟨u_53, qu_53, H⟩ := H
          refine t_sth rfl rfl hE hR (r_storeG hE rfl rfl sz24 qz qu_53) (fun a w hE hR hh => ?_)
          replace H := M.at hh H; clear hh
          refine t_val (v := .int .i64 0) rfl rfl hE rfl (r_assign hE rfl) (fun a hE => ?_)
          refine t_nil ?_
          refine hK_51 _ _ ?_
          refine w_ret ?_
          obtain ⟨r2_54, qr2_54, H⟩ := H
          exact hret _ _ _ (r2_54, 0) _ hE hR (res_run hE rfl (RV.cellG rfl ag24 qr2_54 (RV.tmp rfl RV.nil))) rfl H

/-- ramble/rambleref05.Same -/
def rambleref05_Same (x0 : Array Value) (x1 : Array Value) : M (Bool) := do
  let x2_2 ← mkB ty_api_Frame x0
  let x3_3 ← mkB ty_api_Frame x1
  let x6_5 ← ldI .i64 ((x2_2).add 0)
  let x8_6 ← ldI .i64 ((x3_3).add 0)
  let x16_7 ← M.ite (x6_5 == x8_6) (do
    let x12_8 ← ldI .i64 ((x2_2).add 1)
    let x14_9 ← ldI .i64 ((x3_3).add 1)
    M.pure (x12_8 == x14_9)
    ) (do
    M.pure false
    )
  let x25_10 ← M.ite x16_7 (do
    let x19_11 ← ldL ((x2_2).add 2)
    let x20_12 ← b2s x19_11
    let x22_13 ← ldL ((x3_3).add 2)
    let x23_14 ← b2s x22_13
    M.pure (sEq x20_12 x23_14)
    ) (do
    M.pure false
    )
  M.pure x25_10
theorem S_rambleref05_Same (x0 : Array Value) (x1 : Array Value) : Sound Go.Proofs.Try.prog 13 #[.agg x0, .agg x1] (fun (r : Bool) => .bool r) (rambleref05_Same x0 x1) := by
  refine sound_of [(0, .agg x0), (1, .agg x1)] Go.Proofs.Try.func13 rfl rfl (Nat.le_of_ble_eq_true rfl) (args_of ⟨rfl, rfl, trivial⟩) (fun w0 w Q R a hret hE hR H => ?_)
  unfold rambleref05_Same at H
  refine w_seq (fun K hK_1 => ?_)
  refine t_region ?_
  obtain ⟨x2_2, qx2_2, H⟩ := H
  refine t_valh (v := .pointer (some x2_2)) rfl rfl hE rfl hR (r_box hE rfl qx2_2) (fun a w hE hR hh => ?_)
  replace H := M.at hh H; clear hh
  obtain ⟨x3_3, qx3_3, H⟩ := H
  refine t_valh (v := .pointer (some x3_3)) rfl rfl hE rfl hR (r_box hE rfl qx3_3) (fun a w hE hR hh => ?_)
  replace H := M.at hh H; clear hh
  refine t_val (v := .bool false) rfl rfl hE rfl (r_assign hE rfl) (fun a hE => ?_)
  refine t_nil ?_
  refine hK_1 _ _ ?_
  refine w_seq (fun K hK_4 => ?_)
  refine t_region ?_
  refine t_val (v := .pointer (some ((x2_2).add 0))) rfl rfl hE rfl (r_fieldAddr hE rfl fd24_0) (fun a hE => ?_)
  obtain ⟨x6_5, qx6_5, H⟩ := H
  refine t_val (v := .int .i64 x6_5) rfl rfl hE rfl (r_load hE rfl sc3 qx6_5) (fun a hE => ?_)
  refine t_val (v := .pointer (some ((x3_3).add 0))) rfl rfl hE rfl (r_fieldAddr hE rfl fd24_0) (fun a hE => ?_)
  obtain ⟨x8_6, qx8_6, H⟩ := H
  refine t_val (v := .int .i64 x8_6) rfl rfl hE rfl (r_load hE rfl sc3 qx8_6) (fun a hE => ?_)
  refine t_val (v := .bool (x6_5 == x8_6)) rfl rfl hE rfl (r_bin hE rfl rfl g_int b_eql) (fun a hE => ?_)
  refine t_val (v := .bool (x6_5 == x8_6)) rfl rfl hE rfl (r_move hE rfl) (fun a hE => ?_)
  refine t_grp (n := 26) (w0 := w0) 6 (fun x16_7 : Bool => [(2, .pointer (some x2_2)), (3, .pointer (some x3_3)), (4, .bool false), (16, .bool x16_7)]) (M.unbind H) (fun Kr hKr H => ?_) ?_
  · rcases bool_em (x6_5 == x8_6) with hb | hb
    · replace H := M.ite_t hb H
      have hE := hE.reb 10 (x6_5 == x8_6) true hb rfl
      refine t_on rfl hE rfl rfl rfl ?_
      refine t_val (v := .pointer (some ((x2_2).add 1))) rfl rfl hE rfl (r_fieldAddr hE rfl fd24_1) (fun a hE => ?_)
      refine t_on rfl hE rfl rfl rfl ?_
      obtain ⟨x12_8, qx12_8, H⟩ := H
      refine t_val (v := .int .i64 x12_8) rfl rfl hE rfl (r_load hE rfl sc2 qx12_8) (fun a hE => ?_)
      refine t_on rfl hE rfl rfl rfl ?_
      refine t_val (v := .pointer (some ((x3_3).add 1))) rfl rfl hE rfl (r_fieldAddr hE rfl fd24_1) (fun a hE => ?_)
      refine t_on rfl hE rfl rfl rfl ?_
      obtain ⟨x14_9, qx14_9, H⟩ := H
      refine t_val (v := .int .i64 x14_9) rfl rfl hE rfl (r_load hE rfl sc2 qx14_9) (fun a hE => ?_)
      refine t_on rfl hE rfl rfl rfl ?_
      refine t_val (v := .bool (x12_8 == x14_9)) rfl rfl hE rfl (r_bin hE rfl rfl g_int b_eql) (fun a hE => ?_)
      refine t_val rfl rfl hE rfl (r_pick_t hE rfl rfl) (fun a hE => ?_)
      refine t_nil ?_
      exact hKr _ _ _ (hE.cut (.cons rfl (.cons rfl (.cons rfl (.cons rfl Subs.nil))))) hR H
    · replace H := M.ite_f hb H
      have hE := hE.reb 10 (x6_5 == x8_6) false hb rfl
      refine t_off rfl hE rfl rfl rfl (fun a ea => ?_)
      have hE := Env.put_some hE rfl ea; clear ea
      refine t_off rfl hE rfl rfl rfl (fun a ea => ?_)
      have hE := Env.put_some hE rfl ea; clear ea
      refine t_off rfl hE rfl rfl rfl (fun a ea => ?_)
      have hE := Env.put_some hE rfl ea; clear ea
      refine t_off rfl hE rfl rfl rfl (fun a ea => ?_)
      have hE := Env.put_some hE rfl ea; clear ea
      refine t_off rfl hE rfl rfl rfl (fun a ea => ?_)
      have hE := Env.put_some hE rfl ea; clear ea
      refine t_val rfl rfl hE rfl (r_pick_f hE rfl rfl) (fun a hE => ?_)
      refine t_nil ?_
      exact hKr _ _ _ (hE.cut (.cons rfl (.cons rfl (.cons rfl (.cons rfl Subs.nil))))) hR H
  · intro x16_7 a w hE hR H
    refine t_val (v := .bool x16_7) rfl rfl hE rfl (r_move hE rfl) (fun a hE => ?_)
    refine t_grp (n := 26) (w0 := w0) 8 (fun x25_10 : Bool => [(4, .bool false), (25, .bool x25_10)]) (M.unbind H) (fun Kr hKr H => ?_) ?_
    · rcases bool_em x16_7 with hb | hb
      · replace H := M.ite_t hb H
        have hE := hE.reb 17 x16_7 true hb rfl
        refine t_on rfl hE rfl rfl rfl ?_
        refine t_val (v := .pointer (some ((x2_2).add 2))) rfl rfl hE rfl (r_fieldAddr hE rfl fd24_2) (fun a hE => ?_)
        refine t_on rfl hE rfl rfl rfl ?_
        obtain ⟨x19_11, qx19_11, H⟩ := H
        refine t_val (v := (x19_11 : Sl).v) rfl rfl hE rfl (r_load hE rfl sc22 qx19_11) (fun a hE => ?_)
        refine t_on rfl hE rfl rfl rfl ?_
        obtain ⟨x20_12, qx20_12, H⟩ := H
        refine t_val (v := .string x20_12) rfl rfl hE rfl (b2s_run hE rfl un22 un9 un5 qx20_12) (fun a hE => ?_)
        refine t_on rfl hE rfl rfl rfl ?_
        refine t_val (v := .pointer (some ((x3_3).add 2))) rfl rfl hE rfl (r_fieldAddr hE rfl fd24_2) (fun a hE => ?_)
        refine t_on rfl hE rfl rfl rfl ?_
        obtain ⟨x22_13, qx22_13, H⟩ := H
        refine t_val (v := (x22_13 : Sl).v) rfl rfl hE rfl (r_load hE rfl sc22 qx22_13) (fun a hE => ?_)
        refine t_on rfl hE rfl rfl rfl ?_
        obtain ⟨x23_14, qx23_14, H⟩ := H
        refine t_val (v := .string x23_14) rfl rfl hE rfl (b2s_run hE rfl un22 un9 un5 qx23_14) (fun a hE => ?_)
        refine t_on rfl hE rfl rfl rfl ?_
        refine t_val (v := .bool (sEq x20_12 x23_14)) rfl rfl hE rfl (r_bin hE rfl rfl g_str b_eqlS) (fun a hE => ?_)
        refine t_val rfl rfl hE rfl (r_pick_t hE rfl rfl) (fun a hE => ?_)
        refine t_nil ?_
        exact hKr _ _ _ (hE.cut (.cons rfl (.cons rfl Subs.nil))) hR H
      · replace H := M.ite_f hb H
        have hE := hE.reb 17 x16_7 false hb rfl
        refine t_off rfl hE rfl rfl rfl (fun a ea => ?_)
        have hE := Env.put_some hE rfl ea; clear ea
        refine t_off rfl hE rfl rfl rfl (fun a ea => ?_)
        have hE := Env.put_some hE rfl ea; clear ea
        refine t_off rfl hE rfl rfl rfl (fun a ea => ?_)
        have hE := Env.put_some hE rfl ea; clear ea
        refine t_off rfl hE rfl rfl rfl (fun a ea => ?_)
        have hE := Env.put_some hE rfl ea; clear ea
        refine t_off rfl hE rfl rfl rfl (fun a ea => ?_)
        have hE := Env.put_some hE rfl ea; clear ea
        refine t_off rfl hE rfl rfl rfl (fun a ea => ?_)
        have hE := Env.put_some hE rfl ea; clear ea
        refine t_off rfl hE rfl rfl rfl (fun a ea => ?_)
        have hE := Env.put_some hE rfl ea; clear ea
        refine t_val rfl rfl hE rfl (r_pick_f hE rfl rfl) (fun a hE => ?_)
        refine t_nil ?_
        exact hKr _ _ _ (hE.cut (.cons rfl (.cons rfl Subs.nil))) hR H
    · intro x25_10 a w hE hR H
      refine t_val (v := .bool x25_10) rfl rfl hE rfl (r_assign hE rfl) (fun a hE => ?_)
      refine t_nil ?_
      refine hK_4 _ _ ?_
      refine w_ret ?_
      exact hret _ _ _ x25_10 _ hE hR (res_run hE rfl (RV.tmp rfl RV.nil)) rfl H

/-- ramble/ramblelaw05.begun -/
def ramblelaw05_begun  : M (Bool) := do
  let x6_3 ← bdL ty_uint8 2 #[.int .u8 7, .int .u8 8]
  let x8_4 ← sector_Seal (#[.int .i64 1, .int .i64 5, (x6_3 : Sl).v] : Array Value)
  let x1_5 ← mkB ty_api_Sector (Array.replicate 128 (.int .u8 0) : Array Value)
  M.need (x8_4.1.size = 128)
  stG x1_5 x8_4.1
  let x12_8 ← ldG 128 x1_5
  let x13_9 ← sector_Open x12_8
  let x3_10 ← mkB ty_api_Frame (#[.int .i64 0, .int .i64 0, .slice none 0 0] : Array Value)
  M.need (x13_9.1.size = 3)
  stG x3_10 x13_9.1
  let x16_13 ← bdL ty_uint8 9 #[.int .u8 49, .int .u8 50, .int .u8 51, .int .u8 52, .int .u8 53, .int .u8 54, .int .u8 55, .int .u8 56, .int .u8 57]
  let x17_14 ← mrk x16_13
  let x18_15 ← sector_Sum x17_14
  let x23_16 ← M.ite (x18_15 == 3421780262) (do
    M.pure (x8_4.2 == 0)
    ) (do
    M.pure false
    )
  let x27_17 ← M.ite x23_16 (do
    M.pure (x13_9.2 == 0)
    ) (do
    M.pure false
    )
  let x33_18 ← M.ite x27_17 (do
    let x29_19 ← ldG 3 x3_10
    let x30_20 ← bdL ty_uint8 2 #[.int .u8 7, .int .u8 8]
    let x32_21 ← rambleref05_Same x29_19 (#[.int .i64 1, .int .i64 5, (x30_20 : Sl).v] : Array Value)
    M.pure x32_21
    ) (do
    M.pure false
    )
  M.pure x33_18
theorem S_ramblelaw05_begun  : Sound Go.Proofs.Try.prog 12 #[] (fun (r : Bool) => .bool r) (ramblelaw05_begun ) := by
  refine sound_of [] Go.Proofs.Try.func12 rfl rfl (Nat.le_of_ble_eq_true rfl) (args_of trivial) (fun w0 w Q R a hret hE hR H => ?_)
  unfold ramblelaw05_begun at H
  refine w_seq (fun K hK_1 => ?_)
  refine t_region ?_
  refine t_val (v := .bool false) rfl rfl hE rfl (r_assign hE rfl) (fun a hE => ?_)
  refine t_nil ?_
  refine hK_1 _ _ ?_
  refine w_seq (fun K hK_2 => ?_)
  refine t_region ?_
  obtain ⟨x6_3, qx6_3, H⟩ := H
  refine t_valh (v := (x6_3 : Sl).v) rfl rfl hE rfl hR (r_buildL (cells := #[.int .u8 7, .int .u8 8]) hE rfl un22 sz5 zr5 rfl rfl qx6_3) (fun a w hE hR hh => ?_)
  replace H := M.at hh H; clear hh
  refine t_val (v := .agg (#[.int .i64 1, .int .i64 5, (x6_3 : Sl).v] : Array Value)) rfl rfl hE rfl (r_build hE rfl zr24 pl24 (by rfl)) (fun a hE => ?_)
  refine t_call hE hR cl8 rfl (S_sector_Seal (#[.int .i64 1, .int .i64 5, (x6_3 : Sl).v] : Array Value)) (M.unbind H) (fun x8_4 a w ea hR H => ?_)
  have hE := Env.put_some hE rfl ea; clear ea
  refine t_val (v := .tuple #[.agg x8_4.1, .int .i64 x8_4.2]) rfl rfl hE rfl (r_move hE rfl) (fun a hE => ?_)
  refine t_val (v := .agg x8_4.1) rfl rfl hE rfl (r_extract hE rfl rfl) (fun a hE => ?_)
  refine t_val (v := .int .i64 x8_4.2) rfl rfl hE rfl (r_extract hE rfl rfl) (fun a hE => ?_)
  obtain ⟨x1_5, qx1_5, H⟩ := H
  refine t_valh (v := .pointer (some x1_5)) rfl rfl hE rfl hR (r_alloc zr26 qx1_5) (fun a w hE hR hh => ?_)
  replace H := M.at hh H; clear hh
  obtain ⟨qz, H⟩ := H
  obtain ⟨u_6, qu_6, H⟩ := H
  refine t_sth rfl rfl hE hR (r_storeG hE rfl rfl sz26 qz qu_6) (fun a w hE hR hh => ?_)
  replace H := M.at hh H; clear hh
  refine t_val (v := .int .i64 x8_4.2) rfl rfl hE rfl (r_assign hE rfl) (fun a hE => ?_)
  refine t_nil ?_
  refine hK_2 _ _ ?_
  refine w_seq (fun K hK_7 => ?_)
  refine t_region ?_
  obtain ⟨x12_8, qx12_8, H⟩ := H
  refine t_val (v := .agg x12_8) rfl rfl hE rfl (r_loadG hE rfl ag26 qx12_8) (fun a hE => ?_)
  refine t_call hE hR cl10 rfl (S_sector_Open x12_8) (M.unbind H) (fun x13_9 a w ea hR H => ?_)
  have hE := Env.put_some hE rfl ea; clear ea
  refine t_val (v := .tuple #[.agg x13_9.1, .int .i64 x13_9.2]) rfl rfl hE rfl (r_move hE rfl) (fun a hE => ?_)
  refine t_val (v := .agg x13_9.1) rfl rfl hE rfl (r_extract hE rfl rfl) (fun a hE => ?_)
  refine t_val (v := .int .i64 x13_9.2) rfl rfl hE rfl (r_extract hE rfl rfl) (fun a hE => ?_)
  obtain ⟨x3_10, qx3_10, H⟩ := H
  refine t_valh (v := .pointer (some x3_10)) rfl rfl hE rfl hR (r_alloc zr24 qx3_10) (fun a w hE hR hh => ?_)
  replace H := M.at hh H; clear hh
  obtain ⟨qz, H⟩ := H
  obtain ⟨u_11, qu_11, H⟩ := H
  refine t_sth rfl rfl hE hR (r_storeG hE rfl rfl sz24 qz qu_11) (fun a w hE hR hh => ?_)
  replace H := M.at hh H; clear hh
  refine t_val (v := .int .i64 x13_9.2) rfl rfl hE rfl (r_assign hE rfl) (fun a hE => ?_)
  refine t_nil ?_
  refine hK_7 _ _ ?_
  refine w_seq (fun K hK_12 => ?_)
  refine t_region ?_
  obtain ⟨x16_13, qx16_13, H⟩ := H
  refine t_valh (v := (x16_13 : Sl).v) rfl rfl hE rfl hR (r_buildL (cells := #[.int .u8 49, .int .u8 50, .int .u8 51, .int .u8 52, .int .u8 53, .int .u8 54, .int .u8 55, .int .u8 56, .int .u8 57]) hE rfl un22 sz5 zr5 rfl rfl qx16_13) (fun a w hE hR hh => ?_)
  replace H := M.at hh H; clear hh
  obtain ⟨x17_14, qx17_14, H⟩ := H
  refine t_valh (v := (x17_14 : Sl).v) rfl rfl hE rfl hR (r_mrk hE rfl un22 un5 qx17_14) (fun a w hE hR hh => ?_)
  replace H := M.at hh H; clear hh
  refine t_call hE hR cl14 rfl (S_sector_Sum x17_14) (M.unbind H) (fun x18_15 a w ea hR H => ?_)
  have hE := Env.put_some hE rfl ea; clear ea
  refine t_val (v := .bool (x18_15 == 3421780262)) rfl rfl hE rfl (r_bin hE rfl rfl g_int b_eql) (fun a hE => ?_)
  refine t_val (v := .bool (x18_15 == 3421780262)) rfl rfl hE rfl (r_move hE rfl) (fun a hE => ?_)
  refine t_grp (n := 34) (w0 := w0) 3 (fun x23_16 : Bool => [(0, .bool false), (3, .pointer (some x3_10)), (4, .int .i64 x13_9.2), (23, .bool x23_16)]) (M.unbind H) (fun Kr hKr H => ?_) ?_
  · rcases bool_em (x18_15 == 3421780262) with hb | hb
    · replace H := M.ite_t hb H
      have hE := hE.reb 20 (x18_15 == 3421780262) true hb rfl
      refine t_on rfl hE rfl rfl rfl ?_
      refine t_val (v := .int .i64 x8_4.2) rfl rfl hE rfl (r_move hE rfl) (fun a hE => ?_)
      refine t_on rfl hE rfl rfl rfl ?_
      refine t_val (v := .bool (x8_4.2 == 0)) rfl rfl hE rfl (r_bin hE rfl rfl g_int b_eql) (fun a hE => ?_)
      refine t_val rfl rfl hE rfl (r_pick_t hE rfl rfl) (fun a hE => ?_)
      refine t_nil ?_
      exact hKr _ _ _ (hE.cut (.cons rfl (.cons rfl (.cons rfl (.cons rfl Subs.nil))))) hR H
    · replace H := M.ite_f hb H
      have hE := hE.reb 20 (x18_15 == 3421780262) false hb rfl
      refine t_off rfl hE rfl rfl rfl (fun a ea => ?_)
      have hE := Env.put_some hE rfl ea; clear ea
      refine t_off rfl hE rfl rfl rfl (fun a ea => ?_)
      have hE := Env.put_some hE rfl ea; clear ea
      refine t_val rfl rfl hE rfl (r_pick_f hE rfl rfl) (fun a hE => ?_)
      refine t_nil ?_
      exact hKr _ _ _ (hE.cut (.cons rfl (.cons rfl (.cons rfl (.cons rfl Subs.nil))))) hR H
  · intro x23_16 a w hE hR H
    refine t_val (v := .bool x23_16) rfl rfl hE rfl (r_move hE rfl) (fun a hE => ?_)
    refine t_grp (n := 34) (w0 := w0) 3 (fun x27_17 : Bool => [(0, .bool false), (3, .pointer (some x3_10)), (27, .bool x27_17)]) (M.unbind H) (fun Kr hKr H => ?_) ?_
    · rcases bool_em x23_16 with hb | hb
      · replace H := M.ite_t hb H
        have hE := hE.reb 24 x23_16 true hb rfl
        refine t_on rfl hE rfl rfl rfl ?_
        refine t_val (v := .int .i64 x13_9.2) rfl rfl hE rfl (r_move hE rfl) (fun a hE => ?_)
        refine t_on rfl hE rfl rfl rfl ?_
        refine t_val (v := .bool (x13_9.2 == 0)) rfl rfl hE rfl (r_bin hE rfl rfl g_int b_eql) (fun a hE => ?_)
        refine t_val rfl rfl hE rfl (r_pick_t hE rfl rfl) (fun a hE => ?_)
        refine t_nil ?_
        exact hKr _ _ _ (hE.cut (.cons rfl (.cons rfl (.cons rfl Subs.nil)))) hR H
      · replace H := M.ite_f hb H
        have hE := hE.reb 24 x23_16 false hb rfl
        refine t_off rfl hE rfl rfl rfl (fun a ea => ?_)
        have hE := Env.put_some hE rfl ea; clear ea
        refine t_off rfl hE rfl rfl rfl (fun a ea => ?_)
        have hE := Env.put_some hE rfl ea; clear ea
        refine t_val rfl rfl hE rfl (r_pick_f hE rfl rfl) (fun a hE => ?_)
        refine t_nil ?_
        exact hKr _ _ _ (hE.cut (.cons rfl (.cons rfl (.cons rfl Subs.nil)))) hR H
    · intro x27_17 a w hE hR H
      refine t_val (v := .bool x27_17) rfl rfl hE rfl (r_move hE rfl) (fun a hE => ?_)
      refine t_grp (n := 34) (w0 := w0) 5 (fun x33_18 : Bool => [(0, .bool false), (33, .bool x33_18)]) (M.unbind H) (fun Kr hKr H => ?_) ?_
      · rcases bool_em x27_17 with hb | hb
        · replace H := M.ite_t hb H
          have hE := hE.reb 28 x27_17 true hb rfl
          refine t_on rfl hE rfl rfl rfl ?_
          obtain ⟨x29_19, qx29_19, H⟩ := H
          refine t_val (v := .agg x29_19) rfl rfl hE rfl (r_loadG hE rfl ag24 qx29_19) (fun a hE => ?_)
          refine t_on rfl hE rfl rfl rfl ?_
          obtain ⟨x30_20, qx30_20, H⟩ := H
          refine t_valh (v := (x30_20 : Sl).v) rfl rfl hE rfl hR (r_buildL (cells := #[.int .u8 7, .int .u8 8]) hE rfl un22 sz5 zr5 rfl rfl qx30_20) (fun a w hE hR hh => ?_)
          replace H := M.at hh H; clear hh
          refine t_on rfl hE rfl rfl rfl ?_
          refine t_val (v := .agg (#[.int .i64 1, .int .i64 5, (x30_20 : Sl).v] : Array Value)) rfl rfl hE rfl (r_build hE rfl zr24 pl24 (by rfl)) (fun a hE => ?_)
          refine t_on rfl hE rfl rfl rfl ?_
          refine t_call hE hR cl13 rfl (S_rambleref05_Same x29_19 (#[.int .i64 1, .int .i64 5, (x30_20 : Sl).v] : Array Value)) (M.unbind H) (fun x32_21 a w ea hR H => ?_)
          have hE := Env.put_some hE rfl ea; clear ea
          refine t_val rfl rfl hE rfl (r_pick_t hE rfl rfl) (fun a hE => ?_)
          refine t_nil ?_
          exact hKr _ _ _ (hE.cut (.cons rfl (.cons rfl Subs.nil))) hR H
        · replace H := M.ite_f hb H
          have hE := hE.reb 28 x27_17 false hb rfl
          refine t_off rfl hE rfl rfl rfl (fun a ea => ?_)
          have hE := Env.put_some hE rfl ea; clear ea
          refine t_off rfl hE rfl rfl rfl (fun a ea => ?_)
          have hE := Env.put_some hE rfl ea; clear ea
          refine t_off rfl hE rfl rfl rfl (fun a ea => ?_)
          have hE := Env.put_some hE rfl ea; clear ea
          refine t_off rfl hE rfl rfl rfl (fun a ea => ?_)
          have hE := Env.put_some hE rfl ea; clear ea
          refine t_val rfl rfl hE rfl (r_pick_f hE rfl rfl) (fun a hE => ?_)
          refine t_nil ?_
          exact hKr _ _ _ (hE.cut (.cons rfl (.cons rfl Subs.nil))) hR H
      · intro x33_18 a w hE hR H
        refine t_val (v := .bool x33_18) rfl rfl hE rfl (r_assign hE rfl) (fun a hE => ?_)
        refine t_nil ?_
        refine hK_12 _ _ ?_
        refine w_ret ?_
        exact hret _ _ _ x33_18 _ hE hR (res_run hE rfl (RV.tmp rfl RV.nil)) rfl H

end Gx
