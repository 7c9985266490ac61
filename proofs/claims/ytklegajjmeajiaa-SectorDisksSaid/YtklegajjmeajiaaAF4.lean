/- Printed by program: Go functions as Lean programs, each tied to its code. No condition. -/
import Derived.Test.YtklegajjmeajiaaAT
import Derived.Test.YtklegajjmeajiaaAF0
import Derived.Test.YtklegajjmeajiaaAF1
import Derived.Test.YtklegajjmeajiaaAF2
import Derived.Test.YtklegajjmeajiaaAF3
namespace Gx
open Go
set_option linter.unusedVariables false
set_option maxRecDepth 100000
/-- ramble/ramblelaw05.SectorBack -/
def ramblelaw05_SectorBack (x0 : Array Value) : M (Bool) := do
  let x1_2 ← mkB ty_api_Frame x0
  let x10_4 ← ldG 3 x1_2
  let x11_5 ← sector_Seal x10_4
  let x3_6 ← mkB ty_api_Sector (Array.replicate 128 (.int .u8 0) : Array Value)
  M.need (x11_5.1.size = 128)
  stG x3_6 x11_5.1
  let x16_9 ← sector_Open (Array.replicate 128 (.int .u8 0) : Array Value)
  let x5_10 ← mkB ty_api_Frame (#[.int .i64 0, .int .i64 0, .slice none 0 0] : Array Value)
  M.need (x16_9.1.size = 3)
  stG x5_10 x16_9.1
  let x19_14 ← ramblelaw05_begun
  let x24_15 ← M.ite (!x19_14) (do
    M.pure true
    ) (do
    M.pure (x16_9.2 != 50)
    )
  M.ite x24_15 (do
    M.pure false
    ) (do
    M.ite (x11_5.2 != 0) (do
      M.pure (x11_5.2 == 1)
      ) (do
      let x30_21 ← ldG 128 x3_6
      let x31_22 ← sector_Open x30_21
      let x7_23 ← mkB ty_api_Frame (#[.int .i64 0, .int .i64 0, .slice none 0 0] : Array Value)
      M.need (x31_22.1.size = 3)
      stG x7_23 x31_22.1
      let x40_26 ← M.ite (x31_22.2 == 0) (do
        let x37_27 ← ldG 3 x7_23
        let x38_28 ← ldG 3 x1_2
        let x39_29 ← rambleref05_Same x37_27 x38_28
        M.pure x39_29
        ) (do
        M.pure false
        )
      M.pure x40_26
      )
    )
theorem S_ramblelaw05_SectorBack (x0 : Array Value) : Sound Go.Proofs.Try.prog 4 #[.agg x0] (fun (r : Bool) => .bool r) (ramblelaw05_SectorBack x0) := by
  refine sound_of [(0, .agg x0)] Go.Proofs.Try.func4 rfl rfl (Nat.le_of_ble_eq_true rfl) (args_of ⟨rfl, trivial⟩) (fun w0 w Q R a hret hE hR H => ?_)
  unfold ramblelaw05_SectorBack at H
  refine w_seq (fun K hK_1 => ?_)
  refine t_region ?_
  obtain ⟨x1_2, qx1_2, H⟩ := H
  refine t_valh (v := .pointer (some x1_2)) rfl rfl hE rfl hR (r_box hE rfl qx1_2) (fun a w hE hR hh => ?_)
  replace H := M.at hh H; clear hh
  refine t_val (v := .bool false) rfl rfl hE rfl (r_assign hE rfl) (fun a hE => ?_)
  refine t_nil ?_
  refine hK_1 _ _ ?_
  refine w_seq (fun K hK_3 => ?_)
  refine t_region ?_
  obtain ⟨x10_4, qx10_4, H⟩ := H
  refine t_val (v := .agg x10_4) rfl rfl hE rfl (r_loadG hE rfl ag24 qx10_4) (fun a hE => ?_)
  refine t_call hE hR cl8 rfl (S_sector_Seal x10_4) (M.unbind H) (fun x11_5 a w ea hR H => ?_)
  have hE := Env.put_some hE rfl ea; clear ea
  refine t_val (v := .tuple #[.agg x11_5.1, .int .i64 x11_5.2]) rfl rfl hE rfl (r_move hE rfl) (fun a hE => ?_)
  refine t_val (v := .agg x11_5.1) rfl rfl hE rfl (r_extract hE rfl rfl) (fun a hE => ?_)
  refine t_val (v := .int .i64 x11_5.2) rfl rfl hE rfl (r_extract hE rfl rfl) (fun a hE => ?_)
  obtain ⟨x3_6, qx3_6, H⟩ := H
  refine t_valh (v := .pointer (some x3_6)) rfl rfl hE rfl hR (r_alloc zr26 qx3_6) (fun a w hE hR hh => ?_)
  replace H := M.at hh H; clear hh
  obtain ⟨qz, H⟩ := H
  obtain ⟨u_7, qu_7, H⟩ := H
  refine t_sth rfl rfl hE hR (r_storeG hE rfl rfl sz26 qz qu_7) (fun a w hE hR hh => ?_)
  replace H := M.at hh H; clear hh
  refine t_val (v := .int .i64 x11_5.2) rfl rfl hE rfl (r_assign hE rfl) (fun a hE => ?_)
  refine t_nil ?_
  refine hK_3 _ _ ?_
  refine w_seq (fun K hK_8 => ?_)
  refine t_region ?_
  refine t_val (v := .agg (Array.replicate 128 (.int .u8 0) : Array Value)) rfl rfl hE rfl (r_build0 bd26) (fun a hE => ?_)
  refine t_call hE hR cl10 rfl (S_sector_Open (Array.replicate 128 (.int .u8 0) : Array Value)) (M.unbind H) (fun x16_9 a w ea hR H => ?_)
  have hE := Env.put_some hE rfl ea; clear ea
  refine t_val (v := .tuple #[.agg x16_9.1, .int .i64 x16_9.2]) rfl rfl hE rfl (r_move hE rfl) (fun a hE => ?_)
  refine t_val (v := .agg x16_9.1) rfl rfl hE rfl (r_extract hE rfl rfl) (fun a hE => ?_)
  refine t_val (v := .int .i64 x16_9.2) rfl rfl hE rfl (r_extract hE rfl rfl) (fun a hE => ?_)
  obtain ⟨x5_10, qx5_10, H⟩ := H
  refine t_valh (v := .pointer (some x5_10)) rfl rfl hE rfl hR (r_alloc zr24 qx5_10) (fun a w hE hR hh => ?_)
  replace H := M.at hh H; clear hh
  obtain ⟨qz, H⟩ := H
  obtain ⟨u_11, qu_11, H⟩ := H
  refine t_sth rfl rfl hE hR (r_storeG hE rfl rfl sz24 qz qu_11) (fun a w hE hR hh => ?_)
  replace H := M.at hh H; clear hh
  refine t_val (v := .int .i64 x16_9.2) rfl rfl hE rfl (r_assign hE rfl) (fun a hE => ?_)
  refine t_nil ?_
  refine hK_8 _ _ ?_
  refine w_seq (fun K hK_12 => ?_)
  refine w_seq (fun K hK_13 => ?_)
  refine t_region ?_
  refine t_call hE hR cl12 rfl (S_ramblelaw05_begun ) (M.unbind H) (fun x19_14 a w ea hR H => ?_)
  have hE := Env.put_some hE rfl ea; clear ea
  refine t_val (v := .bool (!x19_14)) rfl rfl hE rfl (r_un hE rfl u_not) (fun a hE => ?_)
  refine t_val (v := .bool (!x19_14)) rfl rfl hE rfl (r_move hE rfl) (fun a hE => ?_)
  refine t_grp (n := 41) (w0 := w0) 3 (fun x24_15 : Bool => [(1, .pointer (some x1_2)), (3, .pointer (some x3_6)), (4, .int .i64 x11_5.2), (24, .bool x24_15)]) (M.unbind H) (fun Kr hKr H => ?_) ?_
  · rcases bool_em (!x19_14) with hb | hb
    · replace H := M.ite_t hb H
      have hE := hE.reb 21 (!x19_14) true hb rfl
      refine t_off rfl hE rfl rfl rfl (fun a ea => ?_)
      have hE := Env.put_some hE rfl ea; clear ea
      refine t_off rfl hE rfl rfl rfl (fun a ea => ?_)
      have hE := Env.put_some hE rfl ea; clear ea
      refine t_val rfl rfl hE rfl (r_pick_t hE rfl rfl) (fun a hE => ?_)
      refine t_nil ?_
      exact hKr _ _ _ (hE.cut (.cons rfl (.cons rfl (.cons rfl (.cons rfl Subs.nil))))) hR H
    · replace H := M.ite_f hb H
      have hE := hE.reb 21 (!x19_14) false hb rfl
      refine t_on rfl hE rfl rfl rfl ?_
      refine t_val (v := .int .i64 x16_9.2) rfl rfl hE rfl (r_move hE rfl) (fun a hE => ?_)
      refine t_on rfl hE rfl rfl rfl ?_
      refine t_val (v := .bool (x16_9.2 != 50)) rfl rfl hE rfl (r_bin hE rfl rfl g_int b_neq) (fun a hE => ?_)
      refine t_val rfl rfl hE rfl (r_pick_f hE rfl rfl) (fun a hE => ?_)
      refine t_nil ?_
      exact hKr _ _ _ (hE.cut (.cons rfl (.cons rfl (.cons rfl (.cons rfl Subs.nil))))) hR H
  · intro x24_15 a w hE hR H
    refine t_nil ?_
    refine hK_13 _ _ ?_
    refine w_cond x24_15 hE rfl (fun hb => ?_) (fun hb => ?_)
    · replace H := M.ite_t hb H
      refine w_seq (fun K hK_16 => ?_)
      refine t_region ?_
      refine t_val (v := .bool false) rfl rfl hE rfl (r_assign hE rfl) (fun a hE => ?_)
      refine t_nil ?_
      refine hK_16 _ _ ?_
      refine w_ret ?_
      exact hret _ _ _ false _ hE hR (res_run hE rfl (RV.tmp rfl RV.nil)) rfl H
    · replace H := M.ite_f hb H
      refine w_skip ?_
      refine hK_12 _ _ ?_
      refine w_seq (fun K hK_17 => ?_)
      refine w_seq (fun K hK_18 => ?_)
      refine t_region ?_
      refine t_val (v := .int .i64 x11_5.2) rfl rfl hE rfl (r_move hE rfl) (fun a hE => ?_)
      refine t_val (v := .bool (x11_5.2 != 0)) rfl rfl hE rfl (r_bin hE rfl rfl g_int b_neq) (fun a hE => ?_)
      refine t_nil ?_
      refine hK_18 _ _ ?_
      refine w_cond (x11_5.2 != 0) hE rfl (fun hb => ?_) (fun hb => ?_)
      · replace H := M.ite_t hb H
        refine w_seq (fun K hK_19 => ?_)
        refine t_region ?_
        refine t_val (v := .int .i64 x11_5.2) rfl rfl hE rfl (r_move hE rfl) (fun a hE => ?_)
        refine t_val (v := .bool (x11_5.2 == 1)) rfl rfl hE rfl (r_bin hE rfl rfl g_int b_eql) (fun a hE => ?_)
        refine t_val (v := .bool (x11_5.2 == 1)) rfl rfl hE rfl (r_assign hE rfl) (fun a hE => ?_)
        refine t_nil ?_
        refine hK_19 _ _ ?_
        refine w_ret ?_
        exact hret _ _ _ (x11_5.2 == 1) _ hE hR (res_run hE rfl (RV.tmp rfl RV.nil)) rfl H
      · replace H := M.ite_f hb H
        refine w_skip ?_
        refine hK_17 _ _ ?_
        refine w_seq (fun K hK_20 => ?_)
        refine t_region ?_
        obtain ⟨x30_21, qx30_21, H⟩ := H
        refine t_val (v := .agg x30_21) rfl rfl hE rfl (r_loadG hE rfl ag26 qx30_21) (fun a hE => ?_)
        refine t_call hE hR cl10 rfl (S_sector_Open x30_21) (M.unbind H) (fun x31_22 a w ea hR H => ?_)
        have hE := Env.put_some hE rfl ea; clear ea
        refine t_val (v := .tuple #[.agg x31_22.1, .int .i64 x31_22.2]) rfl rfl hE rfl (r_move hE rfl) (fun a hE => ?_)
        refine t_val (v := .agg x31_22.1) rfl rfl hE rfl (r_extract hE rfl rfl) (fun a hE => ?_)
        refine t_val (v := .int .i64 x31_22.2) rfl rfl hE rfl (r_extract hE rfl rfl) (fun a hE => ?_)
        obtain ⟨x7_23, qx7_23, H⟩ := H
        refine t_valh (v := .pointer (some x7_23)) rfl rfl hE rfl hR (r_alloc zr24 qx7_23) (fun a w hE hR hh => ?_)
        replace H := M.at hh H; clear hh
        obtain ⟨qz, H⟩ := H
        obtain ⟨u_24, qu_24, H⟩ := H
        refine t_sth rfl rfl hE hR (r_storeG hE rfl rfl sz24 qz qu_24) (fun a w hE hR hh => ?_)
        replace H := M.at hh H; clear hh
        refine t_val (v := .int .i64 x31_22.2) rfl rfl hE rfl (r_assign hE rfl) (fun a hE => ?_)
        refine t_nil ?_
        refine hK_20 _ _ ?_
        refine w_seq (fun K hK_25 => ?_)
        refine t_region ?_
        refine t_val (v := .int .i64 x31_22.2) rfl rfl hE rfl (r_move hE rfl) (fun a hE => ?_)
        refine t_val (v := .bool (x31_22.2 == 0)) rfl rfl hE rfl (r_bin hE rfl rfl g_int b_eql) (fun a hE => ?_)
        refine t_val (v := .bool (x31_22.2 == 0)) rfl rfl hE rfl (r_move hE rfl) (fun a hE => ?_)
        refine t_grp (n := 41) (w0 := w0) 4 (fun x40_26 : Bool => [(40, .bool x40_26)]) (M.unbind H) (fun Kr hKr H => ?_) ?_
        · rcases bool_em (x31_22.2 == 0) with hb | hb
          · replace H := M.ite_t hb H
            have hE := hE.reb 36 (x31_22.2 == 0) true hb rfl
            refine t_on rfl hE rfl rfl rfl ?_
            obtain ⟨x37_27, qx37_27, H⟩ := H
            refine t_val (v := .agg x37_27) rfl rfl hE rfl (r_loadG hE rfl ag24 qx37_27) (fun a hE => ?_)
            refine t_on rfl hE rfl rfl rfl ?_
            obtain ⟨x38_28, qx38_28, H⟩ := H
            refine t_val (v := .agg x38_28) rfl rfl hE rfl (r_loadG hE rfl ag24 qx38_28) (fun a hE => ?_)
            refine t_on rfl hE rfl rfl rfl ?_
            refine t_call hE hR cl13 rfl (S_rambleref05_Same x37_27 x38_28) (M.unbind H) (fun x39_29 a w ea hR H => ?_)
            have hE := Env.put_some hE rfl ea; clear ea
            refine t_val rfl rfl hE rfl (r_pick_t hE rfl rfl) (fun a hE => ?_)
            refine t_nil ?_
            exact hKr _ _ _ (hE.cut (.cons rfl Subs.nil)) hR H
          · replace H := M.ite_f hb H
            have hE := hE.reb 36 (x31_22.2 == 0) false hb rfl
            refine t_off rfl hE rfl rfl rfl (fun a ea => ?_)
            have hE := Env.put_some hE rfl ea; clear ea
            refine t_off rfl hE rfl rfl rfl (fun a ea => ?_)
            have hE := Env.put_some hE rfl ea; clear ea
            refine t_off rfl hE rfl rfl rfl (fun a ea => ?_)
            have hE := Env.put_some hE rfl ea; clear ea
            refine t_val rfl rfl hE rfl (r_pick_f hE rfl rfl) (fun a hE => ?_)
            refine t_nil ?_
            exact hKr _ _ _ (hE.cut (.cons rfl Subs.nil)) hR H
        · intro x40_26 a w hE hR H
          refine t_val (v := .bool x40_26) rfl rfl hE rfl (r_assign hE rfl) (fun a hE => ?_)
          refine t_nil ?_
          refine hK_25 _ _ ?_
          refine w_ret ?_
          exact hret _ _ _ x40_26 _ hE hR (res_run hE rfl (RV.tmp rfl RV.nil)) rfl H

/-- ramble/disk.New -/
theorem tb22_3 : tabAt Go.Proofs.Try.f22 3 [[], [0, 0], [], [2, 2], [], [1, 3, 4], [5], [6, 0, 1, 2, 3, 4, 5, 6], [7, 0, 1, 2, 3, 4, 5, 6, 7]] [[], [0], [], [2], [], [1, 3, 4], [5], [6], []] [[], [0], [], [2], [], [0, 1, 2, 3, 4], [0, 1, 2, 3, 4, 5], [0, 1, 2, 3, 4, 5, 6], [0, 1, 2, 3, 4, 5, 6, 7]] = true := by kernel_rfl
def disk_New (x0 : Int) : M (Option Addr × Int) := do
  let x9_4 ← M.ite (decide (x0 < 1)) (do
    M.pure true
    ) (do
    M.pure (decide (x0 > 16384))
    )
  M.ite x9_4 (do
    M.pure ((none : Option Addr), 1)
    ) (do
    let y_22 ← do
      M.both (do
        let x11_7 ← mkS ty_api_Sector 128 128 (Array.replicate 128 (.int .u8 0) : Array Value) x0 x0
        M.both (do
          let x13_8 ← mkS ty_bool 1 1 (#[.bool false] : Array Value) x0 x0
          let x14_9 ← mkMap
          M.pure (x11_7, x13_8, x14_9, (#[(x11_7 : Sl).v, (x13_8 : Sl).v, .map x14_9, .bool false, .int .i64 0, .int .i64 0] : Array Value))
          ) (do
          let x14_10 ← mkMap
          let x13_11 ← mkS ty_bool 1 1 (#[.bool false] : Array Value) x0 x0
          M.pure (x11_7, x13_11, x14_10, (#[(x11_7 : Sl).v, (x13_11 : Sl).v, .map x14_10, .bool false, .int .i64 0, .int .i64 0] : Array Value))
          )
        ) (do
        M.both (do
          let x13_12 ← mkS ty_bool 1 1 (#[.bool false] : Array Value) x0 x0
          M.both (do
            let x11_13 ← mkS ty_api_Sector 128 128 (Array.replicate 128 (.int .u8 0) : Array Value) x0 x0
            let x14_14 ← mkMap
            M.pure (x11_13, x13_12, x14_14, (#[(x11_13 : Sl).v, (x13_12 : Sl).v, .map x14_14, .bool false, .int .i64 0, .int .i64 0] : Array Value))
            ) (do
            let x14_15 ← mkMap
            let x11_16 ← mkS ty_api_Sector 128 128 (Array.replicate 128 (.int .u8 0) : Array Value) x0 x0
            M.pure (x11_16, x13_12, x14_15, (#[(x11_16 : Sl).v, (x13_12 : Sl).v, .map x14_15, .bool false, .int .i64 0, .int .i64 0] : Array Value))
            )
          ) (do
          let x14_17 ← mkMap
          M.both (do
            let x11_18 ← mkS ty_api_Sector 128 128 (Array.replicate 128 (.int .u8 0) : Array Value) x0 x0
            let x13_19 ← mkS ty_bool 1 1 (#[.bool false] : Array Value) x0 x0
            M.pure (x11_18, x13_19, x14_17, (#[(x11_18 : Sl).v, (x13_19 : Sl).v, .map x14_17, .bool false, .int .i64 0, .int .i64 0] : Array Value))
            ) (do
            let x13_20 ← mkS ty_bool 1 1 (#[.bool false] : Array Value) x0 x0
            let x11_21 ← mkS ty_api_Sector 128 128 (Array.replicate 128 (.int .u8 0) : Array Value) x0 x0
            M.pure (x11_21, x13_20, x14_17, (#[(x11_21 : Sl).v, (x13_20 : Sl).v, .map x14_17, .bool false, .int .i64 0, .int .i64 0] : Array Value))
            )
          )
        )
    let x16_23 ← mkB ty_disk_Disk y_22.2.2.2
    M.pure (some x16_23, 0)
    )
theorem S_disk_New (x0 : Int) : Sound Go.Proofs.Try.prog 22 #[.int .i64 x0] (fun (r : Option Addr × Int) => .tuple #[.pointer r.1, .int .i64 r.2]) (disk_New x0) := by
  refine sound_of [(0, .int .i64 x0)] Go.Proofs.Try.func22 rfl rfl (Nat.le_of_ble_eq_true rfl) (args_of ⟨rfl, trivial⟩) (fun w0 w Q R a hret hE hR H => ?_)
  unfold disk_New at H
  refine w_seq (fun K hK_1 => ?_)
  refine t_region ?_
  refine t_val (v := .pointer (none : Option Addr)) rfl rfl hE rfl (r_assign hE rfl) (fun a hE => ?_)
  refine t_val (v := .int .i64 0) rfl rfl hE rfl (r_assign hE rfl) (fun a hE => ?_)
  refine t_nil ?_
  refine hK_1 _ _ ?_
  refine w_seq (fun K hK_2 => ?_)
  refine w_seq (fun K hK_3 => ?_)
  refine t_region ?_
  refine t_val (v := .int .i64 x0) rfl rfl hE rfl (r_move hE rfl) (fun a hE => ?_)
  refine t_val (v := .bool (decide (x0 < 1))) rfl rfl hE rfl (r_bin hE rfl rfl g_int b_lss) (fun a hE => ?_)
  refine t_val (v := .bool (decide (x0 < 1))) rfl rfl hE rfl (r_move hE rfl) (fun a hE => ?_)
  refine t_grp (n := 17) (w0 := w0) 3 (fun x9_4 : Bool => [(0, .int .i64 x0), (9, .bool x9_4)]) (M.unbind H) (fun Kr hKr H => ?_) ?_
  · rcases bool_em (decide (x0 < 1)) with hb | hb
    · replace H := M.ite_t hb H
      have hE := hE.reb 6 (decide (x0 < 1)) true hb rfl
      refine t_off rfl hE rfl rfl rfl (fun a ea => ?_)
      have hE := Env.put_some hE rfl ea; clear ea
      refine t_off rfl hE rfl rfl rfl (fun a ea => ?_)
      have hE := Env.put_some hE rfl ea; clear ea
      refine t_val rfl rfl hE rfl (r_pick_t hE rfl rfl) (fun a hE => ?_)
      refine t_nil ?_
      exact hKr _ _ _ (hE.cut (.cons rfl (.cons rfl Subs.nil))) hR H
    · replace H := M.ite_f hb H
      have hE := hE.reb 6 (decide (x0 < 1)) false hb rfl
      refine t_on rfl hE rfl rfl rfl ?_
      refine t_val (v := .int .i64 x0) rfl rfl hE rfl (r_move hE rfl) (fun a hE => ?_)
      refine t_on rfl hE rfl rfl rfl ?_
      refine t_val (v := .bool (decide (x0 > 16384))) rfl rfl hE rfl (r_bin hE rfl rfl g_int b_gtr) (fun a hE => ?_)
      refine t_val rfl rfl hE rfl (r_pick_f hE rfl rfl) (fun a hE => ?_)
      refine t_nil ?_
      exact hKr _ _ _ (hE.cut (.cons rfl (.cons rfl Subs.nil))) hR H
  · intro x9_4 a w hE hR H
    refine t_nil ?_
    refine hK_3 _ _ ?_
    refine w_cond x9_4 hE rfl (fun hb => ?_) (fun hb => ?_)
    · replace H := M.ite_t hb H
      refine w_seq (fun K hK_5 => ?_)
      refine t_region ?_
      refine t_val (v := .pointer (none : Option Addr)) rfl rfl hE rfl (r_assign hE rfl) (fun a hE => ?_)
      refine t_val (v := .int .i64 1) rfl rfl hE rfl (r_assign hE rfl) (fun a hE => ?_)
      refine t_nil ?_
      refine hK_5 _ _ ?_
      refine w_ret ?_
      exact hret _ _ _ ((none : Option Addr), 1) _ hE hR (res_run hE rfl (RV.tmp rfl (RV.tmp rfl RV.nil))) rfl H
    · replace H := M.ite_f hb H
      refine w_skip ?_
      refine hK_2 _ _ ?_
      refine w_seq (fun K hK_6 => ?_)
      have hT := tab_of tb22_3 rfl rfl
      refine d_start (fun w : World => (fun h : Heap => True) w.heap) [0, 1, 2, 3, 4, 5, 6, 7, 8] #[false, false, false, false, false, false, false, false, false] mo hR rfl rfl (fun w' e => by rw [e]; exact trivial) (fun w hh hR hs => ?_)
      replace H := M.at hh H; clear hh
      refine d_pureg (i := 0) (v := .int .i64 x0) #[true, false, false, false, false, false, false, false, false] rfl rfl hT (by kernel_rfl) hE rfl (wanted_none rfl) (fun w => r_move hE rfl) (fun a hE => ?_)
      refine d_pureg (i := 2) (v := .int .i64 x0) #[true, false, true, false, false, false, false, false, false] rfl rfl hT (by kernel_rfl) hE rfl (wanted_none rfl) (fun w => r_move hE rfl) (fun a hE => ?_)
      refine d_join (n := 17) (w0 := w0) (fun y_22 : Sl × Sl × Option Nat × Array Value => [(0, .int .i64 x0), (9, .bool x9_4), (10, .int .i64 x0), (12, .int .i64 x0), (11, (y_22.1 : Sl).v), (13, (y_22.2.1 : Sl).v), (14, .map y_22.2.2.1), (15, .agg y_22.2.2.2)]) 3 #[true, true, true, true, true, true, false, false, false] (M.unbind H) ?_ ?_
      · intro y_22 a w hE hR H
        obtain ⟨x16_23, qx16_23, H⟩ := H
        refine d_lasth (i := 6) (v := .pointer (some x16_23)) #[true, true, true, true, true, true, true, false, false] rfl rfl hT (by kernel_rfl) rfl hE hR rfl (wanted_none rfl) (r_box hE rfl qx16_23)  (fun a w hE hR hh => ?_)
        replace H := M.at hh H; clear hh
        refine d_pureg (i := 7) (v := .pointer (some x16_23)) #[true, true, true, true, true, true, true, true, false] rfl rfl hT (by kernel_rfl) hE rfl (wanted_none rfl) (fun w => r_assign hE rfl) (fun a hE => ?_)
        refine d_pureg (i := 8) (v := .int .i64 0) #[true, true, true, true, true, true, true, true, true] rfl rfl hT (by kernel_rfl) hE rfl (wanted_none rfl) (fun w => r_assign hE rfl) (fun a hE => ?_)
        refine d_done hT (by kernel_rfl) ?_
        refine hK_6 _ _ ?_
        refine w_ret ?_
        exact hret _ _ _ (some x16_23, 0) _ hE hR (res_run hE rfl (RV.tmp rfl (RV.tmp rfl RV.nil))) rfl H
      · intro hj H
        refine d_pick [1, 3, 4] hT (by kernel_rfl) rfl (fun i hi => ?_)
        simp only [List.mem_cons, List.not_mem_nil, or_false] at hi
        rcases hi with rfl | rfl | rfl
        · replace H := H.1
          refine p_ex (S := fun w : World => (fun h : Heap => True) w.heap) (i := 1) (fun x11_7 => (x11_7 : Sl).v) #[true, true, true, false, false, false, false, false, false] rfl rfl (by kernel_rfl) hR (wanted_none rfl) (M.unbind H) (fun Q H => mkS_run hE rfl rfl ap74 H) (fun _ _ _ _ _ => trivial) (fun x11_7 a w ea hR H hs => ?_)
          have hE := Env.put_some hE rfl ea; clear ea
          refine d_pick [3, 4] hT (by kernel_rfl) rfl (fun i hi => ?_)
          simp only [List.mem_cons, List.not_mem_nil, or_false] at hi
          rcases hi with rfl | rfl
          · replace H := H.1
            refine p_ex (S := fun w : World => (fun h : Heap => True) w.heap) (i := 3) (fun x13_8 => (x13_8 : Sl).v) #[true, true, true, true, false, false, false, false, false] rfl rfl (by kernel_rfl) hR (wanted_none rfl) (M.unbind H) (fun Q H => mkS_run hE rfl rfl ap75 H) (fun _ _ _ _ _ => trivial) (fun x13_8 a w ea hR H hs => ?_)
            have hE := Env.put_some hE rfl ea; clear ea
            obtain ⟨x14_9, qx14_9, H⟩ := H
            refine d_lasth (i := 4) (v := .map x14_9) #[true, true, true, true, true, false, false, false, false] rfl rfl hT (by kernel_rfl) rfl hE hR rfl (wanted_none rfl) (r_makeMap qx14_9)  (fun a w hE hR hh => ?_)
            replace H := M.at hh H; clear hh
            refine d_pureg (i := 5) (v := .agg (#[(x11_7 : Sl).v, (x13_8 : Sl).v, .map x14_9, .bool false, .int .i64 0, .int .i64 0] : Array Value)) #[true, true, true, true, true, true, false, false, false] rfl rfl hT (by kernel_rfl) hE rfl (wanted_none rfl) (fun w => r_build hE rfl zr78 pl78 (by rfl)) (fun a hE => ?_)
            exact hj _ _ _ (hE.cut (.cons rfl (.cons rfl (.cons rfl (.cons rfl (.cons rfl (.cons rfl (.cons rfl (.cons rfl Subs.nil))))))))) hR H
          · replace H := H.2
            obtain ⟨x14_10, qx14_10, H⟩ := H
            refine p_valh (S := fun w : World => (fun h : Heap => True) w.heap) (i := 4) (v := .map x14_10) #[true, true, true, false, true, false, false, false, false] rfl rfl (by kernel_rfl) hE hR rfl (wanted_none rfl) (r_makeMap qx14_10)  (fun _ _ => trivial) (fun a w hE hR hh hs => ?_)
            replace H := M.at hh H; clear hh
            refine d_exl (i := 3) (fun x13_11 => (x13_11 : Sl).v) #[true, true, true, true, true, false, false, false, false] rfl rfl hT (by kernel_rfl) rfl hR (wanted_none rfl) (M.unbind H) (fun Q H => mkS_run hE rfl rfl ap75 H) (fun x13_11 a w ea hR H => ?_)
            have hE := Env.put_some hE rfl ea; clear ea
            refine d_pureg (i := 5) (v := .agg (#[(x11_7 : Sl).v, (x13_11 : Sl).v, .map x14_10, .bool false, .int .i64 0, .int .i64 0] : Array Value)) #[true, true, true, true, true, true, false, false, false] rfl rfl hT (by kernel_rfl) hE rfl (wanted_none rfl) (fun w => r_build hE rfl zr78 pl78 (by rfl)) (fun a hE => ?_)
            exact hj _ _ _ (hE.cut (.cons rfl (.cons rfl (.cons rfl (.cons rfl (.cons rfl (.cons rfl (.cons rfl (.cons rfl Subs.nil))))))))) hR H
        · replace H := H.2.1
          refine p_ex (S := fun w : World => (fun h : Heap => True) w.heap) (i := 3) (fun x13_12 => (x13_12 : Sl).v) #[true, false, true, true, false, false, false, false, false] rfl rfl (by kernel_rfl) hR (wanted_none rfl) (M.unbind H) (fun Q H => mkS_run hE rfl rfl ap75 H) (fun _ _ _ _ _ => trivial) (fun x13_12 a w ea hR H hs => ?_)
          have hE := Env.put_some hE rfl ea; clear ea
          refine d_pick [1, 4] hT (by kernel_rfl) rfl (fun i hi => ?_)
          simp only [List.mem_cons, List.not_mem_nil, or_false] at hi
          rcases hi with rfl | rfl
          · replace H := H.1
            refine p_ex (S := fun w : World => (fun h : Heap => True) w.heap) (i := 1) (fun x11_13 => (x11_13 : Sl).v) #[true, true, true, true, false, false, false, false, false] rfl rfl (by kernel_rfl) hR (wanted_none rfl) (M.unbind H) (fun Q H => mkS_run hE rfl rfl ap74 H) (fun _ _ _ _ _ => trivial) (fun x11_13 a w ea hR H hs => ?_)
            have hE := Env.put_some hE rfl ea; clear ea
            obtain ⟨x14_14, qx14_14, H⟩ := H
            refine d_lasth (i := 4) (v := .map x14_14) #[true, true, true, true, true, false, false, false, false] rfl rfl hT (by kernel_rfl) rfl hE hR rfl (wanted_none rfl) (r_makeMap qx14_14)  (fun a w hE hR hh => ?_)
            replace H := M.at hh H; clear hh
            refine d_pureg (i := 5) (v := .agg (#[(x11_13 : Sl).v, (x13_12 : Sl).v, .map x14_14, .bool false, .int .i64 0, .int .i64 0] : Array Value)) #[true, true, true, true, true, true, false, false, false] rfl rfl hT (by kernel_rfl) hE rfl (wanted_none rfl) (fun w => r_build hE rfl zr78 pl78 (by rfl)) (fun a hE => ?_)
            exact hj _ _ _ (hE.cut (.cons rfl (.cons rfl (.cons rfl (.cons rfl (.cons rfl (.cons rfl (.cons rfl (.cons rfl Subs.nil))))))))) hR H
          · replace H := H.2
            obtain ⟨x14_15, qx14_15, H⟩ := H
            refine p_valh (S := fun w : World => (fun h : Heap => True) w.heap) (i := 4) (v := .map x14_15) #[true, false, true, true, true, false, false, false, false] rfl rfl (by kernel_rfl) hE hR rfl (wanted_none rfl) (r_makeMap qx14_15)  (fun _ _ => trivial) (fun a w hE hR hh hs => ?_)
            replace H := M.at hh H; clear hh
            refine d_exl (i := 1) (fun x11_16 => (x11_16 : Sl).v) #[true, true, true, true, true, false, false, false, false] rfl rfl hT (by kernel_rfl) rfl hR (wanted_none rfl) (M.unbind H) (fun Q H => mkS_run hE rfl rfl ap74 H) (fun x11_16 a w ea hR H => ?_)
            have hE := Env.put_some hE rfl ea; clear ea
            refine d_pureg (i := 5) (v := .agg (#[(x11_16 : Sl).v, (x13_12 : Sl).v, .map x14_15, .bool false, .int .i64 0, .int .i64 0] : Array Value)) #[true, true, true, true, true, true, false, false, false] rfl rfl hT (by kernel_rfl) hE rfl (wanted_none rfl) (fun w => r_build hE rfl zr78 pl78 (by rfl)) (fun a hE => ?_)
            exact hj _ _ _ (hE.cut (.cons rfl (.cons rfl (.cons rfl (.cons rfl (.cons rfl (.cons rfl (.cons rfl (.cons rfl Subs.nil))))))))) hR H
        · replace H := H.2.2
          obtain ⟨x14_17, qx14_17, H⟩ := H
          refine p_valh (S := fun w : World => (fun h : Heap => True) w.heap) (i := 4) (v := .map x14_17) #[true, false, true, false, true, false, false, false, false] rfl rfl (by kernel_rfl) hE hR rfl (wanted_none rfl) (r_makeMap qx14_17)  (fun _ _ => trivial) (fun a w hE hR hh hs => ?_)
          replace H := M.at hh H; clear hh
          refine d_pick [1, 3] hT (by kernel_rfl) rfl (fun i hi => ?_)
          simp only [List.mem_cons, List.not_mem_nil, or_false] at hi
          rcases hi with rfl | rfl
          · replace H := H.1
            refine p_ex (S := fun w : World => (fun h : Heap => True) w.heap) (i := 1) (fun x11_18 => (x11_18 : Sl).v) #[true, true, true, false, true, false, false, false, false] rfl rfl (by kernel_rfl) hR (wanted_none rfl) (M.unbind H) (fun Q H => mkS_run hE rfl rfl ap74 H) (fun _ _ _ _ _ => trivial) (fun x11_18 a w ea hR H hs => ?_)
            have hE := Env.put_some hE rfl ea; clear ea
            refine d_exl (i := 3) (fun x13_19 => (x13_19 : Sl).v) #[true, true, true, true, true, false, false, false, false] rfl rfl hT (by kernel_rfl) rfl hR (wanted_none rfl) (M.unbind H) (fun Q H => mkS_run hE rfl rfl ap75 H) (fun x13_19 a w ea hR H => ?_)
            have hE := Env.put_some hE rfl ea; clear ea
            refine d_pureg (i := 5) (v := .agg (#[(x11_18 : Sl).v, (x13_19 : Sl).v, .map x14_17, .bool false, .int .i64 0, .int .i64 0] : Array Value)) #[true, true, true, true, true, true, false, false, false] rfl rfl hT (by kernel_rfl) hE rfl (wanted_none rfl) (fun w => r_build hE rfl zr78 pl78 (by rfl)) (fun a hE => ?_)
            exact hj _ _ _ (hE.cut (.cons rfl (.cons rfl (.cons rfl (.cons rfl (.cons rfl (.cons rfl (.cons rfl (.cons rfl Subs.nil))))))))) hR H
          · replace H := H.2
            refine p_ex (S := fun w : World => (fun h : Heap => True) w.heap) (i := 3) (fun x13_20 => (x13_20 : Sl).v) #[true, false, true, true, true, false, false, false, false] rfl rfl (by kernel_rfl) hR (wanted_none rfl) (M.unbind H) (fun Q H => mkS_run hE rfl rfl ap75 H) (fun _ _ _ _ _ => trivial) (fun x13_20 a w ea hR H hs => ?_)
            have hE := Env.put_some hE rfl ea; clear ea
            refine d_exl (i := 1) (fun x11_21 => (x11_21 : Sl).v) #[true, true, true, true, true, false, false, false, false] rfl rfl hT (by kernel_rfl) rfl hR (wanted_none rfl) (M.unbind H) (fun Q H => mkS_run hE rfl rfl ap74 H) (fun x11_21 a w ea hR H => ?_)
            have hE := Env.put_some hE rfl ea; clear ea
            refine d_pureg (i := 5) (v := .agg (#[(x11_21 : Sl).v, (x13_20 : Sl).v, .map x14_17, .bool false, .int .i64 0, .int .i64 0] : Array Value)) #[true, true, true, true, true, true, false, false, false] rfl rfl hT (by kernel_rfl) hE rfl (wanted_none rfl) (fun w => r_build hE rfl zr78 pl78 (by rfl)) (fun a hE => ?_)
            exact hj _ _ _ (hE.cut (.cons rfl (.cons rfl (.cons rfl (.cons rfl (.cons rfl (.cons rfl (.cons rfl (.cons rfl Subs.nil))))))))) hR H

/-- (*ramble/disk.Disk).none -/
def disk_Disk_none (x0 : Option Addr) : M (Bool) := do
  let x11_3 ← M.ite ((x0).isNone) (do
    M.pure true
    ) (do
    let x7_4 ← nilP x0
    let x9_5 ← ldMp ((x7_4).add 2)
    M.pure ((x9_5).isNone)
    )
  M.pure x11_3
theorem S_disk_Disk_none (x0 : Option Addr) : Sound Go.Proofs.Try.prog 43 #[.pointer x0] (fun (r : Bool) => .bool r) (disk_Disk_none x0) := by
  refine sound_of [(0, .pointer x0)] Go.Proofs.Try.func43 rfl rfl (Nat.le_of_ble_eq_true rfl) (args_of ⟨rfl, trivial⟩) (fun w0 w Q R a hret hE hR H => ?_)
  unfold disk_Disk_none at H
  refine w_seq (fun K hK_1 => ?_)
  refine t_region ?_
  refine t_val (v := .bool false) rfl rfl hE rfl (r_assign hE rfl) (fun a hE => ?_)
  refine t_nil ?_
  refine hK_1 _ _ ?_
  refine w_seq (fun K hK_2 => ?_)
  refine t_region ?_
  refine t_val (v := .pointer x0) rfl rfl hE rfl (r_move hE rfl) (fun a hE => ?_)
  refine t_val (v := .bool ((x0).isNone)) rfl rfl hE rfl (r_bin hE rfl rfl g_ptr (b_eqlP un46)) (fun a hE => ?_)
  refine t_val (v := .bool ((x0).isNone)) rfl rfl hE rfl (r_move hE rfl) (fun a hE => ?_)
  refine t_grp (n := 12) (w0 := w0) 6 (fun x11_3 : Bool => [(2, .bool false), (11, .bool x11_3)]) (M.unbind H) (fun Kr hKr H => ?_) ?_
  · rcases bool_em ((x0).isNone) with hb | hb
    · replace H := M.ite_t hb H
      have hE := hE.reb 5 ((x0).isNone) true hb rfl
      refine t_off rfl hE rfl rfl rfl (fun a ea => ?_)
      have hE := Env.put_some hE rfl ea; clear ea
      refine t_off rfl hE rfl rfl rfl (fun a ea => ?_)
      have hE := Env.put_some hE rfl ea; clear ea
      refine t_off rfl hE rfl rfl rfl (fun a ea => ?_)
      have hE := Env.put_some hE rfl ea; clear ea
      refine t_off rfl hE rfl rfl rfl (fun a ea => ?_)
      have hE := Env.put_some hE rfl ea; clear ea
      refine t_off rfl hE rfl rfl rfl (fun a ea => ?_)
      have hE := Env.put_some hE rfl ea; clear ea
      refine t_val rfl rfl hE rfl (r_pick_t hE rfl rfl) (fun a hE => ?_)
      refine t_nil ?_
      exact hKr _ _ _ (hE.cut (.cons rfl (.cons rfl Subs.nil))) hR H
    · replace H := M.ite_f hb H
      have hE := hE.reb 5 ((x0).isNone) false hb rfl
      refine t_on rfl hE rfl rfl rfl ?_
      refine t_val (v := .pointer x0) rfl rfl hE rfl (r_move hE rfl) (fun a hE => ?_)
      refine t_on rfl hE rfl rfl rfl ?_
      obtain ⟨x7_4, qx7_4, H⟩ := H
      refine t_val (v := .pointer (some x7_4)) rfl rfl hE rfl (r_nilCheck hE (hx_eq rfl (congrArg Value.pointer qx7_4))) (fun a hE => ?_)
      refine t_on rfl hE rfl rfl rfl ?_
      refine t_val (v := .pointer (some ((x7_4).add 2))) rfl rfl hE rfl (r_fieldAddr hE rfl fd78_2) (fun a hE => ?_)
      refine t_on rfl hE rfl rfl rfl ?_
      obtain ⟨x9_5, qx9_5, H⟩ := H
      refine t_val (v := .map x9_5) rfl rfl hE rfl (r_load hE rfl sc76 qx9_5) (fun a hE => ?_)
      refine t_on rfl hE rfl rfl rfl ?_
      refine t_val (v := .bool ((x9_5).isNone)) rfl rfl hE rfl (r_bin hE rfl rfl g_mp (b_eqlM un76)) (fun a hE => ?_)
      refine t_val rfl rfl hE rfl (r_pick_f hE rfl rfl) (fun a hE => ?_)
      refine t_nil ?_
      exact hKr _ _ _ (hE.cut (.cons rfl (.cons rfl Subs.nil))) hR H
  · intro x11_3 a w hE hR H
    refine t_val (v := .bool x11_3) rfl rfl hE rfl (r_assign hE rfl) (fun a hE => ?_)
    refine t_nil ?_
    refine hK_2 _ _ ?_
    refine w_ret ?_
    exact hret _ _ _ x11_3 _ hE hR (res_run hE rfl (RV.tmp rfl RV.nil)) rfl H

/-- (*ramble/disk.Disk).can -/
def disk_Disk_can (x0 : Option Addr) : M (Int) := do
  let x5_4 ← disk_Disk_none x0
  M.ite x5_4 (do
    M.pure 2
    ) (do
    let x8_7 ← nilP x0
    let x10_8 ← ldB ((x8_7).add 3)
    M.ite x10_8 (do
      M.pure 9
      ) (do
      M.pure 0
      )
    )
theorem S_disk_Disk_can (x0 : Option Addr) : Sound Go.Proofs.Try.prog 39 #[.pointer x0] (fun (r : Int) => .int .i64 r) (disk_Disk_can x0) := by
  refine sound_of [(0, .pointer x0)] Go.Proofs.Try.func39 rfl rfl (Nat.le_of_ble_eq_true rfl) (args_of ⟨rfl, trivial⟩) (fun w0 w Q R a hret hE hR H => ?_)
  unfold disk_Disk_can at H
  refine w_seq (fun K hK_1 => ?_)
  refine t_region ?_
  refine t_val (v := .int .i64 0) rfl rfl hE rfl (r_assign hE rfl) (fun a hE => ?_)
  refine t_nil ?_
  refine hK_1 _ _ ?_
  refine w_seq (fun K hK_2 => ?_)
  refine w_block ?_
  refine w_seq (fun K hK_3 => ?_)
  refine t_region ?_
  refine t_val (v := .pointer x0) rfl rfl hE rfl (r_move hE rfl) (fun a hE => ?_)
  refine t_call hE hR cl43 rfl (S_disk_Disk_none x0) (M.unbind H) (fun x5_4 a w ea hR H => ?_)
  have hE := Env.put_some hE rfl ea; clear ea
  refine t_val (v := .bool x5_4) rfl rfl hE rfl (r_assign hE rfl) (fun a hE => ?_)
  refine t_nil ?_
  refine hK_3 _ _ ?_
  refine w_cond x5_4 hE rfl (fun hb => ?_) (fun hb => ?_)
  · replace H := M.ite_t hb H
    refine w_seq (fun K hK_5 => ?_)
    refine t_region ?_
    refine t_val (v := .int .i64 2) rfl rfl hE rfl (r_assign hE rfl) (fun a hE => ?_)
    refine t_nil ?_
    refine hK_5 _ _ ?_
    refine w_ret ?_
    exact hret _ _ _ 2 _ hE hR (res_run hE rfl (RV.tmp rfl RV.nil)) rfl H
  · replace H := M.ite_f hb H
    refine w_seq (fun K hK_6 => ?_)
    refine t_region ?_
    refine t_val (v := .pointer x0) rfl rfl hE rfl (r_move hE rfl) (fun a hE => ?_)
    obtain ⟨x8_7, qx8_7, H⟩ := H
    refine t_val (v := .pointer (some x8_7)) rfl rfl hE rfl (r_nilCheck hE (hx_eq rfl (congrArg Value.pointer qx8_7))) (fun a hE => ?_)
    refine t_val (v := .pointer (some ((x8_7).add 3))) rfl rfl hE rfl (r_fieldAddr hE rfl fd78_3) (fun a hE => ?_)
    obtain ⟨x10_8, qx10_8, H⟩ := H
    refine t_val (v := .bool x10_8) rfl rfl hE rfl (r_load hE rfl sc4 qx10_8) (fun a hE => ?_)
    refine t_val (v := .bool x10_8) rfl rfl hE rfl (r_assign hE rfl) (fun a hE => ?_)
    refine t_nil ?_
    refine hK_6 _ _ ?_
    refine w_cond x10_8 hE rfl (fun hb => ?_) (fun hb => ?_)
    · replace H := M.ite_t hb H
      refine w_seq (fun K hK_9 => ?_)
      refine t_region ?_
      refine t_val (v := .int .i64 9) rfl rfl hE rfl (r_assign hE rfl) (fun a hE => ?_)
      refine t_nil ?_
      refine hK_9 _ _ ?_
      refine w_ret ?_
      exact hret _ _ _ 9 _ hE hR (res_run hE rfl (RV.tmp rfl RV.nil)) rfl H
    · replace H := M.ite_f hb H
      refine w_skip ?_
      refine hK_2 _ _ ?_
      refine w_seq (fun K hK_10 => ?_)
      refine t_region ?_
      refine t_val (v := .int .i64 0) rfl rfl hE rfl (r_assign hE rfl) (fun a hE => ?_)
      refine t_nil ?_
      refine hK_10 _ _ ?_
      refine w_ret ?_
      exact hret _ _ _ 0 _ hE hR (res_run hE rfl (RV.tmp rfl RV.nil)) rfl H

/-- (*ramble/disk.Disk).there -/
def disk_Disk_there (x0 : Option Addr) (x1 : Int) : M (Int) := do
  let x15_4 ← M.ite (decide (x1 < 0)) (do
    M.pure true
    ) (do
    let x10_5 ← nilP x0
    let x12_6 ← ldL ((x10_5).add 0)
    M.pure (decide (x1 ≥ (x12_6.len : Int)))
    )
  M.ite x15_4 (do
    M.pure 41
    ) (do
    M.pure 0
    )
theorem S_disk_Disk_there (x0 : Option Addr) (x1 : Int) : Sound Go.Proofs.Try.prog 40 #[.pointer x0, .int .i64 x1] (fun (r : Int) => .int .i64 r) (disk_Disk_there x0 x1) := by
  refine sound_of [(0, .pointer x0), (1, .int .i64 x1)] Go.Proofs.Try.func40 rfl rfl (Nat.le_of_ble_eq_true rfl) (args_of ⟨rfl, rfl, trivial⟩) (fun w0 w Q R a hret hE hR H => ?_)
  unfold disk_Disk_there at H
  refine w_seq (fun K hK_1 => ?_)
  refine t_region ?_
  refine t_val (v := .int .i64 0) rfl rfl hE rfl (r_assign hE rfl) (fun a hE => ?_)
  refine t_nil ?_
  refine hK_1 _ _ ?_
  refine w_seq (fun K hK_2 => ?_)
  refine w_seq (fun K hK_3 => ?_)
  refine t_region ?_
  refine t_val (v := .int .i64 x1) rfl rfl hE rfl (r_move hE rfl) (fun a hE => ?_)
  refine t_val (v := .bool (decide (x1 < 0))) rfl rfl hE rfl (r_bin hE rfl rfl g_int b_lss) (fun a hE => ?_)
  refine t_val (v := .bool (decide (x1 < 0))) rfl rfl hE rfl (r_move hE rfl) (fun a hE => ?_)
  refine t_grp (n := 16) (w0 := w0) 8 (fun x15_4 : Bool => [(15, .bool x15_4)]) (M.unbind H) (fun Kr hKr H => ?_) ?_
  · rcases bool_em (decide (x1 < 0)) with hb | hb
    · replace H := M.ite_t hb H
      have hE := hE.reb 7 (decide (x1 < 0)) true hb rfl
      refine t_off rfl hE rfl rfl rfl (fun a ea => ?_)
      have hE := Env.put_some hE rfl ea; clear ea
      refine t_off rfl hE rfl rfl rfl (fun a ea => ?_)
      have hE := Env.put_some hE rfl ea; clear ea
      refine t_off rfl hE rfl rfl rfl (fun a ea => ?_)
      have hE := Env.put_some hE rfl ea; clear ea
      refine t_off rfl hE rfl rfl rfl (fun a ea => ?_)
      have hE := Env.put_some hE rfl ea; clear ea
      refine t_off rfl hE rfl rfl rfl (fun a ea => ?_)
      have hE := Env.put_some hE rfl ea; clear ea
      refine t_off rfl hE rfl rfl rfl (fun a ea => ?_)
      have hE := Env.put_some hE rfl ea; clear ea
      refine t_off rfl hE rfl rfl rfl (fun a ea => ?_)
      have hE := Env.put_some hE rfl ea; clear ea
      refine t_val rfl rfl hE rfl (r_pick_t hE rfl rfl) (fun a hE => ?_)
      refine t_nil ?_
      exact hKr _ _ _ (hE.cut (.cons rfl Subs.nil)) hR H
    · replace H := M.ite_f hb H
      have hE := hE.reb 7 (decide (x1 < 0)) false hb rfl
      refine t_on rfl hE rfl rfl rfl ?_
      refine t_val (v := .int .i64 x1) rfl rfl hE rfl (r_move hE rfl) (fun a hE => ?_)
      refine t_on rfl hE rfl rfl rfl ?_
      refine t_val (v := .pointer x0) rfl rfl hE rfl (r_move hE rfl) (fun a hE => ?_)
      refine t_on rfl hE rfl rfl rfl ?_
      obtain ⟨x10_5, qx10_5, H⟩ := H
      refine t_val (v := .pointer (some x10_5)) rfl rfl hE rfl (r_nilCheck hE (hx_eq rfl (congrArg Value.pointer qx10_5))) (fun a hE => ?_)
      refine t_on rfl hE rfl rfl rfl ?_
      refine t_val (v := .pointer (some ((x10_5).add 0))) rfl rfl hE rfl (r_fieldAddr hE rfl fd78_0) (fun a hE => ?_)
      refine t_on rfl hE rfl rfl rfl ?_
      obtain ⟨x12_6, qx12_6, H⟩ := H
      refine t_val (v := (x12_6 : Sl).v) rfl rfl hE rfl (r_load hE rfl sc74 qx12_6) (fun a hE => ?_)
      refine t_on rfl hE rfl rfl rfl ?_
      refine t_val (v := .int .i64 (x12_6.len : Int)) rfl rfl hE rfl (r_len hE rfl 26 un74) (fun a hE => ?_)
      refine t_on rfl hE rfl rfl rfl ?_
      refine t_val (v := .bool (decide (x1 ≥ (x12_6.len : Int)))) rfl rfl hE rfl (r_bin hE rfl rfl g_int b_geq) (fun a hE => ?_)
      refine t_val rfl rfl hE rfl (r_pick_f hE rfl rfl) (fun a hE => ?_)
      refine t_nil ?_
      exact hKr _ _ _ (hE.cut (.cons rfl Subs.nil)) hR H
  · intro x15_4 a w hE hR H
    refine t_nil ?_
    refine hK_3 _ _ ?_
    refine w_cond x15_4 hE rfl (fun hb => ?_) (fun hb => ?_)
    · replace H := M.ite_t hb H
      refine w_seq (fun K hK_7 => ?_)
      refine t_region ?_
      refine t_val (v := .int .i64 41) rfl rfl hE rfl (r_assign hE rfl) (fun a hE => ?_)
      refine t_nil ?_
      refine hK_7 _ _ ?_
      refine w_ret ?_
      exact hret _ _ _ 41 _ hE hR (res_run hE rfl (RV.tmp rfl RV.nil)) rfl H
    · replace H := M.ite_f hb H
      refine w_skip ?_
      refine hK_2 _ _ ?_
      refine w_seq (fun K hK_8 => ?_)
      refine t_region ?_
      refine t_val (v := .int .i64 0) rfl rfl hE rfl (r_assign hE rfl) (fun a hE => ?_)
      refine t_nil ?_
      refine hK_8 _ _ ?_
      refine w_ret ?_
      exact hret _ _ _ 0 _ hE hR (res_run hE rfl (RV.tmp rfl RV.nil)) rfl H

/-- (*ramble/disk.Disk).call -/
def disk_Disk_call_j1 (c0_2 : Option Addr) : M (Int) := do
  let x24_4 ← nilP c0_2
  let x26_5 ← ldI .i64 ((x24_4).add 5)
  let x28_6 ← nilP c0_2
  stV ((x28_6).add 5) (.int .i64 (IntKind.wrap .i64 (x26_5 + 1)))
  M.pure 0
def disk_Disk_call (x0 : Option Addr) : M (Int) := do
  let x4_10 ← nilP x0
  let x6_11 ← ldI .i64 ((x4_10).add 4)
  M.ite (decide (x6_11 > 0)) (do
    let x9_13 ← nilP x0
    let x11_14 ← ldI .i64 ((x9_13).add 4)
    let x13_15 ← nilP x0
    stV ((x13_15).add 4) (.int .i64 (IntKind.wrap .i64 (x11_14 - 1)))
    let x16_18 ← nilP x0
    let x18_19 ← ldI .i64 ((x16_18).add 4)
    M.ite (x18_19 == 0) (do
      let x21_21 ← nilP x0
      stV ((x21_21).add 3) (.bool true)
      M.pure 9
      ) (do
      disk_Disk_call_j1 x0
      )
    ) (do
    disk_Disk_call_j1 x0
    )
theorem S_disk_Disk_call (x0 : Option Addr) : Sound Go.Proofs.Try.prog 41 #[.pointer x0] (fun (r : Int) => .int .i64 r) (disk_Disk_call x0) := by
  refine sound_of [(0, .pointer x0)] Go.Proofs.Try.func41 rfl rfl (Nat.le_of_ble_eq_true rfl) (args_of ⟨rfl, trivial⟩) (fun w0 w Q R a hret hE hR H => ?_)
  unfold disk_Disk_call at H
  refine w_seq (fun K hK_1 => ?_)
  refine t_region ?_
  refine t_val (v := .int .i64 0) rfl rfl hE rfl (r_assign hE rfl) (fun a hE => ?_)
  refine t_nil ?_
  refine hK_1 _ _ ?_
  refine w_seq_join (fun a w => Env 30 a [(0, .pointer x0)] ∧ Rest w0 w ∧ (disk_Disk_call_j1 x0).wp w.heap Q) ?_ ?_
  · rintro a w ⟨hE, hR, H⟩
    unfold disk_Disk_call_j1 at H
    refine w_seq (fun K hK_3 => ?_)
    refine t_region ?_
    refine t_val (v := .pointer x0) rfl rfl hE rfl (r_move hE rfl) (fun a hE => ?_)
    obtain ⟨x24_4, qx24_4, H⟩ := H
    refine t_val (v := .pointer (some x24_4)) rfl rfl hE rfl (r_nilCheck hE (hx_eq rfl (congrArg Value.pointer qx24_4))) (fun a hE => ?_)
    refine t_val (v := .pointer (some ((x24_4).add 5))) rfl rfl hE rfl (r_fieldAddr hE rfl fd78_5) (fun a hE => ?_)
    obtain ⟨x26_5, qx26_5, H⟩ := H
    refine t_val (v := .int .i64 x26_5) rfl rfl hE rfl (r_load hE rfl sc2 qx26_5) (fun a hE => ?_)
    refine t_val (v := .int .i64 (IntKind.wrap .i64 (x26_5 + 1))) rfl rfl hE rfl (r_bin hE rfl rfl g_int b_add) (fun a hE => ?_)
    obtain ⟨x28_6, qx28_6, H⟩ := H
    refine t_val (v := .pointer (some x28_6)) rfl rfl hE rfl (r_nilCheck hE (hx_eq rfl (congrArg Value.pointer qx28_6))) (fun a hE => ?_)
    refine t_val (v := .pointer (some ((x28_6).add 5))) rfl rfl hE rfl (r_fieldAddr hE rfl fd78_5) (fun a hE => ?_)
    obtain ⟨u_7, qu_7, H⟩ := H
    refine t_sth rfl rfl hE hR (r_store hE rfl rfl sz2 qu_7) (fun a w hE hR hh => ?_)
    replace H := M.at hh H; clear hh
    refine t_nil ?_
    refine hK_3 _ _ ?_
    refine w_seq (fun K hK_8 => ?_)
    refine t_region ?_
    refine t_val (v := .int .i64 0) rfl rfl hE rfl (r_assign hE rfl) (fun a hE => ?_)
    refine t_nil ?_
    refine hK_8 _ _ ?_
    refine w_ret ?_
    exact hret _ _ _ 0 _ hE hR (res_run hE rfl (RV.tmp rfl RV.nil)) rfl H
  · skip
    refine w_seq (fun K hK_9 => ?_)
    refine t_region ?_
    refine t_val (v := .pointer x0) rfl rfl hE rfl (r_move hE rfl) (fun a hE => ?_)
    obtain ⟨x4_10, qx4_10, H⟩ := H
    refine t_val (v := .pointer (some x4_10)) rfl rfl hE rfl (r_nilCheck hE (hx_eq rfl (congrArg Value.pointer qx4_10))) (fun a hE => ?_)
    refine t_val (v := .pointer (some ((x4_10).add 4))) rfl rfl hE rfl (r_fieldAddr hE rfl fd78_4) (fun a hE => ?_)
    obtain ⟨x6_11, qx6_11, H⟩ := H
    refine t_val (v := .int .i64 x6_11) rfl rfl hE rfl (r_load hE rfl sc3 qx6_11) (fun a hE => ?_)
    refine t_val (v := .bool (decide (x6_11 > 0))) rfl rfl hE rfl (r_bin hE rfl rfl g_int b_gtr) (fun a hE => ?_)
    refine t_nil ?_
    refine hK_9 _ _ ?_
    refine w_cond (decide (x6_11 > 0)) hE rfl (fun hb => ?_) (fun hb => ?_)
    · replace H := M.ite_t hb H
      refine w_seq (fun K hK_12 => ?_)
      refine t_region ?_
      refine t_val (v := .pointer x0) rfl rfl hE rfl (r_move hE rfl) (fun a hE => ?_)
      obtain ⟨x9_13, qx9_13, H⟩ := H
      refine t_val (v := .pointer (some x9_13)) rfl rfl hE rfl (r_nilCheck hE (hx_eq rfl (congrArg Value.pointer qx9_13))) (fun a hE => ?_)
      refine t_val (v := .pointer (some ((x9_13).add 4))) rfl rfl hE rfl (r_fieldAddr hE rfl fd78_4) (fun a hE => ?_)
      obtain ⟨x11_14, qx11_14, H⟩ := H
      refine t_val (v := .int .i64 x11_14) rfl rfl hE rfl (r_load hE rfl sc3 qx11_14) (fun a hE => ?_)
      refine t_val (v := .int .i64 (IntKind.wrap .i64 (x11_14 - 1))) rfl rfl hE rfl (r_bin hE rfl rfl g_int b_sub) (fun a hE => ?_)
      obtain ⟨x13_15, qx13_15, H⟩ := H
      refine t_val (v := .pointer (some x13_15)) rfl rfl hE rfl (r_nilCheck hE (hx_eq rfl (congrArg Value.pointer qx13_15))) (fun a hE => ?_)
      refine t_val (v := .pointer (some ((x13_15).add 4))) rfl rfl hE rfl (r_fieldAddr hE rfl fd78_4) (fun a hE => ?_)
      obtain ⟨u_16, qu_16, H⟩ := H
      refine t_sth rfl rfl hE hR (r_store hE rfl rfl sz3 qu_16) (fun a w hE hR hh => ?_)
      replace H := M.at hh H; clear hh
      refine t_nil ?_
      refine hK_12 _ _ ?_
      refine w_seq (fun K hK_17 => ?_)
      refine t_region ?_
      refine t_val (v := .pointer x0) rfl rfl hE rfl (r_move hE rfl) (fun a hE => ?_)
      obtain ⟨x16_18, qx16_18, H⟩ := H
      refine t_val (v := .pointer (some x16_18)) rfl rfl hE rfl (r_nilCheck hE (hx_eq rfl (congrArg Value.pointer qx16_18))) (fun a hE => ?_)
      refine t_val (v := .pointer (some ((x16_18).add 4))) rfl rfl hE rfl (r_fieldAddr hE rfl fd78_4) (fun a hE => ?_)
      obtain ⟨x18_19, qx18_19, H⟩ := H
      refine t_val (v := .int .i64 x18_19) rfl rfl hE rfl (r_load hE rfl sc3 qx18_19) (fun a hE => ?_)
      refine t_val (v := .bool (x18_19 == 0)) rfl rfl hE rfl (r_bin hE rfl rfl g_int b_eql) (fun a hE => ?_)
      refine t_nil ?_
      refine hK_17 _ _ ?_
      refine w_cond (x18_19 == 0) hE rfl (fun hb => ?_) (fun hb => ?_)
      · replace H := M.ite_t hb H
        refine w_seq (fun K hK_20 => ?_)
        refine t_region ?_
        refine t_val (v := .pointer x0) rfl rfl hE rfl (r_move hE rfl) (fun a hE => ?_)
        obtain ⟨x21_21, qx21_21, H⟩ := H
        refine t_val (v := .pointer (some x21_21)) rfl rfl hE rfl (r_nilCheck hE (hx_eq rfl (congrArg Value.pointer qx21_21))) (fun a hE => ?_)
        refine t_val (v := .pointer (some ((x21_21).add 3))) rfl rfl hE rfl (r_fieldAddr hE rfl fd78_3) (fun a hE => ?_)
        obtain ⟨u_22, qu_22, H⟩ := H
        refine t_sth rfl rfl hE hR (r_store hE rfl rfl sz4 qu_22) (fun a w hE hR hh => ?_)
        replace H := M.at hh H; clear hh
        refine t_nil ?_
        refine hK_20 _ _ ?_
        refine w_seq (fun K hK_23 => ?_)
        refine t_region ?_
        refine t_val (v := .int .i64 9) rfl rfl hE rfl (r_assign hE rfl) (fun a hE => ?_)
        refine t_nil ?_
        refine hK_23 _ _ ?_
        refine w_ret ?_
        exact hret _ _ _ 9 _ hE hR (res_run hE rfl (RV.tmp rfl RV.nil)) rfl H
      · replace H := M.ite_f hb H
        refine w_skip ?_
        exact ⟨hE.cut (.cons rfl Subs.nil), hR, H⟩
    · replace H := M.ite_f hb H
      refine w_skip ?_
      exact ⟨hE.cut (.cons rfl Subs.nil), hR, H⟩

/-- (*ramble/disk.Disk).Write -/
theorem tb23_10 : tabAt Go.Proofs.Try.f23 10 [[], [0], [1], [2], [], [], [3, 4, 5, 0, 1, 2, 3, 4, 5]] [[], [0], [1], [2], [], [], [3, 4, 5]] [[], [0], [0, 1], [0, 1, 2], [], [], [0, 1, 2, 3, 4, 5]] = true := by kernel_rfl
def disk_Disk_Write (x0 : Option Addr) (x1 : Int) (x2 : Array Value) : M (Int) := do
  let x5_2 ← mkB ty_api_Sector x2
  let x11_5 ← disk_Disk_can x0
  M.ite (x11_5 != 0) (do
    M.pure x11_5
    ) (do
    let x17_10 ← disk_Disk_there x0 x1
    M.ite (x17_10 != 0) (do
      M.pure x17_10
      ) (do
      let x22_15 ← disk_Disk_call x0
      M.ite (x22_15 != 0) (do
        M.pure x22_15
        ) (do
        let x27_19 ← nilP x0
        let x29_20 ← ldMp ((x27_19).add 2)
        let x31_21 ← ldG 128 x5_2
        upM (.int .i64) (.int .i64 x1) (.agg x31_21) x29_20
        M.pure 0
        )
      )
    )
theorem S_disk_Disk_Write (x0 : Option Addr) (x1 : Int) (x2 : Array Value) : Sound Go.Proofs.Try.prog 23 #[.pointer x0, .int .i64 x1, .agg x2] (fun (r : Int) => .int .i64 r) (disk_Disk_Write x0 x1 x2) := by
  refine sound_of [(0, .pointer x0), (1, .int .i64 x1), (2, .agg x2)] Go.Proofs.Try.func23 rfl rfl (Nat.le_of_ble_eq_true rfl) (args_of ⟨rfl, rfl, rfl, trivial⟩) (fun w0 w Q R a hret hE hR H => ?_)
  unfold disk_Disk_Write at H
  refine w_seq (fun K hK_1 => ?_)
  refine t_region ?_
  obtain ⟨x5_2, qx5_2, H⟩ := H
  refine t_valh (v := .pointer (some x5_2)) rfl rfl hE rfl hR (r_box hE rfl qx5_2) (fun a w hE hR hh => ?_)
  replace H := M.at hh H; clear hh
  refine t_val (v := .int .i64 0) rfl rfl hE rfl (r_assign hE rfl) (fun a hE => ?_)
  refine t_nil ?_
  refine hK_1 _ _ ?_
  refine w_seq (fun K hK_3 => ?_)
  refine w_seq (fun K hK_4 => ?_)
  refine t_region ?_
  refine t_val (v := .pointer x0) rfl rfl hE rfl (r_move hE rfl) (fun a hE => ?_)
  refine t_call hE hR cl39 rfl (S_disk_Disk_can x0) (M.unbind H) (fun x11_5 a w ea hR H => ?_)
  have hE := Env.put_some hE rfl ea; clear ea
  refine t_val (v := .int .i64 x11_5) rfl rfl hE rfl (r_assign hE rfl) (fun a hE => ?_)
  refine t_nil ?_
  refine hK_4 _ _ ?_
  refine w_seq (fun K hK_6 => ?_)
  refine t_region ?_
  refine t_val (v := .int .i64 x11_5) rfl rfl hE rfl (r_move hE rfl) (fun a hE => ?_)
  refine t_val (v := .bool (x11_5 != 0)) rfl rfl hE rfl (r_bin hE rfl rfl g_int b_neq) (fun a hE => ?_)
  refine t_nil ?_
  refine hK_6 _ _ ?_
  refine w_cond (x11_5 != 0) hE rfl (fun hb => ?_) (fun hb => ?_)
  · replace H := M.ite_t hb H
    refine w_seq (fun K hK_7 => ?_)
    refine t_region ?_
    refine t_val (v := .int .i64 x11_5) rfl rfl hE rfl (r_move hE rfl) (fun a hE => ?_)
    refine t_val (v := .int .i64 x11_5) rfl rfl hE rfl (r_assign hE rfl) (fun a hE => ?_)
    refine t_nil ?_
    refine hK_7 _ _ ?_
    refine w_ret ?_
    exact hret _ _ _ x11_5 _ hE hR (res_run hE rfl (RV.tmp rfl RV.nil)) rfl H
  · replace H := M.ite_f hb H
    refine w_skip ?_
    refine hK_3 _ _ ?_
    refine w_seq (fun K hK_8 => ?_)
    refine w_seq (fun K hK_9 => ?_)
    refine t_region ?_
    refine t_val (v := .pointer x0) rfl rfl hE rfl (r_move hE rfl) (fun a hE => ?_)
    refine t_val (v := .int .i64 x1) rfl rfl hE rfl (r_move hE rfl) (fun a hE => ?_)
    refine t_call hE hR cl40 rfl (S_disk_Disk_there x0 x1) (M.unbind H) (fun x17_10 a w ea hR H => ?_)
    have hE := Env.put_some hE rfl ea; clear ea
    refine t_val (v := .int .i64 x17_10) rfl rfl hE rfl (r_assign hE rfl) (fun a hE => ?_)
    refine t_nil ?_
    refine hK_9 _ _ ?_
    refine w_seq (fun K hK_11 => ?_)
    refine t_region ?_
    refine t_val (v := .int .i64 x17_10) rfl rfl hE rfl (r_move hE rfl) (fun a hE => ?_)
    refine t_val (v := .bool (x17_10 != 0)) rfl rfl hE rfl (r_bin hE rfl rfl g_int b_neq) (fun a hE => ?_)
    refine t_nil ?_
    refine hK_11 _ _ ?_
    refine w_cond (x17_10 != 0) hE rfl (fun hb => ?_) (fun hb => ?_)
    · replace H := M.ite_t hb H
      refine w_seq (fun K hK_12 => ?_)
      refine t_region ?_
      refine t_val (v := .int .i64 x17_10) rfl rfl hE rfl (r_move hE rfl) (fun a hE => ?_)
      refine t_val (v := .int .i64 x17_10) rfl rfl hE rfl (r_assign hE rfl) (fun a hE => ?_)
      refine t_nil ?_
      refine hK_12 _ _ ?_
      refine w_ret ?_
      exact hret _ _ _ x17_10 _ hE hR (res_run hE rfl (RV.tmp rfl RV.nil)) rfl H
    · replace H := M.ite_f hb H
      refine w_skip ?_
      refine hK_8 _ _ ?_
      refine w_seq (fun K hK_13 => ?_)
      refine w_seq (fun K hK_14 => ?_)
      refine t_region ?_
      refine t_val (v := .pointer x0) rfl rfl hE rfl (r_move hE rfl) (fun a hE => ?_)
      refine t_call hE hR cl41 rfl (S_disk_Disk_call x0) (M.unbind H) (fun x22_15 a w ea hR H => ?_)
      have hE := Env.put_some hE rfl ea; clear ea
      refine t_val (v := .int .i64 x22_15) rfl rfl hE rfl (r_assign hE rfl) (fun a hE => ?_)
      refine t_nil ?_
      refine hK_14 _ _ ?_
      refine w_seq (fun K hK_16 => ?_)
      refine t_region ?_
      refine t_val (v := .int .i64 x22_15) rfl rfl hE rfl (r_move hE rfl) (fun a hE => ?_)
      refine t_val (v := .bool (x22_15 != 0)) rfl rfl hE rfl (r_bin hE rfl rfl g_int b_neq) (fun a hE => ?_)
      refine t_nil ?_
      refine hK_16 _ _ ?_
      refine w_cond (x22_15 != 0) hE rfl (fun hb => ?_) (fun hb => ?_)
      · replace H := M.ite_t hb H
        refine w_seq (fun K hK_17 => ?_)
        refine t_region ?_
        refine t_val (v := .int .i64 x22_15) rfl rfl hE rfl (r_move hE rfl) (fun a hE => ?_)
        refine t_val (v := .int .i64 x22_15) rfl rfl hE rfl (r_assign hE rfl) (fun a hE => ?_)
        refine t_nil ?_
        refine hK_17 _ _ ?_
        refine w_ret ?_
        exact hret _ _ _ x22_15 _ hE hR (res_run hE rfl (RV.tmp rfl RV.nil)) rfl H
      · replace H := M.ite_f hb H
        refine w_skip ?_
        refine hK_13 _ _ ?_
        refine w_seq (fun K hK_18 => ?_)
        obtain ⟨x27_19, qx27_19, H⟩ := H
        obtain ⟨x29_20, qx29_20, H⟩ := H
        obtain ⟨x31_21, qx31_21, H⟩ := H
        have hT := tab_of tb23_10 rfl rfl
        refine d_start (fun w : World => (fun h : Heap => (hcell h ((x27_19).add 2) = some (.map x29_20)) ∧ (x31_21.size = 128 ∧ ∀ i, i < 128 → hcell h (Addr.add x5_2 i) = x31_21[i]?)) w.heap) [6] #[false, false, false, false, false, false, false] mo hR rfl rfl (fun w' e => by rw [e]; exact ⟨qx29_20, qx31_21⟩) (fun w hh hR hs => ?_)
        replace H := M.at hh H; clear hh
        refine d_pureg (i := 0) (v := .pointer x0) #[true, false, false, false, false, false, false] rfl rfl hT (by kernel_rfl) hE rfl (wanted_none rfl) (fun w => r_move hE rfl) (fun a hE => ?_)
        refine d_pureg (i := 1) (v := .pointer (some x27_19)) #[true, true, false, false, false, false, false] rfl rfl hT (by kernel_rfl) hE rfl (wanted_none rfl) (fun w => r_nilCheck hE (hx_eq rfl (congrArg Value.pointer qx27_19))) (fun a hE => ?_)
        refine d_pureg (i := 2) (v := .pointer (some ((x27_19).add 2))) #[true, true, true, false, false, false, false] rfl rfl hT (by kernel_rfl) hE rfl (wanted_none rfl) (fun w => r_fieldAddr hE rfl fd78_2) (fun a hE => ?_)
        refine d_pureg (i := 4) (v := .int .i64 x1) #[true, true, true, false, true, false, false] rfl rfl hT (by kernel_rfl) hE rfl (wanted_none rfl) (fun w => r_move hE rfl) (fun a hE => ?_)
        refine d_read (i := 3) (v := .map x29_20) #[true, true, true, true, true, false, false] rfl rfl hT (by kernel_rfl) hE rfl (wanted_none rfl) hs (fun w s => r_load hE rfl sc76 s.1) (fun a hE => ?_)
        refine d_read (i := 5) (v := .agg x31_21) #[true, true, true, true, true, true, false] rfl rfl hT (by kernel_rfl) hE rfl (wanted_none rfl) hs (fun w s => r_loadG hE rfl ag26 s.2) (fun a hE => ?_)
        obtain ⟨u_22, qu_22, H⟩ := H
        refine d_stlh (i := 6) #[true, true, true, true, true, true, true] rfl rfl hT (by kernel_rfl) rfl hE hR (wanted_none rfl) (r_update hE rfl rfl rfl un76 un3 rfl qu_22)  (fun a w hE hR hh => ?_)
        replace H := M.at hh H; clear hh
        refine d_done hT (by kernel_rfl) ?_
        refine hK_18 _ _ ?_
        refine w_seq (fun K hK_23 => ?_)
        refine t_region ?_
        refine t_val (v := .int .i64 0) rfl rfl hE rfl (r_assign hE rfl) (fun a hE => ?_)
        refine t_nil ?_
        refine hK_23 _ _ ?_
        refine w_ret ?_
        exact hret _ _ _ 0 _ hE hR (res_run hE rfl (RV.tmp rfl RV.nil)) rfl H

end Gx
