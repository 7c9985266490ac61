/- Printed by program: Go functions as Lean programs, each tied to its code. No condition. -/
import Derived.Test.YtklegajjmeajiaaAT
import Derived.Test.YtklegajjmeajiaaAF0
import Derived.Test.YtklegajjmeajiaaAF1
import Derived.Test.YtklegajjmeajiaaAF2
namespace Gx
open Go
set_option linter.unusedVariables false
set_option maxRecDepth 100000
/-- ramble/ramblelaw05.SectorFrames -/
def ramblelaw05_SectorFrames_j1 (x4_24 : Bool) : M (Bool) := do
  M.pure x4_24
theorem tb3_5 : tabAt Go.Proofs.Try.f3 5 [[], [0, 0], [1], [1], [2, 3, 1], [1, 4], [5, 1], [6], [6], [7, 8, 6], [6, 9], [10, 6], [11], [11], [12, 13, 11, 11], [11, 14], [15, 14], [16], [16], [17, 18, 16], [16, 19], [20, 16], [21], [22, 21], [23, 21, 21], [21], [25, 21], [26, 24, 21], [24, 27, 21], [21, 28], [29, 27, 0, 1, 2, 3, 4, 5, 6, 7, 8, 9, 10, 11, 12, 13, 14, 15, 16, 17, 18, 19, 20, 21, 22, 23, 24, 25, 26, 27, 28, 29]] [[], [0], [1], [1], [1, 2, 3], [1, 4], [5], [6], [6], [6, 7, 8], [6, 9], [10], [11], [11], [11, 12, 13], [11, 14], [15], [16], [16], [16, 17, 18], [16, 19], [20], [21], [21, 22], [21, 23], [21], [21, 25], [21, 26], [21, 24, 27], [21, 28], [29]] [[], [0], [0, 1], [0, 1], [0, 1, 2, 3], [0, 1, 2, 3, 4], [0, 1, 2, 3, 4, 5], [0, 1, 2, 3, 4, 5, 6], [0, 1, 2, 3, 4, 5, 6], [0, 1, 2, 3, 4, 5, 6, 7, 8], [0, 1, 2, 3, 4, 5, 6, 7, 8, 9], [0, 1, 2, 3, 4, 5, 6, 7, 8, 9, 10], [0, 1, 2, 3, 4, 5, 6, 7, 8, 9, 10, 11], [0, 1, 2, 3, 4, 5, 6, 7, 8, 9, 10, 11], [0, 1, 2, 3, 4, 5, 6, 7, 8, 9, 10, 11, 12, 13], [0, 1, 2, 3, 4, 5, 6, 7, 8, 9, 10, 11, 12, 13, 14], [0, 1, 2, 3, 4, 5, 6, 7, 8, 9, 10, 11, 12, 13, 14, 15], [0, 1, 2, 3, 4, 5, 6, 7, 8, 9, 10, 11, 12, 13, 14, 15, 16], [0, 1, 2, 3, 4, 5, 6, 7, 8, 9, 10, 11, 12, 13, 14, 15, 16], [0, 1, 2, 3, 4, 5, 6, 7, 8, 9, 10, 11, 12, 13, 14, 15, 16, 17, 18], [0, 1, 2, 3, 4, 5, 6, 7, 8, 9, 10, 11, 12, 13, 14, 15, 16, 17, 18, 19], [0, 1, 2, 3, 4, 5, 6, 7, 8, 9, 10, 11, 12, 13, 14, 15, 16, 17, 18, 19, 20], [0, 1, 2, 3, 4, 5, 6, 7, 8, 9, 10, 11, 12, 13, 14, 15, 16, 17, 18, 19, 20, 21], [0, 1, 2, 3, 4, 5, 6, 7, 8, 9, 10, 11, 12, 13, 14, 15, 16, 17, 18, 19, 20, 21, 22], [0, 1, 2, 3, 4, 5, 6, 7, 8, 9, 10, 11, 12, 13, 14, 15, 16, 17, 18, 19, 20, 21, 22, 23], [0, 1, 2, 3, 4, 5, 6, 7, 8, 9, 10, 11, 12, 13, 14, 15, 16, 17, 18, 19, 20, 21], [0, 1, 2, 3, 4, 5, 6, 7, 8, 9, 10, 11, 12, 13, 14, 15, 16, 17, 18, 19, 20, 21, 25], [0, 1, 2, 3, 4, 5, 6, 7, 8, 9, 10, 11, 12, 13, 14, 15, 16, 17, 18, 19, 20, 21, 22, 23, 24, 25, 26], [0, 1, 2, 3, 4, 5, 6, 7, 8, 9, 10, 11, 12, 13, 14, 15, 16, 17, 18, 19, 20, 21, 22, 23, 24, 25, 26, 27], [0, 1, 2, 3, 4, 5, 6, 7, 8, 9, 10, 11, 12, 13, 14, 15, 16, 17, 18, 19, 20, 21, 22, 23, 24, 25, 26, 27, 28], [0, 1, 2, 3, 4, 5, 6, 7, 8, 9, 10, 11, 12, 13, 14, 15, 16, 17, 18, 19, 20, 21, 22, 23, 24, 25, 26, 27, 28, 29]] = true := by kernel_rfl
def ramblelaw05_SectorFrames (x0 : Array Value) (x1 : Array Value) : M (Bool) := do
  let x2_2 ← mkB ty_api_Frame x0
  let x3_3 ← mkB ty_api_Sector x1
  let x14_5 ← ldG 3 x2_2
  let x15_6 ← sector_Seal x14_5
  let x5_7 ← mkB ty_api_Sector (Array.replicate 128 (.int .u8 0) : Array Value)
  M.need (x15_6.1.size = 128)
  stG x5_7 x15_6.1
  let x19_10 ← ldG 3 x2_2
  let x20_11 ← rambleref05_Seal x19_10
  let x7_12 ← mkB ty_api_Sector (Array.replicate 128 (.int .u8 0) : Array Value)
  M.need (x20_11.1.size = 128)
  stG x7_12 x20_11.1
  let x24_15 ← ldG 128 x3_3
  let x25_16 ← sector_Open x24_15
  let x9_17 ← mkB ty_api_Frame (#[.int .i64 0, .int .i64 0, .slice none 0 0] : Array Value)
  M.need (x25_16.1.size = 3)
  stG x9_17 x25_16.1
  let x29_20 ← ldG 128 x3_3
  let x30_21 ← rambleref05_Open x29_20
  let x11_22 ← mkB ty_api_Frame (#[.int .i64 0, .int .i64 0, .slice none 0 0] : Array Value)
  M.need (x30_21.1.size = 3)
  stG x11_22 x30_21.1
  let x33_25 ← ramblelaw05_begun
  M.ite x33_25 (do
    let x35_27 ← ldG 128 x5_7
    let x36_28 ← ldG 128 x7_12
    let x37_29 ← eqA .u8 128 x35_27 x36_28
    M.ite x37_29 (do
      M.ite (x15_6.2 == x20_11.2) (do
        let x45_32 ← ldG 3 x9_17
        let x46_33 ← ldG 3 x11_22
        let x47_34 ← rambleref05_Same x45_32 x46_33
        M.ite x47_34 (do
          M.ite (x25_16.2 == x30_21.2) (do
            let x56_37 ← ldL ((x2_2).add 2)
            let x59_38 ← ldL ((x2_2).add 2)
            let x57_39 ← sector_Sum x56_37
            chk (fun h : Heap => (hcell h ((x2_2).add 2) = some ((x56_37 : Sl).v)) ∧ (hcell h ((x2_2).add 2) = some ((x59_38 : Sl).v)))
            let x60_40 ← rambleref05_Sum x59_38
            ramblelaw05_SectorFrames_j1 (x57_39 == x60_40)
            ) (do
            ramblelaw05_SectorFrames_j1 false
            )
          ) (do
          ramblelaw05_SectorFrames_j1 false
          )
        ) (do
        ramblelaw05_SectorFrames_j1 false
        )
      ) (do
      ramblelaw05_SectorFrames_j1 false
      )
    ) (do
    ramblelaw05_SectorFrames_j1 false
    )
theorem S_ramblelaw05_SectorFrames (x0 : Array Value) (x1 : Array Value) : Sound Go.Proofs.Try.prog 3 #[.agg x0, .agg x1] (fun (r : Bool) => .bool r) (ramblelaw05_SectorFrames x0 x1) := by
  refine sound_of [(0, .agg x0), (1, .agg x1)] Go.Proofs.Try.func3 rfl rfl (Nat.le_of_ble_eq_true rfl) (args_of ⟨rfl, rfl, trivial⟩) (fun w0 w Q R a hret hE hR H => ?_)
  unfold ramblelaw05_SectorFrames at H
  refine w_seq (fun K hK_1 => ?_)
  refine t_region ?_
  obtain ⟨x2_2, qx2_2, H⟩ := H
  refine t_valh (v := .pointer (some x2_2)) rfl rfl hE rfl hR (r_box hE rfl qx2_2) (fun a w hE hR hh => ?_)
  replace H := M.at hh H; clear hh
  obtain ⟨x3_3, qx3_3, H⟩ := H
  refine t_valh (v := .pointer (some x3_3)) rfl rfl hE rfl hR (r_box hE rfl qx3_3) (fun a w hE hR hh => ?_)
  replace H := M.at hh H; clear hh
  refine t_val (v := .bool false) rfl rfl hE rfl (r_assign hE rfl) (fun a hE => ?_)
  refine t_nil ?_
  refine hK_1 _ _ ?_
  refine w_seq (fun K hK_4 => ?_)
  refine t_region ?_
  obtain ⟨x14_5, qx14_5, H⟩ := H
  refine t_val (v := .agg x14_5) rfl rfl hE rfl (r_loadG hE rfl ag24 qx14_5) (fun a hE => ?_)
  refine t_call hE hR cl8 rfl (S_sector_Seal x14_5) (M.unbind H) (fun x15_6 a w ea hR H => ?_)
  have hE := Env.put_some hE rfl ea; clear ea
  refine t_val (v := .tuple #[.agg x15_6.1, .int .i64 x15_6.2]) rfl rfl hE rfl (r_move hE rfl) (fun a hE => ?_)
  refine t_val (v := .agg x15_6.1) rfl rfl hE rfl (r_extract hE rfl rfl) (fun a hE => ?_)
  refine t_val (v := .int .i64 x15_6.2) rfl rfl hE rfl (r_extract hE rfl rfl) (fun a hE => ?_)
  obtain ⟨x5_7, qx5_7, H⟩ := H
  refine t_valh (v := .pointer (some x5_7)) rfl rfl hE rfl hR (r_alloc zr26 qx5_7) (fun a w hE hR hh => ?_)
  replace H := M.at hh H; clear hh
  obtain ⟨qz, H⟩ := H
  obtain ⟨u_8, qu_8, H⟩ := H
  refine t_sth rfl rfl hE hR (r_storeG hE rfl rfl sz26 qz qu_8) (fun a w hE hR hh => ?_)
  replace H := M.at hh H; clear hh
  refine t_val (v := .int .i64 x15_6.2) rfl rfl hE rfl (r_assign hE rfl) (fun a hE => ?_)
  refine t_nil ?_
  refine hK_4 _ _ ?_
  refine w_seq (fun K hK_9 => ?_)
  refine t_region ?_
  obtain ⟨x19_10, qx19_10, H⟩ := H
  refine t_val (v := .agg x19_10) rfl rfl hE rfl (r_loadG hE rfl ag24 qx19_10) (fun a hE => ?_)
  refine t_call hE hR cl9 rfl (S_rambleref05_Seal x19_10) (M.unbind H) (fun x20_11 a w ea hR H => ?_)
  have hE := Env.put_some hE rfl ea; clear ea
  refine t_val (v := .tuple #[.agg x20_11.1, .int .i64 x20_11.2]) rfl rfl hE rfl (r_move hE rfl) (fun a hE => ?_)
  refine t_val (v := .agg x20_11.1) rfl rfl hE rfl (r_extract hE rfl rfl) (fun a hE => ?_)
  refine t_val (v := .int .i64 x20_11.2) rfl rfl hE rfl (r_extract hE rfl rfl) (fun a hE => ?_)
  obtain ⟨x7_12, qx7_12, H⟩ := H
  refine t_valh (v := .pointer (some x7_12)) rfl rfl hE rfl hR (r_alloc zr26 qx7_12) (fun a w hE hR hh => ?_)
  replace H := M.at hh H; clear hh
  obtain ⟨qz, H⟩ := H
  obtain ⟨u_13, qu_13, H⟩ := H
  refine t_sth rfl rfl hE hR (r_storeG hE rfl rfl sz26 qz qu_13) (fun a w hE hR hh => ?_)
  replace H := M.at hh H; clear hh
  refine t_val (v := .int .i64 x20_11.2) rfl rfl hE rfl (r_assign hE rfl) (fun a hE => ?_)
  refine t_nil ?_
  refine hK_9 _ _ ?_
  refine w_seq (fun K hK_14 => ?_)
  refine t_region ?_
  obtain ⟨x24_15, qx24_15, H⟩ := H
  refine t_val (v := .agg x24_15) rfl rfl hE rfl (r_loadG hE rfl ag26 qx24_15) (fun a hE => ?_)
  refine t_call hE hR cl10 rfl (S_sector_Open x24_15) (M.unbind H) (fun x25_16 a w ea hR H => ?_)
  have hE := Env.put_some hE rfl ea; clear ea
  refine t_val (v := .tuple #[.agg x25_16.1, .int .i64 x25_16.2]) rfl rfl hE rfl (r_move hE rfl) (fun a hE => ?_)
  refine t_val (v := .agg x25_16.1) rfl rfl hE rfl (r_extract hE rfl rfl) (fun a hE => ?_)
  refine t_val (v := .int .i64 x25_16.2) rfl rfl hE rfl (r_extract hE rfl rfl) (fun a hE => ?_)
  obtain ⟨x9_17, qx9_17, H⟩ := H
  refine t_valh (v := .pointer (some x9_17)) rfl rfl hE rfl hR (r_alloc zr24 qx9_17) (fun a w hE hR hh => ?_)
  replace H := M.at hh H; clear hh
  obtain ⟨qz, H⟩ := H
  obtain ⟨u_18, qu_18, H⟩ := H
  refine t_sth rfl rfl hE hR (r_storeG hE rfl rfl sz24 qz qu_18) (fun a w hE hR hh => ?_)
  replace H := M.at hh H; clear hh
  refine t_val (v := .int .i64 x25_16.2) rfl rfl hE rfl (r_assign hE rfl) (fun a hE => ?_)
  refine t_nil ?_
  refine hK_14 _ _ ?_
  refine w_seq (fun K hK_19 => ?_)
  refine t_region ?_
  obtain ⟨x29_20, qx29_20, H⟩ := H
  refine t_val (v := .agg x29_20) rfl rfl hE rfl (r_loadG hE rfl ag26 qx29_20) (fun a hE => ?_)
  refine t_call hE hR cl11 rfl (S_rambleref05_Open x29_20) (M.unbind H) (fun x30_21 a w ea hR H => ?_)
  have hE := Env.put_some hE rfl ea; clear ea
  refine t_val (v := .tuple #[.agg x30_21.1, .int .i64 x30_21.2]) rfl rfl hE rfl (r_move hE rfl) (fun a hE => ?_)
  refine t_val (v := .agg x30_21.1) rfl rfl hE rfl (r_extract hE rfl rfl) (fun a hE => ?_)
  refine t_val (v := .int .i64 x30_21.2) rfl rfl hE rfl (r_extract hE rfl rfl) (fun a hE => ?_)
  obtain ⟨x11_22, qx11_22, H⟩ := H
  refine t_valh (v := .pointer (some x11_22)) rfl rfl hE rfl hR (r_alloc zr24 qx11_22) (fun a w hE hR hh => ?_)
  replace H := M.at hh H; clear hh
  obtain ⟨qz, H⟩ := H
  obtain ⟨u_23, qu_23, H⟩ := H
  refine t_sth rfl rfl hE hR (r_storeG hE rfl rfl sz24 qz qu_23) (fun a w hE hR hh => ?_)
  replace H := M.at hh H; clear hh
  refine t_val (v := .int .i64 x30_21.2) rfl rfl hE rfl (r_assign hE rfl) (fun a hE => ?_)
  refine t_nil ?_
  refine hK_19 _ _ ?_
  refine w_seq_join (fun a w => ∃ (x4_24 : Bool), Env 63 a [(4, .bool x4_24)] ∧ Rest w0 w ∧ (ramblelaw05_SectorFrames_j1 x4_24).wp w.heap Q) ?_ ?_
  · rintro a w ⟨x4_24, hE, hR, H⟩
    unfold ramblelaw05_SectorFrames_j1 at H
    refine w_ret ?_
    exact hret _ _ _ x4_24 _ hE hR (res_run hE rfl (RV.tmp rfl RV.nil)) rfl H
  · skip
    have hT := tab_of tb3_5 rfl rfl
    refine d_start (fun w : World => (fun h : Heap => True) w.heap) [0, 1, 2, 3, 4, 5, 6, 7, 8, 9, 10, 11, 12, 13, 14, 15, 16, 17, 18, 19, 20, 21, 22, 23, 24, 25, 26, 27, 28, 29, 30] #[false, false, false, false, false, false, false, false, false, false, false, false, false, false, false, false, false, false, false, false, false, false, false, false, false, false, false, false, false, false, false] mo hR rfl rfl (fun w' e => by rw [e]; exact trivial) (fun w hh hR hs => ?_)
    replace H := M.at hh H; clear hh
    refine d_calll (i := 0) #[true, false, false, false, false, false, false, false, false, false, false, false, false, false, false, false, false, false, false, false, false, false, false, false, false, false, false, false, false, false, false] rfl rfl rfl hT (by kernel_rfl) rfl hE hR (wanted_none rfl) cl12 rfl (S_ramblelaw05_begun ) (M.unbind H) (fun x33_25 a w ea hR H => ?_)
    have hE := Env.put_some hE rfl ea; clear ea
    rcases bool_em x33_25 with hb_26 | hb_26
    · replace H := M.ite_t hb_26 H
      obtain ⟨x35_27, qx35_27, H⟩ := H
      obtain ⟨x36_28, qx36_28, H⟩ := H
      obtain ⟨x37_29, qx37_29, H⟩ := H
      rcases bool_em x37_29 with hb_30 | hb_30
      · replace H := M.ite_t hb_30 H
        rcases bool_em (x15_6.2 == x20_11.2) with hb_31 | hb_31
        · replace H := M.ite_t hb_31 H
          obtain ⟨x45_32, qx45_32, H⟩ := H
          obtain ⟨x46_33, qx46_33, H⟩ := H
          refine d_switch (fun w : World => (fun h : Heap => (x35_27.size = 128 ∧ ∀ i, i < 128 → hcell h (Addr.add x5_7 i) = x35_27[i]?) ∧ (x36_28.size = 128 ∧ ∀ i, i < 128 → hcell h (Addr.add x7_12 i) = x36_28[i]?) ∧ (x45_32.size = 3 ∧ ∀ i, i < 3 → hcell h (Addr.add x9_17 i) = x45_32[i]?) ∧ (x46_33.size = 3 ∧ ∀ i, i < 3 → hcell h (Addr.add x11_22 i) = x46_33[i]?)) w.heap) [14, 15, 16, 17, 18, 19, 20, 21, 22, 23, 24, 25, 26, 27, 28, 29, 30] (by kernel_rfl) ?_
          have hs : (fun h : Heap => (x35_27.size = 128 ∧ ∀ i, i < 128 → hcell h (Addr.add x5_7 i) = x35_27[i]?) ∧ (x36_28.size = 128 ∧ ∀ i, i < 128 → hcell h (Addr.add x7_12 i) = x36_28[i]?) ∧ (x45_32.size = 3 ∧ ∀ i, i < 3 → hcell h (Addr.add x9_17 i) = x45_32[i]?) ∧ (x46_33.size = 3 ∧ ∀ i, i < 3 → hcell h (Addr.add x11_22 i) = x46_33[i]?)) w.heap := ⟨qx35_27, qx36_28, qx45_32, qx46_33⟩
          refine d_pureg (i := 1) (v := .bool x33_25) #[true, true, false, false, false, false, false, false, false, false, false, false, false, false, false, false, false, false, false, false, false, false, false, false, false, false, false, false, false, false, false] rfl rfl hT (by kernel_rfl) hE rfl (wanted_none rfl) (fun w => r_move hE rfl) (fun a hE => ?_)
          have hE := hE.reb 34 x33_25 true hb_26 rfl
          refine d_read (i := 2) (v := .agg x35_27) #[true, true, true, false, false, false, false, false, false, false, false, false, false, false, false, false, false, false, false, false, false, false, false, false, false, false, false, false, false, false, false] rfl rfl hT (by kernel_rfl) hE rfl (wanted_of rfl hE rfl rfl rfl) hs (fun w s => r_loadG hE rfl ag26 s.1) (fun a hE => ?_)
          refine d_read (i := 3) (v := .agg x36_28) #[true, true, true, true, false, false, false, false, false, false, false, false, false, false, false, false, false, false, false, false, false, false, false, false, false, false, false, false, false, false, false] rfl rfl hT (by kernel_rfl) hE rfl (wanted_of rfl hE rfl rfl rfl) hs (fun w s => r_loadG hE rfl ag26 s.2.1) (fun a hE => ?_)
          refine d_pureg (i := 4) (v := .bool x37_29) #[true, true, true, true, true, false, false, false, false, false, false, false, false, false, false, false, false, false, false, false, false, false, false, false, false, false, false, false, false, false, false] rfl rfl hT (by kernel_rfl) hE rfl (wanted_of rfl hE rfl rfl rfl) (fun w => r_bin hE rfl rfl (g_agg eg26) (b_eqlA un26 un5 sz5 qx37_29)) (fun a hE => ?_)
          refine d_pureg (i := 5) (v := .bool x37_29) #[true, true, true, true, true, true, false, false, false, false, false, false, false, false, false, false, false, false, false, false, false, false, false, false, false, false, false, false, false, false, false] rfl rfl hT (by kernel_rfl) hE rfl (wanted_none rfl) (fun w => r_pick_t hE rfl rfl) (fun a hE => ?_)
          refine d_pureg (i := 6) (v := .bool x37_29) #[true, true, true, true, true, true, true, false, false, false, false, false, false, false, false, false, false, false, false, false, false, false, false, false, false, false, false, false, false, false, false] rfl rfl hT (by kernel_rfl) hE rfl (wanted_none rfl) (fun w => r_move hE rfl) (fun a hE => ?_)
          have hE := hE.reb 39 x37_29 true hb_30 rfl
          refine d_pureg (i := 7) (v := .int .i64 x15_6.2) #[true, true, true, true, true, true, true, true, false, false, false, false, false, false, false, false, false, false, false, false, false, false, false, false, false, false, false, false, false, false, false] rfl rfl hT (by kernel_rfl) hE rfl (wanted_of rfl hE rfl rfl rfl) (fun w => r_move hE rfl) (fun a hE => ?_)
          refine d_pureg (i := 8) (v := .int .i64 x20_11.2) #[true, true, true, true, true, true, true, true, true, false, false, false, false, false, false, false, false, false, false, false, false, false, false, false, false, false, false, false, false, false, false] rfl rfl hT (by kernel_rfl) hE rfl (wanted_of rfl hE rfl rfl rfl) (fun w => r_move hE rfl) (fun a hE => ?_)
          refine d_pureg (i := 9) (v := .bool (x15_6.2 == x20_11.2)) #[true, true, true, true, true, true, true, true, true, true, false, false, false, false, false, false, false, false, false, false, false, false, false, false, false, false, false, false, false, false, false] rfl rfl hT (by kernel_rfl) hE rfl (wanted_of rfl hE rfl rfl rfl) (fun w => r_bin hE rfl rfl g_int b_eql) (fun a hE => ?_)
          refine d_pureg (i := 10) (v := .bool (x15_6.2 == x20_11.2)) #[true, true, true, true, true, true, true, true, true, true, true, false, false, false, false, false, false, false, false, false, false, false, false, false, false, false, false, false, false, false, false] rfl rfl hT (by kernel_rfl) hE rfl (wanted_none rfl) (fun w => r_pick_t hE rfl rfl) (fun a hE => ?_)
          refine d_pureg (i := 11) (v := .bool (x15_6.2 == x20_11.2)) #[true, true, true, true, true, true, true, true, true, true, true, true, false, false, false, false, false, false, false, false, false, false, false, false, false, false, false, false, false, false, false] rfl rfl hT (by kernel_rfl) hE rfl (wanted_none rfl) (fun w => r_move hE rfl) (fun a hE => ?_)
          have hE := hE.reb 44 (x15_6.2 == x20_11.2) true hb_31 rfl
          refine d_read (i := 12) (v := .agg x45_32) #[true, true, true, true, true, true, true, true, true, true, true, true, true, false, false, false, false, false, false, false, false, false, false, false, false, false, false, false, false, false, false] rfl rfl hT (by kernel_rfl) hE rfl (wanted_of rfl hE rfl rfl rfl) hs (fun w s => r_loadG hE rfl ag24 s.2.2.1) (fun a hE => ?_)
          refine d_read (i := 13) (v := .agg x46_33) #[true, true, true, true, true, true, true, true, true, true, true, true, true, true, false, false, false, false, false, false, false, false, false, false, false, false, false, false, false, false, false] rfl rfl hT (by kernel_rfl) hE rfl (wanted_of rfl hE rfl rfl rfl) hs (fun w s => r_loadG hE rfl ag24 s.2.2.2) (fun a hE => ?_)
          refine d_calll (i := 14) #[true, true, true, true, true, true, true, true, true, true, true, true, true, true, true, false, false, false, false, false, false, false, false, false, false, false, false, false, false, false, false] rfl rfl rfl hT (by kernel_rfl) rfl hE hR (wanted_of rfl hE rfl rfl rfl) cl13 rfl (S_rambleref05_Same x45_32 x46_33) (M.unbind H) (fun x47_34 a w ea hR H => ?_)
          have hE := Env.put_some hE rfl ea; clear ea
          rcases bool_em x47_34 with hb_35 | hb_35
          · replace H := M.ite_t hb_35 H
            rcases bool_em (x25_16.2 == x30_21.2) with hb_36 | hb_36
            · replace H := M.ite_t hb_36 H
              obtain ⟨x56_37, qx56_37, H⟩ := H
              obtain ⟨x59_38, qx59_38, H⟩ := H
              refine d_switch (fun w : World => (fun h : Heap => (hcell h ((x2_2).add 2) = some ((x56_37 : Sl).v)) ∧ (hcell h ((x2_2).add 2) = some ((x59_38 : Sl).v))) w.heap) [27, 28, 29, 30] (by kernel_rfl) ?_
              have hs : (fun h : Heap => (hcell h ((x2_2).add 2) = some ((x56_37 : Sl).v)) ∧ (hcell h ((x2_2).add 2) = some ((x59_38 : Sl).v))) w.heap := ⟨qx56_37, qx59_38⟩
              refine d_pureg (i := 15) (v := .bool x47_34) #[true, true, true, true, true, true, true, true, true, true, true, true, true, true, true, true, false, false, false, false, false, false, false, false, false, false, false, false, false, false, false] rfl rfl hT (by kernel_rfl) hE rfl (wanted_none rfl) (fun w => r_pick_t hE rfl rfl) (fun a hE => ?_)
              refine d_pureg (i := 16) (v := .bool x47_34) #[true, true, true, true, true, true, true, true, true, true, true, true, true, true, true, true, true, false, false, false, false, false, false, false, false, false, false, false, false, false, false] rfl rfl hT (by kernel_rfl) hE rfl (wanted_none rfl) (fun w => r_move hE rfl) (fun a hE => ?_)
              have hE := hE.reb 49 x47_34 true hb_35 rfl
              refine d_pureg (i := 17) (v := .int .i64 x25_16.2) #[true, true, true, true, true, true, true, true, true, true, true, true, true, true, true, true, true, true, false, false, false, false, false, false, false, false, false, false, false, false, false] rfl rfl hT (by kernel_rfl) hE rfl (wanted_of rfl hE rfl rfl rfl) (fun w => r_move hE rfl) (fun a hE => ?_)
              refine d_pureg (i := 18) (v := .int .i64 x30_21.2) #[true, true, true, true, true, true, true, true, true, true, true, true, true, true, true, true, true, true, true, false, false, false, false, false, false, false, false, false, false, false, false] rfl rfl hT (by kernel_rfl) hE rfl (wanted_of rfl hE rfl rfl rfl) (fun w => r_move hE rfl) (fun a hE => ?_)
              refine d_pureg (i := 19) (v := .bool (x25_16.2 == x30_21.2)) #[true, true, true, true, true, true, true, true, true, true, true, true, true, true, true, true, true, true, true, true, false, false, false, false, false, false, false, false, false, false, false] rfl rfl hT (by kernel_rfl) hE rfl (wanted_of rfl hE rfl rfl rfl) (fun w => r_bin hE rfl rfl g_int b_eql) (fun a hE => ?_)
              refine d_pureg (i := 20) (v := .bool (x25_16.2 == x30_21.2)) #[true, true, true, true, true, true, true, true, true, true, true, true, true, true, true, true, true, true, true, true, true, false, false, false, false, false, false, false, false, false, false] rfl rfl hT (by kernel_rfl) hE rfl (wanted_none rfl) (fun w => r_pick_t hE rfl rfl) (fun a hE => ?_)
              refine d_pureg (i := 21) (v := .bool (x25_16.2 == x30_21.2)) #[true, true, true, true, true, true, true, true, true, true, true, true, true, true, true, true, true, true, true, true, true, true, false, false, false, false, false, false, false, false, false] rfl rfl hT (by kernel_rfl) hE rfl (wanted_none rfl) (fun w => r_move hE rfl) (fun a hE => ?_)
              have hE := hE.reb 54 (x25_16.2 == x30_21.2) true hb_36 rfl
              refine d_pureg (i := 22) (v := .pointer (some ((x2_2).add 2))) #[true, true, true, true, true, true, true, true, true, true, true, true, true, true, true, true, true, true, true, true, true, true, true, false, false, false, false, false, false, false, false] rfl rfl hT (by kernel_rfl) hE rfl (wanted_of rfl hE rfl rfl rfl) (fun w => r_fieldAddr hE rfl fd24_2) (fun a hE => ?_)
              refine d_pureg (i := 25) (v := .pointer (some ((x2_2).add 2))) #[true, true, true, true, true, true, true, true, true, true, true, true, true, true, true, true, true, true, true, true, true, true, true, false, false, true, false, false, false, false, false] rfl rfl hT (by kernel_rfl) hE rfl (wanted_of rfl hE rfl rfl rfl) (fun w => r_fieldAddr hE rfl fd24_2) (fun a hE => ?_)
              refine d_read (i := 23) (v := (x56_37 : Sl).v) #[true, true, true, true, true, true, true, true, true, true, true, true, true, true, true, true, true, true, true, true, true, true, true, true, false, true, false, false, false, false, false] rfl rfl hT (by kernel_rfl) hE rfl (wanted_of rfl hE rfl rfl rfl) hs (fun w s => r_load hE rfl sc22 s.1) (fun a hE => ?_)
              refine d_read (i := 26) (v := (x59_38 : Sl).v) #[true, true, true, true, true, true, true, true, true, true, true, true, true, true, true, true, true, true, true, true, true, true, true, true, false, true, true, false, false, false, false] rfl rfl hT (by kernel_rfl) hE rfl (wanted_of rfl hE rfl rfl rfl) hs (fun w s => r_load hE rfl sc22 s.2) (fun a hE => ?_)
              refine d_call (i := 24) #[true, true, true, true, true, true, true, true, true, true, true, true, true, true, true, true, true, true, true, true, true, true, true, true, true, true, true, false, false, false, false] rfl rfl rfl hT (by kernel_rfl) rfl hE hR (wanted_of rfl hE rfl rfl rfl) cl14 rfl (S_sector_Sum x56_37) (M.unbind H) (fun r h H w' e => by obtain ⟨_, sA, H⟩ := H; rw [e]; exact sA) (fun x57_39 a w ea hR H hs => ?_)
              obtain ⟨_, sA, H⟩ := H; clear sA
              have hE := Env.put_some hE rfl ea; clear ea
              refine d_calll (i := 27) #[true, true, true, true, true, true, true, true, true, true, true, true, true, true, true, true, true, true, true, true, true, true, true, true, true, true, true, true, false, false, false] rfl rfl rfl hT (by kernel_rfl) rfl hE hR (wanted_of rfl hE rfl rfl rfl) cl15 rfl (S_rambleref05_Sum x59_38) (M.unbind H) (fun x60_40 a w ea hR H => ?_)
              have hE := Env.put_some hE rfl ea; clear ea
              refine d_pureg (i := 28) (v := .bool (x57_39 == x60_40)) #[true, true, true, true, true, true, true, true, true, true, true, true, true, true, true, true, true, true, true, true, true, true, true, true, true, true, true, true, true, false, false] rfl rfl hT (by kernel_rfl) hE rfl (wanted_of rfl hE rfl rfl rfl) (fun w => r_bin hE rfl rfl g_int b_eql) (fun a hE => ?_)
              refine d_pureg (i := 29) (v := .bool (x57_39 == x60_40)) #[true, true, true, true, true, true, true, true, true, true, true, true, true, true, true, true, true, true, true, true, true, true, true, true, true, true, true, true, true, true, false] rfl rfl hT (by kernel_rfl) hE rfl (wanted_none rfl) (fun w => r_pick_t hE rfl rfl) (fun a hE => ?_)
              refine d_pureg (i := 30) (v := .bool (x57_39 == x60_40)) #[true, true, true, true, true, true, true, true, true, true, true, true, true, true, true, true, true, true, true, true, true, true, true, true, true, true, true, true, true, true, true] rfl rfl hT (by kernel_rfl) hE rfl (wanted_none rfl) (fun w => r_assign hE rfl) (fun a hE => ?_)
              refine d_done hT (by kernel_rfl) ?_
              exact ⟨x57_39 == x60_40, hE.cut (.cons rfl Subs.nil), hR, H⟩
            · replace H := M.ite_f hb_36 H
              refine d_pureg (i := 15) (v := .bool x47_34) #[true, true, true, true, true, true, true, true, true, true, true, true, true, true, true, true, false, false, false, false, false, false, false, false, false, false, false, false, false, false, false] rfl rfl hT (by kernel_rfl) hE rfl (wanted_none rfl) (fun w => r_pick_t hE rfl rfl) (fun a hE => ?_)
              refine d_pureg (i := 16) (v := .bool x47_34) #[true, true, true, true, true, true, true, true, true, true, true, true, true, true, true, true, true, false, false, false, false, false, false, false, false, false, false, false, false, false, false] rfl rfl hT (by kernel_rfl) hE rfl (wanted_none rfl) (fun w => r_move hE rfl) (fun a hE => ?_)
              have hE := hE.reb 49 x47_34 true hb_35 rfl
              refine d_pureg (i := 17) (v := .int .i64 x25_16.2) #[true, true, true, true, true, true, true, true, true, true, true, true, true, true, true, true, true, true, false, false, false, false, false, false, false, false, false, false, false, false, false] rfl rfl hT (by kernel_rfl) hE rfl (wanted_of rfl hE rfl rfl rfl) (fun w => r_move hE rfl) (fun a hE => ?_)
              refine d_pureg (i := 18) (v := .int .i64 x30_21.2) #[true, true, true, true, true, true, true, true, true, true, true, true, true, true, true, true, true, true, true, false, false, false, false, false, false, false, false, false, false, false, false] rfl rfl hT (by kernel_rfl) hE rfl (wanted_of rfl hE rfl rfl rfl) (fun w => r_move hE rfl) (fun a hE => ?_)
              refine d_pureg (i := 19) (v := .bool (x25_16.2 == x30_21.2)) #[true, true, true, true, true, true, true, true, true, true, true, true, true, true, true, true, true, true, true, true, false, false, false, false, false, false, false, false, false, false, false] rfl rfl hT (by kernel_rfl) hE rfl (wanted_of rfl hE rfl rfl rfl) (fun w => r_bin hE rfl rfl g_int b_eql) (fun a hE => ?_)
              refine d_pureg (i := 20) (v := .bool (x25_16.2 == x30_21.2)) #[true, true, true, true, true, true, true, true, true, true, true, true, true, true, true, true, true, true, true, true, true, false, false, false, false, false, false, false, false, false, false] rfl rfl hT (by kernel_rfl) hE rfl (wanted_none rfl) (fun w => r_pick_t hE rfl rfl) (fun a hE => ?_)
              refine d_pureg (i := 21) (v := .bool (x25_16.2 == x30_21.2)) #[true, true, true, true, true, true, true, true, true, true, true, true, true, true, true, true, true, true, true, true, true, true, false, false, false, false, false, false, false, false, false] rfl rfl hT (by kernel_rfl) hE rfl (wanted_none rfl) (fun w => r_move hE rfl) (fun a hE => ?_)
              have hE := hE.reb 54 (x25_16.2 == x30_21.2) false hb_36 rfl
              refine d_off (i := 22) #[true, true, true, true, true, true, true, true, true, true, true, true, true, true, true, true, true, true, true, true, true, true, true, false, false, false, false, false, false, false, false] rfl rfl hT (by kernel_rfl) (unwanted_of rfl hE rfl rfl rfl) (fun a ea => ?_)
              have hE := Env.put_some hE rfl ea; clear ea
              refine d_off (i := 23) #[true, true, true, true, true, true, true, true, true, true, true, true, true, true, true, true, true, true, true, true, true, true, true, true, false, false, false, false, false, false, false] rfl rfl hT (by kernel_rfl) (unwanted_of rfl hE rfl rfl rfl) (fun a ea => ?_)
              have hE := Env.put_some hE rfl ea; clear ea
              refine d_off (i := 24) #[true, true, true, true, true, true, true, true, true, true, true, true, true, true, true, true, true, true, true, true, true, true, true, true, true, false, false, false, false, false, false] rfl rfl hT (by kernel_rfl) (unwanted_of rfl hE rfl rfl rfl) (fun a ea => ?_)
              have hE := Env.put_some hE rfl ea; clear ea
              refine d_off (i := 25) #[true, true, true, true, true, true, true, true, true, true, true, true, true, true, true, true, true, true, true, true, true, true, true, true, true, true, false, false, false, false, false] rfl rfl hT (by kernel_rfl) (unwanted_of rfl hE rfl rfl rfl) (fun a ea => ?_)
              have hE := Env.put_some hE rfl ea; clear ea
              refine d_off (i := 26) #[true, true, true, true, true, true, true, true, true, true, true, true, true, true, true, true, true, true, true, true, true, true, true, true, true, true, true, false, false, false, false] rfl rfl hT (by kernel_rfl) (unwanted_of rfl hE rfl rfl rfl) (fun a ea => ?_)
              have hE := Env.put_some hE rfl ea; clear ea
              refine d_off (i := 27) #[true, true, true, true, true, true, true, true, true, true, true, true, true, true, true, true, true, true, true, true, true, true, true, true, true, true, true, true, false, false, false] rfl rfl hT (by kernel_rfl) (unwanted_of rfl hE rfl rfl rfl) (fun a ea => ?_)
              have hE := Env.put_some hE rfl ea; clear ea
              refine d_off (i := 28) #[true, true, true, true, true, true, true, true, true, true, true, true, true, true, true, true, true, true, true, true, true, true, true, true, true, true, true, true, true, false, false] rfl rfl hT (by kernel_rfl) (unwanted_of rfl hE rfl rfl rfl) (fun a ea => ?_)
              have hE := Env.put_some hE rfl ea; clear ea
              refine d_pureg (i := 29) (v := .bool false) #[true, true, true, true, true, true, true, true, true, true, true, true, true, true, true, true, true, true, true, true, true, true, true, true, true, true, true, true, true, true, false] rfl rfl hT (by kernel_rfl) hE rfl (wanted_none rfl) (fun w => r_pick_f hE rfl rfl) (fun a hE => ?_)
              refine d_pureg (i := 30) (v := .bool false) #[true, true, true, true, true, true, true, true, true, true, true, true, true, true, true, true, true, true, true, true, true, true, true, true, true, true, true, true, true, true, true] rfl rfl hT (by kernel_rfl) hE rfl (wanted_none rfl) (fun w => r_assign hE rfl) (fun a hE => ?_)
              refine d_done hT (by kernel_rfl) ?_
              exact ⟨false, hE.cut (.cons rfl Subs.nil), hR, H⟩
          · replace H := M.ite_f hb_35 H
            refine d_pureg (i := 15) (v := .bool x47_34) #[true, true, true, true, true, true, true, true, true, true, true, true, true, true, true, true, false, false, false, false, false, false, false, false, false, false, false, false, false, false, false] rfl rfl hT (by kernel_rfl) hE rfl (wanted_none rfl) (fun w => r_pick_t hE rfl rfl) (fun a hE => ?_)
            refine d_pureg (i := 16) (v := .bool x47_34) #[true, true, true, true, true, true, true, true, true, true, true, true, true, true, true, true, true, false, false, false, false, false, false, false, false, false, false, false, false, false, false] rfl rfl hT (by kernel_rfl) hE rfl (wanted_none rfl) (fun w => r_move hE rfl) (fun a hE => ?_)
            have hE := hE.reb 49 x47_34 false hb_35 rfl
            refine d_off (i := 17) #[true, true, true, true, true, true, true, true, true, true, true, true, true, true, true, true, true, true, false, false, false, false, false, false, false, false, false, false, false, false, false] rfl rfl hT (by kernel_rfl) (unwanted_of rfl hE rfl rfl rfl) (fun a ea => ?_)
            have hE := Env.put_some hE rfl ea; clear ea
            refine d_off (i := 18) #[true, true, true, true, true, true, true, true, true, true, true, true, true, true, true, true, true, true, true, false, false, false, false, false, false, false, false, false, false, false, false] rfl rfl hT (by kernel_rfl) (unwanted_of rfl hE rfl rfl rfl) (fun a ea => ?_)
            have hE := Env.put_some hE rfl ea; clear ea
            refine d_off (i := 19) #[true, true, true, true, true, true, true, true, true, true, true, true, true, true, true, true, true, true, true, true, false, false, false, false, false, false, false, false, false, false, false] rfl rfl hT (by kernel_rfl) (unwanted_of rfl hE rfl rfl rfl) (fun a ea => ?_)
            have hE := Env.put_some hE rfl ea; clear ea
            refine d_pureg (i := 20) (v := .bool false) #[true, true, true, true, true, true, true, true, true, true, true, true, true, true, true, true, true, true, true, true, true, false, false, false, false, false, false, false, false, false, false] rfl rfl hT (by kernel_rfl) hE rfl (wanted_none rfl) (fun w => r_pick_f hE rfl rfl) (fun a hE => ?_)
            refine d_pureg (i := 21) (v := .bool false) #[true, true, true, true, true, true, true, true, true, true, true, true, true, true, true, true, true, true, true, true, true, true, false, false, false, false, false, false, false, false, false] rfl rfl hT (by kernel_rfl) hE rfl (wanted_none rfl) (fun w => r_move hE rfl) (fun a hE => ?_)
            refine d_off (i := 22) #[true, true, true, true, true, true, true, true, true, true, true, true, true, true, true, true, true, true, true, true, true, true, true, false, false, false, false, false, false, false, false] rfl rfl hT (by kernel_rfl) (unwanted_of rfl hE rfl rfl rfl) (fun a ea => ?_)
            have hE := Env.put_some hE rfl ea; clear ea
            refine d_off (i := 23) #[true, true, true, true, true, true, true, true, true, true, true, true, true, true, true, true, true, true, true, true, true, true, true, true, false, false, false, false, false, false, false] rfl rfl hT (by kernel_rfl) (unwanted_of rfl hE rfl rfl rfl) (fun a ea => ?_)
            have hE := Env.put_some hE rfl ea; clear ea
            refine d_off (i := 24) #[true, true, true, true, true, true, true, true, true, true, true, true, true, true, true, true, true, true, true, true, true, true, true, true, true, false, false, false, false, false, false] rfl rfl hT (by kernel_rfl) (unwanted_of rfl hE rfl rfl rfl) (fun a ea => ?_)
            have hE := Env.put_some hE rfl ea; clear ea
            refine d_off (i := 25) #[true, true, true, true, true, true, true, true, true, true, true, true, true, true, true, true, true, true, true, true, true, true, true, true, true, true, false, false, false, false, false] rfl rfl hT (by kernel_rfl) (unwanted_of rfl hE rfl rfl rfl) (fun a ea => ?_)
            have hE := Env.put_some hE rfl ea; clear ea
            refine d_off (i := 26) #[true, true, true, true, true, true, true, true, true, true, true, true, true, true, true, true, true, true, true, true, true, true, true, true, true, true, true, false, false, false, false] rfl rfl hT (by kernel_rfl) (unwanted_of rfl hE rfl rfl rfl) (fun a ea => ?_)
            have hE := Env.put_some hE rfl ea; clear ea
            refine d_off (i := 27) #[true, true, true, true, true, true, true, true, true, true, true, true, true, true, true, true, true, true, true, true, true, true, true, true, true, true, true, true, false, false, false] rfl rfl hT (by kernel_rfl) (unwanted_of rfl hE rfl rfl rfl) (fun a ea => ?_)
            have hE := Env.put_some hE rfl ea; clear ea
            refine d_off (i := 28) #[true, true, true, true, true, true, true, true, true, true, true, true, true, true, true, true, true, true, true, true, true, true, true, true, true, true, true, true, true, false, false] rfl rfl hT (by kernel_rfl) (unwanted_of rfl hE rfl rfl rfl) (fun a ea => ?_)
            have hE := Env.put_some hE rfl ea; clear ea
            refine d_pureg (i := 29) (v := .bool false) #[true, true, true, true, true, true, true, true, true, true, true, true, true, true, true, true, true, true, true, true, true, true, true, true, true, true, true, true, true, true, false] rfl rfl hT (by kernel_rfl) hE rfl (wanted_none rfl) (fun w => r_pick_f hE rfl rfl) (fun a hE => ?_)
            refine d_pureg (i := 30) (v := .bool false) #[true, true, true, true, true, true, true, true, true, true, true, true, true, true, true, true, true, true, true, true, true, true, true, true, true, true, true, true, true, true, true] rfl rfl hT (by kernel_rfl) hE rfl (wanted_none rfl) (fun w => r_assign hE rfl) (fun a hE => ?_)
            refine d_done hT (by kernel_rfl) ?_
            exact ⟨false, hE.cut (.cons rfl Subs.nil), hR, H⟩
        · replace H := M.ite_f hb_31 H
          refine d_switch (fun w : World => (fun h : Heap => (x35_27.size = 128 ∧ ∀ i, i < 128 → hcell h (Addr.add x5_7 i) = x35_27[i]?) ∧ (x36_28.size = 128 ∧ ∀ i, i < 128 → hcell h (Addr.add x7_12 i) = x36_28[i]?)) w.heap) [4, 5, 6, 7, 8, 9, 10, 11, 12, 13, 14, 15, 16, 17, 18, 19, 20, 21, 22, 23, 24, 25, 26, 27, 28, 29, 30] (by kernel_rfl) ?_
          have hs : (fun h : Heap => (x35_27.size = 128 ∧ ∀ i, i < 128 → hcell h (Addr.add x5_7 i) = x35_27[i]?) ∧ (x36_28.size = 128 ∧ ∀ i, i < 128 → hcell h (Addr.add x7_12 i) = x36_28[i]?)) w.heap := ⟨qx35_27, qx36_28⟩
          refine d_pureg (i := 1) (v := .bool x33_25) #[true, true, false, false, false, false, false, false, false, false, false, false, false, false, false, false, false, false, false, false, false, false, false, false, false, false, false, false, false, false, false] rfl rfl hT (by kernel_rfl) hE rfl (wanted_none rfl) (fun w => r_move hE rfl) (fun a hE => ?_)
          have hE := hE.reb 34 x33_25 true hb_26 rfl
          refine d_read (i := 2) (v := .agg x35_27) #[true, true, true, false, false, false, false, false, false, false, false, false, false, false, false, false, false, false, false, false, false, false, false, false, false, false, false, false, false, false, false] rfl rfl hT (by kernel_rfl) hE rfl (wanted_of rfl hE rfl rfl rfl) hs (fun w s => r_loadG hE rfl ag26 s.1) (fun a hE => ?_)
          refine d_read (i := 3) (v := .agg x36_28) #[true, true, true, true, false, false, false, false, false, false, false, false, false, false, false, false, false, false, false, false, false, false, false, false, false, false, false, false, false, false, false] rfl rfl hT (by kernel_rfl) hE rfl (wanted_of rfl hE rfl rfl rfl) hs (fun w s => r_loadG hE rfl ag26 s.2) (fun a hE => ?_)
          refine d_pureg (i := 4) (v := .bool x37_29) #[true, true, true, true, true, false, false, false, false, false, false, false, false, false, false, false, false, false, false, false, false, false, false, false, false, false, false, false, false, false, false] rfl rfl hT (by kernel_rfl) hE rfl (wanted_of rfl hE rfl rfl rfl) (fun w => r_bin hE rfl rfl (g_agg eg26) (b_eqlA un26 un5 sz5 qx37_29)) (fun a hE => ?_)
          refine d_pureg (i := 5) (v := .bool x37_29) #[true, true, true, true, true, true, false, false, false, false, false, false, false, false, false, false, false, false, false, false, false, false, false, false, false, false, false, false, false, false, false] rfl rfl hT (by kernel_rfl) hE rfl (wanted_none rfl) (fun w => r_pick_t hE rfl rfl) (fun a hE => ?_)
          refine d_pureg (i := 6) (v := .bool x37_29) #[true, true, true, true, true, true, true, false, false, false, false, false, false, false, false, false, false, false, false, false, false, false, false, false, false, false, false, false, false, false, false] rfl rfl hT (by kernel_rfl) hE rfl (wanted_none rfl) (fun w => r_move hE rfl) (fun a hE => ?_)
          have hE := hE.reb 39 x37_29 true hb_30 rfl
          refine d_pureg (i := 7) (v := .int .i64 x15_6.2) #[true, true, true, true, true, true, true, true, false, false, false, false, false, false, false, false, false, false, false, false, false, false, false, false, false, false, false, false, false, false, false] rfl rfl hT (by kernel_rfl) hE rfl (wanted_of rfl hE rfl rfl rfl) (fun w => r_move hE rfl) (fun a hE => ?_)
          refine d_pureg (i := 8) (v := .int .i64 x20_11.2) #[true, true, true, true, true, true, true, true, true, false, false, false, false, false, false, false, false, false, false, false, false, false, false, false, false, false, false, false, false, false, false] rfl rfl hT (by kernel_rfl) hE rfl (wanted_of rfl hE rfl rfl rfl) (fun w => r_move hE rfl) (fun a hE => ?_)
          refine d_pureg (i := 9) (v := .bool (x15_6.2 == x20_11.2)) #[true, true, true, true, true, true, true, true, true, true, false, false, false, false, false, false, false, false, false, false, false, false, false, false, false, false, false, false, false, false, false] rfl rfl hT (by kernel_rfl) hE rfl (wanted_of rfl hE rfl rfl rfl) (fun w => r_bin hE rfl rfl g_int b_eql) (fun a hE => ?_)
          refine d_pureg (i := 10) (v := .bool (x15_6.2 == x20_11.2)) #[true, true, true, true, true, true, true, true, true, true, true, false, false, false, false, false, false, false, false, false, false, false, false, false, false, false, false, false, false, false, false] rfl rfl hT (by kernel_rfl) hE rfl (wanted_none rfl) (fun w => r_pick_t hE rfl rfl) (fun a hE => ?_)
          refine d_pureg (i := 11) (v := .bool (x15_6.2 == x20_11.2)) #[true, true, true, true, true, true, true, true, true, true, true, true, false, false, false, false, false, false, false, false, false, false, false, false, false, false, false, false, false, false, false] rfl rfl hT (by kernel_rfl) hE rfl (wanted_none rfl) (fun w => r_move hE rfl) (fun a hE => ?_)
          have hE := hE.reb 44 (x15_6.2 == x20_11.2) false hb_31 rfl
          refine d_off (i := 12) #[true, true, true, true, true, true, true, true, true, true, true, true, true, false, false, false, false, false, false, false, false, false, false, false, false, false, false, false, false, false, false] rfl rfl hT (by kernel_rfl) (unwanted_of rfl hE rfl rfl rfl) (fun a ea => ?_)
          have hE := Env.put_some hE rfl ea; clear ea
          refine d_off (i := 13) #[true, true, true, true, true, true, true, true, true, true, true, true, true, true, false, false, false, false, false, false, false, false, false, false, false, false, false, false, false, false, false] rfl rfl hT (by kernel_rfl) (unwanted_of rfl hE rfl rfl rfl) (fun a ea => ?_)
          have hE := Env.put_some hE rfl ea; clear ea
          refine d_off (i := 14) #[true, true, true, true, true, true, true, true, true, true, true, true, true, true, true, false, false, false, false, false, false, false, false, false, false, false, false, false, false, false, false] rfl rfl hT (by kernel_rfl) (unwanted_of rfl hE rfl rfl rfl) (fun a ea => ?_)
          have hE := Env.put_some hE rfl ea; clear ea
          refine d_pureg (i := 15) (v := .bool false) #[true, true, true, true, true, true, true, true, true, true, true, true, true, true, true, true, false, false, false, false, false, false, false, false, false, false, false, false, false, false, false] rfl rfl hT (by kernel_rfl) hE rfl (wanted_none rfl) (fun w => r_pick_f hE rfl rfl) (fun a hE => ?_)
          refine d_pureg (i := 16) (v := .bool false) #[true, true, true, true, true, true, true, true, true, true, true, true, true, true, true, true, true, false, false, false, false, false, false, false, false, false, false, false, false, false, false] rfl rfl hT (by kernel_rfl) hE rfl (wanted_none rfl) (fun w => r_move hE rfl) (fun a hE => ?_)
          refine d_off (i := 17) #[true, true, true, true, true, true, true, true, true, true, true, true, true, true, true, true, true, true, false, false, false, false, false, false, false, false, false, false, false, false, false] rfl rfl hT (by kernel_rfl) (unwanted_of rfl hE rfl rfl rfl) (fun a ea => ?_)
          have hE := Env.put_some hE rfl ea; clear ea
          refine d_off (i := 18) #[true, true, true, true, true, true, true, true, true, true, true, true, true, true, true, true, true, true, true, false, false, false, false, false, false, false, false, false, false, false, false] rfl rfl hT (by kernel_rfl) (unwanted_of rfl hE rfl rfl rfl) (fun a ea => ?_)
          have hE := Env.put_some hE rfl ea; clear ea
          refine d_off (i := 19) #[true, true, true, true, true, true, true, true, true, true, true, true, true, true, true, true, true, true, true, true, false, false, false, false, false, false, false, false, false, false, false] rfl rfl hT (by kernel_rfl) (unwanted_of rfl hE rfl rfl rfl) (fun a ea => ?_)
          have hE := Env.put_some hE rfl ea; clear ea
          refine d_pureg (i := 20) (v := .bool false) #[true, true, true, true, true, true, true, true, true, true, true, true, true, true, true, true, true, true, true, true, true, false, false, false, false, false, false, false, false, false, false] rfl rfl hT (by kernel_rfl) hE rfl (wanted_none rfl) (fun w => r_pick_f hE rfl rfl) (fun a hE => ?_)
          refine d_pureg (i := 21) (v := .bool false) #[true, true, true, true, true, true, true, true, true, true, true, true, true, true, true, true, true, true, true, true, true, true, false, false, false, false, false, false, false, false, false] rfl rfl hT (by kernel_rfl) hE rfl (wanted_none rfl) (fun w => r_move hE rfl) (fun a hE => ?_)
          refine d_off (i := 22) #[true, true, true, true, true, true, true, true, true, true, true, true, true, true, true, true, true, true, true, true, true, true, true, false, false, false, false, false, false, false, false] rfl rfl hT (by kernel_rfl) (unwanted_of rfl hE rfl rfl rfl) (fun a ea => ?_)
          have hE := Env.put_some hE rfl ea; clear ea
          refine d_off (i := 23) #[true, true, true, true, true, true, true, true, true, true, true, true, true, true, true, true, true, true, true, true, true, true, true, true, false, false, false, false, false, false, false] rfl rfl hT (by kernel_rfl) (unwanted_of rfl hE rfl rfl rfl) (fun a ea => ?_)
          have hE := Env.put_some hE rfl ea; clear ea
          refine d_off (i := 24) #[true, true, true, true, true, true, true, true, true, true, true, true, true, true, true, true, true, true, true, true, true, true, true, true, true, false, false, false, false, false, false] rfl rfl hT (by kernel_rfl) (unwanted_of rfl hE rfl rfl rfl) (fun a ea => ?_)
          have hE := Env.put_some hE rfl ea; clear ea
          refine d_off (i := 25) #[true, true, true, true, true, true, true, true, true, true, true, true, true, true, true, true, true, true, true, true, true, true, true, true, true, true, false, false, false, false, false] rfl rfl hT (by kernel_rfl) (unwanted_of rfl hE rfl rfl rfl) (fun a ea => ?_)
          have hE := Env.put_some hE rfl ea; clear ea
          refine d_off (i := 26) #[true, true, true, true, true, true, true, true, true, true, true, true, true, true, true, true, true, true, true, true, true, true, true, true, true, true, true, false, false, false, false] rfl rfl hT (by kernel_rfl) (unwanted_of rfl hE rfl rfl rfl) (fun a ea => ?_)
          have hE := Env.put_some hE rfl ea; clear ea
          refine d_off (i := 27) #[true, true, true, true, true, true, true, true, true, true, true, true, true, true, true, true, true, true, true, true, true, true, true, true, true, true, true, true, false, false, false] rfl rfl hT (by kernel_rfl) (unwanted_of rfl hE rfl rfl rfl) (fun a ea => ?_)
          have hE := Env.put_some hE rfl ea; clear ea
          refine d_off (i := 28) #[true, true, true, true, true, true, true, true, true, true, true, true, true, true, true, true, true, true, true, true, true, true, true, true, true, true, true, true, true, false, false] rfl rfl hT (by kernel_rfl) (unwanted_of rfl hE rfl rfl rfl) (fun a ea => ?_)
          have hE := Env.put_some hE rfl ea; clear ea
          refine d_pureg (i := 29) (v := .bool false) #[true, true, true, true, true, true, true, true, true, true, true, true, true, true, true, true, true, true, true, true, true, true, true, true, true, true, true, true, true, true, false] rfl rfl hT (by kernel_rfl) hE rfl (wanted_none rfl) (fun w => r_pick_f hE rfl rfl) (fun a hE => ?_)
          refine d_pureg (i := 30) (v := .bool false) #[true, true, true, true, true, true, true, true, true, true, true, true, true, true, true, true, true, true, true, true, true, true, true, true, true, true, true, true, true, true, true] rfl rfl hT (by kernel_rfl) hE rfl (wanted_none rfl) (fun w => r_assign hE rfl) (fun a hE => ?_)
          refine d_done hT (by kernel_rfl) ?_
          exact ⟨false, hE.cut (.cons rfl Subs.nil), hR, H⟩
      · replace H := M.ite_f hb_30 H
        refine d_switch (fun w : World => (fun h : Heap => (x35_27.size = 128 ∧ ∀ i, i < 128 → hcell h (Addr.add x5_7 i) = x35_27[i]?) ∧ (x36_28.size = 128 ∧ ∀ i, i < 128 → hcell h (Addr.add x7_12 i) = x36_28[i]?)) w.heap) [4, 5, 6, 7, 8, 9, 10, 11, 12, 13, 14, 15, 16, 17, 18, 19, 20, 21, 22, 23, 24, 25, 26, 27, 28, 29, 30] (by kernel_rfl) ?_
        have hs : (fun h : Heap => (x35_27.size = 128 ∧ ∀ i, i < 128 → hcell h (Addr.add x5_7 i) = x35_27[i]?) ∧ (x36_28.size = 128 ∧ ∀ i, i < 128 → hcell h (Addr.add x7_12 i) = x36_28[i]?)) w.heap := ⟨qx35_27, qx36_28⟩
        refine d_pureg (i := 1) (v := .bool x33_25) #[true, true, false, false, false, false, false, false, false, false, false, false, false, false, false, false, false, false, false, false, false, false, false, false, false, false, false, false, false, false, false] rfl rfl hT (by kernel_rfl) hE rfl (wanted_none rfl) (fun w => r_move hE rfl) (fun a hE => ?_)
        have hE := hE.reb 34 x33_25 true hb_26 rfl
        refine d_read (i := 2) (v := .agg x35_27) #[true, true, true, false, false, false, false, false, false, false, false, false, false, false, false, false, false, false, false, false, false, false, false, false, false, false, false, false, false, false, false] rfl rfl hT (by kernel_rfl) hE rfl (wanted_of rfl hE rfl rfl rfl) hs (fun w s => r_loadG hE rfl ag26 s.1) (fun a hE => ?_)
        refine d_read (i := 3) (v := .agg x36_28) #[true, true, true, true, false, false, false, false, false, false, false, false, false, false, false, false, false, false, false, false, false, false, false, false, false, false, false, false, false, false, false] rfl rfl hT (by kernel_rfl) hE rfl (wanted_of rfl hE rfl rfl rfl) hs (fun w s => r_loadG hE rfl ag26 s.2) (fun a hE => ?_)
        refine d_pureg (i := 4) (v := .bool x37_29) #[true, true, true, true, true, false, false, false, false, false, false, false, false, false, false, false, false, false, false, false, false, false, false, false, false, false, false, false, false, false, false] rfl rfl hT (by kernel_rfl) hE rfl (wanted_of rfl hE rfl rfl rfl) (fun w => r_bin hE rfl rfl (g_agg eg26) (b_eqlA un26 un5 sz5 qx37_29)) (fun a hE => ?_)
        refine d_pureg (i := 5) (v := .bool x37_29) #[true, true, true, true, true, true, false, false, false, false, false, false, false, false, false, false, false, false, false, false, false, false, false, false, false, false, false, false, false, false, false] rfl rfl hT (by kernel_rfl) hE rfl (wanted_none rfl) (fun w => r_pick_t hE rfl rfl) (fun a hE => ?_)
        refine d_pureg (i := 6) (v := .bool x37_29) #[true, true, true, true, true, true, true, false, false, false, false, false, false, false, false, false, false, false, false, false, false, false, false, false, false, false, false, false, false, false, false] rfl rfl hT (by kernel_rfl) hE rfl (wanted_none rfl) (fun w => r_move hE rfl) (fun a hE => ?_)
        have hE := hE.reb 39 x37_29 false hb_30 rfl
        refine d_off (i := 7) #[true, true, true, true, true, true, true, true, false, false, false, false, false, false, false, false, false, false, false, false, false, false, false, false, false, false, false, false, false, false, false] rfl rfl hT (by kernel_rfl) (unwanted_of rfl hE rfl rfl rfl) (fun a ea => ?_)
        have hE := Env.put_some hE rfl ea; clear ea
        refine d_off (i := 8) #[true, true, true, true, true, true, true, true, true, false, false, false, false, false, false, false, false, false, false, false, false, false, false, false, false, false, false, false, false, false, false] rfl rfl hT (by kernel_rfl) (unwanted_of rfl hE rfl rfl rfl) (fun a ea => ?_)
        have hE := Env.put_some hE rfl ea; clear ea
        refine d_off (i := 9) #[true, true, true, true, true, true, true, true, true, true, false, false, false, false, false, false, false, false, false, false, false, false, false, false, false, false, false, false, false, false, false] rfl rfl hT (by kernel_rfl) (unwanted_of rfl hE rfl rfl rfl) (fun a ea => ?_)
        have hE := Env.put_some hE rfl ea; clear ea
        refine d_pureg (i := 10) (v := .bool false) #[true, true, true, true, true, true, true, true, true, true, true, false, false, false, false, false, false, false, false, false, false, false, false, false, false, false, false, false, false, false, false] rfl rfl hT (by kernel_rfl) hE rfl (wanted_none rfl) (fun w => r_pick_f hE rfl rfl) (fun a hE => ?_)
        refine d_pureg (i := 11) (v := .bool false) #[true, true, true, true, true, true, true, true, true, true, true, true, false, false, false, false, false, false, false, false, false, false, false, false, false, false, false, false, false, false, false] rfl rfl hT (by kernel_rfl) hE rfl (wanted_none rfl) (fun w => r_move hE rfl) (fun a hE => ?_)
        refine d_off (i := 12) #[true, true, true, true, true, true, true, true, true, true, true, true, true, false, false, false, false, false, false, false, false, false, false, false, false, false, false, false, false, false, false] rfl rfl hT (by kernel_rfl) (unwanted_of rfl hE rfl rfl rfl) (fun a ea => ?_)
        have hE := Env.put_some hE rfl ea; clear ea
        refine d_off (i := 13) #[true, true, true, true, true, true, true, true, true, true, true, true, true, true, false, false, false, false, false, false, false, false, false, false, false, false, false, false, false, false, false] rfl rfl hT (by kernel_rfl) (unwanted_of rfl hE rfl rfl rfl) (fun a ea => ?_)
        have hE := Env.put_some hE rfl ea; clear ea
        refine d_off (i := 14) #[true, true, true, true, true, true, true, true, true, true, true, true, true, true, true, false, false, false, false, false, false, false, false, false, false, false, false, false, false, false, false] rfl rfl hT (by kernel_rfl) (unwanted_of rfl hE rfl rfl rfl) (fun a ea => ?_)
        have hE := Env.put_some hE rfl ea; clear ea
        refine d_pureg (i := 15) (v := .bool false) #[true, true, true, true, true, true, true, true, true, true, true, true, true, true, true, true, false, false, false, false, false, false, false, false, false, false, false, false, false, false, false] rfl rfl hT (by kernel_rfl) hE rfl (wanted_none rfl) (fun w => r_pick_f hE rfl rfl) (fun a hE => ?_)
        refine d_pureg (i := 16) (v := .bool false) #[true, true, true, true, true, true, true, true, true, true, true, true, true, true, true, true, true, false, false, false, false, false, false, false, false, false, false, false, false, false, false] rfl rfl hT (by kernel_rfl) hE rfl (wanted_none rfl) (fun w => r_move hE rfl) (fun a hE => ?_)
        refine d_off (i := 17) #[true, true, true, true, true, true, true, true, true, true, true, true, true, true, true, true, true, true, false, false, false, false, false, false, false, false, false, false, false, false, false] rfl rfl hT (by kernel_rfl) (unwanted_of rfl hE rfl rfl rfl) (fun a ea => ?_)
        have hE := Env.put_some hE rfl ea; clear ea
        refine d_off (i := 18) #[true, true, true, true, true, true, true, true, true, true, true, true, true, true, true, true, true, true, true, false, false, false, false, false, false, false, false, false, false, false, false] rfl rfl hT (by kernel_rfl) (unwanted_of rfl hE rfl rfl rfl) (fun a ea => ?_)
        have hE := Env.put_some hE rfl ea; clear ea
        refine d_off (i := 19) #[true, true, true, true, true, true, true, true, true, true, true, true, true, true, true, true, true, true, true, true, false, false, false, false, false, false, false, false, false, false, false] rfl rfl hT (by kernel_rfl) (unwanted_of rfl hE rfl rfl rfl) (fun a ea => ?_)
        have hE := Env.put_some hE rfl ea; clear ea
        refine d_pureg (i := 20) (v := .bool false) #[true, true, true, true, true, true, true, true, true, true, true, true, true, true, true, true, true, true, true, true, true, false, false, false, false, false, false, false, false, false, false] rfl rfl hT (by kernel_rfl) hE rfl (wanted_none rfl) (fun w => r_pick_f hE rfl rfl) (fun a hE => ?_)
        refine d_pureg (i := 21) (v := .bool false) #[true, true, true, true, true, true, true, true, true, true, true, true, true, true, true, true, true, true, true, true, true, true, false, false, false, false, false, false, false, false, false] rfl rfl hT (by kernel_rfl) hE rfl (wanted_none rfl) (fun w => r_move hE rfl) (fun a hE => ?_)
        refine d_off (i := 22) #[true, true, true, true, true, true, true, true, true, true, true, true, true, true, true, true, true, true, true, true, true, true, true, false, false, false, false, false, false, false, false] rfl rfl hT (by kernel_rfl) (unwanted_of rfl hE rfl rfl rfl) (fun a ea => ?_)
        have hE := Env.put_some hE rfl ea; clear ea
        refine d_off (i := 23) #[true, true, true, true, true, true, true, true, true, true, true, true, true, true, true, true, true, true, true, true, true, true, true, true, false, false, false, false, false, false, false] rfl rfl hT (by kernel_rfl) (unwanted_of rfl hE rfl rfl rfl) (fun a ea => ?_)
        have hE := Env.put_some hE rfl ea; clear ea
        refine d_off (i := 24) #[true, true, true, true, true, true, true, true, true, true, true, true, true, true, true, true, true, true, true, true, true, true, true, true, true, false, false, false, false, false, false] rfl rfl hT (by kernel_rfl) (unwanted_of rfl hE rfl rfl rfl) (fun a ea => ?_)
        have hE := Env.put_some hE rfl ea; clear ea
        refine d_off (i := 25) #[true, true, true, true, true, true, true, true, true, true, true, true, true, true, true, true, true, true, true, true, true, true, true, true, true, true, false, false, false, false, false] rfl rfl hT (by kernel_rfl) (unwanted_of rfl hE rfl rfl rfl) (fun a ea => ?_)
        have hE := Env.put_some hE rfl ea; clear ea
        refine d_off (i := 26) #[true, true, true, true, true, true, true, true, true, true, true, true, true, true, true, true, true, true, true, true, true, true, true, true, true, true, true, false, false, false, false] rfl rfl hT (by kernel_rfl) (unwanted_of rfl hE rfl rfl rfl) (fun a ea => ?_)
        have hE := Env.put_some hE rfl ea; clear ea
        refine d_off (i := 27) #[true, true, true, true, true, true, true, true, true, true, true, true, true, true, true, true, true, true, true, true, true, true, true, true, true, true, true, true, false, false, false] rfl rfl hT (by kernel_rfl) (unwanted_of rfl hE rfl rfl rfl) (fun a ea => ?_)
        have hE := Env.put_some hE rfl ea; clear ea
        refine d_off (i := 28) #[true, true, true, true, true, true, true, true, true, true, true, true, true, true, true, true, true, true, true, true, true, true, true, true, true, true, true, true, true, false, false] rfl rfl hT (by kernel_rfl) (unwanted_of rfl hE rfl rfl rfl) (fun a ea => ?_)
        have hE := Env.put_some hE rfl ea; clear ea
        refine d_pureg (i := 29) (v := .bool false) #[true, true, true, true, true, true, true, true, true, true, true, true, true, true, true, true, true, true, true, true, true, true, true, true, true, true, true, true, true, true, false] rfl rfl hT (by kernel_rfl) hE rfl (wanted_none rfl) (fun w => r_pick_f hE rfl rfl) (fun a hE => ?_)
        refine d_pureg (i := 30) (v := .bool false) #[true, true, true, true, true, true, true, true, true, true, true, true, true, true, true, true, true, true, true, true, true, true, true, true, true, true, true, true, true, true, true] rfl rfl hT (by kernel_rfl) hE rfl (wanted_none rfl) (fun w => r_assign hE rfl) (fun a hE => ?_)
        refine d_done hT (by kernel_rfl) ?_
        exact ⟨false, hE.cut (.cons rfl Subs.nil), hR, H⟩
    · replace H := M.ite_f hb_26 H
      refine d_pureg (i := 1) (v := .bool x33_25) #[true, true, false, false, false, false, false, false, false, false, false, false, false, false, false, false, false, false, false, false, false, false, false, false, false, false, false, false, false, false, false] rfl rfl hT (by kernel_rfl) hE rfl (wanted_none rfl) (fun w => r_move hE rfl) (fun a hE => ?_)
      have hE := hE.reb 34 x33_25 false hb_26 rfl
      refine d_off (i := 2) #[true, true, true, false, false, false, false, false, false, false, false, false, false, false, false, false, false, false, false, false, false, false, false, false, false, false, false, false, false, false, false] rfl rfl hT (by kernel_rfl) (unwanted_of rfl hE rfl rfl rfl) (fun a ea => ?_)
      have hE := Env.put_some hE rfl ea; clear ea
      refine d_off (i := 3) #[true, true, true, true, false, false, false, false, false, false, false, false, false, false, false, false, false, false, false, false, false, false, false, false, false, false, false, false, false, false, false] rfl rfl hT (by kernel_rfl) (unwanted_of rfl hE rfl rfl rfl) (fun a ea => ?_)
      have hE := Env.put_some hE rfl ea; clear ea
      refine d_off (i := 4) #[true, true, true, true, true, false, false, false, false, false, false, false, false, false, false, false, false, false, false, false, false, false, false, false, false, false, false, false, false, false, false] rfl rfl hT (by kernel_rfl) (unwanted_of rfl hE rfl rfl rfl) (fun a ea => ?_)
      have hE := Env.put_some hE rfl ea; clear ea
      refine d_pureg (i := 5) (v := .bool false) #[true, true, true, true, true, true, false, false, false, false, false, false, false, false, false, false, false, false, false, false, false, false, false, false, false, false, false, false, false, false, false] rfl rfl hT (by kernel_rfl) hE rfl (wanted_none rfl) (fun w => r_pick_f hE rfl rfl) (fun a hE => ?_)
      refine d_pureg (i := 6) (v := .bool false) #[true, true, true, true, true, true, true, false, false, false, false, false, false, false, false, false, false, false, false, false, false, false, false, false, false, false, false, false, false, false, false] rfl rfl hT (by kernel_rfl) hE rfl (wanted_none rfl) (fun w => r_move hE rfl) (fun a hE => ?_)
      refine d_off (i := 7) #[true, true, true, true, true, true, true, true, false, false, false, false, false, false, false, false, false, false, false, false, false, false, false, false, false, false, false, false, false, false, false] rfl rfl hT (by kernel_rfl) (unwanted_of rfl hE rfl rfl rfl) (fun a ea => ?_)
      have hE := Env.put_some hE rfl ea; clear ea
      refine d_off (i := 8) #[true, true, true, true, true, true, true, true, true, false, false, false, false, false, false, false, false, false, false, false, false, false, false, false, false, false, false, false, false, false, false] rfl rfl hT (by kernel_rfl) (unwanted_of rfl hE rfl rfl rfl) (fun a ea => ?_)
      have hE := Env.put_some hE rfl ea; clear ea
      refine d_off (i := 9) #[true, true, true, true, true, true, true, true, true, true, false, false, false, false, false, false, false, false, false, false, false, false, false, false, false, false, false, false, false, false, false] rfl rfl hT (by kernel_rfl) (unwanted_of rfl hE rfl rfl rfl) (fun a ea => ?_)
      have hE := Env.put_some hE rfl ea; clear ea
      refine d_pureg (i := 10) (v := .bool false) #[true, true, true, true, true, true, true, true, true, true, true, false, false, false, false, false, false, false, false, false, false, false, false, false, false, false, false, false, false, false, false] rfl rfl hT (by kernel_rfl) hE rfl (wanted_none rfl) (fun w => r_pick_f hE rfl rfl) (fun a hE => ?_)
      refine d_pureg (i := 11) (v := .bool false) #[true, true, true, true, true, true, true, true, true, true, true, true, false, false, false, false, false, false, false, false, false, false, false, false, false, false, false, false, false, false, false] rfl rfl hT (by kernel_rfl) hE rfl (wanted_none rfl) (fun w => r_move hE rfl) (fun a hE => ?_)
      refine d_off (i := 12) #[true, true, true, true, true, true, true, true, true, true, true, true, true, false, false, false, false, false, false, false, false, false, false, false, false, false, false, false, false, false, false] rfl rfl hT (by kernel_rfl) (unwanted_of rfl hE rfl rfl rfl) (fun a ea => ?_)
      have hE := Env.put_some hE rfl ea; clear ea
      refine d_off (i := 13) #[true, true, true, true, true, true, true, true, true, true, true, true, true, true, false, false, false, false, false, false, false, false, false, false, false, false, false, false, false, false, false] rfl rfl hT (by kernel_rfl) (unwanted_of rfl hE rfl rfl rfl) (fun a ea => ?_)
      have hE := Env.put_some hE rfl ea; clear ea
      refine d_off (i := 14) #[true, true, true, true, true, true, true, true, true, true, true, true, true, true, true, false, false, false, false, false, false, false, false, false, false, false, false, false, false, false, false] rfl rfl hT (by kernel_rfl) (unwanted_of rfl hE rfl rfl rfl) (fun a ea => ?_)
      have hE := Env.put_some hE rfl ea; clear ea
      refine d_pureg (i := 15) (v := .bool false) #[true, true, true, true, true, true, true, true, true, true, true, true, true, true, true, true, false, false, false, false, false, false, false, false, false, false, false, false, false, false, false] rfl rfl hT (by kernel_rfl) hE rfl (wanted_none rfl) (fun w => r_pick_f hE rfl rfl) (fun a hE => ?_)
      refine d_pureg (i := 16) (v := .bool false) #[true, true, true, true, true, true, true, true, true, true, true, true, true, true, true, true, true, false, false, false, false, false, false, false, false, false, false, false, false, false, false] rfl rfl hT (by kernel_rfl) hE rfl (wanted_none rfl) (fun w => r_move hE rfl) (fun a hE => ?_)
      refine d_off (i := 17) #[true, true, true, true, true, true, true, true, true, true, true, true, true, true, true, true, true, true, false, false, false, false, false, false, false, false, false, false, false, false, false] rfl rfl hT (by kernel_rfl) (unwanted_of rfl hE rfl rfl rfl) (fun a ea => ?_)
      have hE := Env.put_some hE rfl ea; clear ea
      refine d_off (i := 18) #[true, true, true, true, true, true, true, true, true, true, true, true, true, true, true, true, true, true, true, false, false, false, false, false, false, false, false, false, false, false, false] rfl rfl hT (by kernel_rfl) (unwanted_of rfl hE rfl rfl rfl) (fun a ea => ?_)
      have hE := Env.put_some hE rfl ea; clear ea
      refine d_off (i := 19) #[true, true, true, true, true, true, true, true, true, true, true, true, true, true, true, true, true, true, true, true, false, false, false, false, false, false, false, false, false, false, false] rfl rfl hT (by kernel_rfl) (unwanted_of rfl hE rfl rfl rfl) (fun a ea => ?_)
      have hE := Env.put_some hE rfl ea; clear ea
      refine d_pureg (i := 20) (v := .bool false) #[true, true, true, true, true, true, true, true, true, true, true, true, true, true, true, true, true, true, true, true, true, false, false, false, false, false, false, false, false, false, false] rfl rfl hT (by kernel_rfl) hE rfl (wanted_none rfl) (fun w => r_pick_f hE rfl rfl) (fun a hE => ?_)
      refine d_pureg (i := 21) (v := .bool false) #[true, true, true, true, true, true, true, true, true, true, true, true, true, true, true, true, true, true, true, true, true, true, false, false, false, false, false, false, false, false, false] rfl rfl hT (by kernel_rfl) hE rfl (wanted_none rfl) (fun w => r_move hE rfl) (fun a hE => ?_)
      refine d_off (i := 22) #[true, true, true, true, true, true, true, true, true, true, true, true, true, true, true, true, true, true, true, true, true, true, true, false, false, false, false, false, false, false, false] rfl rfl hT (by kernel_rfl) (unwanted_of rfl hE rfl rfl rfl) (fun a ea => ?_)
      have hE := Env.put_some hE rfl ea; clear ea
      refine d_off (i := 23) #[true, true, true, true, true, true, true, true, true, true, true, true, true, true, true, true, true, true, true, true, true, true, true, true, false, false, false, false, false, false, false] rfl rfl hT (by kernel_rfl) (unwanted_of rfl hE rfl rfl rfl) (fun a ea => ?_)
      have hE := Env.put_some hE rfl ea; clear ea
      refine d_off (i := 24) #[true, true, true, true, true, true, true, true, true, true, true, true, true, true, true, true, true, true, true, true, true, true, true, true, true, false, false, false, false, false, false] rfl rfl hT (by kernel_rfl) (unwanted_of rfl hE rfl rfl rfl) (fun a ea => ?_)
      have hE := Env.put_some hE rfl ea; clear ea
      refine d_off (i := 25) #[true, true, true, true, true, true, true, true, true, true, true, true, true, true, true, true, true, true, true, true, true, true, true, true, true, true, false, false, false, false, false] rfl rfl hT (by kernel_rfl) (unwanted_of rfl hE rfl rfl rfl) (fun a ea => ?_)
      have hE := Env.put_some hE rfl ea; clear ea
      refine d_off (i := 26) #[true, true, true, true, true, true, true, true, true, true, true, true, true, true, true, true, true, true, true, true, true, true, true, true, true, true, true, false, false, false, false] rfl rfl hT (by kernel_rfl) (unwanted_of rfl hE rfl rfl rfl) (fun a ea => ?_)
      have hE := Env.put_some hE rfl ea; clear ea
      refine d_off (i := 27) #[true, true, true, true, true, true, true, true, true, true, true, true, true, true, true, true, true, true, true, true, true, true, true, true, true, true, true, true, false, false, false] rfl rfl hT (by kernel_rfl) (unwanted_of rfl hE rfl rfl rfl) (fun a ea => ?_)
      have hE := Env.put_some hE rfl ea; clear ea
      refine d_off (i := 28) #[true, true, true, true, true, true, true, true, true, true, true, true, true, true, true, true, true, true, true, true, true, true, true, true, true, true, true, true, true, false, false] rfl rfl hT (by kernel_rfl) (unwanted_of rfl hE rfl rfl rfl) (fun a ea => ?_)
      have hE := Env.put_some hE rfl ea; clear ea
      refine d_pureg (i := 29) (v := .bool false) #[true, true, true, true, true, true, true, true, true, true, true, true, true, true, true, true, true, true, true, true, true, true, true, true, true, true, true, true, true, true, false] rfl rfl hT (by kernel_rfl) hE rfl (wanted_none rfl) (fun w => r_pick_f hE rfl rfl) (fun a hE => ?_)
      refine d_pureg (i := 30) (v := .bool false) #[true, true, true, true, true, true, true, true, true, true, true, true, true, true, true, true, true, true, true, true, true, true, true, true, true, true, true, true, true, true, true] rfl rfl hT (by kernel_rfl) hE rfl (wanted_none rfl) (fun w => r_assign hE rfl) (fun a hE => ?_)
      refine d_done hT (by kernel_rfl) ?_
      exact ⟨false, hE.cut (.cons rfl Subs.nil), hR, H⟩

end Gx
