/- Printed by program: Go functions as Lean programs, each tied to its code. No condition. -/
import Derived.Test.YtlmfpnogpolhhaaP0
import Derived.Test.YtlmfpnogpolhhaaP1
import Derived.Test.YtlmfpnogpolhhaaP2
import Derived.Test.YtlmfpnogpolhhaaP3
import Derived.Test.YtlmfpnogpolhhaaP4
set_option linter.unusedVariables false
set_option linter.unusedSimpArgs false
namespace Gx
open Go
set_option linter.unusedVariables false
set_option maxRecDepth 100000
/-- ramble/sector.Open -/
theorem tb67_4 : tabAt Go.Proofs.Try.f67 4 [[], [0], [1], [], [3], [4], [5], [2, 6], [], [8, 7, 6, 0, 1, 2, 3, 4, 5, 6, 7, 8]] [[], [0], [1], [], [3], [4], [5], [2, 6], [], [7, 8]] [[], [0], [0, 1], [], [3], [3, 4], [3, 4, 5], [0, 1, 2, 3, 4, 5, 6], [], [0, 1, 2, 3, 4, 5, 6, 7, 8]] = true := by kernel_rfl
def sector_Open_l1 (c1_28 : Addr) (c2_29 : Addr) (c5_30 : Addr) (c25_31 : Sl) (c26_32 : Int) (self1 : (Int × Int) → M (Array Value × Int)) : (Int × Int) → M (Array Value × Int) := fun s => match s with
  | (x6_26, x27_27) => do
    M.ite (decide (x27_27 < c26_32)) (do
      let x29_38 ← ixL c25_31 x27_27 1
      let x30_39 ← ldI .u8 x29_38
      self1 (iOr .u64 (iShl .u64 x6_26 8) (IntKind.wrap .u64 x30_39), IntKind.wrap .i64 (x27_27 + 1))
      ) (do
      stV ((c5_30).add 1) (.int .i64 (IntKind.wrap .i64 x6_26))
      let x41_44 ← ldG 3 c5_30
      let x42_45 ← sector_Seal x41_44
      let x9_46 ← mkB ty_api_Sector (Array.replicate 128 (.int .u8 0) : Array Value)
      M.need (x42_45.1.size = 128)
      stG x9_46 x42_45.1
      let x51_49 ← M.ite (x42_45.2 != 0) (do
        M.pure true
        ) (do
        let x48_50 ← ldG 128 x9_46
        let x49_51 ← ldG 128 c1_28
        let x50_52 ← eqA .u8 128 x48_50 x49_51
        M.pure (!x50_52)
        )
      M.ite x51_49 (do
        M.need ((#[.int .i64 0, .int .i64 0, .slice none 0 0] : Array Value).size = 3)
        stG c2_29 (#[.int .i64 0, .int .i64 0, .slice none 0 0] : Array Value)
        let r2_55 ← ldG 3 c2_29
        M.pure (r2_55, 50)
        ) (do
        let x53_57 ← ldG 3 c5_30
        M.need (x53_57.size = 3)
        stG c2_29 x53_57
        let r2_59 ← ldG 3 c2_29
        M.pure (r2_59, 0)
        )
      )
def sector_Open (x0 : Array Value) : M (Array Value × Int) := do
  let x1_2 ← mkB ty_api_Sector x0
  let x2_3 ← mkB ty_api_Frame (#[.int .i64 0, .int .i64 0, .slice none 0 0] : Array Value)
  let x11_5 ← ixA x1_2 128 1 1
  let x12_6 ← ldI .u8 x11_5
  M.ite (decide ((IntKind.wrap .i64 x12_6) > 112)) (do
    M.need ((#[.int .i64 0, .int .i64 0, .slice none 0 0] : Array Value).size = 3)
    stG x2_3 (#[.int .i64 0, .int .i64 0, .slice none 0 0] : Array Value)
    let r2_11 ← ldG 3 x2_3
    M.pure (r2_11, 50)
    ) (do
    let x17_13 ← ixA x1_2 128 0 1
    let x22_14 ← slA x1_2 128 10 (IntKind.wrap .i64 (10 + (IntKind.wrap .i64 x12_6))) 1
    let x18_15 ← ldI .u8 x17_13
    let y_20 ← do
      M.both (do
        let x23_16 ← slices_Clone_slbyte_byte x22_14
        chk (fun h : Heap => (hcell h x17_13 = some (.int .u8 x18_15)))
        let x5_17 ← mkB ty_api_Frame (#[.int .i64 0, .int .i64 0, .slice none 0 0] : Array Value)
        chk (fun h : Heap => (hcell h x17_13 = some (.int .u8 x18_15)))
        M.pure (x5_17, x23_16, (#[.int .i64 (IntKind.wrap .i64 x18_15), .int .i64 0, (x23_16 : Sl).v] : Array Value))
        ) (do
        let x5_18 ← mkB ty_api_Frame (#[.int .i64 0, .int .i64 0, .slice none 0 0] : Array Value)
        chk (fun h : Heap => (hcell h x17_13 = some (.int .u8 x18_15)))
        let x23_19 ← slices_Clone_slbyte_byte x22_14
        chk (fun h : Heap => (hcell h x17_13 = some (.int .u8 x18_15)))
        M.pure (x5_18, x23_19, (#[.int .i64 (IntKind.wrap .i64 x18_15), .int .i64 0, (x23_19 : Sl).v] : Array Value))
        )
    M.need (y_20.2.2.size = 3)
    stG y_20.1 y_20.2.2
    let x25_25 ← slA x1_2 128 2 10 1
    M.loop (sector_Open_l1 x1_2 x2_3 y_20.1 x25_25 (x25_25.len : Int)) (0, 0)
    )
theorem S_sector_Open (x0 : Array Value) : Sound Go.Proofs.Try.prog 67 #[.agg x0] (fun (r : Array Value × Int) => .tuple #[.agg r.1, .int .i64 r.2]) (sector_Open x0) := by
  refine sound_of [(0, .agg x0)] Go.Proofs.Try.func67 rfl rfl (Nat.le_of_ble_eq_true rfl) (args_of ⟨rfl, trivial⟩) (fun w0 w Q R a hret hE hR H => ?_)
  unfold sector_Open at H
  refine w_seq (fun K hK_1 => ?_)
  refine t_region ?_
  obtain ⟨x1_2, qx1_2, H⟩ := H
  refine t_valh (v := .pointer (some x1_2)) rfl rfl hE rfl hR (r_box hE rfl qx1_2) (fun a w hE hR hh => ?_)
  replace H := M.at hh H; clear hh
  obtain ⟨x2_3, qx2_3, H⟩ := H
  refine t_valh (v := .pointer (some x2_3)) rfl rfl hE rfl hR (r_alloc zr86 qx2_3) (fun a w hE hR hh => ?_)
  replace H := M.at hh H; clear hh
  refine t_val (v := .int .i64 0) rfl rfl hE rfl (r_assign hE rfl) (fun a hE => ?_)
  refine t_nil ?_
  refine hK_1 _ _ ?_
  refine w_seq (fun K hK_4 => ?_)
  refine t_region ?_
  obtain ⟨x11_5, qx11_5, H⟩ := H
  refine t_val (v := .pointer (some x11_5)) rfl rfl hE rfl (r_indexAddrA hE rfl rfl un47 sz5 qx11_5) (fun a hE => ?_)
  obtain ⟨x12_6, qx12_6, H⟩ := H
  refine t_val (v := .int .u8 x12_6) rfl rfl hE rfl (r_load hE rfl sc5 qx12_6) (fun a hE => ?_)
  refine t_val (v := .int .i64 (IntKind.wrap .i64 x12_6)) rfl rfl hE rfl (r_convI hE rfl un5 un3) (fun a hE => ?_)
  refine t_val (v := .int .i64 (IntKind.wrap .i64 x12_6)) rfl rfl hE rfl (r_assign hE rfl) (fun a hE => ?_)
  refine t_nil ?_
  refine hK_4 _ _ ?_
  refine w_seq (fun K hK_7 => ?_)
  refine w_seq (fun K hK_8 => ?_)
  refine t_region ?_
  refine t_val (v := .int .i64 (IntKind.wrap .i64 x12_6)) rfl rfl hE rfl (r_move hE rfl) (fun a hE => ?_)
  refine t_val (v := .bool (decide ((IntKind.wrap .i64 x12_6) > 112))) rfl rfl hE rfl (r_bin hE rfl rfl g_int b_gtr) (fun a hE => ?_)
  refine t_nil ?_
  refine hK_8 _ _ ?_
  refine w_cond (decide ((IntKind.wrap .i64 x12_6) > 112)) hE rfl (fun hb => ?_) (fun hb => ?_)
  · replace H := M.ite_t hb H
    refine w_seq (fun K hK_9 => ?_)
    refine t_region ?_
    refine t_val (v := .agg (#[.int .i64 0, .int .i64 0, .slice none 0 0] : Array Value)) rfl rfl hE rfl (r_build0 bd86) (fun a hE => ?_)
    obtain ⟨qz, H⟩ := H
    obtain ⟨u_10, qu_10, H⟩ := H
    refine t_sth rfl rfl hE hR (r_storeG hE rfl rfl sz86 qz qu_10) (fun a w hE hR hh => ?_)
    replace H := M.at hh H; clear hh
    refine t_val (v := .int .i64 50) rfl rfl hE rfl (r_assign hE rfl) (fun a hE => ?_)
    refine t_nil ?_
    refine hK_9 _ _ ?_
    refine w_ret ?_
    obtain ⟨r2_11, qr2_11, H⟩ := H
    exact hret _ _ _ (r2_11, 50) _ hE hR (res_run hE rfl (RV.cellG rfl ag86 qr2_11 (RV.tmp rfl RV.nil))) rfl H
  · replace H := M.ite_f hb H
    refine w_skip ?_
    refine hK_7 _ _ ?_
    refine w_seq (fun K hK_12 => ?_)
    obtain ⟨x17_13, qx17_13, H⟩ := H
    obtain ⟨x22_14, qx22_14, H⟩ := H
    obtain ⟨x18_15, qx18_15, H⟩ := H
    have hT := tab_of tb67_4 rfl rfl
    refine d_start (fun w : World => (fun h : Heap => (hcell h x17_13 = some (.int .u8 x18_15))) w.heap) [2, 7, 9] #[false, false, false, false, false, false, false, false, false, false] mo hR rfl rfl (fun w' e => by rw [e]; exact qx18_15) (fun w hh hR hs => ?_)
    replace H := M.at hh H; clear hh
    refine d_pureg (i := 0) (v := .pointer (some x17_13)) #[true, false, false, false, false, false, false, false, false, false] rfl rfl hT (by kernel_rfl) hE rfl (wanted_none rfl) (fun w => r_indexAddrA hE rfl rfl un47 sz5 qx17_13) (fun a hE => ?_)
    refine d_pureg (i := 3) (v := .int .i64 (IntKind.wrap .i64 x12_6)) #[true, false, false, true, false, false, false, false, false, false] rfl rfl hT (by kernel_rfl) hE rfl (wanted_none rfl) (fun w => r_move hE rfl) (fun a hE => ?_)
    refine d_pureg (i := 4) (v := .int .i64 (IntKind.wrap .i64 (10 + (IntKind.wrap .i64 x12_6)))) #[true, false, false, true, true, false, false, false, false, false] rfl rfl hT (by kernel_rfl) hE rfl (wanted_none rfl) (fun w => r_bin hE rfl rfl g_int b_add) (fun a hE => ?_)
    refine d_pureg (i := 5) (v := (x22_14 : Sl).v) #[true, false, false, true, true, true, false, false, false, false] rfl rfl hT (by kernel_rfl) hE rfl (wanted_none rfl) (fun w => r_sliceA_lh hE rfl rfl rfl un47 sz5 qx22_14) (fun a hE => ?_)
    refine d_read (i := 1) (v := .int .u8 x18_15) #[true, true, false, true, true, true, false, false, false, false] rfl rfl hT (by kernel_rfl) hE rfl (wanted_none rfl) hs (fun w s => r_load hE rfl sc5 s) (fun a hE => ?_)
    refine d_pureg (i := 2) (v := .int .i64 (IntKind.wrap .i64 x18_15)) #[true, true, true, true, true, true, false, false, false, false] rfl rfl hT (by kernel_rfl) hE rfl (wanted_none rfl) (fun w => r_convI hE rfl un5 un3) (fun a hE => ?_)
    refine d_join (n := (⟨54, []⟩ : Frm)) (w0 := w0) (fun y_20 : Addr × Sl × Array Value => [(0, .agg x0), (1, .pointer (some x1_2)), (2, .pointer (some x2_3)), (3, .int .i64 0), (11, .pointer (some x11_5)), (12, .int .u8 x12_6), (13, .int .i64 (IntKind.wrap .i64 x12_6)), (4, .int .i64 (IntKind.wrap .i64 x12_6)), (14, .int .i64 (IntKind.wrap .i64 x12_6)), (15, .bool (decide ((IntKind.wrap .i64 x12_6) > 112))), (17, .pointer (some x17_13)), (20, .int .i64 (IntKind.wrap .i64 x12_6)), (21, .int .i64 (IntKind.wrap .i64 (10 + (IntKind.wrap .i64 x12_6)))), (22, (x22_14 : Sl).v), (18, .int .u8 x18_15), (19, .int .i64 (IntKind.wrap .i64 x18_15)), (5, .pointer (some y_20.1)), (23, (y_20.2.1 : Sl).v), (24, .agg y_20.2.2)]) 1 #[true, true, true, true, true, true, true, true, true, false] (M.unbind H) ?_ ?_
    · intro y_20 a w hE hR H
      obtain ⟨qz, H⟩ := H
      obtain ⟨u_21, qu_21, H⟩ := H
      refine d_stlh (i := 9) #[true, true, true, true, true, true, true, true, true, true] rfl rfl hT (by kernel_rfl) rfl hE hR (wanted_none rfl) (r_storeG hE rfl rfl sz86 qz qu_21)  (fun a w hE hR hh => ?_)
      replace H := M.at hh H; clear hh
      refine d_done hT (by kernel_rfl) ?_
      refine hK_12 _ _ ?_
      refine w_seq (fun K hK_22 => ?_)
      refine t_region ?_
      refine t_val (v := .int .u64 0) rfl rfl hE rfl (r_assign hE rfl) (fun a hE => ?_)
      refine t_nil ?_
      refine hK_22 _ _ ?_
      refine w_seq (fun K hK_23 => ?_)
      refine w_seq (fun K hK_24 => ?_)
      refine t_region ?_
      obtain ⟨x25_25, qx25_25, H⟩ := H
      refine t_val (v := (x25_25 : Sl).v) rfl rfl hE rfl (r_sliceA_lh hE rfl rfl rfl un47 sz5 qx25_25) (fun a hE => ?_)
      refine t_val (v := .int .i64 (x25_25.len : Int)) rfl rfl hE rfl (r_len hE rfl 5 un30) (fun a hE => ?_)
      refine t_val (v := .int .i64 0) rfl rfl hE rfl (r_move hE rfl) (fun a hE => ?_)
      refine t_nil ?_
      refine hK_24 _ _ ?_
      refine w_block ?_
      refine l_loop (fun (s : Int × Int) => (⟨54, []⟩ : Frm)) (fun (s : Int × Int) => [(1, .pointer (some x1_2)), (2, .pointer (some x2_3)), (5, .pointer (some y_20.1)), (6, .int .u64 s.1), (25, (x25_25 : Sl).v), (26, .int .i64 (x25_25.len : Int)), (27, .int .i64 s.2)]) H (hE.cut (.cons rfl (.cons rfl (.cons rfl (.cons rfl (.cons rfl (.cons rfl (.cons rfl Subs.nil)))))))) hR (fun Y self1 hY_33 s a w hE hR H => ?_)
      rcases s with ⟨x6_26, x27_27⟩
      replace hE : Env (⟨54, []⟩ : Frm) a [(1, .pointer (some x1_2)), (2, .pointer (some x2_3)), (5, .pointer (some y_20.1)), (6, .int .u64 x6_26), (25, (x25_25 : Sl).v), (26, .int .i64 (x25_25.len : Int)), (27, .int .i64 x27_27)] := hE
      replace H : (sector_Open_l1 x1_2 x2_3 y_20.1 x25_25 (x25_25.len : Int) self1 (x6_26, x27_27)).wp w.heap Q := H
      unfold sector_Open_l1 at H
      refine w_seq (fun K hK_34 => ?_)
      refine t_region ?_
      refine t_val (v := .bool (decide (x27_27 < (x25_25.len : Int)))) rfl rfl hE rfl (r_bin hE rfl rfl g_int b_lss) (fun a hE => ?_)
      refine t_nil ?_
      refine hK_34 _ _ ?_
      refine w_seq (fun K hK_35 => ?_)
      refine w_cond (decide (x27_27 < (x25_25.len : Int))) hE rfl (fun hb => ?_) (fun hb => ?_)
      · replace H := M.ite_t hb H
        refine w_skip ?_
        refine hK_35 _ _ ?_
        refine w_seq (fun K hK_36 => ?_)
        refine w_block ?_
        refine w_seq (fun K hK_37 => ?_)
        refine t_region ?_
        obtain ⟨x29_38, qx29_38, H⟩ := H
        refine t_val (v := .pointer (some x29_38)) rfl rfl hE rfl (r_indexAddrL hE rfl rfl un30 sz5 qx29_38) (fun a hE => ?_)
        obtain ⟨x30_39, qx30_39, H⟩ := H
        refine t_val (v := .int .u8 x30_39) rfl rfl hE rfl (r_load hE rfl sc5 qx30_39) (fun a hE => ?_)
        refine t_val (v := .int .u8 x30_39) rfl rfl hE rfl (r_assign hE rfl) (fun a hE => ?_)
        refine t_nil ?_
        refine hK_37 _ _ ?_
        refine t_region ?_
        refine t_val (v := .int .u64 x6_26) rfl rfl hE rfl (r_move hE rfl) (fun a hE => ?_)
        refine t_val (v := .int .u64 (iShl .u64 x6_26 8)) rfl rfl hE rfl (r_bin hE rfl rfl g_int (b_shl ⟨by decide, rfl⟩)) (fun a hE => ?_)
        refine t_val (v := .int .u8 x30_39) rfl rfl hE rfl (r_move hE rfl) (fun a hE => ?_)
        refine t_val (v := .int .u64 (IntKind.wrap .u64 x30_39)) rfl rfl hE rfl (r_convI hE rfl un5 un106) (fun a hE => ?_)
        refine t_val (v := .int .u64 (iOr .u64 (iShl .u64 x6_26 8) (IntKind.wrap .u64 x30_39))) rfl rfl hE rfl (r_bin hE rfl rfl g_int b_or) (fun a hE => ?_)
        refine t_val (v := .int .u64 (iOr .u64 (iShl .u64 x6_26 8) (IntKind.wrap .u64 x30_39))) rfl rfl hE rfl (r_assign hE rfl) (fun a hE => ?_)
        refine t_nil ?_
        refine hK_36 _ _ ?_
        refine t_region ?_
        refine t_val (v := .int .i64 (IntKind.wrap .i64 (x27_27 + 1))) rfl rfl hE rfl (r_bin hE rfl rfl g_int b_add) (fun a hE => ?_)
        refine t_val (v := .int .i64 (IntKind.wrap .i64 (x27_27 + 1))) rfl rfl hE rfl (r_move hE rfl) (fun a hE => ?_)
        refine t_nil ?_
        exact hY_33 (iOr .u64 (iShl .u64 x6_26 8) (IntKind.wrap .u64 x30_39), IntKind.wrap .i64 (x27_27 + 1)) _ _ (hE.cut (.cons rfl (.cons rfl (.cons rfl (.cons rfl (.cons rfl (.cons rfl (.cons rfl Subs.nil)))))))) hR H
      · replace H := M.ite_f hb H
        refine w_exit ?_
        refine Xu.same ?_
        refine hK_23 _ _ ?_
        refine w_seq (fun K hK_40 => ?_)
        refine t_region ?_
        refine t_val (v := .int .u64 x6_26) rfl rfl hE rfl (r_move hE rfl) (fun a hE => ?_)
        refine t_val (v := .int .i64 (IntKind.wrap .i64 x6_26)) rfl rfl hE rfl (r_convI hE rfl un106 un2) (fun a hE => ?_)
        refine t_val (v := .pointer (some ((y_20.1).add 1))) rfl rfl hE rfl (r_fieldAddr hE rfl fd86_1) (fun a hE => ?_)
        obtain ⟨u_41, qu_41, H⟩ := H
        refine t_sth rfl rfl hE hR (r_store hE rfl rfl sz2 qu_41) (fun a w hE hR hh => ?_)
        replace H := M.at hh H; clear hh
        refine t_nil ?_
        refine hK_40 _ _ ?_
        refine w_seq (fun K hK_42 => ?_)
        refine w_seq (fun K hK_43 => ?_)
        refine t_region ?_
        obtain ⟨x41_44, qx41_44, H⟩ := H
        refine t_val (v := .agg x41_44) rfl rfl hE rfl (r_loadG hE rfl ag86 qx41_44) (fun a hE => ?_)
        refine t_call hE hR cl_sector_Seal rfl (S_sector_Seal x41_44) (M.unbind H) (fun x42_45 a w ea hR H => ?_)
        have hE := Env.put_some hE rfl ea; clear ea
        refine t_val (v := .tuple #[.agg x42_45.1, .int .i64 x42_45.2]) rfl rfl hE rfl (r_move hE rfl) (fun a hE => ?_)
        refine t_val (v := .agg x42_45.1) rfl rfl hE rfl (r_extract hE rfl rfl) (fun a hE => ?_)
        refine t_val (v := .int .i64 x42_45.2) rfl rfl hE rfl (r_extract hE rfl rfl) (fun a hE => ?_)
        obtain ⟨x9_46, qx9_46, H⟩ := H
        refine t_valh (v := .pointer (some x9_46)) rfl rfl hE rfl hR (r_alloc zr47 qx9_46) (fun a w hE hR hh => ?_)
        replace H := M.at hh H; clear hh
        obtain ⟨qz, H⟩ := H
        obtain ⟨u_47, qu_47, H⟩ := H
        refine t_sth rfl rfl hE hR (r_storeG hE rfl rfl sz47 qz qu_47) (fun a w hE hR hh => ?_)
        replace H := M.at hh H; clear hh
        refine t_val (v := .int .i64 x42_45.2) rfl rfl hE rfl (r_assign hE rfl) (fun a hE => ?_)
        refine t_nil ?_
        refine hK_43 _ _ ?_
        refine w_seq (fun K hK_48 => ?_)
        refine t_region ?_
        refine t_val (v := .int .i64 x42_45.2) rfl rfl hE rfl (r_move hE rfl) (fun a hE => ?_)
        refine t_val (v := .bool (x42_45.2 != 0)) rfl rfl hE rfl (r_bin hE rfl rfl g_int b_neq) (fun a hE => ?_)
        refine t_val (v := .bool (x42_45.2 != 0)) rfl rfl hE rfl (r_move hE rfl) (fun a hE => ?_)
        refine t_grp (n := (⟨54, []⟩ : Frm)) (w0 := w0) 4 (fun x51_49 : Bool => [(2, .pointer (some x2_3)), (5, .pointer (some y_20.1)), (51, .bool x51_49)]) (M.unbind H) (fun Kr hKr H => ?_) ?_
        · rcases bool_em (x42_45.2 != 0) with hb | hb
          · replace H := M.ite_t hb H
            have hE := hE.reb 47 (x42_45.2 != 0) true hb rfl
            refine t_off rfl hE rfl rfl rfl (fun a ea => ?_)
            have hE := Env.put_some hE rfl ea; clear ea
            refine t_off rfl hE rfl rfl rfl (fun a ea => ?_)
            have hE := Env.put_some hE rfl ea; clear ea
            refine t_off rfl hE rfl rfl rfl (fun a ea => ?_)
            have hE := Env.put_some hE rfl ea; clear ea
            refine t_val rfl rfl hE rfl (r_pick_t hE rfl rfl) (fun a hE => ?_)
            refine t_nil ?_
            exact hKr _ _ _ (hE.cut (.cons rfl (.cons rfl (.cons rfl Subs.nil)))) hR H
          · replace H := M.ite_f hb H
            have hE := hE.reb 47 (x42_45.2 != 0) false hb rfl
            refine t_on rfl hE rfl rfl rfl ?_
            obtain ⟨x48_50, qx48_50, H⟩ := H
            refine t_val (v := .agg x48_50) rfl rfl hE rfl (r_loadG hE rfl ag47 qx48_50) (fun a hE => ?_)
            refine t_on rfl hE rfl rfl rfl ?_
            obtain ⟨x49_51, qx49_51, H⟩ := H
            refine t_val (v := .agg x49_51) rfl rfl hE rfl (r_loadG hE rfl ag47 qx49_51) (fun a hE => ?_)
            refine t_on rfl hE rfl rfl rfl ?_
            obtain ⟨x50_52, qx50_52, H⟩ := H
            refine t_val (v := .bool (!x50_52)) rfl rfl hE rfl (r_bin hE rfl rfl (g_agg eg47) (b_neqA un47 un5 sz5 qx50_52)) (fun a hE => ?_)
            refine t_val rfl rfl hE rfl (r_pick_f hE rfl rfl) (fun a hE => ?_)
            refine t_nil ?_
            exact hKr _ _ _ (hE.cut (.cons rfl (.cons rfl (.cons rfl Subs.nil)))) hR H
        · intro x51_49 a w hE hR H
          refine t_nil ?_
          refine hK_48 _ _ ?_
          refine w_cond x51_49 hE rfl (fun hb => ?_) (fun hb => ?_)
          · replace H := M.ite_t hb H
            refine w_seq (fun K hK_53 => ?_)
            refine t_region ?_
            refine t_val (v := .agg (#[.int .i64 0, .int .i64 0, .slice none 0 0] : Array Value)) rfl rfl hE rfl (r_build0 bd86) (fun a hE => ?_)
            obtain ⟨qz, H⟩ := H
            obtain ⟨u_54, qu_54, H⟩ := H
            refine t_sth rfl rfl hE hR (r_storeG hE rfl rfl sz86 qz qu_54) (fun a w hE hR hh => ?_)
            replace H := M.at hh H; clear hh
            refine t_val (v := .int .i64 50) rfl rfl hE rfl (r_assign hE rfl) (fun a hE => ?_)
            refine t_nil ?_
            refine hK_53 _ _ ?_
            refine w_ret ?_
            obtain ⟨r2_55, qr2_55, H⟩ := H
            exact hret _ _ _ (r2_55, 50) _ hE hR (res_run hE rfl (RV.cellG rfl ag86 qr2_55 (RV.tmp rfl RV.nil))) rfl H
          · replace H := M.ite_f hb H
            refine w_skip ?_
            refine hK_42 _ _ ?_
            refine w_seq (fun K hK_56 => ?_)
            refine t_region ?_
            obtain ⟨x53_57, qx53_57, H⟩ := H
            refine t_val (v := .agg x53_57) rfl rfl hE rfl (r_loadG hE rfl ag86 qx53_57) (fun a hE => ?_)
            obtain ⟨qz, H⟩ := H
            obtain ⟨u_58, qu_58, H⟩ := H
            refine t_sth rfl rfl hE hR (r_storeG hE rfl rfl sz86 qz qu_58) (fun a w hE hR hh => ?_)
            replace H := M.at hh H; clear hh
            refine t_val (v := .int .i64 0) rfl rfl hE rfl (r_assign hE rfl) (fun a hE => ?_)
            refine t_nil ?_
            refine hK_56 _ _ ?_
            refine w_ret ?_
            obtain ⟨r2_59, qr2_59, H⟩ := H
            exact hret _ _ _ (r2_59, 0) _ hE hR (res_run hE rfl (RV.cellG rfl ag86 qr2_59 (RV.tmp rfl RV.nil))) rfl H
    · intro hj H
      refine d_pick [6, 8] hT (by kernel_rfl) rfl (fun i hi => ?_)
      simp only [List.mem_cons, List.not_mem_nil, or_false] at hi
      rcases hi with rfl | rfl
      · replace H := H.1
        refine p_call (S := fun w : World => (fun h : Heap => (hcell h x17_13 = some (.int .u8 x18_15))) w.heap) (i := 6) #[true, true, true, true, true, true, true, false, false, false] rfl rfl rfl (by kernel_rfl) hE hR (wanted_none rfl) cl_slices_Clone_slbyte_byte rfl (S_slices_Clone_slbyte_byte x22_14) (M.unbind H) (fun r h H w' e => by obtain ⟨_, sA, H⟩ := H; rw [e]; exact sA) (fun x23_16 a w ea hR H hs => ?_)
        obtain ⟨_, sA, H⟩ := H; clear sA
        have hE := Env.put_some hE rfl ea; clear ea
        refine d_pureg (i := 7) (v := .agg (#[.int .i64 (IntKind.wrap .i64 x18_15), .int .i64 0, (x23_16 : Sl).v] : Array Value)) #[true, true, true, true, true, true, true, true, false, false] rfl rfl hT (by kernel_rfl) hE rfl (wanted_none rfl) (fun w => r_build hE rfl zr86 pl86 (by rfl)) (fun a hE => ?_)
        obtain ⟨x5_17, qx5_17, H⟩ := H
        obtain ⟨_, sA, H⟩ := H
        refine d_oneh (i := 8) (v := .pointer (some x5_17)) #[true, true, true, true, true, true, true, true, true, false] rfl rfl hT (by kernel_rfl) rfl hE hR rfl (wanted_none rfl) (r_alloc zr86 qx5_17)  (fun w' e => by rw [e]; exact sA) (fun a w hE hR hh hs => ?_)
        replace H := M.at hh H; clear hh
        exact hj _ _ _ (hE.cut (.cons rfl (.cons rfl (.cons rfl (.cons rfl (.cons rfl (.cons rfl (.cons rfl (.cons rfl (.cons rfl (.cons rfl (.cons rfl (.cons rfl (.cons rfl (.cons rfl (.cons rfl (.cons rfl (.cons rfl (.cons rfl (.cons rfl Subs.nil)))))))))))))))))))) hR H
      · replace H := H.2
        obtain ⟨x5_18, qx5_18, H⟩ := H
        obtain ⟨_, sA, H⟩ := H
        refine p_valh (S := fun w : World => (fun h : Heap => (hcell h x17_13 = some (.int .u8 x18_15))) w.heap) (i := 8) (v := .pointer (some x5_18)) #[true, true, true, true, true, true, false, false, true, false] rfl rfl (by kernel_rfl) hE hR rfl (wanted_none rfl) (r_alloc zr86 qx5_18)  (fun w' e => by rw [e]; exact sA) (fun a w hE hR hh hs => ?_)
        replace H := M.at hh H; clear hh
        refine d_call (i := 6) #[true, true, true, true, true, true, true, false, true, false] rfl rfl rfl hT (by kernel_rfl) rfl hE hR (wanted_none rfl) cl_slices_Clone_slbyte_byte rfl (S_slices_Clone_slbyte_byte x22_14) (M.unbind H) (fun r h H w' e => by obtain ⟨_, sA, H⟩ := H; rw [e]; exact sA) (fun x23_19 a w ea hR H hs => ?_)
        obtain ⟨_, sA, H⟩ := H; clear sA
        have hE := Env.put_some hE rfl ea; clear ea
        refine d_pureg (i := 7) (v := .agg (#[.int .i64 (IntKind.wrap .i64 x18_15), .int .i64 0, (x23_19 : Sl).v] : Array Value)) #[true, true, true, true, true, true, true, true, true, false] rfl rfl hT (by kernel_rfl) hE rfl (wanted_none rfl) (fun w => r_build hE rfl zr86 pl86 (by rfl)) (fun a hE => ?_)
        exact hj _ _ _ (hE.cut (.cons rfl (.cons rfl (.cons rfl (.cons rfl (.cons rfl (.cons rfl (.cons rfl (.cons rfl (.cons rfl (.cons rfl (.cons rfl (.cons rfl (.cons rfl (.cons rfl (.cons rfl (.cons rfl (.cons rfl (.cons rfl (.cons rfl Subs.nil)))))))))))))))))))) hR H

/-- slices.AppendSeq[[][]byte,[]byte] -/
def slices_AppendSeq_slslbyte_slbyte_y1 (c2_5 : Addr) (lp1 : Nat) : (Sl) → M Nat := fun x => match x with
  | x7_6 => do
    let _ ← beg lp1
    let x8_7 ← ldL c2_5
    let x10_8 ← bdL ty_sl_uint8 1 #[(x7_6 : Sl).v]
    let x11_9 ← apL ty_sl_uint8 1 24 (#[.slice none 0 0] : Array Value) x8_7 x10_8
    stV c2_5 ((x11_9 : Sl).v)
    M.pure 0
def slices_AppendSeq_slslbyte_slbyte (x0 : Sl) (x1 : Value) : M (Sl) := do
  let x2_2 ← mkB ty_sl_sl_uint8 #[(x0 : Sl).v]
  let j_11 ← rgF Go.Proofs.Try.prog (fun x : Sl => [(x : Sl).v]) [] (slices_AppendSeq_slslbyte_slbyte_y1 x2_2) x1
  let x12_13 ← ldL x2_2
  let _ ← shut (j_11.2 :: [])
  M.pure x12_13
theorem S_slices_AppendSeq_slslbyte_slbyte (x0 : Sl) (x1 : Value) : Sound Go.Proofs.Try.prog 75 #[(x0 : Sl).v, x1] (fun (r : Sl) => (r : Sl).v) (slices_AppendSeq_slslbyte_slbyte x0 x1) := by
  refine sound_ofM [(0, (x0 : Sl).v), (1, x1)] Go.Proofs.Try.func75 rfl rfl (Nat.le_of_ble_eq_true rfl) (args_of ⟨rfl, rfl, trivial⟩) (fun w0 w Q R a hret hE hR H => ?_)
  unfold slices_AppendSeq_slslbyte_slbyte at H
  refine w_seq (fun K hK_1 => ?_)
  refine t_region ?_
  obtain ⟨x2_2, qx2_2, H⟩ := H
  refine t_valh (v := .pointer (some x2_2)) rfl rfl hE rfl hR (r_box hE rfl qx2_2) (fun a w hE hR hh => ?_)
  replace H := M.at hh H; clear hh
  refine t_val (v := (Sl.nil : Sl).v) rfl rfl hE rfl (r_assign hE rfl) (fun a hE => ?_)
  refine t_nil ?_
  refine hK_1 _ _ ?_
  refine w_seq (fun K hK_3 => ?_)
  refine w_seq (fun K hK_4 => ?_)
  refine t_region ?_
  refine t_val (v := x1) rfl rfl hE rfl (r_move hE rfl) (fun a hE => ?_)
  refine t_nil ?_
  refine hK_4 _ _ ?_
  refine w_block ?_
  refine w_rangeF (js := []) (enc := (fun x : Sl => [(x : Sl).v])) (Y := (slices_AppendSeq_slslbyte_slbyte_y1 x2_2)) hE hR rfl (fun x => rfl) rfl (M.unbind H) (fun lp1 x7_6 Q w0 Rr hfin a w hE hR H => ?_) (fun j_11 a w hE hR H => ?_)
  · skip
    replace hE : Env (⟨13, []⟩ : Frm) a [(2, .pointer (some x2_2)), (7, (x7_6 : Sl).v)] := Env.cut hE (.cons rfl (.cons rfl Subs.nil))
    replace H : (slices_AppendSeq_slslbyte_slbyte_y1 x2_2 lp1 x7_6).wp w.heap Q := H
    unfold slices_AppendSeq_slslbyte_slbyte_y1 at H
    refine t_region ?_
    refine t_val (v := (x7_6 : Sl).v) rfl rfl hE rfl (r_assign hE rfl) (fun a hE => ?_)
    refine t_nil ?_
    refine beg_w hR H (fun w hR H => ?_)
    refine w_block ?_
    refine t_region ?_
    obtain ⟨x8_7, qx8_7, H⟩ := H
    refine t_val (v := (x8_7 : Sl).v) rfl rfl hE rfl (r_load hE rfl sc32 qx8_7) (fun a hE => ?_)
    refine t_val (v := (x7_6 : Sl).v) rfl rfl hE rfl (r_move hE rfl) (fun a hE => ?_)
    obtain ⟨x10_8, qx10_8, H⟩ := H
    refine t_valh (v := (x10_8 : Sl).v) rfl rfl hE rfl hR (r_buildL (cells := #[(x7_6 : Sl).v]) hE rfl un32 sz30 zr30 rfl rfl qx10_8) (fun a w hE hR hh => ?_)
    replace H := M.at hh H; clear hh
    refine t_ex (fun x11_9 => (x11_9 : Sl).v) rfl rfl hR (M.unbind H) (fun Q H => ap_run hE rfl rfl ap32 H) (fun x11_9 a w ea hR H => ?_)
    have hE := Env.put_some hE rfl ea; clear ea
    obtain ⟨u_10, qu_10, H⟩ := H
    refine t_sth rfl rfl hE hR (r_store hE rfl rfl sz32 qu_10) (fun a w hE hR hh => ?_)
    replace H := M.at hh H; clear hh
    refine t_nil ?_
    exact hfin 0 _ _ hR H
  · skip
    replace hE : Env (⟨13, (j_11.2 :: [])⟩ : Frm) a [(2, .pointer (some x2_2)), (4, (Sl.nil : Sl).v)] := Env.cut hE (.cons rfl (.cons rfl Subs.nil))
    refine jgo_nil ?_
    refine hK_3 _ _ ?_
    refine w_seq (fun K hK_12 => ?_)
    refine t_region ?_
    obtain ⟨x12_13, qx12_13, H⟩ := H
    refine t_val (v := (x12_13 : Sl).v) rfl rfl hE rfl (r_load hE rfl sc32 qx12_13) (fun a hE => ?_)
    refine t_val (v := (x12_13 : Sl).v) rfl rfl hE rfl (r_assign hE rfl) (fun a hE => ?_)
    refine t_nil ?_
    refine hK_12 _ _ ?_
    refine w_ret ?_
    refine hret _ _ _ _ _ hE hR (M.unbind H) (fun w hR H => ?_)
    exact ⟨x12_13, _, res_run hE rfl (RV.tmp rfl RV.nil), rfl, H⟩

/-- slices.Collect[[]byte] -/
def slices_Collect_slbyte (x0 : Value) : M (Sl) := do
  let x4_3 ← slices_AppendSeq_slslbyte_slbyte Sl.nil x0
  M.pure x4_3
theorem S_slices_Collect_slbyte (x0 : Value) : Sound Go.Proofs.Try.prog 64 #[x0] (fun (r : Sl) => (r : Sl).v) (slices_Collect_slbyte x0) := by
  refine sound_of [(0, x0)] Go.Proofs.Try.func64 rfl rfl (Nat.le_of_ble_eq_true rfl) (args_of ⟨rfl, trivial⟩) (fun w0 w Q R a hret hE hR H => ?_)
  unfold slices_Collect_slbyte at H
  refine w_seq (fun K hK_1 => ?_)
  refine t_region ?_
  refine t_val (v := (Sl.nil : Sl).v) rfl rfl hE rfl (r_assign hE rfl) (fun a hE => ?_)
  refine t_nil ?_
  refine hK_1 _ _ ?_
  refine w_seq (fun K hK_2 => ?_)
  refine t_region ?_
  refine t_val (v := x0) rfl rfl hE rfl (r_move hE rfl) (fun a hE => ?_)
  refine t_call hE hR cl_slices_AppendSeq_slslbyte_slbyte rfl (S_slices_AppendSeq_slslbyte_slbyte Sl.nil x0) (M.unbind H) (fun x4_3 a w ea hR H => ?_)
  have hE := Env.put_some hE rfl ea; clear ea
  refine t_val (v := (x4_3 : Sl).v) rfl rfl hE rfl (r_assign hE rfl) (fun a hE => ?_)
  refine t_nil ?_
  refine hK_2 _ _ ?_
  refine w_ret ?_
  exact hret _ _ _ x4_3 _ hE hR (res_run hE rfl (RV.tmp rfl RV.nil)) rfl H

end Gx
