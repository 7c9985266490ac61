/- Printed by program: Go functions as Lean programs, each tied to its code. No condition. -/
import Derived.Test.YtklegajjmeajiaaAT
import Derived.Test.YtklegajjmeajiaaAF0
namespace Gx
open Go
set_option linter.unusedVariables false
set_option maxRecDepth 100000
/-- ramble/rambleref05.Seal -/
def rambleref05_Seal_l3 (c2_63 : Addr) (c4_64 : Addr) (c7_65 : Int) (self3 : (Int) → M (Array Value × Int)) : (Int) → M (Array Value × Int) := fun s => match s with
  | x8_62 => do
    M.ite (decide (x8_62 < 4)) (do
      let x78_70 ← pShr .u32 c7_65 (IntKind.wrap .i64 (8 * x8_62))
      let x80_71 ← ixA c4_64 128 (IntKind.wrap .i64 (124 + x8_62)) 1
      stV x80_71 (.int .u8 (IntKind.wrap .u8 x78_70))
      self3 (IntKind.wrap .i64 (x8_62 + 1))
      ) (do
      let x81_74 ← ldG 128 c4_64
      M.need (x81_74.size = 128)
      stG c2_63 x81_74
      let r2_76 ← ldG 128 c2_63
      M.pure (r2_76, 0)
      )
def rambleref05_Seal_l2 (c1_44 : Addr) (c2_45 : Addr) (c4_46 : Addr) (self2 : (Int) → M (Array Value × Int)) : (Int) → M (Array Value × Int) := fun s => match s with
  | x6_43 => do
    let x54_50 ← ldL ((c1_44).add 2)
    M.ite (decide (x6_43 < (x54_50.len : Int))) (do
      let x62_52 ← ldL ((c1_44).add 2)
      let x64_53 ← ixL x62_52 x6_43 1
      let x65_54 ← ldI .u8 x64_53
      let x66_55 ← ixA c4_46 128 (IntKind.wrap .i64 (10 + x6_43)) 1
      stV x66_55 (.int .u8 x65_54)
      self2 (IntKind.wrap .i64 (x6_43 + 1))
      ) (do
      let x67_58 ← slA c4_46 128 0 124 1
      let x68_59 ← rambleref05_Sum x67_58
      M.loop (rambleref05_Seal_l3 c2_45 c4_46 x68_59) 0
      )
def rambleref05_Seal_l1 (c1_30 : Addr) (c2_31 : Addr) (c4_32 : Addr) (self1 : (Int) → M (Array Value × Int)) : (Int) → M (Array Value × Int) := fun s => match s with
  | x5_29 => do
    M.ite (decide (x5_29 < 8)) (do
      let x45_37 ← ldI .i64 ((c1_30).add 1)
      let x49_38 ← pShr .i64 x45_37 (IntKind.wrap .i64 (56 - (IntKind.wrap .i64 (8 * x5_29))))
      let x51_39 ← ixA c4_32 128 (IntKind.wrap .i64 (2 + x5_29)) 1
      stV x51_39 (.int .u8 (IntKind.wrap .u8 x49_38))
      self1 (IntKind.wrap .i64 (x5_29 + 1))
      ) (do
      M.loop (rambleref05_Seal_l2 c1_30 c2_31 c4_32) 0
      )
def rambleref05_Seal (x0 : Array Value) : M (Array Value × Int) := do
  let x1_2 ← mkB ty_api_Frame x0
  let x2_3 ← mkB ty_api_Sector (Array.replicate 128 (.int .u8 0) : Array Value)
  let x4_5 ← mkB ty_api_Sector (Array.replicate 128 (.int .u8 0) : Array Value)
  let x10_8 ← ldI .i64 ((x1_2).add 0)
  let x16_9 ← M.ite (decide (x10_8 < 1)) (do
    M.pure true
    ) (do
    let x14_10 ← ldI .i64 ((x1_2).add 0)
    M.pure (decide (x14_10 > 255))
    )
  let x21_11 ← M.ite x16_9 (do
    M.pure true
    ) (do
    let x19_12 ← ldI .i64 ((x1_2).add 1)
    M.pure (decide (x19_12 < 0))
    )
  let x27_13 ← M.ite x21_11 (do
    M.pure true
    ) (do
    let x24_14 ← ldL ((x1_2).add 2)
    M.pure (decide ((x24_14.len : Int) > 112))
    )
  M.ite x27_13 (do
    let x28_16 ← ldG 128 x4_5
    M.need (x28_16.size = 128)
    stG x2_3 x28_16
    let r2_18 ← ldG 128 x2_3
    M.pure (r2_18, 1)
    ) (do
    let x30_20 ← ldI .i64 ((x1_2).add 0)
    let x32_21 ← ixA x4_5 128 0 1
    stV x32_21 (.int .u8 (IntKind.wrap .u8 x30_20))
    let x34_24 ← ldL ((x1_2).add 2)
    let x37_25 ← ixA x4_5 128 1 1
    stV x37_25 (.int .u8 (IntKind.wrap .u8 (x34_24.len : Int)))
    M.loop (rambleref05_Seal_l1 x1_2 x2_3 x4_5) 0
    )
theorem S_rambleref05_Seal (x0 : Array Value) : Sound Go.Proofs.Try.prog 9 #[.agg x0] (fun (r : Array Value × Int) => .tuple #[.agg r.1, .int .i64 r.2]) (rambleref05_Seal x0) := by
  refine sound_of [(0, .agg x0)] Go.Proofs.Try.func9 rfl rfl (Nat.le_of_ble_eq_true rfl) (args_of ⟨rfl, trivial⟩) (fun w0 w Q R a hret hE hR H => ?_)
  unfold rambleref05_Seal at H
  refine w_seq (fun K hK_1 => ?_)
  refine t_region ?_
  obtain ⟨x1_2, qx1_2, H⟩ := H
  refine t_valh (v := .pointer (some x1_2)) rfl rfl hE rfl hR (r_box hE rfl qx1_2) (fun a w hE hR hh => ?_)
  replace H := M.at hh H; clear hh
  obtain ⟨x2_3, qx2_3, H⟩ := H
  refine t_valh (v := .pointer (some x2_3)) rfl rfl hE rfl hR (r_alloc zr26 qx2_3) (fun a w hE hR hh => ?_)
  replace H := M.at hh H; clear hh
  refine t_val (v := .int .i64 0) rfl rfl hE rfl (r_assign hE rfl) (fun a hE => ?_)
  refine t_nil ?_
  refine hK_1 _ _ ?_
  refine w_seq (fun K hK_4 => ?_)
  refine t_region ?_
  obtain ⟨x4_5, qx4_5, H⟩ := H
  refine t_valh (v := .pointer (some x4_5)) rfl rfl hE rfl hR (r_alloc zr26 qx4_5) (fun a w hE hR hh => ?_)
  replace H := M.at hh H; clear hh
  refine t_nil ?_
  refine hK_4 _ _ ?_
  refine w_seq (fun K hK_6 => ?_)
  refine w_seq (fun K hK_7 => ?_)
  refine t_region ?_
  refine t_val (v := .pointer (some ((x1_2).add 0))) rfl rfl hE rfl (r_fieldAddr hE rfl fd24_0) (fun a hE => ?_)
  obtain ⟨x10_8, qx10_8, H⟩ := H
  refine t_val (v := .int .i64 x10_8) rfl rfl hE rfl (r_load hE rfl sc3 qx10_8) (fun a hE => ?_)
  refine t_val (v := .bool (decide (x10_8 < 1))) rfl rfl hE rfl (r_bin hE rfl rfl g_int b_lss) (fun a hE => ?_)
  refine t_val (v := .bool (decide (x10_8 < 1))) rfl rfl hE rfl (r_move hE rfl) (fun a hE => ?_)
  refine t_grp (n := 82) (w0 := w0) 4 (fun x16_9 : Bool => [(1, .pointer (some x1_2)), (2, .pointer (some x2_3)), (4, .pointer (some x4_5)), (16, .bool x16_9)]) (M.unbind H) (fun Kr hKr H => ?_) ?_
  · rcases bool_em (decide (x10_8 < 1)) with hb | hb
    · replace H := M.ite_t hb H
      have hE := hE.reb 12 (decide (x10_8 < 1)) true hb rfl
      refine t_off rfl hE rfl rfl rfl (fun a ea => ?_)
      have hE := Env.put_some hE rfl ea; clear ea
      refine t_off rfl hE rfl rfl rfl (fun a ea => ?_)
      have hE := Env.put_some hE rfl ea; clear ea
      refine t_off rfl hE rfl rfl rfl (fun a ea => ?_)
      have hE := Env.put_some hE rfl ea; clear ea
      refine t_val rfl rfl hE rfl (r_pick_t hE rfl rfl) (fun a hE => ?_)
      refine t_nil ?_
      exact hKr _ _ _ (hE.cut (.cons rfl (.cons rfl (.cons rfl (.cons rfl Subs.nil))))) hR H
    · replace H := M.ite_f hb H
      have hE := hE.reb 12 (decide (x10_8 < 1)) false hb rfl
      refine t_on rfl hE rfl rfl rfl ?_
      refine t_val (v := .pointer (some ((x1_2).add 0))) rfl rfl hE rfl (r_fieldAddr hE rfl fd24_0) (fun a hE => ?_)
      refine t_on rfl hE rfl rfl rfl ?_
      obtain ⟨x14_10, qx14_10, H⟩ := H
      refine t_val (v := .int .i64 x14_10) rfl rfl hE rfl (r_load hE rfl sc3 qx14_10) (fun a hE => ?_)
      refine t_on rfl hE rfl rfl rfl ?_
      refine t_val (v := .bool (decide (x14_10 > 255))) rfl rfl hE rfl (r_bin hE rfl rfl g_int b_gtr) (fun a hE => ?_)
      refine t_val rfl rfl hE rfl (r_pick_f hE rfl rfl) (fun a hE => ?_)
      refine t_nil ?_
      exact hKr _ _ _ (hE.cut (.cons rfl (.cons rfl (.cons rfl (.cons rfl Subs.nil))))) hR H
  · intro x16_9 a w hE hR H
    refine t_val (v := .bool x16_9) rfl rfl hE rfl (r_move hE rfl) (fun a hE => ?_)
    refine t_grp (n := 82) (w0 := w0) 4 (fun x21_11 : Bool => [(1, .pointer (some x1_2)), (2, .pointer (some x2_3)), (4, .pointer (some x4_5)), (21, .bool x21_11)]) (M.unbind H) (fun Kr hKr H => ?_) ?_
    · rcases bool_em x16_9 with hb | hb
      · replace H := M.ite_t hb H
        have hE := hE.reb 17 x16_9 true hb rfl
        refine t_off rfl hE rfl rfl rfl (fun a ea => ?_)
        have hE := Env.put_some hE rfl ea; clear ea
        refine t_off rfl hE rfl rfl rfl (fun a ea => ?_)
        have hE := Env.put_some hE rfl ea; clear ea
        refine t_off rfl hE rfl rfl rfl (fun a ea => ?_)
        have hE := Env.put_some hE rfl ea; clear ea
        refine t_val rfl rfl hE rfl (r_pick_t hE rfl rfl) (fun a hE => ?_)
        refine t_nil ?_
        exact hKr _ _ _ (hE.cut (.cons rfl (.cons rfl (.cons rfl (.cons rfl Subs.nil))))) hR H
      · replace H := M.ite_f hb H
        have hE := hE.reb 17 x16_9 false hb rfl
        refine t_on rfl hE rfl rfl rfl ?_
        refine t_val (v := .pointer (some ((x1_2).add 1))) rfl rfl hE rfl (r_fieldAddr hE rfl fd24_1) (fun a hE => ?_)
        refine t_on rfl hE rfl rfl rfl ?_
        obtain ⟨x19_12, qx19_12, H⟩ := H
        refine t_val (v := .int .i64 x19_12) rfl rfl hE rfl (r_load hE rfl sc2 qx19_12) (fun a hE => ?_)
        refine t_on rfl hE rfl rfl rfl ?_
        refine t_val (v := .bool (decide (x19_12 < 0))) rfl rfl hE rfl (r_bin hE rfl rfl g_int b_lss) (fun a hE => ?_)
        refine t_val rfl rfl hE rfl (r_pick_f hE rfl rfl) (fun a hE => ?_)
        refine t_nil ?_
        exact hKr _ _ _ (hE.cut (.cons rfl (.cons rfl (.cons rfl (.cons rfl Subs.nil))))) hR H
    · intro x21_11 a w hE hR H
      refine t_val (v := .bool x21_11) rfl rfl hE rfl (r_move hE rfl) (fun a hE => ?_)
      refine t_grp (n := 82) (w0 := w0) 5 (fun x27_13 : Bool => [(1, .pointer (some x1_2)), (2, .pointer (some x2_3)), (4, .pointer (some x4_5)), (27, .bool x27_13)]) (M.unbind H) (fun Kr hKr H => ?_) ?_
      · rcases bool_em x21_11 with hb | hb
        · replace H := M.ite_t hb H
          have hE := hE.reb 22 x21_11 true hb rfl
          refine t_off rfl hE rfl rfl rfl (fun a ea => ?_)
          have hE := Env.put_some hE rfl ea; clear ea
          refine t_off rfl hE rfl rfl rfl (fun a ea => ?_)
          have hE := Env.put_some hE rfl ea; clear ea
          refine t_off rfl hE rfl rfl rfl (fun a ea => ?_)
          have hE := Env.put_some hE rfl ea; clear ea
          refine t_off rfl hE rfl rfl rfl (fun a ea => ?_)
          have hE := Env.put_some hE rfl ea; clear ea
          refine t_val rfl rfl hE rfl (r_pick_t hE rfl rfl) (fun a hE => ?_)
          refine t_nil ?_
          exact hKr _ _ _ (hE.cut (.cons rfl (.cons rfl (.cons rfl (.cons rfl Subs.nil))))) hR H
        · replace H := M.ite_f hb H
          have hE := hE.reb 22 x21_11 false hb rfl
          refine t_on rfl hE rfl rfl rfl ?_
          refine t_val (v := .pointer (some ((x1_2).add 2))) rfl rfl hE rfl (r_fieldAddr hE rfl fd24_2) (fun a hE => ?_)
          refine t_on rfl hE rfl rfl rfl ?_
          obtain ⟨x24_14, qx24_14, H⟩ := H
          refine t_val (v := (x24_14 : Sl).v) rfl rfl hE rfl (r_load hE rfl sc22 qx24_14) (fun a hE => ?_)
          refine t_on rfl hE rfl rfl rfl ?_
          refine t_val (v := .int .i64 (x24_14.len : Int)) rfl rfl hE rfl (r_len hE rfl 5 un22) (fun a hE => ?_)
          refine t_on rfl hE rfl rfl rfl ?_
          refine t_val (v := .bool (decide ((x24_14.len : Int) > 112))) rfl rfl hE rfl (r_bin hE rfl rfl g_int b_gtr) (fun a hE => ?_)
          refine t_val rfl rfl hE rfl (r_pick_f hE rfl rfl) (fun a hE => ?_)
          refine t_nil ?_
          exact hKr _ _ _ (hE.cut (.cons rfl (.cons rfl (.cons rfl (.cons rfl Subs.nil))))) hR H
      · intro x27_13 a w hE hR H
        refine t_nil ?_
        refine hK_7 _ _ ?_
        refine w_cond x27_13 hE rfl (fun hb => ?_) (fun hb => ?_)
        · replace H := M.ite_t hb H
          refine w_seq (fun K hK_15 => ?_)
          refine t_region ?_
          obtain ⟨x28_16, qx28_16, H⟩ := H
          refine t_val (v := .agg x28_16) rfl rfl hE rfl (r_loadG hE rfl ag26 qx28_16) (fun a hE => ?_)
          obtain ⟨qz, H⟩ := H
          obtain ⟨u_17, qu_17, H⟩ := H
          refine t_sth rfl rfl hE hR (r_storeG hE rfl rfl sz26 qz qu_17) (fun a w hE hR hh => ?_)
          replace H := M.at hh H; clear hh
          refine t_val (v := .int .i64 1) rfl rfl hE rfl (r_assign hE rfl) (fun a hE => ?_)
          refine t_nil ?_
          refine hK_15 _ _ ?_
          refine w_ret ?_
          obtain ⟨r2_18, qr2_18, H⟩ := H
          exact hret _ _ _ (r2_18, 1) _ hE hR (res_run hE rfl (RV.cellG rfl ag26 qr2_18 (RV.tmp rfl RV.nil))) rfl H
        · replace H := M.ite_f hb H
          refine w_skip ?_
          refine hK_6 _ _ ?_
          refine w_seq (fun K hK_19 => ?_)
          refine t_region ?_
          refine t_val (v := .pointer (some ((x1_2).add 0))) rfl rfl hE rfl (r_fieldAddr hE rfl fd24_0) (fun a hE => ?_)
          obtain ⟨x30_20, qx30_20, H⟩ := H
          refine t_val (v := .int .i64 x30_20) rfl rfl hE rfl (r_load hE rfl sc3 qx30_20) (fun a hE => ?_)
          refine t_val (v := .int .u8 (IntKind.wrap .u8 x30_20)) rfl rfl hE rfl (r_convI hE rfl un3 un5) (fun a hE => ?_)
          obtain ⟨x32_21, qx32_21, H⟩ := H
          refine t_val (v := .pointer (some x32_21)) rfl rfl hE rfl (r_indexAddrA hE rfl rfl un26 sz5 qx32_21) (fun a hE => ?_)
          obtain ⟨u_22, qu_22, H⟩ := H
          refine t_sth rfl rfl hE hR (r_store hE rfl rfl sz5 qu_22) (fun a w hE hR hh => ?_)
          replace H := M.at hh H; clear hh
          refine t_nil ?_
          refine hK_19 _ _ ?_
          refine w_seq (fun K hK_23 => ?_)
          refine t_region ?_
          refine t_val (v := .pointer (some ((x1_2).add 2))) rfl rfl hE rfl (r_fieldAddr hE rfl fd24_2) (fun a hE => ?_)
          obtain ⟨x34_24, qx34_24, H⟩ := H
          refine t_val (v := (x34_24 : Sl).v) rfl rfl hE rfl (r_load hE rfl sc22 qx34_24) (fun a hE => ?_)
          refine t_val (v := .int .i64 (x34_24.len : Int)) rfl rfl hE rfl (r_len hE rfl 5 un22) (fun a hE => ?_)
          refine t_val (v := .int .u8 (IntKind.wrap .u8 (x34_24.len : Int))) rfl rfl hE rfl (r_convI hE rfl un3 un5) (fun a hE => ?_)
          obtain ⟨x37_25, qx37_25, H⟩ := H
          refine t_val (v := .pointer (some x37_25)) rfl rfl hE rfl (r_indexAddrA hE rfl rfl un26 sz5 qx37_25) (fun a hE => ?_)
          obtain ⟨u_26, qu_26, H⟩ := H
          refine t_sth rfl rfl hE hR (r_store hE rfl rfl sz5 qu_26) (fun a w hE hR hh => ?_)
          replace H := M.at hh H; clear hh
          refine t_nil ?_
          refine hK_23 _ _ ?_
          refine w_seq (fun K hK_27 => ?_)
          refine w_seq (fun K hK_28 => ?_)
          refine t_region ?_
          refine t_val (v := .int .i64 0) rfl rfl hE rfl (r_assign hE rfl) (fun a hE => ?_)
          refine t_nil ?_
          refine hK_28 _ _ ?_
          refine w_block ?_
          refine l_loop (fun (s : Int) => [(1, .pointer (some x1_2)), (2, .pointer (some x2_3)), (4, .pointer (some x4_5)), (5, .int .i64 s)]) H (hE.cut (.cons rfl (.cons rfl (.cons rfl (.cons rfl Subs.nil))))) hR (fun Y self1 hY_33 x5_29 a w hE hR H => ?_)
          replace hE : Env 82 a [(1, .pointer (some x1_2)), (2, .pointer (some x2_3)), (4, .pointer (some x4_5)), (5, .int .i64 x5_29)] := hE
          replace H : (rambleref05_Seal_l1 x1_2 x2_3 x4_5 self1 x5_29).wp w.heap Q := H
          unfold rambleref05_Seal_l1 at H
          refine w_seq (fun K hK_34 => ?_)
          refine w_seq (fun K hK_35 => ?_)
          refine t_region ?_
          refine t_val (v := .int .i64 x5_29) rfl rfl hE rfl (r_move hE rfl) (fun a hE => ?_)
          refine t_val (v := .bool (decide (x5_29 < 8))) rfl rfl hE rfl (r_bin hE rfl rfl g_int b_lss) (fun a hE => ?_)
          refine t_nil ?_
          refine hK_35 _ _ ?_
          refine w_cond (decide (x5_29 < 8)) hE rfl (fun hb => ?_) (fun hb => ?_)
          · replace H := M.ite_t hb H
            refine w_skip ?_
            refine hK_34 _ _ ?_
            refine w_seq (fun K hK_36 => ?_)
            refine w_block ?_
            refine t_region ?_
            refine t_val (v := .int .i64 x5_29) rfl rfl hE rfl (r_move hE rfl) (fun a hE => ?_)
            refine t_val (v := .int .i64 (IntKind.wrap .i64 (2 + x5_29))) rfl rfl hE rfl (r_bin hE rfl rfl g_int b_add) (fun a hE => ?_)
            refine t_val (v := .pointer (some ((x1_2).add 1))) rfl rfl hE rfl (r_fieldAddr hE rfl fd24_1) (fun a hE => ?_)
            obtain ⟨x45_37, qx45_37, H⟩ := H
            refine t_val (v := .int .i64 x45_37) rfl rfl hE rfl (r_load hE rfl sc2 qx45_37) (fun a hE => ?_)
            refine t_val (v := .int .i64 x5_29) rfl rfl hE rfl (r_move hE rfl) (fun a hE => ?_)
            refine t_val (v := .int .i64 (IntKind.wrap .i64 (8 * x5_29))) rfl rfl hE rfl (r_bin hE rfl rfl g_int b_mul) (fun a hE => ?_)
            refine t_val (v := .int .i64 (IntKind.wrap .i64 (56 - (IntKind.wrap .i64 (8 * x5_29))))) rfl rfl hE rfl (r_bin hE rfl rfl g_int b_sub) (fun a hE => ?_)
            obtain ⟨x49_38, qx49_38, H⟩ := H
            refine t_val (v := .int .i64 x49_38) rfl rfl hE rfl (r_bin hE rfl rfl g_int (b_shr qx49_38)) (fun a hE => ?_)
            refine t_val (v := .int .u8 (IntKind.wrap .u8 x49_38)) rfl rfl hE rfl (r_convI hE rfl un2 un5) (fun a hE => ?_)
            obtain ⟨x51_39, qx51_39, H⟩ := H
            refine t_val (v := .pointer (some x51_39)) rfl rfl hE rfl (r_indexAddrA hE rfl rfl un26 sz5 qx51_39) (fun a hE => ?_)
            obtain ⟨u_40, qu_40, H⟩ := H
            refine t_sth rfl rfl hE hR (r_store hE rfl rfl sz5 qu_40) (fun a w hE hR hh => ?_)
            replace H := M.at hh H; clear hh
            refine t_nil ?_
            refine hK_36 _ _ ?_
            refine t_region ?_
            refine t_val (v := .int .i64 x5_29) rfl rfl hE rfl (r_move hE rfl) (fun a hE => ?_)
            refine t_val (v := .int .i64 (IntKind.wrap .i64 (x5_29 + 1))) rfl rfl hE rfl (r_bin hE rfl rfl g_int b_add) (fun a hE => ?_)
            refine t_val (v := .int .i64 (IntKind.wrap .i64 (x5_29 + 1))) rfl rfl hE rfl (r_assign hE rfl) (fun a hE => ?_)
            refine t_nil ?_
            exact hY_33 (IntKind.wrap .i64 (x5_29 + 1)) _ _ (hE.cut (.cons rfl (.cons rfl (.cons rfl (.cons rfl Subs.nil))))) hR H
          · replace H := M.ite_f hb H
            refine w_exit ?_
            refine Xu.same ?_
            refine hK_27 _ _ ?_
            refine w_seq (fun K hK_41 => ?_)
            refine w_seq (fun K hK_42 => ?_)
            refine t_region ?_
            refine t_val (v := .int .i64 0) rfl rfl hE rfl (r_assign hE rfl) (fun a hE => ?_)
            refine t_nil ?_
            refine hK_42 _ _ ?_
            refine w_block ?_
            refine l_loop (fun (s : Int) => [(1, .pointer (some x1_2)), (2, .pointer (some x2_3)), (4, .pointer (some x4_5)), (6, .int .i64 s)]) H (hE.cut (.cons rfl (.cons rfl (.cons rfl (.cons rfl Subs.nil))))) hR (fun Y self2 hY_47 x6_43 a w hE hR H => ?_)
            replace hE : Env 82 a [(1, .pointer (some x1_2)), (2, .pointer (some x2_3)), (4, .pointer (some x4_5)), (6, .int .i64 x6_43)] := hE
            replace H : (rambleref05_Seal_l2 x1_2 x2_3 x4_5 self2 x6_43).wp w.heap Q := H
            unfold rambleref05_Seal_l2 at H
            refine w_seq (fun K hK_48 => ?_)
            refine w_seq (fun K hK_49 => ?_)
            refine t_region ?_
            refine t_val (v := .int .i64 x6_43) rfl rfl hE rfl (r_move hE rfl) (fun a hE => ?_)
            refine t_val (v := .pointer (some ((x1_2).add 2))) rfl rfl hE rfl (r_fieldAddr hE rfl fd24_2) (fun a hE => ?_)
            obtain ⟨x54_50, qx54_50, H⟩ := H
            refine t_val (v := (x54_50 : Sl).v) rfl rfl hE rfl (r_load hE rfl sc22 qx54_50) (fun a hE => ?_)
            refine t_val (v := .int .i64 (x54_50.len : Int)) rfl rfl hE rfl (r_len hE rfl 5 un22) (fun a hE => ?_)
            refine t_val (v := .bool (decide (x6_43 < (x54_50.len : Int)))) rfl rfl hE rfl (r_bin hE rfl rfl g_int b_lss) (fun a hE => ?_)
            refine t_nil ?_
            refine hK_49 _ _ ?_
            refine w_cond (decide (x6_43 < (x54_50.len : Int))) hE rfl (fun hb => ?_) (fun hb => ?_)
            · replace H := M.ite_t hb H
              refine w_skip ?_
              refine hK_48 _ _ ?_
              refine w_seq (fun K hK_51 => ?_)
              refine w_block ?_
              refine t_region ?_
              refine t_val (v := .int .i64 x6_43) rfl rfl hE rfl (r_move hE rfl) (fun a hE => ?_)
              refine t_val (v := .int .i64 (IntKind.wrap .i64 (10 + x6_43))) rfl rfl hE rfl (r_bin hE rfl rfl g_int b_add) (fun a hE => ?_)
              refine t_val (v := .pointer (some ((x1_2).add 2))) rfl rfl hE rfl (r_fieldAddr hE rfl fd24_2) (fun a hE => ?_)
              obtain ⟨x62_52, qx62_52, H⟩ := H
              refine t_val (v := (x62_52 : Sl).v) rfl rfl hE rfl (r_load hE rfl sc22 qx62_52) (fun a hE => ?_)
              refine t_val (v := .int .i64 x6_43) rfl rfl hE rfl (r_move hE rfl) (fun a hE => ?_)
              obtain ⟨x64_53, qx64_53, H⟩ := H
              refine t_val (v := .pointer (some x64_53)) rfl rfl hE rfl (r_indexAddrL hE rfl rfl un22 sz5 qx64_53) (fun a hE => ?_)
              obtain ⟨x65_54, qx65_54, H⟩ := H
              refine t_val (v := .int .u8 x65_54) rfl rfl hE rfl (r_load hE rfl sc5 qx65_54) (fun a hE => ?_)
              obtain ⟨x66_55, qx66_55, H⟩ := H
              refine t_val (v := .pointer (some x66_55)) rfl rfl hE rfl (r_indexAddrA hE rfl rfl un26 sz5 qx66_55) (fun a hE => ?_)
              obtain ⟨u_56, qu_56, H⟩ := H
              refine t_sth rfl rfl hE hR (r_store hE rfl rfl sz5 qu_56) (fun a w hE hR hh => ?_)
              replace H := M.at hh H; clear hh
              refine t_nil ?_
              refine hK_51 _ _ ?_
              refine t_region ?_
              refine t_val (v := .int .i64 x6_43) rfl rfl hE rfl (r_move hE rfl) (fun a hE => ?_)
              refine t_val (v := .int .i64 (IntKind.wrap .i64 (x6_43 + 1))) rfl rfl hE rfl (r_bin hE rfl rfl g_int b_add) (fun a hE => ?_)
              refine t_val (v := .int .i64 (IntKind.wrap .i64 (x6_43 + 1))) rfl rfl hE rfl (r_assign hE rfl) (fun a hE => ?_)
              refine t_nil ?_
              exact hY_47 (IntKind.wrap .i64 (x6_43 + 1)) _ _ (hE.cut (.cons rfl (.cons rfl (.cons rfl (.cons rfl Subs.nil))))) hR H
            · replace H := M.ite_f hb H
              refine w_exit ?_
              refine Xu.same ?_
              refine hK_41 _ _ ?_
              refine w_seq (fun K hK_57 => ?_)
              refine t_region ?_
              obtain ⟨x67_58, qx67_58, H⟩ := H
              refine t_val (v := (x67_58 : Sl).v) rfl rfl hE rfl (r_sliceA_h hE rfl rfl un26 sz5 qx67_58) (fun a hE => ?_)
              refine t_call hE hR cl15 rfl (S_rambleref05_Sum x67_58) (M.unbind H) (fun x68_59 a w ea hR H => ?_)
              have hE := Env.put_some hE rfl ea; clear ea
              refine t_val (v := .int .u32 x68_59) rfl rfl hE rfl (r_assign hE rfl) (fun a hE => ?_)
              refine t_nil ?_
              refine hK_57 _ _ ?_
              refine w_seq (fun K hK_60 => ?_)
              refine w_seq (fun K hK_61 => ?_)
              refine t_region ?_
              refine t_val (v := .int .i64 0) rfl rfl hE rfl (r_assign hE rfl) (fun a hE => ?_)
              refine t_nil ?_
              refine hK_61 _ _ ?_
              refine w_block ?_
              refine l_loop (fun (s : Int) => [(2, .pointer (some x2_3)), (4, .pointer (some x4_5)), (7, .int .u32 x68_59), (8, .int .i64 s)]) H (hE.cut (.cons rfl (.cons rfl (.cons rfl (.cons rfl Subs.nil))))) hR (fun Y self3 hY_66 x8_62 a w hE hR H => ?_)
              replace hE : Env 82 a [(2, .pointer (some x2_3)), (4, .pointer (some x4_5)), (7, .int .u32 x68_59), (8, .int .i64 x8_62)] := hE
              replace H : (rambleref05_Seal_l3 x2_3 x4_5 x68_59 self3 x8_62).wp w.heap Q := H
              unfold rambleref05_Seal_l3 at H
              refine w_seq (fun K hK_67 => ?_)
              refine w_seq (fun K hK_68 => ?_)
              refine t_region ?_
              refine t_val (v := .int .i64 x8_62) rfl rfl hE rfl (r_move hE rfl) (fun a hE => ?_)
              refine t_val (v := .bool (decide (x8_62 < 4))) rfl rfl hE rfl (r_bin hE rfl rfl g_int b_lss) (fun a hE => ?_)
              refine t_nil ?_
              refine hK_68 _ _ ?_
              refine w_cond (decide (x8_62 < 4)) hE rfl (fun hb => ?_) (fun hb => ?_)
              · replace H := M.ite_t hb H
                refine w_skip ?_
                refine hK_67 _ _ ?_
                refine w_seq (fun K hK_69 => ?_)
                refine w_block ?_
                refine t_region ?_
                refine t_val (v := .int .i64 x8_62) rfl rfl hE rfl (r_move hE rfl) (fun a hE => ?_)
                refine t_val (v := .int .i64 (IntKind.wrap .i64 (124 + x8_62))) rfl rfl hE rfl (r_bin hE rfl rfl g_int b_add) (fun a hE => ?_)
                refine t_val (v := .int .u32 x68_59) rfl rfl hE rfl (r_move hE rfl) (fun a hE => ?_)
                refine t_val (v := .int .i64 x8_62) rfl rfl hE rfl (r_move hE rfl) (fun a hE => ?_)
                refine t_val (v := .int .i64 (IntKind.wrap .i64 (8 * x8_62))) rfl rfl hE rfl (r_bin hE rfl rfl g_int b_mul) (fun a hE => ?_)
                obtain ⟨x78_70, qx78_70, H⟩ := H
                refine t_val (v := .int .u32 x78_70) rfl rfl hE rfl (r_bin hE rfl rfl g_int (b_shr qx78_70)) (fun a hE => ?_)
                refine t_val (v := .int .u8 (IntKind.wrap .u8 x78_70)) rfl rfl hE rfl (r_convI hE rfl un34 un5) (fun a hE => ?_)
                obtain ⟨x80_71, qx80_71, H⟩ := H
                refine t_val (v := .pointer (some x80_71)) rfl rfl hE rfl (r_indexAddrA hE rfl rfl un26 sz5 qx80_71) (fun a hE => ?_)
                obtain ⟨u_72, qu_72, H⟩ := H
                refine t_sth rfl rfl hE hR (r_store hE rfl rfl sz5 qu_72) (fun a w hE hR hh => ?_)
                replace H := M.at hh H; clear hh
                refine t_nil ?_
                refine hK_69 _ _ ?_
                refine t_region ?_
                refine t_val (v := .int .i64 x8_62) rfl rfl hE rfl (r_move hE rfl) (fun a hE => ?_)
                refine t_val (v := .int .i64 (IntKind.wrap .i64 (x8_62 + 1))) rfl rfl hE rfl (r_bin hE rfl rfl g_int b_add) (fun a hE => ?_)
                refine t_val (v := .int .i64 (IntKind.wrap .i64 (x8_62 + 1))) rfl rfl hE rfl (r_assign hE rfl) (fun a hE => ?_)
                refine t_nil ?_
                exact hY_66 (IntKind.wrap .i64 (x8_62 + 1)) _ _ (hE.cut (.cons rfl (.cons rfl (.cons rfl (.cons rfl Subs.nil))))) hR H
              · replace H := M.ite_f hb H
                refine w_exit ?_
                refine Xu.same ?_
                refine hK_60 _ _ ?_
                refine w_seq (fun K hK_73 => ?_)
                refine t_region ?_
                obtain ⟨x81_74, qx81_74, H⟩ := H
                refine t_val (v := .agg x81_74) rfl rfl hE rfl (r_loadG hE rfl ag26 qx81_74) (fun a hE => ?_)
                obtain ⟨qz, H⟩ := H
                obtain ⟨u_75, qu_75, H⟩ := H
                refine t_sth rfl rfl hE hR (r_storeG hE rfl rfl sz26 qz qu_75) (fun a w hE hR hh => ?_)
                replace H := M.at hh H; clear hh
                refine t_val (v := .int .i64 0) rfl rfl hE rfl (r_assign hE rfl) (fun a hE => ?_)
                refine t_nil ?_
                refine hK_73 _ _ ?_
                refine w_ret ?_
                obtain ⟨r2_76, qr2_76, H⟩ := H
                exact hret _ _ _ (r2_76, 0) _ hE hR (res_run hE rfl (RV.cellG rfl ag26 qr2_76 (RV.tmp rfl RV.nil))) rfl H

/-- slices.Clone[[]byte,byte] -/
def slices_Clone_byte_byte (x0 : Sl) : M (Sl) := do
  M.ite ((x0).base.isNone) (do
    M.pure Sl.nil
    ) (do
    let x5_6 ← bdL ty_uint8 0 #[]
    let x7_7 ← apL ty_uint8 1 1 (#[.int .u8 0] : Array Value) x5_6 x0
    M.pure x7_7
    )
theorem S_slices_Clone_byte_byte (x0 : Sl) : Sound Go.Proofs.Try.prog 35 #[(x0 : Sl).v] (fun (r : Sl) => (r : Sl).v) (slices_Clone_byte_byte x0) := by
  refine sound_of [(0, (x0 : Sl).v)] Go.Proofs.Try.func35 rfl rfl (Nat.le_of_ble_eq_true rfl) (args_of ⟨rfl, trivial⟩) (fun w0 w Q R a hret hE hR H => ?_)
  unfold slices_Clone_byte_byte at H
  refine w_seq (fun K hK_1 => ?_)
  refine t_region ?_
  refine t_val (v := (Sl.nil : Sl).v) rfl rfl hE rfl (r_assign hE rfl) (fun a hE => ?_)
  refine t_nil ?_
  refine hK_1 _ _ ?_
  refine w_seq (fun K hK_2 => ?_)
  refine w_seq (fun K hK_3 => ?_)
  refine t_region ?_
  refine t_val (v := (x0 : Sl).v) rfl rfl hE rfl (r_move hE rfl) (fun a hE => ?_)
  refine t_val (v := .bool ((x0).base.isNone)) rfl rfl hE rfl (r_bin hE rfl rfl (g_sl (v := Sl.nil)) (b_eqlL un22)) (fun a hE => ?_)
  refine t_nil ?_
  refine hK_3 _ _ ?_
  refine w_cond ((x0).base.isNone) hE rfl (fun hb => ?_) (fun hb => ?_)
  · replace H := M.ite_t hb H
    refine w_seq (fun K hK_4 => ?_)
    refine t_region ?_
    refine t_val (v := (Sl.nil : Sl).v) rfl rfl hE rfl (r_assign hE rfl) (fun a hE => ?_)
    refine t_nil ?_
    refine hK_4 _ _ ?_
    refine w_ret ?_
    exact hret _ _ _ Sl.nil _ hE hR (res_run hE rfl (RV.tmp rfl RV.nil)) rfl H
  · replace H := M.ite_f hb H
    refine w_skip ?_
    refine hK_2 _ _ ?_
    refine w_seq (fun K hK_5 => ?_)
    refine t_region ?_
    obtain ⟨x5_6, qx5_6, H⟩ := H
    refine t_valh (v := (x5_6 : Sl).v) rfl rfl hE rfl hR (r_buildL (cells := #[]) hE rfl un22 sz5 zr5 rfl rfl qx5_6) (fun a w hE hR hh => ?_)
    replace H := M.at hh H; clear hh
    refine t_val (v := (x0 : Sl).v) rfl rfl hE rfl (r_move hE rfl) (fun a hE => ?_)
    refine t_ex (fun x7_7 => (x7_7 : Sl).v) rfl rfl hR (M.unbind H) (fun Q H => ap_run hE rfl rfl ap22 H) (fun x7_7 a w ea hR H => ?_)
    have hE := Env.put_some hE rfl ea; clear ea
    refine t_val (v := (x7_7 : Sl).v) rfl rfl hE rfl (r_assign hE rfl) (fun a hE => ?_)
    refine t_nil ?_
    refine hK_5 _ _ ?_
    refine w_ret ?_
    exact hret _ _ _ x7_7 _ hE hR (res_run hE rfl (RV.tmp rfl RV.nil)) rfl H

/-- ramble/sector.Open -/
theorem tb10_4 : tabAt Go.Proofs.Try.f10 4 [[], [0], [1], [], [3], [4], [5], [2, 6], [], [8, 7, 6, 0, 1, 2, 3, 4, 5, 6, 7, 8]] [[], [0], [1], [], [3], [4], [5], [2, 6], [], [7, 8]] [[], [0], [0, 1], [], [3], [3, 4], [3, 4, 5], [0, 1, 2, 3, 4, 5, 6], [], [0, 1, 2, 3, 4, 5, 6, 7, 8]] = true := by kernel_rfl
def sector_Open_l1 (c1_28 : Addr) (c2_29 : Addr) (c5_30 : Addr) (c25_31 : Sl) (c26_32 : Int) (self1 : (Int × Int) → M (Array Value × Int)) : (Int × Int) → M (Array Value × Int) := fun s => match s with
  | (x6_26, x27_27) => do
    M.ite (decide (x27_27 < c26_32)) (do
      let x29_38 ← ixL c25_31 x27_27 1
      let x30_39 ← ldI .u8 x29_38
      self1 (iOr .u64 (iShl .u64 x6_26 8) (IntKind.wrap .u64 x30_39), IntKind.wrap .i64 (x27_27 + 1))
      ) (do
      stV ((c5_30).add 1) (.int .i64 (IntKind.wrap .i64 x6_26))
      let x41_44 ← ldG 3 c5_30
      let x42_45 ← sector_Seal x41_44
      let x9_46 ← mkB ty_api_Sector (Array.replicate 128 (.int .u8 0) : Array Value)
      M.need (x42_45.1.size = 128)
      stG x9_46 x42_45.1
      let x51_49 ← M.ite (x42_45.2 != 0) (do
        M.pure true
        ) (do
        let x48_50 ← ldG 128 x9_46
        let x49_51 ← ldG 128 c1_28
        let x50_52 ← eqA .u8 128 x48_50 x49_51
        M.pure (!x50_52)
        )
      M.ite x51_49 (do
        M.need ((#[.int .i64 0, .int .i64 0, .slice none 0 0] : Array Value).size = 3)
        stG c2_29 (#[.int .i64 0, .int .i64 0, .slice none 0 0] : Array Value)
        let r2_55 ← ldG 3 c2_29
        M.pure (r2_55, 50)
        ) (do
        let x53_57 ← ldG 3 c5_30
        M.need (x53_57.size = 3)
        stG c2_29 x53_57
        let r2_59 ← ldG 3 c2_29
        M.pure (r2_59, 0)
        )
      )
def sector_Open (x0 : Array Value) : M (Array Value × Int) := do
  let x1_2 ← mkB ty_api_Sector x0
  let x2_3 ← mkB ty_api_Frame (#[.int .i64 0, .int .i64 0, .slice none 0 0] : Array Value)
  let x11_5 ← ixA x1_2 128 1 1
  let x12_6 ← ldI .u8 x11_5
  M.ite (decide ((IntKind.wrap .i64 x12_6) > 112)) (do
    M.need ((#[.int .i64 0, .int .i64 0, .slice none 0 0] : Array Value).size = 3)
    stG x2_3 (#[.int .i64 0, .int .i64 0, .slice none 0 0] : Array Value)
    let r2_11 ← ldG 3 x2_3
    M.pure (r2_11, 50)
    ) (do
    let x17_13 ← ixA x1_2 128 0 1
    let x22_14 ← slA x1_2 128 10 (IntKind.wrap .i64 (10 + (IntKind.wrap .i64 x12_6))) 1
    let x18_15 ← ldI .u8 x17_13
    let y_20 ← do
      M.both (do
        let x23_16 ← slices_Clone_byte_byte x22_14
        chk (fun h : Heap => (hcell h x17_13 = some (.int .u8 x18_15)))
        let x5_17 ← mkB ty_api_Frame (#[.int .i64 0, .int .i64 0, .slice none 0 0] : Array Value)
        chk (fun h : Heap => (hcell h x17_13 = some (.int .u8 x18_15)))
        M.pure (x5_17, x23_16, (#[.int .i64 (IntKind.wrap .i64 x18_15), .int .i64 0, (x23_16 : Sl).v] : Array Value))
        ) (do
        let x5_18 ← mkB ty_api_Frame (#[.int .i64 0, .int .i64 0, .slice none 0 0] : Array Value)
        chk (fun h : Heap => (hcell h x17_13 = some (.int .u8 x18_15)))
        let x23_19 ← slices_Clone_byte_byte x22_14
        chk (fun h : Heap => (hcell h x17_13 = some (.int .u8 x18_15)))
        M.pure (x5_18, x23_19, (#[.int .i64 (IntKind.wrap .i64 x18_15), .int .i64 0, (x23_19 : Sl).v] : Array Value))
        )
    M.need (y_20.2.2.size = 3)
    stG y_20.1 y_20.2.2
    let x25_25 ← slA x1_2 128 2 10 1
    M.loop (sector_Open_l1 x1_2 x2_3 y_20.1 x25_25 (x25_25.len : Int)) (0, 0)
    )
theorem S_sector_Open (x0 : Array Value) : Sound Go.Proofs.Try.prog 10 #[.agg x0] (fun (r : Array Value × Int) => .tuple #[.agg r.1, .int .i64 r.2]) (sector_Open x0) := by
  refine sound_of [(0, .agg x0)] Go.Proofs.Try.func10 rfl rfl (Nat.le_of_ble_eq_true rfl) (args_of ⟨rfl, trivial⟩) (fun w0 w Q R a hret hE hR H => ?_)
  unfold sector_Open at H
  refine w_seq (fun K hK_1 => ?_)
  refine t_region ?_
  obtain ⟨x1_2, qx1_2, H⟩ := H
  refine t_valh (v := .pointer (some x1_2)) rfl rfl hE rfl hR (r_box hE rfl qx1_2) (fun a w hE hR hh => ?_)
  replace H := M.at hh H; clear hh
  obtain ⟨x2_3, qx2_3, H⟩ := H
  refine t_valh (v := .pointer (some x2_3)) rfl rfl hE rfl hR (r_alloc zr24 qx2_3) (fun a w hE hR hh => ?_)
  replace H := M.at hh H; clear hh
  refine t_val (v := .int .i64 0) rfl rfl hE rfl (r_assign hE rfl) (fun a hE => ?_)
  refine t_nil ?_
  refine hK_1 _ _ ?_
  refine w_seq (fun K hK_4 => ?_)
  refine t_region ?_
  obtain ⟨x11_5, qx11_5, H⟩ := H
  refine t_val (v := .pointer (some x11_5)) rfl rfl hE rfl (r_indexAddrA hE rfl rfl un26 sz5 qx11_5) (fun a hE => ?_)
  obtain ⟨x12_6, qx12_6, H⟩ := H
  refine t_val (v := .int .u8 x12_6) rfl rfl hE rfl (r_load hE rfl sc5 qx12_6) (fun a hE => ?_)
  refine t_val (v := .int .i64 (IntKind.wrap .i64 x12_6)) rfl rfl hE rfl (r_convI hE rfl un5 un3) (fun a hE => ?_)
  refine t_val (v := .int .i64 (IntKind.wrap .i64 x12_6)) rfl rfl hE rfl (r_assign hE rfl) (fun a hE => ?_)
  refine t_nil ?_
  refine hK_4 _ _ ?_
  refine w_seq (fun K hK_7 => ?_)
  refine w_seq (fun K hK_8 => ?_)
  refine t_region ?_
  refine t_val (v := .int .i64 (IntKind.wrap .i64 x12_6)) rfl rfl hE rfl (r_move hE rfl) (fun a hE => ?_)
  refine t_val (v := .bool (decide ((IntKind.wrap .i64 x12_6) > 112))) rfl rfl hE rfl (r_bin hE rfl rfl g_int b_gtr) (fun a hE => ?_)
  refine t_nil ?_
  refine hK_8 _ _ ?_
  refine w_cond (decide ((IntKind.wrap .i64 x12_6) > 112)) hE rfl (fun hb => ?_) (fun hb => ?_)
  · replace H := M.ite_t hb H
    refine w_seq (fun K hK_9 => ?_)
    refine t_region ?_
    refine t_val (v := .agg (#[.int .i64 0, .int .i64 0, .slice none 0 0] : Array Value)) rfl rfl hE rfl (r_build0 bd24) (fun a hE => ?_)
    obtain ⟨qz, H⟩ := H
    obtain ⟨u_10, qu_10, H⟩ := H
    refine t_sth rfl rfl hE hR (r_storeG hE rfl rfl sz24 qz qu_10) (fun a w hE hR hh => ?_)
    replace H := M.at hh H; clear hh
    refine t_val (v := .int .i64 50) rfl rfl hE rfl (r_assign hE rfl) (fun a hE => ?_)
    refine t_nil ?_
    refine hK_9 _ _ ?_
    refine w_ret ?_
    obtain ⟨r2_11, qr2_11, H⟩ := H
    exact hret _ _ _ (r2_11, 50) _ hE hR (res_run hE rfl (RV.cellG rfl ag24 qr2_11 (RV.tmp rfl RV.nil))) rfl H
  · replace H := M.ite_f hb H
    refine w_skip ?_
    refine hK_7 _ _ ?_
    refine w_seq (fun K hK_12 => ?_)
    obtain ⟨x17_13, qx17_13, H⟩ := H
    obtain ⟨x22_14, qx22_14, H⟩ := H
    obtain ⟨x18_15, qx18_15, H⟩ := H
    have hT := tab_of tb10_4 rfl rfl
    refine d_start (fun w : World => (fun h : Heap => (hcell h x17_13 = some (.int .u8 x18_15))) w.heap) [2, 7, 9] #[false, false, false, false, false, false, false, false, false, false] mo hR rfl rfl (fun w' e => by rw [e]; exact qx18_15) (fun w hh hR hs => ?_)
    replace H := M.at hh H; clear hh
    refine d_pureg (i := 0) (v := .pointer (some x17_13)) #[true, false, false, false, false, false, false, false, false, false] rfl rfl hT (by kernel_rfl) hE rfl (wanted_none rfl) (fun w => r_indexAddrA hE rfl rfl un26 sz5 qx17_13) (fun a hE => ?_)
    refine d_pureg (i := 3) (v := .int .i64 (IntKind.wrap .i64 x12_6)) #[true, false, false, true, false, false, false, false, false, false] rfl rfl hT (by kernel_rfl) hE rfl (wanted_none rfl) (fun w => r_move hE rfl) (fun a hE => ?_)
    refine d_pureg (i := 4) (v := .int .i64 (IntKind.wrap .i64 (10 + (IntKind.wrap .i64 x12_6)))) #[true, false, false, true, true, false, false, false, false, false] rfl rfl hT (by kernel_rfl) hE rfl (wanted_none rfl) (fun w => r_bin hE rfl rfl g_int b_add) (fun a hE => ?_)
    refine d_pureg (i := 5) (v := (x22_14 : Sl).v) #[true, false, false, true, true, true, false, false, false, false] rfl rfl hT (by kernel_rfl) hE rfl (wanted_none rfl) (fun w => r_sliceA_lh hE rfl rfl rfl un26 sz5 qx22_14) (fun a hE => ?_)
    refine d_read (i := 1) (v := .int .u8 x18_15) #[true, true, false, true, true, true, false, false, false, false] rfl rfl hT (by kernel_rfl) hE rfl (wanted_none rfl) hs (fun w s => r_load hE rfl sc5 s) (fun a hE => ?_)
    refine d_pureg (i := 2) (v := .int .i64 (IntKind.wrap .i64 x18_15)) #[true, true, true, true, true, true, false, false, false, false] rfl rfl hT (by kernel_rfl) hE rfl (wanted_none rfl) (fun w => r_convI hE rfl un5 un3) (fun a hE => ?_)
    refine d_join (n := 54) (w0 := w0) (fun y_20 : Addr × Sl × Array Value => [(0, .agg x0), (1, .pointer (some x1_2)), (2, .pointer (some x2_3)), (3, .int .i64 0), (11, .pointer (some x11_5)), (12, .int .u8 x12_6), (13, .int .i64 (IntKind.wrap .i64 x12_6)), (4, .int .i64 (IntKind.wrap .i64 x12_6)), (14, .int .i64 (IntKind.wrap .i64 x12_6)), (15, .bool (decide ((IntKind.wrap .i64 x12_6) > 112))), (17, .pointer (some x17_13)), (20, .int .i64 (IntKind.wrap .i64 x12_6)), (21, .int .i64 (IntKind.wrap .i64 (10 + (IntKind.wrap .i64 x12_6)))), (22, (x22_14 : Sl).v), (18, .int .u8 x18_15), (19, .int .i64 (IntKind.wrap .i64 x18_15)), (5, .pointer (some y_20.1)), (23, (y_20.2.1 : Sl).v), (24, .agg y_20.2.2)]) 1 #[true, true, true, true, true, true, true, true, true, false] (M.unbind H) ?_ ?_
    · intro y_20 a w hE hR H
      obtain ⟨qz, H⟩ := H
      obtain ⟨u_21, qu_21, H⟩ := H
      refine d_stlh (i := 9) #[true, true, true, true, true, true, true, true, true, true] rfl rfl hT (by kernel_rfl) rfl hE hR (wanted_none rfl) (r_storeG hE rfl rfl sz24 qz qu_21)  (fun a w hE hR hh => ?_)
      replace H := M.at hh H; clear hh
      refine d_done hT (by kernel_rfl) ?_
      refine hK_12 _ _ ?_
      refine w_seq (fun K hK_22 => ?_)
      refine t_region ?_
      refine t_val (v := .int .u64 0) rfl rfl hE rfl (r_assign hE rfl) (fun a hE => ?_)
      refine t_nil ?_
      refine hK_22 _ _ ?_
      refine w_seq (fun K hK_23 => ?_)
      refine w_seq (fun K hK_24 => ?_)
      refine t_region ?_
      obtain ⟨x25_25, qx25_25, H⟩ := H
      refine t_val (v := (x25_25 : Sl).v) rfl rfl hE rfl (r_sliceA_lh hE rfl rfl rfl un26 sz5 qx25_25) (fun a hE => ?_)
      refine t_val (v := .int .i64 (x25_25.len : Int)) rfl rfl hE rfl (r_len hE rfl 5 un22) (fun a hE => ?_)
      refine t_val (v := .int .i64 0) rfl rfl hE rfl (r_move hE rfl) (fun a hE => ?_)
      refine t_nil ?_
      refine hK_24 _ _ ?_
      refine w_block ?_
      refine l_loop (fun (s : Int × Int) => [(1, .pointer (some x1_2)), (2, .pointer (some x2_3)), (5, .pointer (some y_20.1)), (6, .int .u64 s.1), (25, (x25_25 : Sl).v), (26, .int .i64 (x25_25.len : Int)), (27, .int .i64 s.2)]) H (hE.cut (.cons rfl (.cons rfl (.cons rfl (.cons rfl (.cons rfl (.cons rfl (.cons rfl Subs.nil)))))))) hR (fun Y self1 hY_33 s a w hE hR H => ?_)
      rcases s with ⟨x6_26, x27_27⟩
      replace hE : Env 54 a [(1, .pointer (some x1_2)), (2, .pointer (some x2_3)), (5, .pointer (some y_20.1)), (6, .int .u64 x6_26), (25, (x25_25 : Sl).v), (26, .int .i64 (x25_25.len : Int)), (27, .int .i64 x27_27)] := hE
      replace H : (sector_Open_l1 x1_2 x2_3 y_20.1 x25_25 (x25_25.len : Int) self1 (x6_26, x27_27)).wp w.heap Q := H
      unfold sector_Open_l1 at H
      refine w_seq (fun K hK_34 => ?_)
      refine t_region ?_
      refine t_val (v := .bool (decide (x27_27 < (x25_25.len : Int)))) rfl rfl hE rfl (r_bin hE rfl rfl g_int b_lss) (fun a hE => ?_)
      refine t_nil ?_
      refine hK_34 _ _ ?_
      refine w_seq (fun K hK_35 => ?_)
      refine w_cond (decide (x27_27 < (x25_25.len : Int))) hE rfl (fun hb => ?_) (fun hb => ?_)
      · replace H := M.ite_t hb H
        refine w_skip ?_
        refine hK_35 _ _ ?_
        refine w_seq (fun K hK_36 => ?_)
        refine w_block ?_
        refine w_seq (fun K hK_37 => ?_)
        refine t_region ?_
        obtain ⟨x29_38, qx29_38, H⟩ := H
        refine t_val (v := .pointer (some x29_38)) rfl rfl hE rfl (r_indexAddrL hE rfl rfl un22 sz5 qx29_38) (fun a hE => ?_)
        obtain ⟨x30_39, qx30_39, H⟩ := H
        refine t_val (v := .int .u8 x30_39) rfl rfl hE rfl (r_load hE rfl sc5 qx30_39) (fun a hE => ?_)
        refine t_val (v := .int .u8 x30_39) rfl rfl hE rfl (r_assign hE rfl) (fun a hE => ?_)
        refine t_nil ?_
        refine hK_37 _ _ ?_
        refine t_region ?_
        refine t_val (v := .int .u64 x6_26) rfl rfl hE rfl (r_move hE rfl) (fun a hE => ?_)
        refine t_val (v := .int .u64 (iShl .u64 x6_26 8)) rfl rfl hE rfl (r_bin hE rfl rfl g_int (b_shl ⟨by decide, rfl⟩)) (fun a hE => ?_)
        refine t_val (v := .int .u8 x30_39) rfl rfl hE rfl (r_move hE rfl) (fun a hE => ?_)
        refine t_val (v := .int .u64 (IntKind.wrap .u64 x30_39)) rfl rfl hE rfl (r_convI hE rfl un5 un67) (fun a hE => ?_)
        refine t_val (v := .int .u64 (iOr .u64 (iShl .u64 x6_26 8) (IntKind.wrap .u64 x30_39))) rfl rfl hE rfl (r_bin hE rfl rfl g_int b_or) (fun a hE => ?_)
        refine t_val (v := .int .u64 (iOr .u64 (iShl .u64 x6_26 8) (IntKind.wrap .u64 x30_39))) rfl rfl hE rfl (r_assign hE rfl) (fun a hE => ?_)
        refine t_nil ?_
        refine hK_36 _ _ ?_
        refine t_region ?_
        refine t_val (v := .int .i64 (IntKind.wrap .i64 (x27_27 + 1))) rfl rfl hE rfl (r_bin hE rfl rfl g_int b_add) (fun a hE => ?_)
        refine t_val (v := .int .i64 (IntKind.wrap .i64 (x27_27 + 1))) rfl rfl hE rfl (r_move hE rfl) (fun a hE => ?_)
        refine t_nil ?_
        exact hY_33 (iOr .u64 (iShl .u64 x6_26 8) (IntKind.wrap .u64 x30_39), IntKind.wrap .i64 (x27_27 + 1)) _ _ (hE.cut (.cons rfl (.cons rfl (.cons rfl (.cons rfl (.cons rfl (.cons rfl (.cons rfl Subs.nil)))))))) hR H
      · replace H := M.ite_f hb H
        refine w_exit ?_
        refine Xu.same ?_
        refine hK_23 _ _ ?_
        refine w_seq (fun K hK_40 => ?_)
        refine t_region ?_
        refine t_val (v := .int .u64 x6_26) rfl rfl hE rfl (r_move hE rfl) (fun a hE => ?_)
        refine t_val (v := .int .i64 (IntKind.wrap .i64 x6_26)) rfl rfl hE rfl (r_convI hE rfl un67 un2) (fun a hE => ?_)
        refine t_val (v := .pointer (some ((y_20.1).add 1))) rfl rfl hE rfl (r_fieldAddr hE rfl fd24_1) (fun a hE => ?_)
        obtain ⟨u_41, qu_41, H⟩ := H
        refine t_sth rfl rfl hE hR (r_store hE rfl rfl sz2 qu_41) (fun a w hE hR hh => ?_)
        replace H := M.at hh H; clear hh
        refine t_nil ?_
        refine hK_40 _ _ ?_
        refine w_seq (fun K hK_42 => ?_)
        refine w_seq (fun K hK_43 => ?_)
        refine t_region ?_
        obtain ⟨x41_44, qx41_44, H⟩ := H
        refine t_val (v := .agg x41_44) rfl rfl hE rfl (r_loadG hE rfl ag24 qx41_44) (fun a hE => ?_)
        refine t_call hE hR cl8 rfl (S_sector_Seal x41_44) (M.unbind H) (fun x42_45 a w ea hR H => ?_)
        have hE := Env.put_some hE rfl ea; clear ea
        refine t_val (v := .tuple #[.agg x42_45.1, .int .i64 x42_45.2]) rfl rfl hE rfl (r_move hE rfl) (fun a hE => ?_)
        refine t_val (v := .agg x42_45.1) rfl rfl hE rfl (r_extract hE rfl rfl) (fun a hE => ?_)
        refine t_val (v := .int .i64 x42_45.2) rfl rfl hE rfl (r_extract hE rfl rfl) (fun a hE => ?_)
        obtain ⟨x9_46, qx9_46, H⟩ := H
        refine t_valh (v := .pointer (some x9_46)) rfl rfl hE rfl hR (r_alloc zr26 qx9_46) (fun a w hE hR hh => ?_)
        replace H := M.at hh H; clear hh
        obtain ⟨qz, H⟩ := H
        obtain ⟨u_47, qu_47, H⟩ := H
        refine t_sth rfl rfl hE hR (r_storeG hE rfl rfl sz26 qz qu_47) (fun a w hE hR hh => ?_)
        replace H := M.at hh H; clear hh
        refine t_val (v := .int .i64 x42_45.2) rfl rfl hE rfl (r_assign hE rfl) (fun a hE => ?_)
        refine t_nil ?_
        refine hK_43 _ _ ?_
        refine w_seq (fun K hK_48 => ?_)
        refine t_region ?_
        refine t_val (v := .int .i64 x42_45.2) rfl rfl hE rfl (r_move hE rfl) (fun a hE => ?_)
        refine t_val (v := .bool (x42_45.2 != 0)) rfl rfl hE rfl (r_bin hE rfl rfl g_int b_neq) (fun a hE => ?_)
        refine t_val (v := .bool (x42_45.2 != 0)) rfl rfl hE rfl (r_move hE rfl) (fun a hE => ?_)
        refine t_grp (n := 54) (w0 := w0) 4 (fun x51_49 : Bool => [(2, .pointer (some x2_3)), (5, .pointer (some y_20.1)), (51, .bool x51_49)]) (M.unbind H) (fun Kr hKr H => ?_) ?_
        · rcases bool_em (x42_45.2 != 0) with hb | hb
          · replace H := M.ite_t hb H
            have hE := hE.reb 47 (x42_45.2 != 0) true hb rfl
            refine t_off rfl hE rfl rfl rfl (fun a ea => ?_)
            have hE := Env.put_some hE rfl ea; clear ea
            refine t_off rfl hE rfl rfl rfl (fun a ea => ?_)
            have hE := Env.put_some hE rfl ea; clear ea
            refine t_off rfl hE rfl rfl rfl (fun a ea => ?_)
            have hE := Env.put_some hE rfl ea; clear ea
            refine t_val rfl rfl hE rfl (r_pick_t hE rfl rfl) (fun a hE => ?_)
            refine t_nil ?_
            exact hKr _ _ _ (hE.cut (.cons rfl (.cons rfl (.cons rfl Subs.nil)))) hR H
          · replace H := M.ite_f hb H
            have hE := hE.reb 47 (x42_45.2 != 0) false hb rfl
            refine t_on rfl hE rfl rfl rfl ?_
            obtain ⟨x48_50, qx48_50, H⟩ := H
            refine t_val (v := .agg x48_50) rfl rfl hE rfl (r_loadG hE rfl ag26 qx48_50) (fun a hE => ?_)
            refine t_on rfl hE rfl rfl rfl ?_
            obtain ⟨x49_51, qx49_51, H⟩ := H
            refine t_val (v := .agg x49_51) rfl rfl hE rfl (r_loadG hE rfl ag26 qx49_51) (fun a hE => ?_)
            refine t_on rfl hE rfl rfl rfl ?_
            obtain ⟨x50_52, qx50_52, H⟩ := H
            refine t_val (v := .bool (!x50_52)) rfl rfl hE rfl (r_bin hE rfl rfl (g_agg eg26) (b_neqA un26 un5 sz5 qx50_52)) (fun a hE => ?_)
            refine t_val rfl rfl hE rfl (r_pick_f hE rfl rfl) (fun a hE => ?_)
            refine t_nil ?_
            exact hKr _ _ _ (hE.cut (.cons rfl (.cons rfl (.cons rfl Subs.nil)))) hR H
        · intro x51_49 a w hE hR H
          refine t_nil ?_
          refine hK_48 _ _ ?_
          refine w_cond x51_49 hE rfl (fun hb => ?_) (fun hb => ?_)
          · replace H := M.ite_t hb H
            refine w_seq (fun K hK_53 => ?_)
            refine t_region ?_
            refine t_val (v := .agg (#[.int .i64 0, .int .i64 0, .slice none 0 0] : Array Value)) rfl rfl hE rfl (r_build0 bd24) (fun a hE => ?_)
            obtain ⟨qz, H⟩ := H
            obtain ⟨u_54, qu_54, H⟩ := H
            refine t_sth rfl rfl hE hR (r_storeG hE rfl rfl sz24 qz qu_54) (fun a w hE hR hh => ?_)
            replace H := M.at hh H; clear hh
            refine t_val (v := .int .i64 50) rfl rfl hE rfl (r_assign hE rfl) (fun a hE => ?_)
            refine t_nil ?_
            refine hK_53 _ _ ?_
            refine w_ret ?_
            obtain ⟨r2_55, qr2_55, H⟩ := H
            exact hret _ _ _ (r2_55, 50) _ hE hR (res_run hE rfl (RV.cellG rfl ag24 qr2_55 (RV.tmp rfl RV.nil))) rfl H
          · replace H := M.ite_f hb H
            refine w_skip ?_
            refine hK_42 _ _ ?_
            refine w_seq (fun K hK_56 => ?_)
            refine t_region ?_
            obtain ⟨x53_57, qx53_57, H⟩ := H
            refine t_val (v := .agg x53_57) rfl rfl hE rfl (r_loadG hE rfl ag24 qx53_57) (fun a hE => ?_)
            obtain ⟨qz, H⟩ := H
            obtain ⟨u_58, qu_58, H⟩ := H
            refine t_sth rfl rfl hE hR (r_storeG hE rfl rfl sz24 qz qu_58) (fun a w hE hR hh => ?_)
            replace H := M.at hh H; clear hh
            refine t_val (v := .int .i64 0) rfl rfl hE rfl (r_assign hE rfl) (fun a hE => ?_)
            refine t_nil ?_
            refine hK_56 _ _ ?_
            refine w_ret ?_
            obtain ⟨r2_59, qr2_59, H⟩ := H
            exact hret _ _ _ (r2_59, 0) _ hE hR (res_run hE rfl (RV.cellG rfl ag24 qr2_59 (RV.tmp rfl RV.nil))) rfl H
    · intro hj H
      refine d_pick [6, 8] hT (by kernel_rfl) rfl (fun i hi => ?_)
      simp only [List.mem_cons, List.not_mem_nil, or_false] at hi
      rcases hi with rfl | rfl
      · replace H := H.1
        refine p_call (S := fun w : World => (fun h : Heap => (hcell h x17_13 = some (.int .u8 x18_15))) w.heap) (i := 6) #[true, true, true, true, true, true, true, false, false, false] rfl rfl rfl (by kernel_rfl) hE hR (wanted_none rfl) cl35 rfl (S_slices_Clone_byte_byte x22_14) (M.unbind H) (fun r h H w' e => by obtain ⟨_, sA, H⟩ := H; rw [e]; exact sA) (fun x23_16 a w ea hR H hs => ?_)
        obtain ⟨_, sA, H⟩ := H; clear sA
        have hE := Env.put_some hE rfl ea; clear ea
        refine d_pureg (i := 7) (v := .agg (#[.int .i64 (IntKind.wrap .i64 x18_15), .int .i64 0, (x23_16 : Sl).v] : Array Value)) #[true, true, true, true, true, true, true, true, false, false] rfl rfl hT (by kernel_rfl) hE rfl (wanted_none rfl) (fun w => r_build hE rfl zr24 pl24 (by rfl)) (fun a hE => ?_)
        obtain ⟨x5_17, qx5_17, H⟩ := H
        obtain ⟨_, sA, H⟩ := H
        refine d_oneh (i := 8) (v := .pointer (some x5_17)) #[true, true, true, true, true, true, true, true, true, false] rfl rfl hT (by kernel_rfl) rfl hE hR rfl (wanted_none rfl) (r_alloc zr24 qx5_17)  (fun w' e => by rw [e]; exact sA) (fun a w hE hR hh hs => ?_)
        replace H := M.at hh H; clear hh
        exact hj _ _ _ (hE.cut (.cons rfl (.cons rfl (.cons rfl (.cons rfl (.cons rfl (.cons rfl (.cons rfl (.cons rfl (.cons rfl (.cons rfl (.cons rfl (.cons rfl (.cons rfl (.cons rfl (.cons rfl (.cons rfl (.cons rfl (.cons rfl (.cons rfl Subs.nil)))))))))))))))))))) hR H
      · replace H := H.2
        obtain ⟨x5_18, qx5_18, H⟩ := H
        obtain ⟨_, sA, H⟩ := H
        refine p_valh (S := fun w : World => (fun h : Heap => (hcell h x17_13 = some (.int .u8 x18_15))) w.heap) (i := 8) (v := .pointer (some x5_18)) #[true, true, true, true, true, true, false, false, true, false] rfl rfl (by kernel_rfl) hE hR rfl (wanted_none rfl) (r_alloc zr24 qx5_18)  (fun w' e => by rw [e]; exact sA) (fun a w hE hR hh hs => ?_)
        replace H := M.at hh H; clear hh
        refine d_call (i := 6) #[true, true, true, true, true, true, true, false, true, false] rfl rfl rfl hT (by kernel_rfl) rfl hE hR (wanted_none rfl) cl35 rfl (S_slices_Clone_byte_byte x22_14) (M.unbind H) (fun r h H w' e => by obtain ⟨_, sA, H⟩ := H; rw [e]; exact sA) (fun x23_19 a w ea hR H hs => ?_)
        obtain ⟨_, sA, H⟩ := H; clear sA
        have hE := Env.put_some hE rfl ea; clear ea
        refine d_pureg (i := 7) (v := .agg (#[.int .i64 (IntKind.wrap .i64 x18_15), .int .i64 0, (x23_19 : Sl).v] : Array Value)) #[true, true, true, true, true, true, true, true, true, false] rfl rfl hT (by kernel_rfl) hE rfl (wanted_none rfl) (fun w => r_build hE rfl zr24 pl24 (by rfl)) (fun a hE => ?_)
        exact hj _ _ _ (hE.cut (.cons rfl (.cons rfl (.cons rfl (.cons rfl (.cons rfl (.cons rfl (.cons rfl (.cons rfl (.cons rfl (.cons rfl (.cons rfl (.cons rfl (.cons rfl (.cons rfl (.cons rfl (.cons rfl (.cons rfl (.cons rfl (.cons rfl Subs.nil)))))))))))))))))))) hR H

end Gx
