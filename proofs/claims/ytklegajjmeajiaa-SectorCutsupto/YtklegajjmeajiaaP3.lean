/- Printed by program: Go functions as Lean programs, each tied to its code. No condition. -/
import Derived.Test.YtklegajjmeajiaaP0
import Derived.Test.YtklegajjmeajiaaP1
import Derived.Test.YtklegajjmeajiaaP2
set_option linter.unusedVariables false
set_option linter.unusedSimpArgs false
namespace Gx
open Go
set_option linter.unusedVariables false
set_option maxRecDepth 100000
/-- ramble/rambleref05.Seal -/
def rambleref05_Seal_l3 (c2_63 : Addr) (c4_64 : Addr) (c7_65 : Int) (self3 : (Int) → M (Array Value × Int)) : (Int) → M (Array Value × Int) := fun s => match s with
  | x8_62 => do
    M.ite (decide (x8_62 < 4)) (do
      let x78_70 ← pShr .u32 c7_65 (IntKind.wrap .i64 (8 * x8_62))
      let x80_71 ← ixA c4_64 128 (IntKind.wrap .i64 (124 + x8_62)) 1
      stV x80_71 (.int .u8 (IntKind.wrap .u8 x78_70))
      self3 (IntKind.wrap .i64 (x8_62 + 1))
      ) (do
      let x81_74 ← ldG 128 c4_64
      M.need (x81_74.size = 128)
      stG c2_63 x81_74
      let r2_76 ← ldG 128 c2_63
      M.pure (r2_76, 0)
      )
def rambleref05_Seal_l2 (c1_44 : Addr) (c2_45 : Addr) (c4_46 : Addr) (self2 : (Int) → M (Array Value × Int)) : (Int) → M (Array Value × Int) := fun s => match s with
  | x6_43 => do
    let x54_50 ← ldL ((c1_44).add 2)
    M.ite (decide (x6_43 < (x54_50.len : Int))) (do
      let x62_52 ← ldL ((c1_44).add 2)
      let x64_53 ← ixL x62_52 x6_43 1
      let x65_54 ← ldI .u8 x64_53
      let x66_55 ← ixA c4_46 128 (IntKind.wrap .i64 (10 + x6_43)) 1
      stV x66_55 (.int .u8 x65_54)
      self2 (IntKind.wrap .i64 (x6_43 + 1))
      ) (do
      let x67_58 ← slA c4_46 128 0 124 1
      let x68_59 ← rambleref05_Sum x67_58
      M.loop (rambleref05_Seal_l3 c2_45 c4_46 x68_59) 0
      )
def rambleref05_Seal_l1 (c1_30 : Addr) (c2_31 : Addr) (c4_32 : Addr) (self1 : (Int) → M (Array Value × Int)) : (Int) → M (Array Value × Int) := fun s => match s with
  | x5_29 => do
    M.ite (decide (x5_29 < 8)) (do
      let x45_37 ← ldI .i64 ((c1_30).add 1)
      let x49_38 ← pShr .i64 x45_37 (IntKind.wrap .i64 (56 - (IntKind.wrap .i64 (8 * x5_29))))
      let x51_39 ← ixA c4_32 128 (IntKind.wrap .i64 (2 + x5_29)) 1
      stV x51_39 (.int .u8 (IntKind.wrap .u8 x49_38))
      self1 (IntKind.wrap .i64 (x5_29 + 1))
      ) (do
      M.loop (rambleref05_Seal_l2 c1_30 c2_31 c4_32) 0
      )
def rambleref05_Seal (x0 : Array Value) : M (Array Value × Int) := do
  let x1_2 ← mkB ty_api_Frame x0
  let x2_3 ← mkB ty_api_Sector (Array.replicate 128 (.int .u8 0) : Array Value)
  let x4_5 ← mkB ty_api_Sector (Array.replicate 128 (.int .u8 0) : Array Value)
  let x10_8 ← ldI .i64 ((x1_2).add 0)
  let x16_9 ← M.ite (decide (x10_8 < 1)) (do
    M.pure true
    ) (do
    let x14_10 ← ldI .i64 ((x1_2).add 0)
    M.pure (decide (x14_10 > 255))
    )
  let x21_11 ← M.ite x16_9 (do
    M.pure true
    ) (do
    let x19_12 ← ldI .i64 ((x1_2).add 1)
    M.pure (decide (x19_12 < 0))
    )
  let x27_13 ← M.ite x21_11 (do
    M.pure true
    ) (do
    let x24_14 ← ldL ((x1_2).add 2)
    M.pure (decide ((x24_14.len : Int) > 112))
    )
  M.ite x27_13 (do
    let x28_16 ← ldG 128 x4_5
    M.need (x28_16.size = 128)
    stG x2_3 x28_16
    let r2_18 ← ldG 128 x2_3
    M.pure (r2_18, 1)
    ) (do
    let x30_20 ← ldI .i64 ((x1_2).add 0)
    let x32_21 ← ixA x4_5 128 0 1
    stV x32_21 (.int .u8 (IntKind.wrap .u8 x30_20))
    let x34_24 ← ldL ((x1_2).add 2)
    let x37_25 ← ixA x4_5 128 1 1
    stV x37_25 (.int .u8 (IntKind.wrap .u8 (x34_24.len : Int)))
    M.loop (rambleref05_Seal_l1 x1_2 x2_3 x4_5) 0
    )
theorem S_rambleref05_Seal (x0 : Array Value) : Sound Go.Proofs.Try.prog 9 #[.agg x0] (fun (r : Array Value × Int) => .tuple #[.agg r.1, .int .i64 r.2]) (rambleref05_Seal x0) := by
  refine sound_of [(0, .agg x0)] Go.Proofs.Try.func9 rfl rfl (Nat.le_of_ble_eq_true rfl) (args_of ⟨rfl, trivial⟩) (fun w0 w Q R a hret hE hR H => ?_)
  unfold rambleref05_Seal at H
  refine w_seq (fun K hK_1 => ?_)
  refine t_region ?_
  obtain ⟨x1_2, qx1_2, H⟩ := H
  refine t_valh (v := .pointer (some x1_2)) rfl rfl hE rfl hR (r_box hE rfl qx1_2) (fun a w hE hR hh => ?_)
  replace H := M.at hh H; clear hh
  obtain ⟨x2_3, qx2_3, H⟩ := H
  refine t_valh (v := .pointer (some x2_3)) rfl rfl hE rfl hR (r_alloc zr26 qx2_3) (fun a w hE hR hh => ?_)
  replace H := M.at hh H; clear hh
  refine t_val (v := .int .i64 0) rfl rfl hE rfl (r_assign hE rfl) (fun a hE => ?_)
  refine t_nil ?_
  refine hK_1 _ _ ?_
  refine w_seq (fun K hK_4 => ?_)
  refine t_region ?_
  obtain ⟨x4_5, qx4_5, H⟩ := H
  refine t_valh (v := .pointer (some x4_5)) rfl rfl hE rfl hR (r_alloc zr26 qx4_5) (fun a w hE hR hh => ?_)
  replace H := M.at hh H; clear hh
  refine t_nil ?_
  refine hK_4 _ _ ?_
  refine w_seq (fun K hK_6 => ?_)
  refine w_seq (fun K hK_7 => ?_)
  refine t_region ?_
  refine t_val (v := .pointer (some ((x1_2).add 0))) rfl rfl hE rfl (r_fieldAddr hE rfl fd24_0) (fun a hE => ?_)
  obtain ⟨x10_8, qx10_8, H⟩ := H
  refine t_val (v := .int .i64 x10_8) rfl rfl hE rfl (r_load hE rfl sc3 qx10_8) (fun a hE => ?_)
  refine t_val (v := .bool (decide (x10_8 < 1))) rfl rfl hE rfl (r_bin hE rfl rfl g_int b_lss) (fun a hE => ?_)
  refine t_val (v := .bool (decide (x10_8 < 1))) rfl rfl hE rfl (r_move hE rfl) (fun a hE => ?_)
  refine t_grp (n := (⟨82, []⟩ : Frm)) (w0 := w0) 4 (fun x16_9 : Bool => [(1, .pointer (some x1_2)), (2, .pointer (some x2_3)), (4, .pointer (some x4_5)), (16, .bool x16_9)]) (M.unbind H) (fun Kr hKr H => ?_) ?_
  · rcases bool_em (decide (x10_8 < 1)) with hb | hb
    · replace H := M.ite_t hb H
      have hE := hE.reb 12 (decide (x10_8 < 1)) true hb rfl
      refine t_off rfl hE rfl rfl rfl (fun a ea => ?_)
      have hE := Env.put_some hE rfl ea; clear ea
      refine t_off rfl hE rfl rfl rfl (fun a ea => ?_)
      have hE := Env.put_some hE rfl ea; clear ea
      refine t_off rfl hE rfl rfl rfl (fun a ea => ?_)
      have hE := Env.put_some hE rfl ea; clear ea
      refine t_val rfl rfl hE rfl (r_pick_t hE rfl rfl) (fun a hE => ?_)
      refine t_nil ?_
      exact hKr _ _ _ (hE.cut (.cons rfl (.cons rfl (.cons rfl (.cons rfl Subs.nil))))) hR H
    · replace H := M.ite_f hb H
      have hE := hE.reb 12 (decide (x10_8 < 1)) false hb rfl
      refine t_on rfl hE rfl rfl rfl ?_
      refine t_val (v := .pointer (some ((x1_2).add 0))) rfl rfl hE rfl (r_fieldAddr hE rfl fd24_0) (fun a hE => ?_)
      refine t_on rfl hE rfl rfl rfl ?_
      obtain ⟨x14_10, qx14_10, H⟩ := H
      refine t_val (v := .int .i64 x14_10) rfl rfl hE rfl (r_load hE rfl sc3 qx14_10) (fun a hE => ?_)
      refine t_on rfl hE rfl rfl rfl ?_
      refine t_val (v := .bool (decide (x14_10 > 255))) rfl rfl hE rfl (r_bin hE rfl rfl g_int b_gtr) (fun a hE => ?_)
      refine t_val rfl rfl hE rfl (r_pick_f hE rfl rfl) (fun a hE => ?_)
      refine t_nil ?_
      exact hKr _ _ _ (hE.cut (.cons rfl (.cons rfl (.cons rfl (.cons rfl Subs.nil))))) hR H
  · intro x16_9 a w hE hR H
    refine t_val (v := .bool x16_9) rfl rfl hE rfl (r_move hE rfl) (fun a hE => ?_)
    refine t_grp (n := (⟨82, []⟩ : Frm)) (w0 := w0) 4 (fun x21_11 : Bool => [(1, .pointer (some x1_2)), (2, .pointer (some x2_3)), (4, .pointer (some x4_5)), (21, .bool x21_11)]) (M.unbind H) (fun Kr hKr H => ?_) ?_
    · rcases bool_em x16_9 with hb | hb
      · replace H := M.ite_t hb H
        have hE := hE.reb 17 x16_9 true hb rfl
        refine t_off rfl hE rfl rfl rfl (fun a ea => ?_)
        have hE := Env.put_some hE rfl ea; clear ea
        refine t_off rfl hE rfl rfl rfl (fun a ea => ?_)
        have hE := Env.put_some hE rfl ea; clear ea
        refine t_off rfl hE rfl rfl rfl (fun a ea => ?_)
        have hE := Env.put_some hE rfl ea; clear ea
        refine t_val rfl rfl hE rfl (r_pick_t hE rfl rfl) (fun a hE => ?_)
        refine t_nil ?_
        exact hKr _ _ _ (hE.cut (.cons rfl (.cons rfl (.cons rfl (.cons rfl Subs.nil))))) hR H
      · replace H := M.ite_f hb H
        have hE := hE.reb 17 x16_9 false hb rfl
        refine t_on rfl hE rfl rfl rfl ?_
        refine t_val (v := .pointer (some ((x1_2).add 1))) rfl rfl hE rfl (r_fieldAddr hE rfl fd24_1) (fun a hE => ?_)
        refine t_on rfl hE rfl rfl rfl ?_
        obtain ⟨x19_12, qx19_12, H⟩ := H
        refine t_val (v := .int .i64 x19_12) rfl rfl hE rfl (r_load hE rfl sc2 qx19_12) (fun a hE => ?_)
        refine t_on rfl hE rfl rfl rfl ?_
        refine t_val (v := .bool (decide (x19_12 < 0))) rfl rfl hE rfl (r_bin hE rfl rfl g_int b_lss) (fun a hE => ?_)
        refine t_val rfl rfl hE rfl (r_pick_f hE rfl rfl) (fun a hE => ?_)
        refine t_nil ?_
        exact hKr _ _ _ (hE.cut (.cons rfl (.cons rfl (.cons rfl (.cons rfl Subs.nil))))) hR H
    · intro x21_11 a w hE hR H
      refine t_val (v := .bool x21_11) rfl rfl hE rfl (r_move hE rfl) (fun a hE => ?_)
      refine t_grp (n := (⟨82, []⟩ : Frm)) (w0 := w0) 5 (fun x27_13 : Bool => [(1, .pointer (some x1_2)), (2, .pointer (some x2_3)), (4, .pointer (some x4_5)), (27, .bool x27_13)]) (M.unbind H) (fun Kr hKr H => ?_) ?_
      · rcases bool_em x21_11 with hb | hb
        · replace H := M.ite_t hb H
          have hE := hE.reb 22 x21_11 true hb rfl
          refine t_off rfl hE rfl rfl rfl (fun a ea => ?_)
          have hE := Env.put_some hE rfl ea; clear ea
          refine t_off rfl hE rfl rfl rfl (fun a ea => ?_)
          have hE := Env.put_some hE rfl ea; clear ea
          refine t_off rfl hE rfl rfl rfl (fun a ea => ?_)
          have hE := Env.put_some hE rfl ea; clear ea
          refine t_off rfl hE rfl rfl rfl (fun a ea => ?_)
          have hE := Env.put_some hE rfl ea; clear ea
          refine t_val rfl rfl hE rfl (r_pick_t hE rfl rfl) (fun a hE => ?_)
          refine t_nil ?_
          exact hKr _ _ _ (hE.cut (.cons rfl (.cons rfl (.cons rfl (.cons rfl Subs.nil))))) hR H
        · replace H := M.ite_f hb H
          have hE := hE.reb 22 x21_11 false hb rfl
          refine t_on rfl hE rfl rfl rfl ?_
          refine t_val (v := .pointer (some ((x1_2).add 2))) rfl rfl hE rfl (r_fieldAddr hE rfl fd24_2) (fun a hE => ?_)
          refine t_on rfl hE rfl rfl rfl ?_
          obtain ⟨x24_14, qx24_14, H⟩ := H
          refine t_val (v := (x24_14 : Sl).v) rfl rfl hE rfl (r_load hE rfl sc22 qx24_14) (fun a hE => ?_)
          refine t_on rfl hE rfl rfl rfl ?_
          refine t_val (v := .int .i64 (x24_14.len : Int)) rfl rfl hE rfl (r_len hE rfl 5 un22) (fun a hE => ?_)
          refine t_on rfl hE rfl rfl rfl ?_
          refine t_val (v := .bool (decide ((x24_14.len : Int) > 112))) rfl rfl hE rfl (r_bin hE rfl rfl g_int b_gtr) (fun a hE => ?_)
          refine t_val rfl rfl hE rfl (r_pick_f hE rfl rfl) (fun a hE => ?_)
          refine t_nil ?_
          exact hKr _ _ _ (hE.cut (.cons rfl (.cons rfl (.cons rfl (.cons rfl Subs.nil))))) hR H
      · intro x27_13 a w hE hR H
        refine t_nil ?_
        refine hK_7 _ _ ?_
        refine w_cond x27_13 hE rfl (fun hb => ?_) (fun hb => ?_)
        · replace H := M.ite_t hb H
          refine w_seq (fun K hK_15 => ?_)
          refine t_region ?_
          obtain ⟨x28_16, qx28_16, H⟩ := H
          refine t_val (v := .agg x28_16) rfl rfl hE rfl (r_loadG hE rfl ag26 qx28_16) (fun a hE => ?_)
          obtain ⟨qz, H⟩ := H
          obtain ⟨u_17, qu_17, H⟩ := H
          refine t_sth rfl rfl hE hR (r_storeG hE rfl rfl sz26 qz qu_17) (fun a w hE hR hh => ?_)
          replace H := M.at hh H; clear hh
          refine t_val (v := .int .i64 1) rfl rfl hE rfl (r_assign hE rfl) (fun a hE => ?_)
          refine t_nil ?_
          refine hK_15 _ _ ?_
          refine w_ret ?_
          obtain ⟨r2_18, qr2_18, H⟩ := H
          exact hret _ _ _ (r2_18, 1) _ hE hR (res_run hE rfl (RV.cellG rfl ag26 qr2_18 (RV.tmp rfl RV.nil))) rfl H
        · replace H := M.ite_f hb H
          refine w_skip ?_
          refine hK_6 _ _ ?_
          refine w_seq (fun K hK_19 => ?_)
          refine t_region ?_
          refine t_val (v := .pointer (some ((x1_2).add 0))) rfl rfl hE rfl (r_fieldAddr hE rfl fd24_0) (fun a hE => ?_)
          obtain ⟨x30_20, qx30_20, H⟩ := H
          refine t_val (v := .int .i64 x30_20) rfl rfl hE rfl (r_load hE rfl sc3 qx30_20) (fun a hE => ?_)
          refine t_val (v := .int .u8 (IntKind.wrap .u8 x30_20)) rfl rfl hE rfl (r_convI hE rfl un3 un5) (fun a hE => ?_)
          obtain ⟨x32_21, qx32_21, H⟩ := H
          refine t_val (v := .pointer (some x32_21)) rfl rfl hE rfl (r_indexAddrA hE rfl rfl un26 sz5 qx32_21) (fun a hE => ?_)
          obtain ⟨u_22, qu_22, H⟩ := H
          refine t_sth rfl rfl hE hR (r_store hE rfl rfl sz5 qu_22) (fun a w hE hR hh => ?_)
          replace H := M.at hh H; clear hh
          refine t_nil ?_
          refine hK_19 _ _ ?_
          refine w_seq (fun K hK_23 => ?_)
          refine t_region ?_
          refine t_val (v := .pointer (some ((x1_2).add 2))) rfl rfl hE rfl (r_fieldAddr hE rfl fd24_2) (fun a hE => ?_)
          obtain ⟨x34_24, qx34_24, H⟩ := H
          refine t_val (v := (x34_24 : Sl).v) rfl rfl hE rfl (r_load hE rfl sc22 qx34_24) (fun a hE => ?_)
          refine t_val (v := .int .i64 (x34_24.len : Int)) rfl rfl hE rfl (r_len hE rfl 5 un22) (fun a hE => ?_)
          refine t_val (v := .int .u8 (IntKind.wrap .u8 (x34_24.len : Int))) rfl rfl hE rfl (r_convI hE rfl un3 un5) (fun a hE => ?_)
          obtain ⟨x37_25, qx37_25, H⟩ := H
          refine t_val (v := .pointer (some x37_25)) rfl rfl hE rfl (r_indexAddrA hE rfl rfl un26 sz5 qx37_25) (fun a hE => ?_)
          obtain ⟨u_26, qu_26, H⟩ := H
          refine t_sth rfl rfl hE hR (r_store hE rfl rfl sz5 qu_26) (fun a w hE hR hh => ?_)
          replace H := M.at hh H; clear hh
          refine t_nil ?_
          refine hK_23 _ _ ?_
          refine w_seq (fun K hK_27 => ?_)
          refine w_seq (fun K hK_28 => ?_)
          refine t_region ?_
          refine t_val (v := .int .i64 0) rfl rfl hE rfl (r_assign hE rfl) (fun a hE => ?_)
          refine t_nil ?_
          refine hK_28 _ _ ?_
          refine w_block ?_
          refine l_loop (fun (s : Int) => (⟨82, []⟩ : Frm)) (fun (s : Int) => [(1, .pointer (some x1_2)), (2, .pointer (some x2_3)), (4, .pointer (some x4_5)), (5, .int .i64 s)]) H (hE.cut (.cons rfl (.cons rfl (.cons rfl (.cons rfl Subs.nil))))) hR (fun Y self1 hY_33 x5_29 a w hE hR H => ?_)
          replace hE : Env (⟨82, []⟩ : Frm) a [(1, .pointer (some x1_2)), (2, .pointer (some x2_3)), (4, .pointer (some x4_5)), (5, .int .i64 x5_29)] := hE
          replace H : (rambleref05_Seal_l1 x1_2 x2_3 x4_5 self1 x5_29).wp w.heap Q := H
          unfold rambleref05_Seal_l1 at H
          refine w_seq (fun K hK_34 => ?_)
          refine w_seq (fun K hK_35 => ?_)
          refine t_region ?_
          refine t_val (v := .int .i64 x5_29) rfl rfl hE rfl (r_move hE rfl) (fun a hE => ?_)
          refine t_val (v := .bool (decide (x5_29 < 8))) rfl rfl hE rfl (r_bin hE rfl rfl g_int b_lss) (fun a hE => ?_)
          refine t_nil ?_
          refine hK_35 _ _ ?_
          refine w_cond (decide (x5_29 < 8)) hE rfl (fun hb => ?_) (fun hb => ?_)
          · replace H := M.ite_t hb H
            refine w_skip ?_
            refine hK_34 _ _ ?_
            refine w_seq (fun K hK_36 => ?_)
            refine w_block ?_
            refine t_region ?_
            refine t_val (v := .int .i64 x5_29) rfl rfl hE rfl (r_move hE rfl) (fun a hE => ?_)
            refine t_val (v := .int .i64 (IntKind.wrap .i64 (2 + x5_29))) rfl rfl hE rfl (r_bin hE rfl rfl g_int b_add) (fun a hE => ?_)
            refine t_val (v := .pointer (some ((x1_2).add 1))) rfl rfl hE rfl (r_fieldAddr hE rfl fd24_1) (fun a hE => ?_)
            obtain ⟨x45_37, qx45_37, H⟩ := H
            refine t_val (v := .int .i64 x45_37) rfl rfl hE rfl (r_load hE rfl sc2 qx45_37) (fun a hE => ?_)
            refine t_val (v := .int .i64 x5_29) rfl rfl hE rfl (r_move hE rfl) (fun a hE => ?_)
            refine t_val (v := .int .i64 (IntKind.wrap .i64 (8 * x5_29))) rfl rfl hE rfl (r_bin hE rfl rfl g_int b_mul) (fun a hE => ?_)
            refine t_val (v := .int .i64 (IntKind.wrap .i64 (56 - (IntKind.wrap .i64 (8 * x5_29))))) rfl rfl hE rfl (r_bin hE rfl rfl g_int b_sub) (fun a hE => ?_)
            obtain ⟨x49_38, qx49_38, H⟩ := H
            refine t_val (v := .int .i64 x49_38) rfl rfl hE rfl (r_bin hE rfl rfl g_int (b_shr qx49_38)) (fun a hE => ?_)
            refine t_val (v := .int .u8 (IntKind.wrap .u8 x49_38)) rfl rfl hE rfl (r_convI hE rfl un2 un5) (fun a hE => ?_)
            obtain ⟨x51_39, qx51_39, H⟩ := H
            refine t_val (v := .pointer (some x51_39)) rfl rfl hE rfl (r_indexAddrA hE rfl rfl un26 sz5 qx51_39) (fun a hE => ?_)
            obtain ⟨u_40, qu_40, H⟩ := H
            refine t_sth rfl rfl hE hR (r_store hE rfl rfl sz5 qu_40) (fun a w hE hR hh => ?_)
            replace H := M.at hh H; clear hh
            refine t_nil ?_
            refine hK_36 _ _ ?_
            refine t_region ?_
            refine t_val (v := .int .i64 x5_29) rfl rfl hE rfl (r_move hE rfl) (fun a hE => ?_)
            refine t_val (v := .int .i64 (IntKind.wrap .i64 (x5_29 + 1))) rfl rfl hE rfl (r_bin hE rfl rfl g_int b_add) (fun a hE => ?_)
            refine t_val (v := .int .i64 (IntKind.wrap .i64 (x5_29 + 1))) rfl rfl hE rfl (r_assign hE rfl) (fun a hE => ?_)
            refine t_nil ?_
            exact hY_33 (IntKind.wrap .i64 (x5_29 + 1)) _ _ (hE.cut (.cons rfl (.cons rfl (.cons rfl (.cons rfl Subs.nil))))) hR H
          · replace H := M.ite_f hb H
            refine w_exit ?_
            refine Xu.same ?_
            refine hK_27 _ _ ?_
            refine w_seq (fun K hK_41 => ?_)
            refine w_seq (fun K hK_42 => ?_)
            refine t_region ?_
            refine t_val (v := .int .i64 0) rfl rfl hE rfl (r_assign hE rfl) (fun a hE => ?_)
            refine t_nil ?_
            refine hK_42 _ _ ?_
            refine w_block ?_
            refine l_loop (fun (s : Int) => (⟨82, []⟩ : Frm)) (fun (s : Int) => [(1, .pointer (some x1_2)), (2, .pointer (some x2_3)), (4, .pointer (some x4_5)), (6, .int .i64 s)]) H (hE.cut (.cons rfl (.cons rfl (.cons rfl (.cons rfl Subs.nil))))) hR (fun Y self2 hY_47 x6_43 a w hE hR H => ?_)
            replace hE : Env (⟨82, []⟩ : Frm) a [(1, .pointer (some x1_2)), (2, .pointer (some x2_3)), (4, .pointer (some x4_5)), (6, .int .i64 x6_43)] := hE
            replace H : (rambleref05_Seal_l2 x1_2 x2_3 x4_5 self2 x6_43).wp w.heap Q := H
            unfold rambleref05_Seal_l2 at H
            refine w_seq (fun K hK_48 => ?_)
            refine w_seq (fun K hK_49 => ?_)
            refine t_region ?_
            refine t_val (v := .int .i64 x6_43) rfl rfl hE rfl (r_move hE rfl) (fun a hE => ?_)
            refine t_val (v := .pointer (some ((x1_2).add 2))) rfl rfl hE rfl (r_fieldAddr hE rfl fd24_2) (fun a hE => ?_)
            obtain ⟨x54_50, qx54_50, H⟩ := H
            refine t_val (v := (x54_50 : Sl).v) rfl rfl hE rfl (r_load hE rfl sc22 qx54_50) (fun a hE => ?_)
            refine t_val (v := .int .i64 (x54_50.len : Int)) rfl rfl hE rfl (r_len hE rfl 5 un22) (fun a hE => ?_)
            refine t_val (v := .bool (decide (x6_43 < (x54_50.len : Int)))) rfl rfl hE rfl (r_bin hE rfl rfl g_int b_lss) (fun a hE => ?_)
            refine t_nil ?_
            refine hK_49 _ _ ?_
            refine w_cond (decide (x6_43 < (x54_50.len : Int))) hE rfl (fun hb => ?_) (fun hb => ?_)
            · replace H := M.ite_t hb H
              refine w_skip ?_
              refine hK_48 _ _ ?_
              refine w_seq (fun K hK_51 => ?_)
              refine w_block ?_
              refine t_region ?_
              refine t_val (v := .int .i64 x6_43) rfl rfl hE rfl (r_move hE rfl) (fun a hE => ?_)
              refine t_val (v := .int .i64 (IntKind.wrap .i64 (10 + x6_43))) rfl rfl hE rfl (r_bin hE rfl rfl g_int b_add) (fun a hE => ?_)
              refine t_val (v := .pointer (some ((x1_2).add 2))) rfl rfl hE rfl (r_fieldAddr hE rfl fd24_2) (fun a hE => ?_)
              obtain ⟨x62_52, qx62_52, H⟩ := H
              refine t_val (v := (x62_52 : Sl).v) rfl rfl hE rfl (r_load hE rfl sc22 qx62_52) (fun a hE => ?_)
              refine t_val (v := .int .i64 x6_43) rfl rfl hE rfl (r_move hE rfl) (fun a hE => ?_)
              obtain ⟨x64_53, qx64_53, H⟩ := H
              refine t_val (v := .pointer (some x64_53)) rfl rfl hE rfl (r_indexAddrL hE rfl rfl un22 sz5 qx64_53) (fun a hE => ?_)
              obtain ⟨x65_54, qx65_54, H⟩ := H
              refine t_val (v := .int .u8 x65_54) rfl rfl hE rfl (r_load hE rfl sc5 qx65_54) (fun a hE => ?_)
              obtain ⟨x66_55, qx66_55, H⟩ := H
              refine t_val (v := .pointer (some x66_55)) rfl rfl hE rfl (r_indexAddrA hE rfl rfl un26 sz5 qx66_55) (fun a hE => ?_)
              obtain ⟨u_56, qu_56, H⟩ := H
              refine t_sth rfl rfl hE hR (r_store hE rfl rfl sz5 qu_56) (fun a w hE hR hh => ?_)
              replace H := M.at hh H; clear hh
              refine t_nil ?_
              refine hK_51 _ _ ?_
              refine t_region ?_
              refine t_val (v := .int .i64 x6_43) rfl rfl hE rfl (r_move hE rfl) (fun a hE => ?_)
              refine t_val (v := .int .i64 (IntKind.wrap .i64 (x6_43 + 1))) rfl rfl hE rfl (r_bin hE rfl rfl g_int b_add) (fun a hE => ?_)
              refine t_val (v := .int .i64 (IntKind.wrap .i64 (x6_43 + 1))) rfl rfl hE rfl (r_assign hE rfl) (fun a hE => ?_)
              refine t_nil ?_
              exact hY_47 (IntKind.wrap .i64 (x6_43 + 1)) _ _ (hE.cut (.cons rfl (.cons rfl (.cons rfl (.cons rfl Subs.nil))))) hR H
            · replace H := M.ite_f hb H
              refine w_exit ?_
              refine Xu.same ?_
              refine hK_41 _ _ ?_
              refine w_seq (fun K hK_57 => ?_)
              refine t_region ?_
              obtain ⟨x67_58, qx67_58, H⟩ := H
              refine t_val (v := (x67_58 : Sl).v) rfl rfl hE rfl (r_sliceA_h hE rfl rfl un26 sz5 qx67_58) (fun a hE => ?_)
              refine t_call hE hR cl_rambleref05_Sum rfl (S_rambleref05_Sum x67_58) (M.unbind H) (fun x68_59 a w ea hR H => ?_)
              have hE := Env.put_some hE rfl ea; clear ea
              refine t_val (v := .int .u32 x68_59) rfl rfl hE rfl (r_assign hE rfl) (fun a hE => ?_)
              refine t_nil ?_
              refine hK_57 _ _ ?_
              refine w_seq (fun K hK_60 => ?_)
              refine w_seq (fun K hK_61 => ?_)
              refine t_region ?_
              refine t_val (v := .int .i64 0) rfl rfl hE rfl (r_assign hE rfl) (fun a hE => ?_)
              refine t_nil ?_
              refine hK_61 _ _ ?_
              refine w_block ?_
              refine l_loop (fun (s : Int) => (⟨82, []⟩ : Frm)) (fun (s : Int) => [(2, .pointer (some x2_3)), (4, .pointer (some x4_5)), (7, .int .u32 x68_59), (8, .int .i64 s)]) H (hE.cut (.cons rfl (.cons rfl (.cons rfl (.cons rfl Subs.nil))))) hR (fun Y self3 hY_66 x8_62 a w hE hR H => ?_)
              replace hE : Env (⟨82, []⟩ : Frm) a [(2, .pointer (some x2_3)), (4, .pointer (some x4_5)), (7, .int .u32 x68_59), (8, .int .i64 x8_62)] := hE
              replace H : (rambleref05_Seal_l3 x2_3 x4_5 x68_59 self3 x8_62).wp w.heap Q := H
              unfold rambleref05_Seal_l3 at H
              refine w_seq (fun K hK_67 => ?_)
              refine w_seq (fun K hK_68 => ?_)
              refine t_region ?_
              refine t_val (v := .int .i64 x8_62) rfl rfl hE rfl (r_move hE rfl) (fun a hE => ?_)
              refine t_val (v := .bool (decide (x8_62 < 4))) rfl rfl hE rfl (r_bin hE rfl rfl g_int b_lss) (fun a hE => ?_)
              refine t_nil ?_
              refine hK_68 _ _ ?_
              refine w_cond (decide (x8_62 < 4)) hE rfl (fun hb => ?_) (fun hb => ?_)
              · replace H := M.ite_t hb H
                refine w_skip ?_
                refine hK_67 _ _ ?_
                refine w_seq (fun K hK_69 => ?_)
                refine w_block ?_
                refine t_region ?_
                refine t_val (v := .int .i64 x8_62) rfl rfl hE rfl (r_move hE rfl) (fun a hE => ?_)
                refine t_val (v := .int .i64 (IntKind.wrap .i64 (124 + x8_62))) rfl rfl hE rfl (r_bin hE rfl rfl g_int b_add) (fun a hE => ?_)
                refine t_val (v := .int .u32 x68_59) rfl rfl hE rfl (r_move hE rfl) (fun a hE => ?_)
                refine t_val (v := .int .i64 x8_62) rfl rfl hE rfl (r_move hE rfl) (fun a hE => ?_)
                refine t_val (v := .int .i64 (IntKind.wrap .i64 (8 * x8_62))) rfl rfl hE rfl (r_bin hE rfl rfl g_int b_mul) (fun a hE => ?_)
                obtain ⟨x78_70, qx78_70, H⟩ := H
                refine t_val (v := .int .u32 x78_70) rfl rfl hE rfl (r_bin hE rfl rfl g_int (b_shr qx78_70)) (fun a hE => ?_)
                refine t_val (v := .int .u8 (IntKind.wrap .u8 x78_70)) rfl rfl hE rfl (r_convI hE rfl un34 un5) (fun a hE => ?_)
                obtain ⟨x80_71, qx80_71, H⟩ := H
                refine t_val (v := .pointer (some x80_71)) rfl rfl hE rfl (r_indexAddrA hE rfl rfl un26 sz5 qx80_71) (fun a hE => ?_)
                obtain ⟨u_72, qu_72, H⟩ := H
                refine t_sth rfl rfl hE hR (r_store hE rfl rfl sz5 qu_72) (fun a w hE hR hh => ?_)
                replace H := M.at hh H; clear hh
                refine t_nil ?_
                refine hK_69 _ _ ?_
                refine t_region ?_
                refine t_val (v := .int .i64 x8_62) rfl rfl hE rfl (r_move hE rfl) (fun a hE => ?_)
                refine t_val (v := .int .i64 (IntKind.wrap .i64 (x8_62 + 1))) rfl rfl hE rfl (r_bin hE rfl rfl g_int b_add) (fun a hE => ?_)
                refine t_val (v := .int .i64 (IntKind.wrap .i64 (x8_62 + 1))) rfl rfl hE rfl (r_assign hE rfl) (fun a hE => ?_)
                refine t_nil ?_
                exact hY_66 (IntKind.wrap .i64 (x8_62 + 1)) _ _ (hE.cut (.cons rfl (.cons rfl (.cons rfl (.cons rfl Subs.nil))))) hR H
              · replace H := M.ite_f hb H
                refine w_exit ?_
                refine Xu.same ?_
                refine hK_60 _ _ ?_
                refine w_seq (fun K hK_73 => ?_)
                refine t_region ?_
                obtain ⟨x81_74, qx81_74, H⟩ := H
                refine t_val (v := .agg x81_74) rfl rfl hE rfl (r_loadG hE rfl ag26 qx81_74) (fun a hE => ?_)
                obtain ⟨qz, H⟩ := H
                obtain ⟨u_75, qu_75, H⟩ := H
                refine t_sth rfl rfl hE hR (r_storeG hE rfl rfl sz26 qz qu_75) (fun a w hE hR hh => ?_)
                replace H := M.at hh H; clear hh
                refine t_val (v := .int .i64 0) rfl rfl hE rfl (r_assign hE rfl) (fun a hE => ?_)
                refine t_nil ?_
                refine hK_73 _ _ ?_
                refine w_ret ?_
                obtain ⟨r2_76, qr2_76, H⟩ := H
                exact hret _ _ _ (r2_76, 0) _ hE hR (res_run hE rfl (RV.cellG rfl ag26 qr2_76 (RV.tmp rfl RV.nil))) rfl H

/-- ramble/rambleref05.Open -/
theorem tb11_5 : tabAt Go.Proofs.Try.f11 5 [[], [0], [1], [], [3], [4], [5], [6], [2, 7], [0, 1, 2, 3, 4, 5, 6, 7, 8], [9, 8, 0, 1, 2, 3, 4, 5, 6, 7, 8]] [[], [0], [1], [], [3], [4], [5], [6], [2, 7], [], [8, 9]] [[], [0], [0, 1], [], [3], [3, 4], [3, 4, 5], [3, 4, 5, 6], [0, 1, 2, 3, 4, 5, 6, 7], [0, 1, 2, 3, 4, 5, 6, 7, 8], [0, 1, 2, 3, 4, 5, 6, 7, 8, 9]] = true := by kernel_rfl
theorem tb11_8 : tabAt Go.Proofs.Try.f11 8 [[], [0], [], [2], [3], [4], [5], [1, 6], [0, 1, 2, 3, 4, 5, 6, 7], [8, 7, 7, 0, 1, 2, 3, 4, 5, 6, 7]] [[], [0], [], [2], [3], [4], [5], [1, 6], [], [7, 8]] [[], [0], [], [2], [2, 3], [2, 3, 4], [2, 3, 4, 5], [0, 1, 2, 3, 4, 5, 6], [0, 1, 2, 3, 4, 5, 6, 7], [0, 1, 2, 3, 4, 5, 6, 7, 8]] = true := by kernel_rfl
def rambleref05_Open_l1 (c1_12 : Addr) (c2_13 : Addr) (c4_14 : Addr) (self1 : (Int) → M (Array Value × Int)) : (Int) → M (Array Value × Int) := fun s => match s with
  | x5_11 => do
    M.ite (decide (x5_11 < 8)) (do
      let x21_19 ← ixA c1_12 128 (IntKind.wrap .i64 (2 + x5_11)) 1
      let x17_20 ← ldI .i64 ((c4_14).add 1)
      let x22_21 ← ldI .u8 x21_19
      stV ((c4_14).add 1) (.int .i64 (iOr .i64 (iShl .i64 x17_20 8) (IntKind.wrap .i64 x22_21)))
      self1 (IntKind.wrap .i64 (x5_11 + 1))
      ) (do
      let x26_25 ← ixA c1_12 128 1 1
      let x27_26 ← ldI .u8 x26_25
      M.ite (decide (x27_26 > 112)) (do
        M.need ((#[.int .i64 0, .int .i64 0, .slice none 0 0] : Array Value).size = 3)
        stG c2_13 (#[.int .i64 0, .int .i64 0, .slice none 0 0] : Array Value)
        let r2_29 ← ldG 3 c2_13
        M.pure (r2_29, 50)
        ) (do
        let x32_31 ← ixA c1_12 128 1 1
        let x31_32 ← ldL ((c4_14).add 2)
        let x33_33 ← ldI .u8 x32_31
        let x36_34 ← slA c1_12 128 10 (IntKind.wrap .i64 (10 + (IntKind.wrap .i64 x33_33))) 1
        let x37_35 ← apL ty_uint8 1 1 (#[.int .u8 0] : Array Value) x31_32 x36_34
        stV ((c4_14).add 2) ((x37_35 : Sl).v)
        let x40_38 ← ldG 3 c4_14
        let x41_39 ← rambleref05_Seal x40_38
        let x6_40 ← mkB ty_api_Sector (Array.replicate 128 (.int .u8 0) : Array Value)
        M.need (x41_39.1.size = 128)
        stG x6_40 x41_39.1
        let x50_44 ← M.ite (x41_39.2 != 0) (do
          M.pure true
          ) (do
          let x47_45 ← ldG 128 x6_40
          let x48_46 ← ldG 128 c1_12
          let x49_47 ← eqA .u8 128 x47_45 x48_46
          M.pure (!x49_47)
          )
        M.ite x50_44 (do
          M.need ((#[.int .i64 0, .int .i64 0, .slice none 0 0] : Array Value).size = 3)
          stG c2_13 (#[.int .i64 0, .int .i64 0, .slice none 0 0] : Array Value)
          let r2_50 ← ldG 3 c2_13
          M.pure (r2_50, 50)
          ) (do
          let x52_52 ← ldG 3 c4_14
          M.need (x52_52.size = 3)
          stG c2_13 x52_52
          let r2_54 ← ldG 3 c2_13
          M.pure (r2_54, 0)
          )
        )
      )
def rambleref05_Open (x0 : Array Value) : M (Array Value × Int) := do
  let x1_2 ← mkB ty_api_Sector x0
  let x2_3 ← mkB ty_api_Frame (#[.int .i64 0, .int .i64 0, .slice none 0 0] : Array Value)
  let x8_5 ← ixA x1_2 128 0 1
  let x9_6 ← ldI .u8 x8_5
  let x4_7 ← mkB ty_api_Frame (#[.int .i64 0, .int .i64 0, .slice none 0 0] : Array Value)
  M.need ((#[.int .i64 (IntKind.wrap .i64 x9_6), .int .i64 0, .slice none 0 0] : Array Value).size = 3)
  stG x4_7 (#[.int .i64 (IntKind.wrap .i64 x9_6), .int .i64 0, .slice none 0 0] : Array Value)
  M.loop (rambleref05_Open_l1 x1_2 x2_3 x4_7) 0
theorem S_rambleref05_Open (x0 : Array Value) : Sound Go.Proofs.Try.prog 11 #[.agg x0] (fun (r : Array Value × Int) => .tuple #[.agg r.1, .int .i64 r.2]) (rambleref05_Open x0) := by
  refine sound_of [(0, .agg x0)] Go.Proofs.Try.func11 rfl rfl (Nat.le_of_ble_eq_true rfl) (args_of ⟨rfl, trivial⟩) (fun w0 w Q R a hret hE hR H => ?_)
  unfold rambleref05_Open at H
  refine w_seq (fun K hK_1 => ?_)
  refine t_region ?_
  obtain ⟨x1_2, qx1_2, H⟩ := H
  refine t_valh (v := .pointer (some x1_2)) rfl rfl hE rfl hR (r_box hE rfl qx1_2) (fun a w hE hR hh => ?_)
  replace H := M.at hh H; clear hh
  obtain ⟨x2_3, qx2_3, H⟩ := H
  refine t_valh (v := .pointer (some x2_3)) rfl rfl hE rfl hR (r_alloc zr24 qx2_3) (fun a w hE hR hh => ?_)
  replace H := M.at hh H; clear hh
  refine t_val (v := .int .i64 0) rfl rfl hE rfl (r_assign hE rfl) (fun a hE => ?_)
  refine t_nil ?_
  refine hK_1 _ _ ?_
  refine w_seq (fun K hK_4 => ?_)
  refine t_region ?_
  obtain ⟨x8_5, qx8_5, H⟩ := H
  refine t_val (v := .pointer (some x8_5)) rfl rfl hE rfl (r_indexAddrA hE rfl rfl un26 sz5 qx8_5) (fun a hE => ?_)
  obtain ⟨x9_6, qx9_6, H⟩ := H
  refine t_val (v := .int .u8 x9_6) rfl rfl hE rfl (r_load hE rfl sc5 qx9_6) (fun a hE => ?_)
  refine t_val (v := .int .i64 (IntKind.wrap .i64 x9_6)) rfl rfl hE rfl (r_convI hE rfl un5 un3) (fun a hE => ?_)
  refine t_val (v := .agg (#[.int .i64 (IntKind.wrap .i64 x9_6), .int .i64 0, .slice none 0 0] : Array Value)) rfl rfl hE rfl (r_build hE rfl zr24 pl24 (by rfl)) (fun a hE => ?_)
  obtain ⟨x4_7, qx4_7, H⟩ := H
  refine t_valh (v := .pointer (some x4_7)) rfl rfl hE rfl hR (r_alloc zr24 qx4_7) (fun a w hE hR hh => ?_)
  replace H := M.at hh H; clear hh
  obtain ⟨qz, H⟩ := H
  obtain ⟨u_8, qu_8, H⟩ := H
  refine t_sth rfl rfl hE hR (r_storeG hE rfl rfl sz24 qz qu_8) (fun a w hE hR hh => ?_)
  replace H := M.at hh H; clear hh
  refine t_nil ?_
  refine hK_4 _ _ ?_
  refine w_seq (fun K hK_9 => ?_)
  refine w_seq (fun K hK_10 => ?_)
  refine t_region ?_
  refine t_val (v := .int .i64 0) rfl rfl hE rfl (r_assign hE rfl) (fun a hE => ?_)
  refine t_nil ?_
  refine hK_10 _ _ ?_
  refine w_block ?_
  refine l_loop (fun (s : Int) => (⟨53, []⟩ : Frm)) (fun (s : Int) => [(1, .pointer (some x1_2)), (2, .pointer (some x2_3)), (4, .pointer (some x4_7)), (5, .int .i64 s)]) H (hE.cut (.cons rfl (.cons rfl (.cons rfl (.cons rfl Subs.nil))))) hR (fun Y self1 hY_15 x5_11 a w hE hR H => ?_)
  replace hE : Env (⟨53, []⟩ : Frm) a [(1, .pointer (some x1_2)), (2, .pointer (some x2_3)), (4, .pointer (some x4_7)), (5, .int .i64 x5_11)] := hE
  replace H : (rambleref05_Open_l1 x1_2 x2_3 x4_7 self1 x5_11).wp w.heap Q := H
  unfold rambleref05_Open_l1 at H
  refine w_seq (fun K hK_16 => ?_)
  refine w_seq (fun K hK_17 => ?_)
  refine t_region ?_
  refine t_val (v := .int .i64 x5_11) rfl rfl hE rfl (r_move hE rfl) (fun a hE => ?_)
  refine t_val (v := .bool (decide (x5_11 < 8))) rfl rfl hE rfl (r_bin hE rfl rfl g_int b_lss) (fun a hE => ?_)
  refine t_nil ?_
  refine hK_17 _ _ ?_
  refine w_cond (decide (x5_11 < 8)) hE rfl (fun hb => ?_) (fun hb => ?_)
  · replace H := M.ite_t hb H
    refine w_skip ?_
    refine hK_16 _ _ ?_
    refine w_seq (fun K hK_18 => ?_)
    refine w_block ?_
    obtain ⟨x21_19, qx21_19, H⟩ := H
    obtain ⟨x17_20, qx17_20, H⟩ := H
    obtain ⟨x22_21, qx22_21, H⟩ := H
    have hT := tab_of tb11_5 rfl rfl
    refine d_start (fun w : World => (fun h : Heap => (hcell h ((x4_7).add 1) = some (.int .i64 x17_20)) ∧ (hcell h x21_19 = some (.int .u8 x22_21))) w.heap) [8, 9, 10] #[false, false, false, false, false, false, false, false, false, false, false] mo hR rfl rfl (fun w' e => by rw [e]; exact ⟨qx17_20, qx22_21⟩) (fun w hh hR hs => ?_)
    replace H := M.at hh H; clear hh
    refine d_pureg (i := 0) (v := .pointer (some ((x4_7).add 1))) #[true, false, false, false, false, false, false, false, false, false, false] rfl rfl hT (by kernel_rfl) hE rfl (wanted_none rfl) (fun w => r_fieldAddr hE rfl fd24_1) (fun a hE => ?_)
    refine d_pureg (i := 3) (v := .int .i64 x5_11) #[true, false, false, true, false, false, false, false, false, false, false] rfl rfl hT (by kernel_rfl) hE rfl (wanted_none rfl) (fun w => r_move hE rfl) (fun a hE => ?_)
    refine d_pureg (i := 4) (v := .int .i64 (IntKind.wrap .i64 (2 + x5_11))) #[true, false, false, true, true, false, false, false, false, false, false] rfl rfl hT (by kernel_rfl) hE rfl (wanted_none rfl) (fun w => r_bin hE rfl rfl g_int b_add) (fun a hE => ?_)
    refine d_pureg (i := 5) (v := .pointer (some x21_19)) #[true, false, false, true, true, true, false, false, false, false, false] rfl rfl hT (by kernel_rfl) hE rfl (wanted_none rfl) (fun w => r_indexAddrA hE rfl rfl un26 sz5 qx21_19) (fun a hE => ?_)
    refine d_read (i := 1) (v := .int .i64 x17_20) #[true, true, false, true, true, true, false, false, false, false, false] rfl rfl hT (by kernel_rfl) hE rfl (wanted_none rfl) hs (fun w s => r_load hE rfl sc2 s.1) (fun a hE => ?_)
    refine d_pureg (i := 2) (v := .int .i64 (iShl .i64 x17_20 8)) #[true, true, true, true, true, true, false, false, false, false, false] rfl rfl hT (by kernel_rfl) hE rfl (wanted_none rfl) (fun w => r_bin hE rfl rfl g_int (b_shl ⟨by decide, rfl⟩)) (fun a hE => ?_)
    refine d_read (i := 6) (v := .int .u8 x22_21) #[true, true, true, true, true, true, true, false, false, false, false] rfl rfl hT (by kernel_rfl) hE rfl (wanted_none rfl) hs (fun w s => r_load hE rfl sc5 s.2) (fun a hE => ?_)
    refine d_pureg (i := 7) (v := .int .i64 (IntKind.wrap .i64 x22_21)) #[true, true, true, true, true, true, true, true, false, false, false] rfl rfl hT (by kernel_rfl) hE rfl (wanted_none rfl) (fun w => r_convI hE rfl un5 un2) (fun a hE => ?_)
    refine d_pureg (i := 8) (v := .int .i64 (iOr .i64 (iShl .i64 x17_20 8) (IntKind.wrap .i64 x22_21))) #[true, true, true, true, true, true, true, true, true, false, false] rfl rfl hT (by kernel_rfl) hE rfl (wanted_none rfl) (fun w => r_bin hE rfl rfl g_int b_or) (fun a hE => ?_)
    refine d_pureg (i := 9) (v := .pointer (some ((x4_7).add 1))) #[true, true, true, true, true, true, true, true, true, true, false] rfl rfl hT (by kernel_rfl) hE rfl (wanted_none rfl) (fun w => r_fieldAddr hE rfl fd24_1) (fun a hE => ?_)
    obtain ⟨u_22, qu_22, H⟩ := H
    refine d_stlh (i := 10) #[true, true, true, true, true, true, true, true, true, true, true] rfl rfl hT (by kernel_rfl) rfl hE hR (wanted_none rfl) (r_store hE rfl rfl sz2 qu_22)  (fun a w hE hR hh => ?_)
    replace H := M.at hh H; clear hh
    refine d_done hT (by kernel_rfl) ?_
    refine hK_18 _ _ ?_
    refine t_region ?_
    refine t_val (v := .int .i64 x5_11) rfl rfl hE rfl (r_move hE rfl) (fun a hE => ?_)
    refine t_val (v := .int .i64 (IntKind.wrap .i64 (x5_11 + 1))) rfl rfl hE rfl (r_bin hE rfl rfl g_int b_add) (fun a hE => ?_)
    refine t_val (v := .int .i64 (IntKind.wrap .i64 (x5_11 + 1))) rfl rfl hE rfl (r_assign hE rfl) (fun a hE => ?_)
    refine t_nil ?_
    exact hY_15 (IntKind.wrap .i64 (x5_11 + 1)) _ _ (hE.cut (.cons rfl (.cons rfl (.cons rfl (.cons rfl Subs.nil))))) hR H
  · replace H := M.ite_f hb H
    refine w_exit ?_
    refine Xu.same ?_
    refine hK_9 _ _ ?_
    refine w_seq (fun K hK_23 => ?_)
    refine w_seq (fun K hK_24 => ?_)
    refine t_region ?_
    obtain ⟨x26_25, qx26_25, H⟩ := H
    refine t_val (v := .pointer (some x26_25)) rfl rfl hE rfl (r_indexAddrA hE rfl rfl un26 sz5 qx26_25) (fun a hE => ?_)
    obtain ⟨x27_26, qx27_26, H⟩ := H
    refine t_val (v := .int .u8 x27_26) rfl rfl hE rfl (r_load hE rfl sc5 qx27_26) (fun a hE => ?_)
    refine t_val (v := .bool (decide (x27_26 > 112))) rfl rfl hE rfl (r_bin hE rfl rfl g_int b_gtr) (fun a hE => ?_)
    refine t_nil ?_
    refine hK_24 _ _ ?_
    refine w_cond (decide (x27_26 > 112)) hE rfl (fun hb => ?_) (fun hb => ?_)
    · replace H := M.ite_t hb H
      refine w_seq (fun K hK_27 => ?_)
      refine t_region ?_
      refine t_val (v := .agg (#[.int .i64 0, .int .i64 0, .slice none 0 0] : Array Value)) rfl rfl hE rfl (r_build0 bd24) (fun a hE => ?_)
      obtain ⟨qz, H⟩ := H
      obtain ⟨u_28, qu_28, H⟩ := H
      refine t_sth rfl rfl hE hR (r_storeG hE rfl rfl sz24 qz qu_28) (fun a w hE hR hh => ?_)
      replace H := M.at hh H; clear hh
      refine t_val (v := .int .i64 50) rfl rfl hE rfl (r_assign hE rfl) (fun a hE => ?_)
      refine t_nil ?_
      refine hK_27 _ _ ?_
      refine w_ret ?_
      obtain ⟨r2_29, qr2_29, H⟩ := H
      exact hret _ _ _ (r2_29, 50) _ hE hR (res_run hE rfl (RV.cellG rfl ag24 qr2_29 (RV.tmp rfl RV.nil))) rfl H
    · replace H := M.ite_f hb H
      refine w_skip ?_
      refine hK_23 _ _ ?_
      refine w_seq (fun K hK_30 => ?_)
      obtain ⟨x32_31, qx32_31, H⟩ := H
      obtain ⟨x31_32, qx31_32, H⟩ := H
      obtain ⟨x33_33, qx33_33, H⟩ := H
      obtain ⟨x36_34, qx36_34, H⟩ := H
      have hT := tab_of tb11_8 rfl rfl
      refine d_start (fun w : World => (fun h : Heap => (hcell h ((x4_7).add 2) = some ((x31_32 : Sl).v)) ∧ (hcell h x32_31 = some (.int .u8 x33_33))) w.heap) [7, 8, 9] #[false, false, false, false, false, false, false, false, false, false] mo hR rfl rfl (fun w' e => by rw [e]; exact ⟨qx31_32, qx33_33⟩) (fun w hh hR hs => ?_)
      replace H := M.at hh H; clear hh
      refine d_pureg (i := 0) (v := .pointer (some ((x4_7).add 2))) #[true, false, false, false, false, false, false, false, false, false] rfl rfl hT (by kernel_rfl) hE rfl (wanted_none rfl) (fun w => r_fieldAddr hE rfl fd24_2) (fun a hE => ?_)
      refine d_pureg (i := 2) (v := .pointer (some x32_31)) #[true, false, true, false, false, false, false, false, false, false] rfl rfl hT (by kernel_rfl) hE rfl (wanted_none rfl) (fun w => r_indexAddrA hE rfl rfl un26 sz5 qx32_31) (fun a hE => ?_)
      refine d_read (i := 1) (v := (x31_32 : Sl).v) #[true, true, true, false, false, false, false, false, false, false] rfl rfl hT (by kernel_rfl) hE rfl (wanted_none rfl) hs (fun w s => r_load hE rfl sc22 s.1) (fun a hE => ?_)
      refine d_read (i := 3) (v := .int .u8 x33_33) #[true, true, true, true, false, false, false, false, false, false] rfl rfl hT (by kernel_rfl) hE rfl (wanted_none rfl) hs (fun w s => r_load hE rfl sc5 s.2) (fun a hE => ?_)
      refine d_pureg (i := 4) (v := .int .i64 (IntKind.wrap .i64 x33_33)) #[true, true, true, true, true, false, false, false, false, false] rfl rfl hT (by kernel_rfl) hE rfl (wanted_none rfl) (fun w => r_convI hE rfl un5 un3) (fun a hE => ?_)
      refine d_pureg (i := 5) (v := .int .i64 (IntKind.wrap .i64 (10 + (IntKind.wrap .i64 x33_33)))) #[true, true, true, true, true, true, false, false, false, false] rfl rfl hT (by kernel_rfl) hE rfl (wanted_none rfl) (fun w => r_bin hE rfl rfl g_int b_add) (fun a hE => ?_)
      refine d_pureg (i := 6) (v := (x36_34 : Sl).v) #[true, true, true, true, true, true, true, false, false, false] rfl rfl hT (by kernel_rfl) hE rfl (wanted_none rfl) (fun w => r_sliceA_lh hE rfl rfl rfl un26 sz5 qx36_34) (fun a hE => ?_)
      refine d_exl (i := 7) (fun x37_35 => (x37_35 : Sl).v) #[true, true, true, true, true, true, true, true, false, false] rfl rfl hT (by kernel_rfl) rfl hR (wanted_none rfl) (M.unbind H) (fun Q H => ap_run hE rfl rfl ap22 H) (fun x37_35 a w ea hR H => ?_)
      have hE := Env.put_some hE rfl ea; clear ea
      refine d_pureg (i := 8) (v := .pointer (some ((x4_7).add 2))) #[true, true, true, true, true, true, true, true, true, false] rfl rfl hT (by kernel_rfl) hE rfl (wanted_none rfl) (fun w => r_fieldAddr hE rfl fd24_2) (fun a hE => ?_)
      obtain ⟨u_36, qu_36, H⟩ := H
      refine d_stlh (i := 9) #[true, true, true, true, true, true, true, true, true, true] rfl rfl hT (by kernel_rfl) rfl hE hR (wanted_none rfl) (r_store hE rfl rfl sz22 qu_36)  (fun a w hE hR hh => ?_)
      replace H := M.at hh H; clear hh
      refine d_done hT (by kernel_rfl) ?_
      refine hK_30 _ _ ?_
      refine w_seq (fun K hK_37 => ?_)
      refine t_region ?_
      obtain ⟨x40_38, qx40_38, H⟩ := H
      refine t_val (v := .agg x40_38) rfl rfl hE rfl (r_loadG hE rfl ag24 qx40_38) (fun a hE => ?_)
      refine t_call hE hR cl_rambleref05_Seal rfl (S_rambleref05_Seal x40_38) (M.unbind H) (fun x41_39 a w ea hR H => ?_)
      have hE := Env.put_some hE rfl ea; clear ea
      refine t_val (v := .tuple #[.agg x41_39.1, .int .i64 x41_39.2]) rfl rfl hE rfl (r_move hE rfl) (fun a hE => ?_)
      refine t_val (v := .agg x41_39.1) rfl rfl hE rfl (r_extract hE rfl rfl) (fun a hE => ?_)
      refine t_val (v := .int .i64 x41_39.2) rfl rfl hE rfl (r_extract hE rfl rfl) (fun a hE => ?_)
      obtain ⟨x6_40, qx6_40, H⟩ := H
      refine t_valh (v := .pointer (some x6_40)) rfl rfl hE rfl hR (r_alloc zr26 qx6_40) (fun a w hE hR hh => ?_)
      replace H := M.at hh H; clear hh
      obtain ⟨qz, H⟩ := H
      obtain ⟨u_41, qu_41, H⟩ := H
      refine t_sth rfl rfl hE hR (r_storeG hE rfl rfl sz26 qz qu_41) (fun a w hE hR hh => ?_)
      replace H := M.at hh H; clear hh
      refine t_val (v := .int .i64 x41_39.2) rfl rfl hE rfl (r_assign hE rfl) (fun a hE => ?_)
      refine t_nil ?_
      refine hK_37 _ _ ?_
      refine w_seq (fun K hK_42 => ?_)
      refine w_seq (fun K hK_43 => ?_)
      refine t_region ?_
      refine t_val (v := .int .i64 x41_39.2) rfl rfl hE rfl (r_move hE rfl) (fun a hE => ?_)
      refine t_val (v := .bool (x41_39.2 != 0)) rfl rfl hE rfl (r_bin hE rfl rfl g_int b_neq) (fun a hE => ?_)
      refine t_val (v := .bool (x41_39.2 != 0)) rfl rfl hE rfl (r_move hE rfl) (fun a hE => ?_)
      refine t_grp (n := (⟨53, []⟩ : Frm)) (w0 := w0) 4 (fun x50_44 : Bool => [(2, .pointer (some x2_3)), (4, .pointer (some x4_7)), (50, .bool x50_44)]) (M.unbind H) (fun Kr hKr H => ?_) ?_
      · rcases bool_em (x41_39.2 != 0) with hb | hb
        · replace H := M.ite_t hb H
          have hE := hE.reb 46 (x41_39.2 != 0) true hb rfl
          refine t_off rfl hE rfl rfl rfl (fun a ea => ?_)
          have hE := Env.put_some hE rfl ea; clear ea
          refine t_off rfl hE rfl rfl rfl (fun a ea => ?_)
          have hE := Env.put_some hE rfl ea; clear ea
          refine t_off rfl hE rfl rfl rfl (fun a ea => ?_)
          have hE := Env.put_some hE rfl ea; clear ea
          refine t_val rfl rfl hE rfl (r_pick_t hE rfl rfl) (fun a hE => ?_)
          refine t_nil ?_
          exact hKr _ _ _ (hE.cut (.cons rfl (.cons rfl (.cons rfl Subs.nil)))) hR H
        · replace H := M.ite_f hb H
          have hE := hE.reb 46 (x41_39.2 != 0) false hb rfl
          refine t_on rfl hE rfl rfl rfl ?_
          obtain ⟨x47_45, qx47_45, H⟩ := H
          refine t_val (v := .agg x47_45) rfl rfl hE rfl (r_loadG hE rfl ag26 qx47_45) (fun a hE => ?_)
          refine t_on rfl hE rfl rfl rfl ?_
          obtain ⟨x48_46, qx48_46, H⟩ := H
          refine t_val (v := .agg x48_46) rfl rfl hE rfl (r_loadG hE rfl ag26 qx48_46) (fun a hE => ?_)
          refine t_on rfl hE rfl rfl rfl ?_
          obtain ⟨x49_47, qx49_47, H⟩ := H
          refine t_val (v := .bool (!x49_47)) rfl rfl hE rfl (r_bin hE rfl rfl (g_agg eg26) (b_neqA un26 un5 sz5 qx49_47)) (fun a hE => ?_)
          refine t_val rfl rfl hE rfl (r_pick_f hE rfl rfl) (fun a hE => ?_)
          refine t_nil ?_
          exact hKr _ _ _ (hE.cut (.cons rfl (.cons rfl (.cons rfl Subs.nil)))) hR H
      · intro x50_44 a w hE hR H
        refine t_nil ?_
        refine hK_43 _ _ ?_
        refine w_cond x50_44 hE rfl (fun hb => ?_) (fun hb => ?_)
        · replace H := M.ite_t hb H
          refine w_seq (fun K hK_48 => ?_)
          refine t_region ?_
          refine t_val (v := .agg (#[.int .i64 0, .int .i64 0, .slice none 0 0] : Array Value)) rfl rfl hE rfl (r_build0 bd24) (fun a hE => ?_)
          obtain ⟨qz, H⟩ := H
          obtain ⟨u_49, qu_49, H⟩ := H
          refine t_sth rfl rfl hE hR (r_storeG hE rfl rfl sz24 qz qu_49) (fun a w hE hR hh => ?_)
          replace H := M.at hh H; clear hh
          refine t_val (v := .int .i64 50) rfl rfl hE rfl (r_assign hE rfl) (fun a hE => ?_)
          refine t_nil ?_
          refine hK_48 _ _ ?_
          refine w_ret ?_
          obtain ⟨r2_50, qr2_50, H⟩ := H
          exact hret _ _ _ (r2_50, 50) _ hE hR (res_run hE rfl (RV.cellG rfl ag24 qr2_50 (RV.tmp rfl RV.nil))) rfl H
        · replace H := M.ite_f hb H
          refine w_skip ?_
          refine hK_42 _ _ ?_
          refine w_seq (fun K hK_51 => ?_)
          refine t_region ?_
          obtain ⟨x52_52, qx52_52, H⟩ := H
          refine t_val (v := .agg x52_52) rfl rfl hE rfl (r_loadG hE rfl ag24 qx52_52) (fun a hE => ?_)
          obtain ⟨qz, H⟩ := H
          obtain ⟨u_53, qu_53, H⟩ := H
          refine t_sth rfl rfl hE hR (r_storeG hE rfl rfl sz24 qz qu_53) (fun a w hE hR hh => ?_)
          replace H := M.at hh H; clear hh
          refine t_val (v := .int .i64 0) rfl rfl hE rfl (r_assign hE rfl) (fun a hE => ?_)
          refine t_nil ?_
          refine hK_51 _ _ ?_
          refine w_ret ?_
          obtain ⟨r2_54, qr2_54, H⟩ := H
          exact hret _ _ _ (r2_54, 0) _ hE hR (res_run hE rfl (RV.cellG rfl ag24 qr2_54 (RV.tmp rfl RV.nil))) rfl H

end Gx
