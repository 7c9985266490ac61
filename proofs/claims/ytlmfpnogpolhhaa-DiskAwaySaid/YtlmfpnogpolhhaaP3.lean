/- Printed by program: Go functions as Lean programs, each tied to its code. No condition. -/
import Derived.Test.YtlmfpnogpolhhaaP0
import Derived.Test.YtlmfpnogpolhhaaP1
import Derived.Test.YtlmfpnogpolhhaaP2
set_option linter.unusedVariables false
set_option linter.unusedSimpArgs false
namespace Gx
open Go
set_option linter.unusedVariables false
set_option maxRecDepth 100000
/-- ramble/ramblelaw04.DiskAway -/
def ramblelaw04_DiskAway_j1 (self1 : (Int) → M (Bool)) (c0_33 : Int) (c5_34 : Option Addr) (c9_35 : Int) (c10_36 : Bool) (c37_39 : Int) (x11_32 : Int) : M (Bool) := do
  let x62_42 ← M.ite c10_36 (do
    M.pure (x11_32 != 9)
    ) (do
    M.pure false
    )
  let x72_43 ← M.ite x62_42 (do
    M.pure true
    ) (do
    let x67_44 ← disk_Disk_Calls c5_34
    M.pure ((x11_32 == 0) != ((IntKind.wrap .i64 (x67_44 - c9_35)) == 1))
    )
  let x81_45 ← M.ite x72_43 (do
    M.pure true
    ) (do
    let x80_46 ← M.ite (x11_32 != 0) (do
      let x78_47 ← disk_Disk_Down c5_34
      M.pure (!x78_47)
      ) (do
      M.pure false
      )
    M.pure x80_46
    )
  M.ite x81_45 (do
    M.pure false
    ) (do
    let x87_50 ← M.ite (!c10_36) (do
      let x86_51 ← disk_Disk_Down c5_34
      M.pure x86_51
      ) (do
      M.pure false
      )
    let x99_52 ← M.ite x87_50 (do
      let x98_53 ← M.ite (c0_33 == 0) (do
        M.pure true
        ) (do
        let x93_54 ← disk_Disk_Calls c5_34
        M.pure (x93_54 != (IntKind.wrap .i64 ((IntKind.wrap .i64 c0_33) - 1)))
        )
      M.pure x98_53
      ) (do
      M.pure false
      )
    M.ite x99_52 (do
      M.pure false
      ) (do
      self1 (IntKind.wrap .i64 (c37_39 + 1))
      )
    )
theorem tb6_11 : tabAt Go.Proofs.Try.f6 11 [[], [], [1], [2], [], [4], [5], [0, 3, 6, 6], [7, 7, 0, 1, 2, 3, 4, 5, 6, 7]] [[], [], [1], [2], [], [4], [5], [0, 3, 6], [7]] [[], [], [1], [1, 2], [], [4], [4, 5], [0, 1, 2, 3, 4, 5, 6], [0, 1, 2, 3, 4, 5, 6, 7]] = true := by kernel_rfl
def ramblelaw04_DiskAway_l1 (c0_15 : Int) (c5_16 : Option Addr) (c35_17 : Sl) (c36_18 : Int) (self1 : (Int) → M (Bool)) : (Int) → M (Bool) := fun s => match s with
  | x37_14 => do
    M.ite (decide (x37_14 < c36_18)) (do
      let x39_24 ← ixL c35_17 x37_14 6
      let x40_25 ← ldG 6 x39_24
      let x8_26 ← mkB ty_ramblelaw04_Op (#[.int .i64 0, .int .i64 0, .int .u8 0, .slice none 0 0, .int .i64 0, .int .u32 0] : Array Value)
      M.need (x40_25.size = 6)
      stG x8_26 x40_25
      let x42_29 ← disk_Disk_Calls c5_16
      let x44_30 ← disk_Disk_Down c5_16
      let x46_57 ← ldI .i64 ((x8_26).add 0)
      M.ite (x46_57 == 2) (do
        let x49_58 ← disk_Disk_Flush c5_16
        ramblelaw04_DiskAway_j1 self1 c0_15 c5_16 x42_29 x44_30 x37_14 x49_58
        ) (do
        let x52_59 ← ldI .i64 ((x8_26).add 1)
        let x55_60 ← ldI .u8 ((x8_26).add 2)
        let x56_61 ← ramblelaw04_filled x55_60
        chk (fun h : Heap => (hcell h ((x8_26).add 1) = some (.int .i64 x52_59)) ∧ (hcell h ((x8_26).add 2) = some (.int .u8 x55_60)))
        let x57_62 ← disk_Disk_Write c5_16 (iAnd .i64 x52_59 7) x56_61
        ramblelaw04_DiskAway_j1 self1 c0_15 c5_16 x42_29 x44_30 x37_14 x57_62
        )
      ) (do
      let x102_65 ← disk_Disk_Down c5_16
      M.ite x102_65 (do
        let x105_67 ← disk_Disk_Read c5_16 0
        let x12_68 ← mkB ty_api_Sector (Array.replicate 128 (.int .u8 0) : Array Value)
        M.need (x105_67.1.size = 128)
        stG x12_68 x105_67.1
        let x114_71 ← M.ite (x105_67.2 == 9) (do
          let x112_72 ← disk_Disk_Flush c5_16
          M.pure (x112_72 == 9)
          ) (do
          M.pure false
          )
        M.pure x114_71
        ) (do
        let x123_74 ← M.ite (c0_15 == 0) (do
          M.pure true
          ) (do
          let x119_75 ← disk_Disk_Calls c5_16
          M.pure (decide (x119_75 < (IntKind.wrap .i64 c0_15)))
          )
        M.pure x123_74
        )
      )
def ramblelaw04_DiskAway (x0 : Int) (x1 : Sl) : M (Bool) := do
  let x15_3 ← disk_New 8
  let x18_6 ← ramblelaw04_begun
  let x23_7 ← M.ite (!x18_6) (do
    M.pure true
    ) (do
    M.pure ((x15_3.1).isNone)
    )
  let x27_8 ← M.ite x23_7 (do
    M.pure true
    ) (do
    M.pure (x15_3.2 != 0)
    )
  let x34_9 ← M.ite x27_8 (do
    M.pure true
    ) (do
    let x32_10 ← disk_Disk_SetFuse x15_3.1 (IntKind.wrap .i64 x0)
    M.pure (x32_10 != 0)
    )
  M.ite x34_9 (do
    M.pure false
    ) (do
    M.loop (ramblelaw04_DiskAway_l1 x0 x15_3.1 x1 (x1.len : Int)) 0
    )
theorem S_ramblelaw04_DiskAway (x0 : Int) (x1 : Sl) : Sound Go.Proofs.Try.prog 6 #[.int .u8 x0, (x1 : Sl).v] (fun (r : Bool) => .bool r) (ramblelaw04_DiskAway x0 x1) := by
  refine sound_of [(0, .int .u8 x0), (1, (x1 : Sl).v)] Go.Proofs.Try.func6 rfl rfl (Nat.le_of_ble_eq_true rfl) (args_of ⟨rfl, rfl, trivial⟩) (fun w0 w Q R a hret hE hR H => ?_)
  unfold ramblelaw04_DiskAway at H
  refine w_seq (fun K hK_1 => ?_)
  refine t_region ?_
  refine t_val (v := .bool false) rfl rfl hE rfl (r_assign hE rfl) (fun a hE => ?_)
  refine t_nil ?_
  refine hK_1 _ _ ?_
  refine w_seq (fun K hK_2 => ?_)
  refine t_region ?_
  refine t_call hE hR cl_disk_New rfl (S_disk_New 8) (M.unbind H) (fun x15_3 a w ea hR H => ?_)
  have hE := Env.put_some hE rfl ea; clear ea
  refine t_val (v := .tuple #[.pointer x15_3.1, .int .i64 x15_3.2]) rfl rfl hE rfl (r_move hE rfl) (fun a hE => ?_)
  refine t_val (v := .pointer x15_3.1) rfl rfl hE rfl (r_extract hE rfl rfl) (fun a hE => ?_)
  refine t_val (v := .int .i64 x15_3.2) rfl rfl hE rfl (r_extract hE rfl rfl) (fun a hE => ?_)
  refine t_val (v := .pointer x15_3.1) rfl rfl hE rfl (r_assign hE rfl) (fun a hE => ?_)
  refine t_val (v := .int .i64 x15_3.2) rfl rfl hE rfl (r_assign hE rfl) (fun a hE => ?_)
  refine t_nil ?_
  refine hK_2 _ _ ?_
  refine w_seq (fun K hK_4 => ?_)
  refine w_seq (fun K hK_5 => ?_)
  refine t_region ?_
  refine t_call hE hR cl_ramblelaw04_begun rfl (S_ramblelaw04_begun ) (M.unbind H) (fun x18_6 a w ea hR H => ?_)
  have hE := Env.put_some hE rfl ea; clear ea
  refine t_val (v := .bool (!x18_6)) rfl rfl hE rfl (r_un hE rfl u_not) (fun a hE => ?_)
  refine t_val (v := .bool (!x18_6)) rfl rfl hE rfl (r_move hE rfl) (fun a hE => ?_)
  refine t_grp (n := (⟨124, []⟩ : Frm)) (w0 := w0) 3 (fun x23_7 : Bool => [(0, .int .u8 x0), (1, (x1 : Sl).v), (5, .pointer x15_3.1), (6, .int .i64 x15_3.2), (23, .bool x23_7)]) (M.unbind H) (fun Kr hKr H => ?_) ?_
  · rcases bool_em (!x18_6) with hb | hb
    · replace H := M.ite_t hb H
      have hE := hE.reb 20 (!x18_6) true hb rfl
      refine t_off rfl hE rfl rfl rfl (fun a ea => ?_)
      have hE := Env.put_some hE rfl ea; clear ea
      refine t_off rfl hE rfl rfl rfl (fun a ea => ?_)
      have hE := Env.put_some hE rfl ea; clear ea
      refine t_val rfl rfl hE rfl (r_pick_t hE rfl rfl) (fun a hE => ?_)
      refine t_nil ?_
      exact hKr _ _ _ (hE.cut (.cons rfl (.cons rfl (.cons rfl (.cons rfl (.cons rfl Subs.nil)))))) hR H
    · replace H := M.ite_f hb H
      have hE := hE.reb 20 (!x18_6) false hb rfl
      refine t_on rfl hE rfl rfl rfl ?_
      refine t_val (v := .pointer x15_3.1) rfl rfl hE rfl (r_move hE rfl) (fun a hE => ?_)
      refine t_on rfl hE rfl rfl rfl ?_
      refine t_val (v := .bool ((x15_3.1).isNone)) rfl rfl hE rfl (r_bin hE rfl rfl g_ptr (b_eqlP un23)) (fun a hE => ?_)
      refine t_val rfl rfl hE rfl (r_pick_f hE rfl rfl) (fun a hE => ?_)
      refine t_nil ?_
      exact hKr _ _ _ (hE.cut (.cons rfl (.cons rfl (.cons rfl (.cons rfl (.cons rfl Subs.nil)))))) hR H
  · intro x23_7 a w hE hR H
    refine t_val (v := .bool x23_7) rfl rfl hE rfl (r_move hE rfl) (fun a hE => ?_)
    refine t_grp (n := (⟨124, []⟩ : Frm)) (w0 := w0) 3 (fun x27_8 : Bool => [(0, .int .u8 x0), (1, (x1 : Sl).v), (5, .pointer x15_3.1), (27, .bool x27_8)]) (M.unbind H) (fun Kr hKr H => ?_) ?_
    · rcases bool_em x23_7 with hb | hb
      · replace H := M.ite_t hb H
        have hE := hE.reb 24 x23_7 true hb rfl
        refine t_off rfl hE rfl rfl rfl (fun a ea => ?_)
        have hE := Env.put_some hE rfl ea; clear ea
        refine t_off rfl hE rfl rfl rfl (fun a ea => ?_)
        have hE := Env.put_some hE rfl ea; clear ea
        refine t_val rfl rfl hE rfl (r_pick_t hE rfl rfl) (fun a hE => ?_)
        refine t_nil ?_
        exact hKr _ _ _ (hE.cut (.cons rfl (.cons rfl (.cons rfl (.cons rfl Subs.nil))))) hR H
      · replace H := M.ite_f hb H
        have hE := hE.reb 24 x23_7 false hb rfl
        refine t_on rfl hE rfl rfl rfl ?_
        refine t_val (v := .int .i64 x15_3.2) rfl rfl hE rfl (r_move hE rfl) (fun a hE => ?_)
        refine t_on rfl hE rfl rfl rfl ?_
        refine t_val (v := .bool (x15_3.2 != 0)) rfl rfl hE rfl (r_bin hE rfl rfl g_int b_neq) (fun a hE => ?_)
        refine t_val rfl rfl hE rfl (r_pick_f hE rfl rfl) (fun a hE => ?_)
        refine t_nil ?_
        exact hKr _ _ _ (hE.cut (.cons rfl (.cons rfl (.cons rfl (.cons rfl Subs.nil))))) hR H
    · intro x27_8 a w hE hR H
      refine t_val (v := .bool x27_8) rfl rfl hE rfl (r_move hE rfl) (fun a hE => ?_)
      refine t_grp (n := (⟨124, []⟩ : Frm)) (w0 := w0) 6 (fun x34_9 : Bool => [(0, .int .u8 x0), (1, (x1 : Sl).v), (5, .pointer x15_3.1), (34, .bool x34_9)]) (M.unbind H) (fun Kr hKr H => ?_) ?_
      · rcases bool_em x27_8 with hb | hb
        · replace H := M.ite_t hb H
          have hE := hE.reb 28 x27_8 true hb rfl
          refine t_off rfl hE rfl rfl rfl (fun a ea => ?_)
          have hE := Env.put_some hE rfl ea; clear ea
          refine t_off rfl hE rfl rfl rfl (fun a ea => ?_)
          have hE := Env.put_some hE rfl ea; clear ea
          refine t_off rfl hE rfl rfl rfl (fun a ea => ?_)
          have hE := Env.put_some hE rfl ea; clear ea
          refine t_off rfl hE rfl rfl rfl (fun a ea => ?_)
          have hE := Env.put_some hE rfl ea; clear ea
          refine t_off rfl hE rfl rfl rfl (fun a ea => ?_)
          have hE := Env.put_some hE rfl ea; clear ea
          refine t_val rfl rfl hE rfl (r_pick_t hE rfl rfl) (fun a hE => ?_)
          refine t_nil ?_
          exact hKr _ _ _ (hE.cut (.cons rfl (.cons rfl (.cons rfl (.cons rfl Subs.nil))))) hR H
        · replace H := M.ite_f hb H
          have hE := hE.reb 28 x27_8 false hb rfl
          refine t_on rfl hE rfl rfl rfl ?_
          refine t_val (v := .pointer x15_3.1) rfl rfl hE rfl (r_move hE rfl) (fun a hE => ?_)
          refine t_on rfl hE rfl rfl rfl ?_
          refine t_val (v := .int .u8 x0) rfl rfl hE rfl (r_move hE rfl) (fun a hE => ?_)
          refine t_on rfl hE rfl rfl rfl ?_
          refine t_val (v := .int .i64 (IntKind.wrap .i64 x0)) rfl rfl hE rfl (r_convI hE rfl un5 un3) (fun a hE => ?_)
          refine t_on rfl hE rfl rfl rfl ?_
          refine t_call hE hR cl_disk_Disk_SetFuse rfl (S_disk_Disk_SetFuse x15_3.1 (IntKind.wrap .i64 x0)) (M.unbind H) (fun x32_10 a w ea hR H => ?_)
          have hE := Env.put_some hE rfl ea; clear ea
          refine t_on rfl hE rfl rfl rfl ?_
          refine t_val (v := .bool (x32_10 != 0)) rfl rfl hE rfl (r_bin hE rfl rfl g_int b_neq) (fun a hE => ?_)
          refine t_val rfl rfl hE rfl (r_pick_f hE rfl rfl) (fun a hE => ?_)
          refine t_nil ?_
          exact hKr _ _ _ (hE.cut (.cons rfl (.cons rfl (.cons rfl (.cons rfl Subs.nil))))) hR H
      · intro x34_9 a w hE hR H
        refine t_nil ?_
        refine hK_5 _ _ ?_
        refine w_cond x34_9 hE rfl (fun hb => ?_) (fun hb => ?_)
        · replace H := M.ite_t hb H
          refine w_seq (fun K hK_11 => ?_)
          refine t_region ?_
          refine t_val (v := .bool false) rfl rfl hE rfl (r_assign hE rfl) (fun a hE => ?_)
          refine t_nil ?_
          refine hK_11 _ _ ?_
          refine w_ret ?_
          exact hret _ _ _ false _ hE hR (res_run hE rfl (RV.tmp rfl RV.nil)) rfl H
        · replace H := M.ite_f hb H
          refine w_skip ?_
          refine hK_4 _ _ ?_
          refine w_seq (fun K hK_12 => ?_)
          refine w_seq (fun K hK_13 => ?_)
          refine t_region ?_
          refine t_val (v := (x1 : Sl).v) rfl rfl hE rfl (r_move hE rfl) (fun a hE => ?_)
          refine t_val (v := .int .i64 (x1.len : Int)) rfl rfl hE rfl (r_len hE rfl 51 un44) (fun a hE => ?_)
          refine t_val (v := .int .i64 0) rfl rfl hE rfl (r_move hE rfl) (fun a hE => ?_)
          refine t_nil ?_
          refine hK_13 _ _ ?_
          refine w_block ?_
          refine l_loop (fun (s : Int) => (⟨124, []⟩ : Frm)) (fun (s : Int) => [(0, .int .u8 x0), (5, .pointer x15_3.1), (35, (x1 : Sl).v), (36, .int .i64 (x1.len : Int)), (37, .int .i64 s)]) H (hE.cut (.cons rfl (.cons rfl (.cons rfl (.cons rfl (.cons rfl Subs.nil)))))) hR (fun Y self1 hY_19 x37_14 a w hE hR H => ?_)
          replace hE : Env (⟨124, []⟩ : Frm) a [(0, .int .u8 x0), (5, .pointer x15_3.1), (35, (x1 : Sl).v), (36, .int .i64 (x1.len : Int)), (37, .int .i64 x37_14)] := hE
          replace H : (ramblelaw04_DiskAway_l1 x0 x15_3.1 x1 (x1.len : Int) self1 x37_14).wp w.heap Q := H
          unfold ramblelaw04_DiskAway_l1 at H
          refine w_seq (fun K hK_20 => ?_)
          refine t_region ?_
          refine t_val (v := .bool (decide (x37_14 < (x1.len : Int)))) rfl rfl hE rfl (r_bin hE rfl rfl g_int b_lss) (fun a hE => ?_)
          refine t_nil ?_
          refine hK_20 _ _ ?_
          refine w_seq (fun K hK_21 => ?_)
          refine w_cond (decide (x37_14 < (x1.len : Int))) hE rfl (fun hb => ?_) (fun hb => ?_)
          · replace H := M.ite_t hb H
            refine w_skip ?_
            refine hK_21 _ _ ?_
            refine w_seq (fun K hK_22 => ?_)
            refine w_block ?_
            refine w_seq (fun K hK_23 => ?_)
            refine t_region ?_
            obtain ⟨x39_24, qx39_24, H⟩ := H
            refine t_val (v := .pointer (some x39_24)) rfl rfl hE rfl (r_indexAddrL hE rfl rfl un44 sz51 qx39_24) (fun a hE => ?_)
            obtain ⟨x40_25, qx40_25, H⟩ := H
            refine t_val (v := .agg x40_25) rfl rfl hE rfl (r_loadG hE rfl ag51 qx40_25) (fun a hE => ?_)
            obtain ⟨x8_26, qx8_26, H⟩ := H
            refine t_valh (v := .pointer (some x8_26)) rfl rfl hE rfl hR (r_alloc zr51 qx8_26) (fun a w hE hR hh => ?_)
            replace H := M.at hh H; clear hh
            obtain ⟨qz, H⟩ := H
            obtain ⟨u_27, qu_27, H⟩ := H
            refine t_sth rfl rfl hE hR (r_storeG hE rfl rfl sz51 qz qu_27) (fun a w hE hR hh => ?_)
            replace H := M.at hh H; clear hh
            refine t_nil ?_
            refine hK_23 _ _ ?_
            refine w_seq (fun K hK_28 => ?_)
            refine t_region ?_
            refine t_val (v := .pointer x15_3.1) rfl rfl hE rfl (r_move hE rfl) (fun a hE => ?_)
            refine t_call hE hR cl_disk_Disk_Calls rfl (S_disk_Disk_Calls x15_3.1) (M.unbind H) (fun x42_29 a w ea hR H => ?_)
            have hE := Env.put_some hE rfl ea; clear ea
            refine t_val (v := .pointer x15_3.1) rfl rfl hE rfl (r_move hE rfl) (fun a hE => ?_)
            refine t_call hE hR cl_disk_Disk_Down rfl (S_disk_Disk_Down x15_3.1) (M.unbind H) (fun x44_30 a w ea hR H => ?_)
            have hE := Env.put_some hE rfl ea; clear ea
            refine t_val (v := .int .i64 x42_29) rfl rfl hE rfl (r_assign hE rfl) (fun a hE => ?_)
            refine t_val (v := .bool x44_30) rfl rfl hE rfl (r_assign hE rfl) (fun a hE => ?_)
            refine t_nil ?_
            refine hK_28 _ _ ?_
            refine w_seq (fun K hK_31 => ?_)
            refine t_region ?_
            refine t_val (v := .int .i64 0) rfl rfl hE rfl (r_assign hE rfl) (fun a hE => ?_)
            refine t_nil ?_
            refine hK_31 _ _ ?_
            refine w_seq_join (fun a w => ∃ (x11_32 : Int), Env (⟨124, []⟩ : Frm) a [(0, .int .u8 x0), (5, .pointer x15_3.1), (9, .int .i64 x42_29), (10, .bool x44_30), (35, (x1 : Sl).v), (36, .int .i64 (x1.len : Int)), (37, .int .i64 x37_14), (11, .int .i64 x11_32)] ∧ Rest w0 w ∧ (ramblelaw04_DiskAway_j1 self1 x0 x15_3.1 x42_29 x44_30 x37_14 x11_32).wp w.heap Q) ?_ ?_
            · rintro a w ⟨x11_32, hE, hR, H⟩
              unfold ramblelaw04_DiskAway_j1 at H
              refine w_seq (fun K hK_40 => ?_)
              refine w_seq (fun K hK_41 => ?_)
              refine t_region ?_
              refine t_val (v := .bool x44_30) rfl rfl hE rfl (r_move hE rfl) (fun a hE => ?_)
              refine t_val (v := .bool x44_30) rfl rfl hE rfl (r_move hE rfl) (fun a hE => ?_)
              refine t_grp (n := (⟨124, []⟩ : Frm)) (w0 := w0) 3 (fun x62_42 : Bool => [(0, .int .u8 x0), (5, .pointer x15_3.1), (9, .int .i64 x42_29), (10, .bool x44_30), (35, (x1 : Sl).v), (36, .int .i64 (x1.len : Int)), (37, .int .i64 x37_14), (11, .int .i64 x11_32), (62, .bool x62_42)]) (M.unbind H) (fun Kr hKr H => ?_) ?_
              · rcases bool_em x44_30 with hb | hb
                · replace H := M.ite_t hb H
                  have hE := hE.reb 59 x44_30 true hb rfl
                  refine t_on rfl hE rfl rfl rfl ?_
                  refine t_val (v := .int .i64 x11_32) rfl rfl hE rfl (r_move hE rfl) (fun a hE => ?_)
                  refine t_on rfl hE rfl rfl rfl ?_
                  refine t_val (v := .bool (x11_32 != 9)) rfl rfl hE rfl (r_bin hE rfl rfl g_int b_neq) (fun a hE => ?_)
                  refine t_val rfl rfl hE rfl (r_pick_t hE rfl rfl) (fun a hE => ?_)
                  refine t_nil ?_
                  exact hKr _ _ _ (hE.cut (.cons rfl (.cons rfl (.cons rfl (.cons rfl (.cons rfl (.cons rfl (.cons rfl (.cons rfl (.cons rfl Subs.nil)))))))))) hR H
                · replace H := M.ite_f hb H
                  have hE := hE.reb 59 x44_30 false hb rfl
                  refine t_off rfl hE rfl rfl rfl (fun a ea => ?_)
                  have hE := Env.put_some hE rfl ea; clear ea
                  refine t_off rfl hE rfl rfl rfl (fun a ea => ?_)
                  have hE := Env.put_some hE rfl ea; clear ea
                  refine t_val rfl rfl hE rfl (r_pick_f hE rfl rfl) (fun a hE => ?_)
                  refine t_nil ?_
                  exact hKr _ _ _ (hE.cut (.cons rfl (.cons rfl (.cons rfl (.cons rfl (.cons rfl (.cons rfl (.cons rfl (.cons rfl (.cons rfl Subs.nil)))))))))) hR H
              · intro x62_42 a w hE hR H
                refine t_val (v := .bool x62_42) rfl rfl hE rfl (r_move hE rfl) (fun a hE => ?_)
                refine t_grp (n := (⟨124, []⟩ : Frm)) (w0 := w0) 9 (fun x72_43 : Bool => [(0, .int .u8 x0), (5, .pointer x15_3.1), (10, .bool x44_30), (35, (x1 : Sl).v), (36, .int .i64 (x1.len : Int)), (37, .int .i64 x37_14), (11, .int .i64 x11_32), (72, .bool x72_43)]) (M.unbind H) (fun Kr hKr H => ?_) ?_
                · rcases bool_em x62_42 with hb | hb
                  · replace H := M.ite_t hb H
                    have hE := hE.reb 63 x62_42 true hb rfl
                    refine t_off rfl hE rfl rfl rfl (fun a ea => ?_)
                    have hE := Env.put_some hE rfl ea; clear ea
                    refine t_off rfl hE rfl rfl rfl (fun a ea => ?_)
                    have hE := Env.put_some hE rfl ea; clear ea
                    refine t_off rfl hE rfl rfl rfl (fun a ea => ?_)
                    have hE := Env.put_some hE rfl ea; clear ea
                    refine t_off rfl hE rfl rfl rfl (fun a ea => ?_)
                    have hE := Env.put_some hE rfl ea; clear ea
                    refine t_off rfl hE rfl rfl rfl (fun a ea => ?_)
                    have hE := Env.put_some hE rfl ea; clear ea
                    refine t_off rfl hE rfl rfl rfl (fun a ea => ?_)
                    have hE := Env.put_some hE rfl ea; clear ea
                    refine t_off rfl hE rfl rfl rfl (fun a ea => ?_)
                    have hE := Env.put_some hE rfl ea; clear ea
                    refine t_off rfl hE rfl rfl rfl (fun a ea => ?_)
                    have hE := Env.put_some hE rfl ea; clear ea
                    refine t_val rfl rfl hE rfl (r_pick_t hE rfl rfl) (fun a hE => ?_)
                    refine t_nil ?_
                    exact hKr _ _ _ (hE.cut (.cons rfl (.cons rfl (.cons rfl (.cons rfl (.cons rfl (.cons rfl (.cons rfl (.cons rfl Subs.nil))))))))) hR H
                  · replace H := M.ite_f hb H
                    have hE := hE.reb 63 x62_42 false hb rfl
                    refine t_on rfl hE rfl rfl rfl ?_
                    refine t_val (v := .int .i64 x11_32) rfl rfl hE rfl (r_move hE rfl) (fun a hE => ?_)
                    refine t_on rfl hE rfl rfl rfl ?_
                    refine t_val (v := .bool (x11_32 == 0)) rfl rfl hE rfl (r_bin hE rfl rfl g_int b_eql) (fun a hE => ?_)
                    refine t_on rfl hE rfl rfl rfl ?_
                    refine t_val (v := .pointer x15_3.1) rfl rfl hE rfl (r_move hE rfl) (fun a hE => ?_)
                    refine t_on rfl hE rfl rfl rfl ?_
                    refine t_call hE hR cl_disk_Disk_Calls rfl (S_disk_Disk_Calls x15_3.1) (M.unbind H) (fun x67_44 a w ea hR H => ?_)
                    have hE := Env.put_some hE rfl ea; clear ea
                    refine t_on rfl hE rfl rfl rfl ?_
                    refine t_val (v := .int .i64 x42_29) rfl rfl hE rfl (r_move hE rfl) (fun a hE => ?_)
                    refine t_on rfl hE rfl rfl rfl ?_
                    refine t_val (v := .int .i64 (IntKind.wrap .i64 (x67_44 - x42_29))) rfl rfl hE rfl (r_bin hE rfl rfl g_int b_sub) (fun a hE => ?_)
                    refine t_on rfl hE rfl rfl rfl ?_
                    refine t_val (v := .bool ((IntKind.wrap .i64 (x67_44 - x42_29)) == 1)) rfl rfl hE rfl (r_bin hE rfl rfl g_int b_eql) (fun a hE => ?_)
                    refine t_on rfl hE rfl rfl rfl ?_
                    refine t_val (v := .bool ((x11_32 == 0) != ((IntKind.wrap .i64 (x67_44 - x42_29)) == 1))) rfl rfl hE rfl (r_bin hE rfl rfl g_bool (b_neqB un4)) (fun a hE => ?_)
                    refine t_val rfl rfl hE rfl (r_pick_f hE rfl rfl) (fun a hE => ?_)
                    refine t_nil ?_
                    exact hKr _ _ _ (hE.cut (.cons rfl (.cons rfl (.cons rfl (.cons rfl (.cons rfl (.cons rfl (.cons rfl (.cons rfl Subs.nil))))))))) hR H
                · intro x72_43 a w hE hR H
                  refine t_val (v := .bool x72_43) rfl rfl hE rfl (r_move hE rfl) (fun a hE => ?_)
                  refine t_grp (n := (⟨124, []⟩ : Frm)) (w0 := w0) 8 (fun x81_45 : Bool => [(0, .int .u8 x0), (5, .pointer x15_3.1), (10, .bool x44_30), (35, (x1 : Sl).v), (36, .int .i64 (x1.len : Int)), (37, .int .i64 x37_14), (81, .bool x81_45)]) (M.unbind H) (fun Kr hKr H => ?_) ?_
                  · rcases bool_em x72_43 with hb | hb
                    · replace H := M.ite_t hb H
                      have hE := hE.reb 73 x72_43 true hb rfl
                      refine t_off rfl hE rfl rfl rfl (fun a ea => ?_)
                      have hE := Env.put_some hE rfl ea; clear ea
                      refine t_off rfl hE rfl rfl rfl (fun a ea => ?_)
                      have hE := Env.put_some hE rfl ea; clear ea
                      refine t_off rfl hE rfl rfl rfl (fun a ea => ?_)
                      have hE := Env.put_some hE rfl ea; clear ea
                      refine t_off' rfl hE rfl rfl (fun b hb => by cases hb) (fun a ea => ?_)
                      have hE := Env.put_some hE rfl ea; clear ea
                      refine t_off' rfl hE rfl rfl (fun b hb => by cases hb) (fun a ea => ?_)
                      have hE := Env.put_some hE rfl ea; clear ea
                      refine t_off' rfl hE rfl rfl (fun b hb => by cases hb) (fun a ea => ?_)
                      have hE := Env.put_some hE rfl ea; clear ea
                      refine t_off rfl hE rfl rfl rfl (fun a ea => ?_)
                      have hE := Env.put_some hE rfl ea; clear ea
                      refine t_val rfl rfl hE rfl (r_pick_t hE rfl rfl) (fun a hE => ?_)
                      refine t_nil ?_
                      exact hKr _ _ _ (hE.cut (.cons rfl (.cons rfl (.cons rfl (.cons rfl (.cons rfl (.cons rfl (.cons rfl Subs.nil)))))))) hR H
                    · replace H := M.ite_f hb H
                      have hE := hE.reb 73 x72_43 false hb rfl
                      refine t_on rfl hE rfl rfl rfl ?_
                      refine t_val (v := .int .i64 x11_32) rfl rfl hE rfl (r_move hE rfl) (fun a hE => ?_)
                      refine t_on rfl hE rfl rfl rfl ?_
                      refine t_val (v := .bool (x11_32 != 0)) rfl rfl hE rfl (r_bin hE rfl rfl g_int b_neq) (fun a hE => ?_)
                      refine t_on rfl hE rfl rfl rfl ?_
                      refine t_val (v := .bool (x11_32 != 0)) rfl rfl hE rfl (r_move hE rfl) (fun a hE => ?_)
                      refine t_grp (n := (⟨124, []⟩ : Frm)) (w0 := w0) 4 (fun x80_46 : Bool => [(0, .int .u8 x0), (5, .pointer x15_3.1), (10, .bool x44_30), (35, (x1 : Sl).v), (36, .int .i64 (x1.len : Int)), (37, .int .i64 x37_14), (73, .bool false), (80, .bool x80_46)]) (M.unbind H) (fun Kr hKr H => ?_) ?_
                      · rcases bool_em (x11_32 != 0) with hb | hb
                        · replace H := M.ite_t hb H
                          have hE := hE.reb 76 (x11_32 != 0) true hb rfl
                          refine t_on rfl hE rfl rfl rfl ?_
                          refine t_val (v := .pointer x15_3.1) rfl rfl hE rfl (r_move hE rfl) (fun a hE => ?_)
                          refine t_on rfl hE rfl rfl rfl ?_
                          refine t_call hE hR cl_disk_Disk_Down rfl (S_disk_Disk_Down x15_3.1) (M.unbind H) (fun x78_47 a w ea hR H => ?_)
                          have hE := Env.put_some hE rfl ea; clear ea
                          refine t_on rfl hE rfl rfl rfl ?_
                          refine t_val (v := .bool (!x78_47)) rfl rfl hE rfl (r_un hE rfl u_not) (fun a hE => ?_)
                          refine t_on rfl hE rfl rfl rfl ?_
                          refine t_val rfl rfl hE rfl (r_pick_t hE rfl rfl) (fun a hE => ?_)
                          refine t_nil ?_
                          exact hKr _ _ _ (hE.cut (.cons rfl (.cons rfl (.cons rfl (.cons rfl (.cons rfl (.cons rfl (.cons rfl (.cons rfl Subs.nil))))))))) hR H
                        · replace H := M.ite_f hb H
                          have hE := hE.reb 76 (x11_32 != 0) false hb rfl
                          refine t_off rfl hE rfl rfl rfl (fun a ea => ?_)
                          have hE := Env.put_some hE rfl ea; clear ea
                          refine t_off rfl hE rfl rfl rfl (fun a ea => ?_)
                          have hE := Env.put_some hE rfl ea; clear ea
                          refine t_off rfl hE rfl rfl rfl (fun a ea => ?_)
                          have hE := Env.put_some hE rfl ea; clear ea
                          refine t_on rfl hE rfl rfl rfl ?_
                          refine t_val rfl rfl hE rfl (r_pick_f hE rfl rfl) (fun a hE => ?_)
                          refine t_nil ?_
                          exact hKr _ _ _ (hE.cut (.cons rfl (.cons rfl (.cons rfl (.cons rfl (.cons rfl (.cons rfl (.cons rfl (.cons rfl Subs.nil))))))))) hR H
                      · intro x80_46 a w hE hR H
                        refine t_val rfl rfl hE rfl (r_pick_f hE rfl rfl) (fun a hE => ?_)
                        refine t_nil ?_
                        exact hKr _ _ _ (hE.cut (.cons rfl (.cons rfl (.cons rfl (.cons rfl (.cons rfl (.cons rfl (.cons rfl Subs.nil)))))))) hR H
                  · intro x81_45 a w hE hR H
                    refine t_nil ?_
                    refine hK_41 _ _ ?_
                    refine w_cond x81_45 hE rfl (fun hb => ?_) (fun hb => ?_)
                    · replace H := M.ite_t hb H
                      refine w_seq (fun K hK_48 => ?_)
                      refine t_region ?_
                      refine t_val (v := .bool false) rfl rfl hE rfl (r_assign hE rfl) (fun a hE => ?_)
                      refine t_nil ?_
                      refine hK_48 _ _ ?_
                      refine w_ret ?_
                      exact hret _ _ _ false _ hE hR (res_run hE rfl (RV.tmp rfl RV.nil)) rfl H
                    · replace H := M.ite_f hb H
                      refine w_skip ?_
                      refine hK_40 _ _ ?_
                      refine w_seq (fun K hK_49 => ?_)
                      refine t_region ?_
                      refine t_val (v := .bool x44_30) rfl rfl hE rfl (r_move hE rfl) (fun a hE => ?_)
                      refine t_val (v := .bool (!x44_30)) rfl rfl hE rfl (r_un hE rfl u_not) (fun a hE => ?_)
                      refine t_val (v := .bool (!x44_30)) rfl rfl hE rfl (r_move hE rfl) (fun a hE => ?_)
                      refine t_grp (n := (⟨124, []⟩ : Frm)) (w0 := w0) 3 (fun x87_50 : Bool => [(0, .int .u8 x0), (5, .pointer x15_3.1), (35, (x1 : Sl).v), (36, .int .i64 (x1.len : Int)), (37, .int .i64 x37_14), (87, .bool x87_50)]) (M.unbind H) (fun Kr hKr H => ?_) ?_
                      · rcases bool_em (!x44_30) with hb | hb
                        · replace H := M.ite_t hb H
                          have hE := hE.reb 84 (!x44_30) true hb rfl
                          refine t_on rfl hE rfl rfl rfl ?_
                          refine t_val (v := .pointer x15_3.1) rfl rfl hE rfl (r_move hE rfl) (fun a hE => ?_)
                          refine t_on rfl hE rfl rfl rfl ?_
                          refine t_call hE hR cl_disk_Disk_Down rfl (S_disk_Disk_Down x15_3.1) (M.unbind H) (fun x86_51 a w ea hR H => ?_)
                          have hE := Env.put_some hE rfl ea; clear ea
                          refine t_val rfl rfl hE rfl (r_pick_t hE rfl rfl) (fun a hE => ?_)
                          refine t_nil ?_
                          exact hKr _ _ _ (hE.cut (.cons rfl (.cons rfl (.cons rfl (.cons rfl (.cons rfl (.cons rfl Subs.nil))))))) hR H
                        · replace H := M.ite_f hb H
                          have hE := hE.reb 84 (!x44_30) false hb rfl
                          refine t_off rfl hE rfl rfl rfl (fun a ea => ?_)
                          have hE := Env.put_some hE rfl ea; clear ea
                          refine t_off rfl hE rfl rfl rfl (fun a ea => ?_)
                          have hE := Env.put_some hE rfl ea; clear ea
                          refine t_val rfl rfl hE rfl (r_pick_f hE rfl rfl) (fun a hE => ?_)
                          refine t_nil ?_
                          exact hKr _ _ _ (hE.cut (.cons rfl (.cons rfl (.cons rfl (.cons rfl (.cons rfl (.cons rfl Subs.nil))))))) hR H
                      · intro x87_50 a w hE hR H
                        refine t_val (v := .bool x87_50) rfl rfl hE rfl (r_move hE rfl) (fun a hE => ?_)
                        refine t_grp (n := (⟨124, []⟩ : Frm)) (w0 := w0) 11 (fun x99_52 : Bool => [(0, .int .u8 x0), (5, .pointer x15_3.1), (35, (x1 : Sl).v), (36, .int .i64 (x1.len : Int)), (37, .int .i64 x37_14), (99, .bool x99_52)]) (M.unbind H) (fun Kr hKr H => ?_) ?_
                        · rcases bool_em x87_50 with hb | hb
                          · replace H := M.ite_t hb H
                            have hE := hE.reb 88 x87_50 true hb rfl
                            refine t_on rfl hE rfl rfl rfl ?_
                            refine t_val (v := .int .u8 x0) rfl rfl hE rfl (r_move hE rfl) (fun a hE => ?_)
                            refine t_on rfl hE rfl rfl rfl ?_
                            refine t_val (v := .bool (x0 == 0)) rfl rfl hE rfl (r_bin hE rfl rfl g_int b_eql) (fun a hE => ?_)
                            refine t_on rfl hE rfl rfl rfl ?_
                            refine t_val (v := .bool (x0 == 0)) rfl rfl hE rfl (r_move hE rfl) (fun a hE => ?_)
                            refine t_grp (n := (⟨124, []⟩ : Frm)) (w0 := w0) 7 (fun x98_53 : Bool => [(0, .int .u8 x0), (5, .pointer x15_3.1), (35, (x1 : Sl).v), (36, .int .i64 (x1.len : Int)), (37, .int .i64 x37_14), (88, .bool true), (98, .bool x98_53)]) (M.unbind H) (fun Kr hKr H => ?_) ?_
                            · rcases bool_em (x0 == 0) with hb | hb
                              · replace H := M.ite_t hb H
                                have hE := hE.reb 91 (x0 == 0) true hb rfl
                                refine t_off rfl hE rfl rfl rfl (fun a ea => ?_)
                                have hE := Env.put_some hE rfl ea; clear ea
                                refine t_off rfl hE rfl rfl rfl (fun a ea => ?_)
                                have hE := Env.put_some hE rfl ea; clear ea
                                refine t_off rfl hE rfl rfl rfl (fun a ea => ?_)
                                have hE := Env.put_some hE rfl ea; clear ea
                                refine t_off rfl hE rfl rfl rfl (fun a ea => ?_)
                                have hE := Env.put_some hE rfl ea; clear ea
                                refine t_off rfl hE rfl rfl rfl (fun a ea => ?_)
                                have hE := Env.put_some hE rfl ea; clear ea
                                refine t_off rfl hE rfl rfl rfl (fun a ea => ?_)
                                have hE := Env.put_some hE rfl ea; clear ea
                                refine t_on rfl hE rfl rfl rfl ?_
                                refine t_val rfl rfl hE rfl (r_pick_t hE rfl rfl) (fun a hE => ?_)
                                refine t_nil ?_
                                exact hKr _ _ _ (hE.cut (.cons rfl (.cons rfl (.cons rfl (.cons rfl (.cons rfl (.cons rfl (.cons rfl Subs.nil)))))))) hR H
                              · replace H := M.ite_f hb H
                                have hE := hE.reb 91 (x0 == 0) false hb rfl
                                refine t_on rfl hE rfl rfl rfl ?_
                                refine t_val (v := .pointer x15_3.1) rfl rfl hE rfl (r_move hE rfl) (fun a hE => ?_)
                                refine t_on rfl hE rfl rfl rfl ?_
                                refine t_call hE hR cl_disk_Disk_Calls rfl (S_disk_Disk_Calls x15_3.1) (M.unbind H) (fun x93_54 a w ea hR H => ?_)
                                have hE := Env.put_some hE rfl ea; clear ea
                                refine t_on rfl hE rfl rfl rfl ?_
                                refine t_val (v := .int .u8 x0) rfl rfl hE rfl (r_move hE rfl) (fun a hE => ?_)
                                refine t_on rfl hE rfl rfl rfl ?_
                                refine t_val (v := .int .i64 (IntKind.wrap .i64 x0)) rfl rfl hE rfl (r_convI hE rfl un5 un2) (fun a hE => ?_)
                                refine t_on rfl hE rfl rfl rfl ?_
                                refine t_val (v := .int .i64 (IntKind.wrap .i64 ((IntKind.wrap .i64 x0) - 1))) rfl rfl hE rfl (r_bin hE rfl rfl g_int b_sub) (fun a hE => ?_)
                                refine t_on rfl hE rfl rfl rfl ?_
                                refine t_val (v := .bool (x93_54 != (IntKind.wrap .i64 ((IntKind.wrap .i64 x0) - 1)))) rfl rfl hE rfl (r_bin hE rfl rfl g_int b_neq) (fun a hE => ?_)
                                refine t_on rfl hE rfl rfl rfl ?_
                                refine t_val rfl rfl hE rfl (r_pick_f hE rfl rfl) (fun a hE => ?_)
                                refine t_nil ?_
                                exact hKr _ _ _ (hE.cut (.cons rfl (.cons rfl (.cons rfl (.cons rfl (.cons rfl (.cons rfl (.cons rfl Subs.nil)))))))) hR H
                            · intro x98_53 a w hE hR H
                              refine t_val rfl rfl hE rfl (r_pick_t hE rfl rfl) (fun a hE => ?_)
                              refine t_nil ?_
                              exact hKr _ _ _ (hE.cut (.cons rfl (.cons rfl (.cons rfl (.cons rfl (.cons rfl (.cons rfl Subs.nil))))))) hR H
                          · replace H := M.ite_f hb H
                            have hE := hE.reb 88 x87_50 false hb rfl
                            refine t_off rfl hE rfl rfl rfl (fun a ea => ?_)
                            have hE := Env.put_some hE rfl ea; clear ea
                            refine t_off rfl hE rfl rfl rfl (fun a ea => ?_)
                            have hE := Env.put_some hE rfl ea; clear ea
                            refine t_off rfl hE rfl rfl rfl (fun a ea => ?_)
                            have hE := Env.put_some hE rfl ea; clear ea
                            refine t_off' rfl hE rfl rfl (fun b hb => by cases hb) (fun a ea => ?_)
                            have hE := Env.put_some hE rfl ea; clear ea
                            refine t_off' rfl hE rfl rfl (fun b hb => by cases hb) (fun a ea => ?_)
                            have hE := Env.put_some hE rfl ea; clear ea
                            refine t_off' rfl hE rfl rfl (fun b hb => by cases hb) (fun a ea => ?_)
                            have hE := Env.put_some hE rfl ea; clear ea
                            refine t_off' rfl hE rfl rfl (fun b hb => by cases hb) (fun a ea => ?_)
                            have hE := Env.put_some hE rfl ea; clear ea
                            refine t_off' rfl hE rfl rfl (fun b hb => by cases hb) (fun a ea => ?_)
                            have hE := Env.put_some hE rfl ea; clear ea
                            refine t_off' rfl hE rfl rfl (fun b hb => by cases hb) (fun a ea => ?_)
                            have hE := Env.put_some hE rfl ea; clear ea
                            refine t_off rfl hE rfl rfl rfl (fun a ea => ?_)
                            have hE := Env.put_some hE rfl ea; clear ea
                            refine t_val rfl rfl hE rfl (r_pick_f hE rfl rfl) (fun a hE => ?_)
                            refine t_nil ?_
                            exact hKr _ _ _ (hE.cut (.cons rfl (.cons rfl (.cons rfl (.cons rfl (.cons rfl (.cons rfl Subs.nil))))))) hR H
                        · intro x99_52 a w hE hR H
                          refine t_nil ?_
                          refine hK_49 _ _ ?_
                          refine w_cond x99_52 hE rfl (fun hb => ?_) (fun hb => ?_)
                          · replace H := M.ite_t hb H
                            refine w_seq (fun K hK_55 => ?_)
                            refine t_region ?_
                            refine t_val (v := .bool false) rfl rfl hE rfl (r_assign hE rfl) (fun a hE => ?_)
                            refine t_nil ?_
                            refine hK_55 _ _ ?_
                            refine w_ret ?_
                            exact hret _ _ _ false _ hE hR (res_run hE rfl (RV.tmp rfl RV.nil)) rfl H
                          · replace H := M.ite_f hb H
                            refine w_skip ?_
                            refine hK_22 _ _ ?_
                            refine t_region ?_
                            refine t_val (v := .int .i64 (IntKind.wrap .i64 (x37_14 + 1))) rfl rfl hE rfl (r_bin hE rfl rfl g_int b_add) (fun a hE => ?_)
                            refine t_val (v := .int .i64 (IntKind.wrap .i64 (x37_14 + 1))) rfl rfl hE rfl (r_move hE rfl) (fun a hE => ?_)
                            refine t_nil ?_
                            exact hY_19 (IntKind.wrap .i64 (x37_14 + 1)) _ _ (hE.cut (.cons rfl (.cons rfl (.cons rfl (.cons rfl (.cons rfl Subs.nil)))))) hR H
            · skip
              refine w_seq (fun K hK_56 => ?_)
              refine t_region ?_
              refine t_val (v := .pointer (some ((x8_26).add 0))) rfl rfl hE rfl (r_fieldAddr hE rfl fd51_0) (fun a hE => ?_)
              obtain ⟨x46_57, qx46_57, H⟩ := H
              refine t_val (v := .int .i64 x46_57) rfl rfl hE rfl (r_load hE rfl sc3 qx46_57) (fun a hE => ?_)
              refine t_val (v := .bool (x46_57 == 2)) rfl rfl hE rfl (r_bin hE rfl rfl g_int b_eql) (fun a hE => ?_)
              refine t_nil ?_
              refine hK_56 _ _ ?_
              refine w_cond (x46_57 == 2) hE rfl (fun hb => ?_) (fun hb => ?_)
              · replace H := M.ite_t hb H
                refine t_region ?_
                refine t_val (v := .pointer x15_3.1) rfl rfl hE rfl (r_move hE rfl) (fun a hE => ?_)
                refine t_call hE hR cl_disk_Disk_Flush rfl (S_disk_Disk_Flush x15_3.1) (M.unbind H) (fun x49_58 a w ea hR H => ?_)
                have hE := Env.put_some hE rfl ea; clear ea
                refine t_val (v := .int .i64 x49_58) rfl rfl hE rfl (r_assign hE rfl) (fun a hE => ?_)
                refine t_nil ?_
                exact ⟨x49_58, hE.cut (.cons rfl (.cons rfl (.cons rfl (.cons rfl (.cons rfl (.cons rfl (.cons rfl (.cons rfl Subs.nil)))))))), hR, H⟩
              · replace H := M.ite_f hb H
                obtain ⟨x52_59, qx52_59, H⟩ := H
                obtain ⟨x55_60, qx55_60, H⟩ := H
                have hT := tab_of tb6_11 rfl rfl
                refine d_start (fun w : World => (fun h : Heap => (hcell h ((x8_26).add 1) = some (.int .i64 x52_59)) ∧ (hcell h ((x8_26).add 2) = some (.int .u8 x55_60))) w.heap) [7, 8] #[false, false, false, false, false, false, false, false, false] mo hR rfl rfl (fun w' e => by rw [e]; exact ⟨qx52_59, qx55_60⟩) (fun w hh hR hs => ?_)
                replace H := M.at hh H; clear hh
                refine d_pureg (i := 0) (v := .pointer x15_3.1) #[true, false, false, false, false, false, false, false, false] rfl rfl hT (by kernel_rfl) hE rfl (wanted_none rfl) (fun w => r_move hE rfl) (fun a hE => ?_)
                refine d_pureg (i := 1) (v := .pointer (some ((x8_26).add 1))) #[true, true, false, false, false, false, false, false, false] rfl rfl hT (by kernel_rfl) hE rfl (wanted_none rfl) (fun w => r_fieldAddr hE rfl fd51_1) (fun a hE => ?_)
                refine d_pureg (i := 4) (v := .pointer (some ((x8_26).add 2))) #[true, true, false, false, true, false, false, false, false] rfl rfl hT (by kernel_rfl) hE rfl (wanted_none rfl) (fun w => r_fieldAddr hE rfl fd51_2) (fun a hE => ?_)
                refine d_read (i := 2) (v := .int .i64 x52_59) #[true, true, true, false, true, false, false, false, false] rfl rfl hT (by kernel_rfl) hE rfl (wanted_none rfl) hs (fun w s => r_load hE rfl sc3 s.1) (fun a hE => ?_)
                refine d_pureg (i := 3) (v := .int .i64 (iAnd .i64 x52_59 7)) #[true, true, true, true, true, false, false, false, false] rfl rfl hT (by kernel_rfl) hE rfl (wanted_none rfl) (fun w => r_bin hE rfl rfl g_int b_and) (fun a hE => ?_)
                refine d_read (i := 5) (v := .int .u8 x55_60) #[true, true, true, true, true, true, false, false, false] rfl rfl hT (by kernel_rfl) hE rfl (wanted_none rfl) hs (fun w s => r_load hE rfl sc5 s.2) (fun a hE => ?_)
                refine d_call (i := 6) #[true, true, true, true, true, true, true, false, false] rfl rfl rfl hT (by kernel_rfl) rfl hE hR (wanted_none rfl) cl_ramblelaw04_filled rfl (S_ramblelaw04_filled x55_60) (M.unbind H) (fun r h H w' e => by obtain ⟨_, sA, H⟩ := H; rw [e]; exact sA) (fun x56_61 a w ea hR H hs => ?_)
                obtain ⟨_, sA, H⟩ := H; clear sA
                have hE := Env.put_some hE rfl ea; clear ea
                refine d_calll (i := 7) #[true, true, true, true, true, true, true, true, false] rfl rfl rfl hT (by kernel_rfl) rfl hE hR (wanted_none rfl) cl_disk_Disk_Write rfl (S_disk_Disk_Write x15_3.1 (iAnd .i64 x52_59 7) x56_61) (M.unbind H) (fun x57_62 a w ea hR H => ?_)
                have hE := Env.put_some hE rfl ea; clear ea
                refine d_pureg (i := 8) (v := .int .i64 x57_62) #[true, true, true, true, true, true, true, true, true] rfl rfl hT (by kernel_rfl) hE rfl (wanted_none rfl) (fun w => r_assign hE rfl) (fun a hE => ?_)
                refine d_done hT (by kernel_rfl) ?_
                exact ⟨x57_62, hE.cut (.cons rfl (.cons rfl (.cons rfl (.cons rfl (.cons rfl (.cons rfl (.cons rfl (.cons rfl Subs.nil)))))))), hR, H⟩
          · replace H := M.ite_f hb H
            refine w_exit ?_
            refine Xu.same ?_
            refine hK_12 _ _ ?_
            refine w_seq (fun K hK_63 => ?_)
            refine w_seq (fun K hK_64 => ?_)
            refine t_region ?_
            refine t_val (v := .pointer x15_3.1) rfl rfl hE rfl (r_move hE rfl) (fun a hE => ?_)
            refine t_call hE hR cl_disk_Disk_Down rfl (S_disk_Disk_Down x15_3.1) (M.unbind H) (fun x102_65 a w ea hR H => ?_)
            have hE := Env.put_some hE rfl ea; clear ea
            refine t_nil ?_
            refine hK_64 _ _ ?_
            refine w_cond x102_65 hE rfl (fun hb => ?_) (fun hb => ?_)
            · replace H := M.ite_t hb H
              refine w_seq (fun K hK_66 => ?_)
              refine t_region ?_
              refine t_val (v := .pointer x15_3.1) rfl rfl hE rfl (r_move hE rfl) (fun a hE => ?_)
              refine t_call hE hR cl_disk_Disk_Read rfl (S_disk_Disk_Read x15_3.1 0) (M.unbind H) (fun x105_67 a w ea hR H => ?_)
              have hE := Env.put_some hE rfl ea; clear ea
              refine t_val (v := .tuple #[.agg x105_67.1, .int .i64 x105_67.2]) rfl rfl hE rfl (r_move hE rfl) (fun a hE => ?_)
              refine t_val (v := .agg x105_67.1) rfl rfl hE rfl (r_extract hE rfl rfl) (fun a hE => ?_)
              refine t_val (v := .int .i64 x105_67.2) rfl rfl hE rfl (r_extract hE rfl rfl) (fun a hE => ?_)
              obtain ⟨x12_68, qx12_68, H⟩ := H
              refine t_valh (v := .pointer (some x12_68)) rfl rfl hE rfl hR (r_alloc zr47 qx12_68) (fun a w hE hR hh => ?_)
              replace H := M.at hh H; clear hh
              obtain ⟨qz, H⟩ := H
              obtain ⟨u_69, qu_69, H⟩ := H
              refine t_sth rfl rfl hE hR (r_storeG hE rfl rfl sz47 qz qu_69) (fun a w hE hR hh => ?_)
              replace H := M.at hh H; clear hh
              refine t_val (v := .int .i64 x105_67.2) rfl rfl hE rfl (r_assign hE rfl) (fun a hE => ?_)
              refine t_nil ?_
              refine hK_66 _ _ ?_
              refine w_seq (fun K hK_70 => ?_)
              refine t_region ?_
              refine t_val (v := .int .i64 x105_67.2) rfl rfl hE rfl (r_move hE rfl) (fun a hE => ?_)
              refine t_val (v := .bool (x105_67.2 == 9)) rfl rfl hE rfl (r_bin hE rfl rfl g_int b_eql) (fun a hE => ?_)
              refine t_val (v := .bool (x105_67.2 == 9)) rfl rfl hE rfl (r_move hE rfl) (fun a hE => ?_)
              refine t_grp (n := (⟨124, []⟩ : Frm)) (w0 := w0) 4 (fun x114_71 : Bool => [(114, .bool x114_71)]) (M.unbind H) (fun Kr hKr H => ?_) ?_
              · rcases bool_em (x105_67.2 == 9) with hb | hb
                · replace H := M.ite_t hb H
                  have hE := hE.reb 110 (x105_67.2 == 9) true hb rfl
                  refine t_on rfl hE rfl rfl rfl ?_
                  refine t_val (v := .pointer x15_3.1) rfl rfl hE rfl (r_move hE rfl) (fun a hE => ?_)
                  refine t_on rfl hE rfl rfl rfl ?_
                  refine t_call hE hR cl_disk_Disk_Flush rfl (S_disk_Disk_Flush x15_3.1) (M.unbind H) (fun x112_72 a w ea hR H => ?_)
                  have hE := Env.put_some hE rfl ea; clear ea
                  refine t_on rfl hE rfl rfl rfl ?_
                  refine t_val (v := .bool (x112_72 == 9)) rfl rfl hE rfl (r_bin hE rfl rfl g_int b_eql) (fun a hE => ?_)
                  refine t_val rfl rfl hE rfl (r_pick_t hE rfl rfl) (fun a hE => ?_)
                  refine t_nil ?_
                  exact hKr _ _ _ (hE.cut (.cons rfl Subs.nil)) hR H
                · replace H := M.ite_f hb H
                  have hE := hE.reb 110 (x105_67.2 == 9) false hb rfl
                  refine t_off rfl hE rfl rfl rfl (fun a ea => ?_)
                  have hE := Env.put_some hE rfl ea; clear ea
                  refine t_off rfl hE rfl rfl rfl (fun a ea => ?_)
                  have hE := Env.put_some hE rfl ea; clear ea
                  refine t_off rfl hE rfl rfl rfl (fun a ea => ?_)
                  have hE := Env.put_some hE rfl ea; clear ea
                  refine t_val rfl rfl hE rfl (r_pick_f hE rfl rfl) (fun a hE => ?_)
                  refine t_nil ?_
                  exact hKr _ _ _ (hE.cut (.cons rfl Subs.nil)) hR H
              · intro x114_71 a w hE hR H
                refine t_val (v := .bool x114_71) rfl rfl hE rfl (r_assign hE rfl) (fun a hE => ?_)
                refine t_nil ?_
                refine hK_70 _ _ ?_
                refine w_ret ?_
                exact hret _ _ _ x114_71 _ hE hR (res_run hE rfl (RV.tmp rfl RV.nil)) rfl H
            · replace H := M.ite_f hb H
              refine w_skip ?_
              refine hK_63 _ _ ?_
              refine w_seq (fun K hK_73 => ?_)
              refine t_region ?_
              refine t_val (v := .int .u8 x0) rfl rfl hE rfl (r_move hE rfl) (fun a hE => ?_)
              refine t_val (v := .bool (x0 == 0)) rfl rfl hE rfl (r_bin hE rfl rfl g_int b_eql) (fun a hE => ?_)
              refine t_val (v := .bool (x0 == 0)) rfl rfl hE rfl (r_move hE rfl) (fun a hE => ?_)
              refine t_grp (n := (⟨124, []⟩ : Frm)) (w0 := w0) 6 (fun x123_74 : Bool => [(123, .bool x123_74)]) (M.unbind H) (fun Kr hKr H => ?_) ?_
              · rcases bool_em (x0 == 0) with hb | hb
                · replace H := M.ite_t hb H
                  have hE := hE.reb 117 (x0 == 0) true hb rfl
                  refine t_off rfl hE rfl rfl rfl (fun a ea => ?_)
                  have hE := Env.put_some hE rfl ea; clear ea
                  refine t_off rfl hE rfl rfl rfl (fun a ea => ?_)
                  have hE := Env.put_some hE rfl ea; clear ea
                  refine t_off rfl hE rfl rfl rfl (fun a ea => ?_)
                  have hE := Env.put_some hE rfl ea; clear ea
                  refine t_off rfl hE rfl rfl rfl (fun a ea => ?_)
                  have hE := Env.put_some hE rfl ea; clear ea
                  refine t_off rfl hE rfl rfl rfl (fun a ea => ?_)
                  have hE := Env.put_some hE rfl ea; clear ea
                  refine t_val rfl rfl hE rfl (r_pick_t hE rfl rfl) (fun a hE => ?_)
                  refine t_nil ?_
                  exact hKr _ _ _ (hE.cut (.cons rfl Subs.nil)) hR H
                · replace H := M.ite_f hb H
                  have hE := hE.reb 117 (x0 == 0) false hb rfl
                  refine t_on rfl hE rfl rfl rfl ?_
                  refine t_val (v := .pointer x15_3.1) rfl rfl hE rfl (r_move hE rfl) (fun a hE => ?_)
                  refine t_on rfl hE rfl rfl rfl ?_
                  refine t_call hE hR cl_disk_Disk_Calls rfl (S_disk_Disk_Calls x15_3.1) (M.unbind H) (fun x119_75 a w ea hR H => ?_)
                  have hE := Env.put_some hE rfl ea; clear ea
                  refine t_on rfl hE rfl rfl rfl ?_
                  refine t_val (v := .int .u8 x0) rfl rfl hE rfl (r_move hE rfl) (fun a hE => ?_)
                  refine t_on rfl hE rfl rfl rfl ?_
                  refine t_val (v := .int .i64 (IntKind.wrap .i64 x0)) rfl rfl hE rfl (r_convI hE rfl un5 un2) (fun a hE => ?_)
                  refine t_on rfl hE rfl rfl rfl ?_
                  refine t_val (v := .bool (decide (x119_75 < (IntKind.wrap .i64 x0)))) rfl rfl hE rfl (r_bin hE rfl rfl g_int b_lss) (fun a hE => ?_)
                  refine t_val rfl rfl hE rfl (r_pick_f hE rfl rfl) (fun a hE => ?_)
                  refine t_nil ?_
                  exact hKr _ _ _ (hE.cut (.cons rfl Subs.nil)) hR H
              · intro x123_74 a w hE hR H
                refine t_val (v := .bool x123_74) rfl rfl hE rfl (r_assign hE rfl) (fun a hE => ?_)
                refine t_nil ?_
                refine hK_73 _ _ ?_
                refine w_ret ?_
                exact hret _ _ _ x123_74 _ hE hR (res_run hE rfl (RV.tmp rfl RV.nil)) rfl H

end Gx
namespace Gx
open Go
set_option linter.unusedVariables false
set_option maxRecDepth 100000
/-- (*ramble/disk.Disk).Burst -/
def disk_Disk_Burst_j1 (self1 : (Int) → M (Int)) (c29_31 : Int) : M (Int) := do
  self1 (IntKind.wrap .i64 (c29_31 + 1))
noncomputable def ro32_13 : Array Oper := opsOf Go.Proofs.Try.f32 13
def tE32_13 : List (List Nat) := [[], [0], [1], [2], [], [], [5], [3, 4], [7, 6], [8], [], [10], [11], [9, 12], [3, 4], [14, 6, 0, 1, 2, 3, 4, 5, 6, 7, 8, 9, 10, 11, 12, 13], [15, 13, 0, 1, 2, 3, 4, 5, 6, 7, 8, 9, 10, 11, 12, 13]]
def tC32_13 : List (List Nat) := [[], [0], [1], [2], [], [], [5], [3, 4], [6, 7], [8], [], [10], [11], [9, 12], [3, 4], [6, 14], [13, 15]]
def tW32_13 : List (List Nat) := [[], [0], [0, 1], [0, 1, 2], [], [], [5], [0, 1, 2, 3, 4], [0, 1, 2, 3, 4, 5, 6, 7], [0, 1, 2, 3, 4, 5, 6, 7, 8], [], [10], [10, 11], [0, 1, 2, 3, 4, 5, 6, 7, 8, 9, 10, 11, 12], [0, 1, 2, 3, 4], [0, 1, 2, 3, 4, 5, 6, 7, 8, 9, 10, 11, 12, 13, 14], [0, 1, 2, 3, 4, 5, 6, 7, 8, 9, 10, 11, 12, 13, 14, 15]]
theorem tb32_13 : tabAt Go.Proofs.Try.f32 13 tE32_13 tC32_13 tW32_13 = true := by kernel_rfl
theorem tb32_13m : tabMB 17 tE32_13 tC32_13 tW32_13 [0, 1, 2, 4, 0, 0, 32, 24, 192, 256, 0, 1024, 2048, 4608, 24, 32767, 49151] [0, 1, 2, 4, 0, 0, 32, 24, 192, 256, 0, 1024, 2048, 4608, 24, 16448, 40960] [0, 1, 3, 7, 0, 0, 32, 31, 255, 511, 0, 1024, 3072, 8191, 31, 32767, 65535] = true := by kernel_rfl
def disk_Disk_Burst_l1 (c0_18 : Option Addr) (c1_19 : Int) (c2_20 : Int) (c3_21 : Int) (c28_22 : Int) (self1 : (Int) → M (Int)) : (Int) → M (Int) := fun s => match s with
  | x29_17 => do
    M.ite (decide (x29_17 < c28_22)) (do
      let x34_34 ← pShr .u32 c3_21 x29_17
      M.ite ((iAnd .u32 x34_34 1) == 1) (do
        let x41_36 ← nilP c0_18
        let x52_37 ← pShl .u8 1 (Int.tmod (IntKind.wrap .i64 (c2_20 + x29_17)) 8)
        let x43_38 ← ldL ((x41_36).add 0)
        let x47_39 ← ixL x43_38 c1_19 128
        let x48_40 ← ixA x47_39 128 (IntKind.wrap .i64 (Int.tdiv (IntKind.wrap .i64 (c2_20 + x29_17)) 8)) 1
        let x54_41 ← ixL x43_38 c1_19 128
        let x49_42 ← ldI .u8 x48_40
        let x55_43 ← ixA x54_41 128 (IntKind.wrap .i64 (Int.tdiv (IntKind.wrap .i64 (c2_20 + x29_17)) 8)) 1
        stV x55_43 (.int .u8 (iXor .u8 x49_42 x52_37))
        disk_Disk_Burst_j1 self1 x29_17
        ) (do
        disk_Disk_Burst_j1 self1 x29_17
        )
      ) (do
      M.pure 0
      )
def disk_Disk_Burst (x0 : Option Addr) (x1 : Int) (x2 : Int) (x3 : Int) : M (Int) := do
  let x13_4 ← disk_Disk_none x0
  M.ite x13_4 (do
    M.pure 2
    ) (do
    let x16_8 ← disk_Disk_there x0 x1
    M.ite (x16_8 != 0) (do
      M.pure x16_8
      ) (do
      let x25_13 ← M.ite (decide (x2 < 0)) (do
        M.pure true
        ) (do
        M.pure (decide (x2 ≥ 1024))
        )
      M.ite x25_13 (do
        M.pure 1
        ) (do
        M.loop (disk_Disk_Burst_l1 x0 x1 x2 x3 (iMin 32 (IntKind.wrap .i64 (1024 - x2)))) 0
        )
      )
    )
theorem S_disk_Disk_Burst (x0 : Option Addr) (x1 : Int) (x2 : Int) (x3 : Int) : Sound Go.Proofs.Try.prog 32 #[.pointer x0, .int .i64 x1, .int .i64 x2, .int .u32 x3] (fun (r : Int) => .int .i64 r) (disk_Disk_Burst x0 x1 x2 x3) := by
  refine sound_of [(0, .pointer x0), (1, .int .i64 x1), (2, .int .i64 x2), (3, .int .u32 x3)] Go.Proofs.Try.func32 rfl rfl (Nat.le_of_ble_eq_true rfl) (args_of ⟨rfl, rfl, rfl, rfl, trivial⟩) (fun w0 w Q R a hret hE hR H => ?_)
  unfold disk_Disk_Burst at H
  refine w_seq (fun K hK_1 => ?_)
  refine t_region ?_
  refine t_val (v := .int .i64 0) rfl rfl hE rfl (r_assign hE rfl) (fun a hE => ?_)
  refine t_nil ?_
  refine hK_1 _ _ ?_
  refine w_seq (fun K hK_2 => ?_)
  refine w_seq (fun K hK_3 => ?_)
  refine t_region ?_
  refine t_val (v := .pointer x0) rfl rfl hE rfl (r_move hE rfl) (fun a hE => ?_)
  refine t_call hE hR cl_disk_Disk_none rfl (S_disk_Disk_none x0) (M.unbind H) (fun x13_4 a w ea hR H => ?_)
  have hE := Env.put_some hE rfl ea; clear ea
  refine t_nil ?_
  refine hK_3 _ _ ?_
  refine w_cond x13_4 hE rfl (fun hb => ?_) (fun hb => ?_)
  · replace H := M.ite_t hb H
    refine w_seq (fun K hK_5 => ?_)
    refine t_region ?_
    refine t_val (v := .int .i64 2) rfl rfl hE rfl (r_assign hE rfl) (fun a hE => ?_)
    refine t_nil ?_
    refine hK_5 _ _ ?_
    refine w_ret ?_
    exact hret _ _ _ 2 _ hE hR (res_run hE rfl (RV.tmp rfl RV.nil)) rfl H
  · replace H := M.ite_f hb H
    refine w_skip ?_
    refine hK_2 _ _ ?_
    refine w_seq (fun K hK_6 => ?_)
    refine w_seq (fun K hK_7 => ?_)
    refine t_region ?_
    refine t_val (v := .pointer x0) rfl rfl hE rfl (r_move hE rfl) (fun a hE => ?_)
    refine t_val (v := .int .i64 x1) rfl rfl hE rfl (r_move hE rfl) (fun a hE => ?_)
    refine t_call hE hR cl_disk_Disk_there rfl (S_disk_Disk_there x0 x1) (M.unbind H) (fun x16_8 a w ea hR H => ?_)
    have hE := Env.put_some hE rfl ea; clear ea
    refine t_val (v := .int .i64 x16_8) rfl rfl hE rfl (r_assign hE rfl) (fun a hE => ?_)
    refine t_nil ?_
    refine hK_7 _ _ ?_
    refine w_seq (fun K hK_9 => ?_)
    refine t_region ?_
    refine t_val (v := .int .i64 x16_8) rfl rfl hE rfl (r_move hE rfl) (fun a hE => ?_)
    refine t_val (v := .bool (x16_8 != 0)) rfl rfl hE rfl (r_bin hE rfl rfl g_int b_neq) (fun a hE => ?_)
    refine t_nil ?_
    refine hK_9 _ _ ?_
    refine w_cond (x16_8 != 0) hE rfl (fun hb => ?_) (fun hb => ?_)
    · replace H := M.ite_t hb H
      refine w_seq (fun K hK_10 => ?_)
      refine t_region ?_
      refine t_val (v := .int .i64 x16_8) rfl rfl hE rfl (r_move hE rfl) (fun a hE => ?_)
      refine t_val (v := .int .i64 x16_8) rfl rfl hE rfl (r_assign hE rfl) (fun a hE => ?_)
      refine t_nil ?_
      refine hK_10 _ _ ?_
      refine w_ret ?_
      exact hret _ _ _ x16_8 _ hE hR (res_run hE rfl (RV.tmp rfl RV.nil)) rfl H
    · replace H := M.ite_f hb H
      refine w_skip ?_
      refine hK_6 _ _ ?_
      refine w_seq (fun K hK_11 => ?_)
      refine w_seq (fun K hK_12 => ?_)
      refine t_region ?_
      refine t_val (v := .int .i64 x2) rfl rfl hE rfl (r_move hE rfl) (fun a hE => ?_)
      refine t_val (v := .bool (decide (x2 < 0))) rfl rfl hE rfl (r_bin hE rfl rfl g_int b_lss) (fun a hE => ?_)
      refine t_val (v := .bool (decide (x2 < 0))) rfl rfl hE rfl (r_move hE rfl) (fun a hE => ?_)
      refine t_grp (n := (⟨57, []⟩ : Frm)) (w0 := w0) 3 (fun x25_13 : Bool => [(0, .pointer x0), (1, .int .i64 x1), (2, .int .i64 x2), (3, .int .u32 x3), (25, .bool x25_13)]) (M.unbind H) (fun Kr hKr H => ?_) ?_
      · rcases bool_em (decide (x2 < 0)) with hb | hb
        · replace H := M.ite_t hb H
          have hE := hE.reb 22 (decide (x2 < 0)) true hb rfl
          refine t_off rfl hE rfl rfl rfl (fun a ea => ?_)
          have hE := Env.put_some hE rfl ea; clear ea
          refine t_off rfl hE rfl rfl rfl (fun a ea => ?_)
          have hE := Env.put_some hE rfl ea; clear ea
          refine t_val rfl rfl hE rfl (r_pick_t hE rfl rfl) (fun a hE => ?_)
          refine t_nil ?_
          exact hKr _ _ _ (hE.cut (.cons rfl (.cons rfl (.cons rfl (.cons rfl (.cons rfl Subs.nil)))))) hR H
        · replace H := M.ite_f hb H
          have hE := hE.reb 22 (decide (x2 < 0)) false hb rfl
          refine t_on rfl hE rfl rfl rfl ?_
          refine t_val (v := .int .i64 x2) rfl rfl hE rfl (r_move hE rfl) (fun a hE => ?_)
          refine t_on rfl hE rfl rfl rfl ?_
          refine t_val (v := .bool (decide (x2 ≥ 1024))) rfl rfl hE rfl (r_bin hE rfl rfl g_int b_geq) (fun a hE => ?_)
          refine t_val rfl rfl hE rfl (r_pick_f hE rfl rfl) (fun a hE => ?_)
          refine t_nil ?_
          exact hKr _ _ _ (hE.cut (.cons rfl (.cons rfl (.cons rfl (.cons rfl (.cons rfl Subs.nil)))))) hR H
      · intro x25_13 a w hE hR H
        refine t_nil ?_
        refine hK_12 _ _ ?_
        refine w_cond x25_13 hE rfl (fun hb => ?_) (fun hb => ?_)
        · replace H := M.ite_t hb H
          refine w_seq (fun K hK_14 => ?_)
          refine t_region ?_
          refine t_val (v := .int .i64 1) rfl rfl hE rfl (r_assign hE rfl) (fun a hE => ?_)
          refine t_nil ?_
          refine hK_14 _ _ ?_
          refine w_ret ?_
          exact hret _ _ _ 1 _ hE hR (res_run hE rfl (RV.tmp rfl RV.nil)) rfl H
        · replace H := M.ite_f hb H
          refine w_skip ?_
          refine hK_11 _ _ ?_
          refine w_seq (fun K hK_15 => ?_)
          refine w_seq (fun K hK_16 => ?_)
          refine t_region ?_
          refine t_val (v := .int .i64 x2) rfl rfl hE rfl (r_move hE rfl) (fun a hE => ?_)
          refine t_val (v := .int .i64 (IntKind.wrap .i64 (1024 - x2))) rfl rfl hE rfl (r_bin hE rfl rfl g_int b_sub) (fun a hE => ?_)
          refine t_val (v := .int .i64 (iMin 32 (IntKind.wrap .i64 (1024 - x2)))) rfl rfl hE rfl (r_min hE rfl rfl) (fun a hE => ?_)
          refine t_val (v := .int .i64 0) rfl rfl hE rfl (r_move hE rfl) (fun a hE => ?_)
          refine t_nil ?_
          refine hK_16 _ _ ?_
          refine w_block ?_
          refine l_loop (fun (s : Int) => (⟨57, []⟩ : Frm)) (fun (s : Int) => [(0, .pointer x0), (1, .int .i64 x1), (2, .int .i64 x2), (3, .int .u32 x3), (28, .int .i64 (iMin 32 (IntKind.wrap .i64 (1024 - x2)))), (29, .int .i64 s)]) H (hE.cut (.cons rfl (.cons rfl (.cons rfl (.cons rfl (.cons rfl (.cons rfl Subs.nil))))))) hR (fun Y self1 hY_23 x29_17 a w hE hR H => ?_)
          replace hE : Env (⟨57, []⟩ : Frm) a [(0, .pointer x0), (1, .int .i64 x1), (2, .int .i64 x2), (3, .int .u32 x3), (28, .int .i64 (iMin 32 (IntKind.wrap .i64 (1024 - x2)))), (29, .int .i64 x29_17)] := hE
          replace H : (disk_Disk_Burst_l1 x0 x1 x2 x3 (iMin 32 (IntKind.wrap .i64 (1024 - x2))) self1 x29_17).wp w.heap Q := H
          unfold disk_Disk_Burst_l1 at H
          refine w_seq (fun K hK_24 => ?_)
          refine t_region ?_
          refine t_val (v := .bool (decide (x29_17 < (iMin 32 (IntKind.wrap .i64 (1024 - x2)))))) rfl rfl hE rfl (r_bin hE rfl rfl g_int b_lss) (fun a hE => ?_)
          refine t_nil ?_
          refine hK_24 _ _ ?_
          refine w_seq (fun K hK_25 => ?_)
          refine w_cond (decide (x29_17 < (iMin 32 (IntKind.wrap .i64 (1024 - x2))))) hE rfl (fun hb => ?_) (fun hb => ?_)
          · replace H := M.ite_t hb H
            refine w_skip ?_
            refine hK_25 _ _ ?_
            refine w_seq_join (fun a w => Env (⟨57, []⟩ : Frm) a [(0, .pointer x0), (1, .int .i64 x1), (2, .int .i64 x2), (3, .int .u32 x3), (28, .int .i64 (iMin 32 (IntKind.wrap .i64 (1024 - x2)))), (29, .int .i64 x29_17)] ∧ Rest w0 w ∧ (disk_Disk_Burst_j1 self1 x29_17).wp w.heap Q) ?_ ?_
            · rintro a w ⟨hE, hR, H⟩
              unfold disk_Disk_Burst_j1 at H
              refine t_region ?_
              refine t_val (v := .int .i64 (IntKind.wrap .i64 (x29_17 + 1))) rfl rfl hE rfl (r_bin hE rfl rfl g_int b_add) (fun a hE => ?_)
              refine t_val (v := .int .i64 (IntKind.wrap .i64 (x29_17 + 1))) rfl rfl hE rfl (r_move hE rfl) (fun a hE => ?_)
              refine t_nil ?_
              exact hY_23 (IntKind.wrap .i64 (x29_17 + 1)) _ _ (hE.cut (.cons rfl (.cons rfl (.cons rfl (.cons rfl (.cons rfl (.cons rfl Subs.nil))))))) hR H
            · skip
              refine w_block ?_
              refine w_seq (fun K hK_32 => ?_)
              refine t_region ?_
              refine t_val (v := .int .i64 x29_17) rfl rfl hE rfl (r_move hE rfl) (fun a hE => ?_)
              refine t_val (v := .int .i64 x29_17) rfl rfl hE rfl (r_assign hE rfl) (fun a hE => ?_)
              refine t_nil ?_
              refine hK_32 _ _ ?_
              refine w_seq (fun K hK_33 => ?_)
              refine t_region ?_
              refine t_val (v := .int .u32 x3) rfl rfl hE rfl (r_move hE rfl) (fun a hE => ?_)
              refine t_val (v := .int .i64 x29_17) rfl rfl hE rfl (r_move hE rfl) (fun a hE => ?_)
              obtain ⟨x34_34, qx34_34, H⟩ := H
              refine t_val (v := .int .u32 x34_34) rfl rfl hE rfl (r_bin hE rfl rfl g_int (b_shr qx34_34)) (fun a hE => ?_)
              refine t_val (v := .int .u32 (iAnd .u32 x34_34 1)) rfl rfl hE rfl (r_bin hE rfl rfl g_int b_and) (fun a hE => ?_)
              refine t_val (v := .bool ((iAnd .u32 x34_34 1) == 1)) rfl rfl hE rfl (r_bin hE rfl rfl g_int b_eql) (fun a hE => ?_)
              refine t_nil ?_
              refine hK_33 _ _ ?_
              refine w_cond ((iAnd .u32 x34_34 1) == 1) hE rfl (fun hb => ?_) (fun hb => ?_)
              · replace H := M.ite_t hb H
                refine w_seq (fun K hK_35 => ?_)
                refine t_region ?_
                refine t_val (v := .int .i64 x2) rfl rfl hE rfl (r_move hE rfl) (fun a hE => ?_)
                refine t_val (v := .int .i64 x29_17) rfl rfl hE rfl (r_move hE rfl) (fun a hE => ?_)
                refine t_val (v := .int .i64 (IntKind.wrap .i64 (x2 + x29_17))) rfl rfl hE rfl (r_bin hE rfl rfl g_int b_add) (fun a hE => ?_)
                refine t_val (v := .int .i64 (IntKind.wrap .i64 (x2 + x29_17))) rfl rfl hE rfl (r_assign hE rfl) (fun a hE => ?_)
                refine t_nil ?_
                refine hK_35 _ _ ?_
                obtain ⟨x41_36, qx41_36, H⟩ := H
                obtain ⟨x52_37, qx52_37, H⟩ := H
                obtain ⟨x43_38, qx43_38, H⟩ := H
                obtain ⟨x47_39, qx47_39, H⟩ := H
                obtain ⟨x48_40, qx48_40, H⟩ := H
                obtain ⟨x54_41, qx54_41, H⟩ := H
                obtain ⟨x49_42, qx49_42, H⟩ := H
                obtain ⟨x55_43, qx55_43, H⟩ := H
                refine reg_eq (rops := ro32_13) (by kernel_rfl) ?_
                have hT : Tab ro32_13 _ _ _ := tab_of tb32_13 rfl (by kernel_rfl)
                have hM := TabM.of tb32_13m
                refine d_start (m := 17) (fun w : World => (fun h : Heap => (hcell h ((x41_36).add 0) = some ((x43_38 : Sl).v)) ∧ (hcell h x48_40 = some (.int .u8 x49_42))) w.heap) [13, 15, 16] (unb 17 0) mo hR (by kernel_rfl) (by kernel_rfl) (fun w' e => by rw [e]; exact ⟨qx43_38, qx49_42⟩) (fun w hh hR hs => ?_)
                replace H := M.at hh H; clear hh
                refine d_pureg (i := 0) (v := .pointer x0) (unb 17 1) rfl rfl hT (anyM hM (by kernel_rfl)) hE rfl (wanted_none rfl) (fun w => r_move hE rfl) (fun a hE => ?_)
                refine d_pureg (i := 1) (v := .pointer (some x41_36)) (unb 17 3) rfl rfl hT (anyM hM (by kernel_rfl)) hE rfl (wanted_none rfl) (fun w => r_nilCheck hE (hx_eq rfl (congrArg Value.pointer qx41_36))) (fun a hE => ?_)
                refine d_pureg (i := 2) (v := .pointer (some ((x41_36).add 0))) (unb 17 7) rfl rfl hT (anyM hM (by kernel_rfl)) hE rfl (wanted_none rfl) (fun w => r_fieldAddr hE rfl fd66_0) (fun a hE => ?_)
                refine d_pureg (i := 4) (v := .int .i64 x1) (unb 17 23) rfl rfl hT (anyM hM (by kernel_rfl)) hE rfl (wanted_none rfl) (fun w => r_move hE rfl) (fun a hE => ?_)
                refine d_pureg (i := 5) (v := .int .i64 (IntKind.wrap .i64 (x2 + x29_17))) (unb 17 55) rfl rfl hT (anyM hM (by kernel_rfl)) hE rfl (wanted_none rfl) (fun w => r_move hE rfl) (fun a hE => ?_)
                refine d_pureg (i := 6) (v := .int .i64 (IntKind.wrap .i64 (Int.tdiv (IntKind.wrap .i64 (x2 + x29_17)) 8))) (unb 17 119) rfl rfl hT (anyM hM (by kernel_rfl)) hE rfl (wanted_none rfl) (fun w => r_bin hE rfl rfl g_int (b_quo ⟨by decide, rfl⟩)) (fun a hE => ?_)
                refine d_pureg (i := 10) (v := .int .i64 (IntKind.wrap .i64 (x2 + x29_17))) (unb 17 1143) rfl rfl hT (anyM hM (by kernel_rfl)) hE rfl (wanted_none rfl) (fun w => r_move hE rfl) (fun a hE => ?_)
                refine d_pureg (i := 11) (v := .int .i64 (Int.tmod (IntKind.wrap .i64 (x2 + x29_17)) 8)) (unb 17 3191) rfl rfl hT (anyM hM (by kernel_rfl)) hE rfl (wanted_none rfl) (fun w => r_bin hE rfl rfl g_int (b_rem ⟨by decide, rfl⟩)) (fun a hE => ?_)
                refine d_pureg (i := 12) (v := .int .u8 x52_37) (unb 17 7287) rfl rfl hT (anyM hM (by kernel_rfl)) hE rfl (wanted_none rfl) (fun w => r_bin hE rfl rfl g_int (b_shl qx52_37)) (fun a hE => ?_)
                refine d_read (i := 3) (v := (x43_38 : Sl).v) (unb 17 7295) rfl rfl hT (takeM hM (by kernel_rfl)) hE rfl (wanted_none rfl) hs (fun w s => r_load hE rfl sc63 s.1) (fun a hE => ?_)
                refine d_pureg (i := 7) (v := .pointer (some x47_39)) (unb 17 7423) rfl rfl hT (anyM hM (by kernel_rfl)) hE rfl (wanted_none rfl) (fun w => r_indexAddrL hE rfl rfl un63 sz47 qx47_39) (fun a hE => ?_)
                refine d_pureg (i := 8) (v := .pointer (some x48_40)) (unb 17 7679) rfl rfl hT (anyM hM (by kernel_rfl)) hE rfl (wanted_none rfl) (fun w => r_indexAddrA hE rfl rfl un47 sz5 qx48_40) (fun a hE => ?_)
                refine d_pureg (i := 14) (v := .pointer (some x54_41)) (unb 17 24063) rfl rfl hT (anyM hM (by kernel_rfl)) hE rfl (wanted_none rfl) (fun w => r_indexAddrL hE rfl rfl un63 sz47 qx54_41) (fun a hE => ?_)
                refine d_read (i := 9) (v := .int .u8 x49_42) (unb 17 24575) rfl rfl hT (takeM hM (by kernel_rfl)) hE rfl (wanted_none rfl) hs (fun w s => r_load hE rfl sc5 s.2) (fun a hE => ?_)
                refine d_pureg (i := 13) (v := .int .u8 (iXor .u8 x49_42 x52_37)) (unb 17 32767) rfl rfl hT (anyM hM (by kernel_rfl)) hE rfl (wanted_none rfl) (fun w => r_bin hE rfl rfl g_int b_xor) (fun a hE => ?_)
                refine d_pureg (i := 15) (v := .pointer (some x55_43)) (unb 17 65535) rfl rfl hT (anyM hM (by kernel_rfl)) hE rfl (wanted_none rfl) (fun w => r_indexAddrA hE rfl rfl un47 sz5 qx55_43) (fun a hE => ?_)
                obtain ⟨u_44, qu_44, H⟩ := H
                refine d_stlh (i := 16) (unb 17 131071) rfl rfl hT (oneM hM (by kernel_rfl)) rfl hE hR (wanted_none rfl) (r_store hE rfl rfl sz5 qu_44)  (fun a w hE hR hh => ?_)
                replace H := M.at hh H; clear hh
                refine d_done hT (doneM hM (by kernel_rfl)) ?_
                exact ⟨hE.cut (.cons rfl (.cons rfl (.cons rfl (.cons rfl (.cons rfl (.cons rfl Subs.nil)))))), hR, H⟩
              · replace H := M.ite_f hb H
                refine w_skip ?_
                exact ⟨hE.cut (.cons rfl (.cons rfl (.cons rfl (.cons rfl (.cons rfl (.cons rfl Subs.nil)))))), hR, H⟩
          · replace H := M.ite_f hb H
            refine w_exit ?_
            refine Xu.same ?_
            refine hK_15 _ _ ?_
            refine w_seq (fun K hK_45 => ?_)
            refine t_region ?_
            refine t_val (v := .int .i64 0) rfl rfl hE rfl (r_assign hE rfl) (fun a hE => ?_)
            refine t_nil ?_
            refine hK_45 _ _ ?_
            refine w_ret ?_
            exact hret _ _ _ 0 _ hE hR (res_run hE rfl (RV.tmp rfl RV.nil)) rfl H

/-- (*ramble/disk.Disk).Sectors -/
def disk_Disk_Sectors (x0 : Option Addr) : M (Int) := do
  let x4_4 ← disk_Disk_none x0
  M.ite x4_4 (do
    M.pure 0
    ) (do
    let x6_7 ← nilP x0
    let x8_8 ← ldL ((x6_7).add 0)
    M.pure (x8_8.len : Int)
    )
theorem S_disk_Disk_Sectors (x0 : Option Addr) : Sound Go.Proofs.Try.prog 33 #[.pointer x0] (fun (r : Int) => .int .i64 r) (disk_Disk_Sectors x0) := by
  refine sound_of [(0, .pointer x0)] Go.Proofs.Try.func33 rfl rfl (Nat.le_of_ble_eq_true rfl) (args_of ⟨rfl, trivial⟩) (fun w0 w Q R a hret hE hR H => ?_)
  unfold disk_Disk_Sectors at H
  refine w_seq (fun K hK_1 => ?_)
  refine t_region ?_
  refine t_val (v := .int .i64 0) rfl rfl hE rfl (r_assign hE rfl) (fun a hE => ?_)
  refine t_nil ?_
  refine hK_1 _ _ ?_
  refine w_seq (fun K hK_2 => ?_)
  refine w_seq (fun K hK_3 => ?_)
  refine t_region ?_
  refine t_val (v := .pointer x0) rfl rfl hE rfl (r_move hE rfl) (fun a hE => ?_)
  refine t_call hE hR cl_disk_Disk_none rfl (S_disk_Disk_none x0) (M.unbind H) (fun x4_4 a w ea hR H => ?_)
  have hE := Env.put_some hE rfl ea; clear ea
  refine t_nil ?_
  refine hK_3 _ _ ?_
  refine w_cond x4_4 hE rfl (fun hb => ?_) (fun hb => ?_)
  · replace H := M.ite_t hb H
    refine w_seq (fun K hK_5 => ?_)
    refine t_region ?_
    refine t_val (v := .int .i64 0) rfl rfl hE rfl (r_assign hE rfl) (fun a hE => ?_)
    refine t_nil ?_
    refine hK_5 _ _ ?_
    refine w_ret ?_
    exact hret _ _ _ 0 _ hE hR (res_run hE rfl (RV.tmp rfl RV.nil)) rfl H
  · replace H := M.ite_f hb H
    refine w_skip ?_
    refine hK_2 _ _ ?_
    refine w_seq (fun K hK_6 => ?_)
    refine t_region ?_
    refine t_val (v := .pointer x0) rfl rfl hE rfl (r_move hE rfl) (fun a hE => ?_)
    obtain ⟨x6_7, qx6_7, H⟩ := H
    refine t_val (v := .pointer (some x6_7)) rfl rfl hE rfl (r_nilCheck hE (hx_eq rfl (congrArg Value.pointer qx6_7))) (fun a hE => ?_)
    refine t_val (v := .pointer (some ((x6_7).add 0))) rfl rfl hE rfl (r_fieldAddr hE rfl fd66_0) (fun a hE => ?_)
    obtain ⟨x8_8, qx8_8, H⟩ := H
    refine t_val (v := (x8_8 : Sl).v) rfl rfl hE rfl (r_load hE rfl sc63 qx8_8) (fun a hE => ?_)
    refine t_val (v := .int .i64 (x8_8.len : Int)) rfl rfl hE rfl (r_len hE rfl 47 un63) (fun a hE => ?_)
    refine t_val (v := .int .i64 (x8_8.len : Int)) rfl rfl hE rfl (r_assign hE rfl) (fun a hE => ?_)
    refine t_nil ?_
    refine hK_6 _ _ ?_
    refine w_ret ?_
    exact hret _ _ _ (x8_8.len : Int) _ hE hR (res_run hE rfl (RV.tmp rfl RV.nil)) rfl H

/-- slices.Clone[[]ramble/api.Sector,ramble/api.Sector] -/
def slices_Clone_slapi_Sector_api_Sector (x0 : Sl) : M (Sl) := do
  M.ite ((x0).base.isNone) (do
    M.pure Sl.nil
    ) (do
    let y_7 ← fillL 128 0 (Array.replicate 128 (.int .u8 0) : Array Value) []
    let x5_6 ← bdL ty_api_Sector 0 y_7
    let x7_8 ← apL ty_api_Sector 128 128 (Array.replicate 128 (.int .u8 0) : Array Value) x5_6 x0
    M.pure x7_8
    )
theorem S_slices_Clone_slapi_Sector_api_Sector (x0 : Sl) : Sound Go.Proofs.Try.prog 59 #[(x0 : Sl).v] (fun (r : Sl) => (r : Sl).v) (slices_Clone_slapi_Sector_api_Sector x0) := by
  refine sound_of [(0, (x0 : Sl).v)] Go.Proofs.Try.func59 rfl rfl (Nat.le_of_ble_eq_true rfl) (args_of ⟨rfl, trivial⟩) (fun w0 w Q R a hret hE hR H => ?_)
  unfold slices_Clone_slapi_Sector_api_Sector at H
  refine w_seq (fun K hK_1 => ?_)
  refine t_region ?_
  refine t_val (v := (Sl.nil : Sl).v) rfl rfl hE rfl (r_assign hE rfl) (fun a hE => ?_)
  refine t_nil ?_
  refine hK_1 _ _ ?_
  refine w_seq (fun K hK_2 => ?_)
  refine w_seq (fun K hK_3 => ?_)
  refine t_region ?_
  refine t_val (v := (x0 : Sl).v) rfl rfl hE rfl (r_move hE rfl) (fun a hE => ?_)
  refine t_val (v := .bool ((x0).base.isNone)) rfl rfl hE rfl (r_bin hE rfl rfl (g_sl (v := Sl.nil)) (b_eqlL un63)) (fun a hE => ?_)
  refine t_nil ?_
  refine hK_3 _ _ ?_
  refine w_cond ((x0).base.isNone) hE rfl (fun hb => ?_) (fun hb => ?_)
  · replace H := M.ite_t hb H
    refine w_seq (fun K hK_4 => ?_)
    refine t_region ?_
    refine t_val (v := (Sl.nil : Sl).v) rfl rfl hE rfl (r_assign hE rfl) (fun a hE => ?_)
    refine t_nil ?_
    refine hK_4 _ _ ?_
    refine w_ret ?_
    exact hret _ _ _ Sl.nil _ hE hR (res_run hE rfl (RV.tmp rfl RV.nil)) rfl H
  · replace H := M.ite_f hb H
    refine w_skip ?_
    refine hK_2 _ _ ?_
    refine w_seq (fun K hK_5 => ?_)
    refine t_region ?_
    obtain ⟨y_7, qy_7, H⟩ := H
    obtain ⟨x5_6, qx5_6, H⟩ := H
    refine t_valh (v := (x5_6 : Sl).v) rfl rfl hE rfl hR (r_buildL hE rfl un63 sz47 zr47 rfl qy_7 qx5_6) (fun a w hE hR hh => ?_)
    replace H := M.at hh H; clear hh
    refine t_val (v := (x0 : Sl).v) rfl rfl hE rfl (r_move hE rfl) (fun a hE => ?_)
    refine t_ex (fun x7_8 => (x7_8 : Sl).v) rfl rfl hR (M.unbind H) (fun Q H => ap_run hE rfl rfl ap63 H) (fun x7_8 a w ea hR H => ?_)
    have hE := Env.put_some hE rfl ea; clear ea
    refine t_val (v := (x7_8 : Sl).v) rfl rfl hE rfl (r_assign hE rfl) (fun a hE => ?_)
    refine t_nil ?_
    refine hK_5 _ _ ?_
    refine w_ret ?_
    exact hret _ _ _ x7_8 _ hE hR (res_run hE rfl (RV.tmp rfl RV.nil)) rfl H

/-- slices.Clone[[]bool,bool] -/
def slices_Clone_slbool_bool (x0 : Sl) : M (Sl) := do
  M.ite ((x0).base.isNone) (do
    M.pure Sl.nil
    ) (do
    let x5_6 ← bdL ty_bool 0 #[]
    let x7_7 ← apL ty_bool 1 1 (#[.bool false] : Array Value) x5_6 x0
    M.pure x7_7
    )
theorem S_slices_Clone_slbool_bool (x0 : Sl) : Sound Go.Proofs.Try.prog 60 #[(x0 : Sl).v] (fun (r : Sl) => (r : Sl).v) (slices_Clone_slbool_bool x0) := by
  refine sound_of [(0, (x0 : Sl).v)] Go.Proofs.Try.func60 rfl rfl (Nat.le_of_ble_eq_true rfl) (args_of ⟨rfl, trivial⟩) (fun w0 w Q R a hret hE hR H => ?_)
  unfold slices_Clone_slbool_bool at H
  refine w_seq (fun K hK_1 => ?_)
  refine t_region ?_
  refine t_val (v := (Sl.nil : Sl).v) rfl rfl hE rfl (r_assign hE rfl) (fun a hE => ?_)
  refine t_nil ?_
  refine hK_1 _ _ ?_
  refine w_seq (fun K hK_2 => ?_)
  refine w_seq (fun K hK_3 => ?_)
  refine t_region ?_
  refine t_val (v := (x0 : Sl).v) rfl rfl hE rfl (r_move hE rfl) (fun a hE => ?_)
  refine t_val (v := .bool ((x0).base.isNone)) rfl rfl hE rfl (r_bin hE rfl rfl (g_sl (v := Sl.nil)) (b_eqlL un45)) (fun a hE => ?_)
  refine t_nil ?_
  refine hK_3 _ _ ?_
  refine w_cond ((x0).base.isNone) hE rfl (fun hb => ?_) (fun hb => ?_)
  · replace H := M.ite_t hb H
    refine w_seq (fun K hK_4 => ?_)
    refine t_region ?_
    refine t_val (v := (Sl.nil : Sl).v) rfl rfl hE rfl (r_assign hE rfl) (fun a hE => ?_)
    refine t_nil ?_
    refine hK_4 _ _ ?_
    refine w_ret ?_
    exact hret _ _ _ Sl.nil _ hE hR (res_run hE rfl (RV.tmp rfl RV.nil)) rfl H
  · replace H := M.ite_f hb H
    refine w_skip ?_
    refine hK_2 _ _ ?_
    refine w_seq (fun K hK_5 => ?_)
    refine t_region ?_
    obtain ⟨x5_6, qx5_6, H⟩ := H
    refine t_valh (v := (x5_6 : Sl).v) rfl rfl hE rfl hR (r_buildL (cells := #[]) hE rfl un45 sz4 zr4 rfl rfl qx5_6) (fun a w hE hR hh => ?_)
    replace H := M.at hh H; clear hh
    refine t_val (v := (x0 : Sl).v) rfl rfl hE rfl (r_move hE rfl) (fun a hE => ?_)
    refine t_ex (fun x7_7 => (x7_7 : Sl).v) rfl rfl hR (M.unbind H) (fun Q H => ap_run hE rfl rfl ap45 H) (fun x7_7 a w ea hR H => ?_)
    have hE := Env.put_some hE rfl ea; clear ea
    refine t_val (v := (x7_7 : Sl).v) rfl rfl hE rfl (r_assign hE rfl) (fun a hE => ?_)
    refine t_nil ?_
    refine hK_5 _ _ ?_
    refine w_ret ?_
    exact hret _ _ _ x7_7 _ hE hR (res_run hE rfl (RV.tmp rfl RV.nil)) rfl H

/-- maps.Clone[map[int]ramble/api.Sector,int,ramble/api.Sector] -/
def maps_Clone_map_int_api_Sector_int_api_Sector (x0 : Option Nat) : M (Option Nat) := do
  M.ite ((x0).isNone) (do
    M.pure (none : Option Nat)
    ) (do
    M.fail
    )
theorem S_maps_Clone_map_int_api_Sector_int_api_Sector (x0 : Option Nat) : Sound Go.Proofs.Try.prog 61 #[.map x0] (fun (r : Option Nat) => .map r) (maps_Clone_map_int_api_Sector_int_api_Sector x0) := by
  refine sound_of [(0, .map x0)] Go.Proofs.Try.func61 rfl rfl (Nat.le_of_ble_eq_true rfl) (args_of ⟨rfl, trivial⟩) (fun w0 w Q R a hret hE hR H => ?_)
  unfold maps_Clone_map_int_api_Sector_int_api_Sector at H
  refine w_seq (fun K hK_1 => ?_)
  refine t_region ?_
  refine t_val (v := .map (none : Option Nat)) rfl rfl hE rfl (r_assign hE rfl) (fun a hE => ?_)
  refine t_nil ?_
  refine hK_1 _ _ ?_
  refine w_seq (fun K hK_2 => ?_)
  refine w_seq (fun K hK_3 => ?_)
  refine t_region ?_
  refine t_val (v := .map x0) rfl rfl hE rfl (r_move hE rfl) (fun a hE => ?_)
  refine t_val (v := .bool ((x0).isNone)) rfl rfl hE rfl (r_bin hE rfl rfl g_mp (b_eqlM un64)) (fun a hE => ?_)
  refine t_nil ?_
  refine hK_3 _ _ ?_
  refine w_cond ((x0).isNone) hE rfl (fun hb => ?_) (fun hb => ?_)
  · replace H := M.ite_t hb H
    refine w_seq (fun K hK_4 => ?_)
    refine t_region ?_
    refine t_val (v := .map (none : Option Nat)) rfl rfl hE rfl (r_assign hE rfl) (fun a hE => ?_)
    refine t_nil ?_
    refine hK_4 _ _ ?_
    refine w_ret ?_
    exact hret _ _ _ (none : Option Nat) _ hE hR (res_run hE rfl (RV.tmp rfl RV.nil)) rfl H
  · replace H := M.ite_f hb H
    refine w_skip ?_
    refine hK_2 _ _ ?_
    refine w_seq (fun K hK_5 => ?_)
    exact False.elim H

/-- (*ramble/disk.Disk).Clone -/
noncomputable def ro34_4 : Array Oper := opsOf Go.Proofs.Try.f34 4
def tE34_4 : List (List Nat) := [[], [0], [1], [2], [3], [], [5], [6], [7], [8, 4], [], [10], [11], [12], [13, 9], [0, 1, 2, 3, 4, 8, 9, 13, 14], [15, 4, 14, 0, 1, 2, 3, 4, 8, 9, 13, 14], [0, 1, 2, 3, 4, 5, 6, 7, 8, 9, 13, 14, 15, 16], [17, 9, 16, 0, 1, 2, 3, 4, 5, 6, 7, 8, 9, 13, 14, 15, 16], [0, 1, 2, 3, 4, 5, 6, 7, 8, 9, 10, 11, 12, 13, 14, 15, 16, 17, 18], [19, 14, 18, 0, 1, 2, 3, 4, 5, 6, 7, 8, 9, 10, 11, 12, 13, 14, 15, 16, 17, 18]]
def tC34_4 : List (List Nat) := [[], [0], [1], [2], [3], [], [5], [6], [7], [8], [], [10], [11], [12], [13], [], [4, 15], [], [9, 17], [], [14, 19]]
def tW34_4 : List (List Nat) := [[], [0], [0, 1], [0, 1, 2], [0, 1, 2, 3], [], [5], [5, 6], [5, 6, 7], [0, 1, 2, 3, 4, 5, 6, 7, 8], [], [10], [10, 11], [10, 11, 12], [0, 1, 2, 3, 4, 5, 6, 7, 8, 9, 10, 11, 12, 13], [0, 1, 2, 3, 4, 5, 6, 7, 8, 9, 10, 11, 12, 13, 14], [0, 1, 2, 3, 4, 5, 6, 7, 8, 9, 10, 11, 12, 13, 14, 15], [0, 1, 2, 3, 4, 5, 6, 7, 8, 9, 10, 11, 12, 13, 14, 15, 16], [0, 1, 2, 3, 4, 5, 6, 7, 8, 9, 10, 11, 12, 13, 14, 15, 16, 17], [0, 1, 2, 3, 4, 5, 6, 7, 8, 9, 10, 11, 12, 13, 14, 15, 16, 17, 18], [0, 1, 2, 3, 4, 5, 6, 7, 8, 9, 10, 11, 12, 13, 14, 15, 16, 17, 18, 19]]
theorem tb34_4 : tabAt Go.Proofs.Try.f34 4 tE34_4 tC34_4 tW34_4 = true := by kernel_rfl
theorem tb34_4m : tabMB 21 tE34_4 tC34_4 tW34_4 [0, 1, 2, 4, 8, 0, 32, 64, 128, 272, 0, 1024, 2048, 4096, 8704, 25375, 58143, 123903, 254975, 524287, 1048575] [0, 1, 2, 4, 8, 0, 32, 64, 128, 256, 0, 1024, 2048, 4096, 8192, 0, 32784, 0, 131584, 0, 540672] [0, 1, 3, 7, 15, 0, 32, 96, 224, 511, 0, 1024, 3072, 7168, 16383, 32767, 65535, 131071, 262143, 524287, 1048575] = true := by kernel_rfl
def disk_Disk_Clone (x0 : Option Addr) : M (Option Addr) := do
  let x5_4 ← disk_Disk_none x0
  M.ite x5_4 (do
    M.pure (none : Option Addr)
    ) (do
    let x7_7 ← nilP x0
    let x8_8 ← ldG 6 x7_7
    let x3_9 ← mkB ty_disk_Disk (#[.slice none 0 0, .slice none 0 0, .map none, .bool false, .int .i64 0, .int .i64 0] : Array Value)
    M.need (x8_8.size = 6)
    stG x3_9 x8_8
    let x10_12 ← nilP x0
    let x15_13 ← nilP x0
    let x20_14 ← nilP x0
    let x12_15 ← ldL ((x10_12).add 0)
    let x17_16 ← ldL ((x15_13).add 1)
    let x22_17 ← ldMp ((x20_14).add 2)
    let x13_18 ← slices_Clone_slapi_Sector_api_Sector x12_15
    chk (fun h : Heap => (hcell h ((x10_12).add 0) = some ((x12_15 : Sl).v)) ∧ (hcell h ((x15_13).add 1) = some ((x17_16 : Sl).v)) ∧ (hcell h ((x20_14).add 2) = some (.map x22_17)))
    let x18_19 ← slices_Clone_slbool_bool x17_16
    chk (fun h : Heap => (hcell h ((x10_12).add 0) = some ((x12_15 : Sl).v)) ∧ (hcell h ((x15_13).add 1) = some ((x17_16 : Sl).v)) ∧ (hcell h ((x20_14).add 2) = some (.map x22_17)))
    let x23_20 ← maps_Clone_map_int_api_Sector_int_api_Sector x22_17
    stV ((x3_9).add 0) ((x13_18 : Sl).v)
    stV ((x3_9).add 1) ((x18_19 : Sl).v)
    stV ((x3_9).add 2) (.map x23_20)
    M.pure (some x3_9)
    )
theorem S_disk_Disk_Clone (x0 : Option Addr) : Sound Go.Proofs.Try.prog 34 #[.pointer x0] (fun (r : Option Addr) => .pointer r) (disk_Disk_Clone x0) := by
  refine sound_of [(0, .pointer x0)] Go.Proofs.Try.func34 rfl rfl (Nat.le_of_ble_eq_true rfl) (args_of ⟨rfl, trivial⟩) (fun w0 w Q R a hret hE hR H => ?_)
  unfold disk_Disk_Clone at H
  refine w_seq (fun K hK_1 => ?_)
  refine t_region ?_
  refine t_val (v := .pointer (none : Option Addr)) rfl rfl hE rfl (r_assign hE rfl) (fun a hE => ?_)
  refine t_nil ?_
  refine hK_1 _ _ ?_
  refine w_seq (fun K hK_2 => ?_)
  refine w_seq (fun K hK_3 => ?_)
  refine t_region ?_
  refine t_val (v := .pointer x0) rfl rfl hE rfl (r_move hE rfl) (fun a hE => ?_)
  refine t_call hE hR cl_disk_Disk_none rfl (S_disk_Disk_none x0) (M.unbind H) (fun x5_4 a w ea hR H => ?_)
  have hE := Env.put_some hE rfl ea; clear ea
  refine t_nil ?_
  refine hK_3 _ _ ?_
  refine w_cond x5_4 hE rfl (fun hb => ?_) (fun hb => ?_)
  · replace H := M.ite_t hb H
    refine w_seq (fun K hK_5 => ?_)
    refine t_region ?_
    refine t_val (v := .pointer (none : Option Addr)) rfl rfl hE rfl (r_assign hE rfl) (fun a hE => ?_)
    refine t_nil ?_
    refine hK_5 _ _ ?_
    refine w_ret ?_
    exact hret _ _ _ (none : Option Addr) _ hE hR (res_run hE rfl (RV.tmp rfl RV.nil)) rfl H
  · replace H := M.ite_f hb H
    refine w_skip ?_
    refine hK_2 _ _ ?_
    refine w_seq (fun K hK_6 => ?_)
    refine t_region ?_
    refine t_val (v := .pointer x0) rfl rfl hE rfl (r_move hE rfl) (fun a hE => ?_)
    obtain ⟨x7_7, qx7_7, H⟩ := H
    refine t_val (v := .pointer (some x7_7)) rfl rfl hE rfl (r_nilCheck hE (hx_eq rfl (congrArg Value.pointer qx7_7))) (fun a hE => ?_)
    obtain ⟨x8_8, qx8_8, H⟩ := H
    refine t_val (v := .agg x8_8) rfl rfl hE rfl (r_loadG hE rfl ag66 qx8_8) (fun a hE => ?_)
    obtain ⟨x3_9, qx3_9, H⟩ := H
    refine t_valh (v := .pointer (some x3_9)) rfl rfl hE rfl hR (r_alloc zr66 qx3_9) (fun a w hE hR hh => ?_)
    replace H := M.at hh H; clear hh
    obtain ⟨qz, H⟩ := H
    obtain ⟨u_10, qu_10, H⟩ := H
    refine t_sth rfl rfl hE hR (r_storeG hE rfl rfl sz66 qz qu_10) (fun a w hE hR hh => ?_)
    replace H := M.at hh H; clear hh
    refine t_nil ?_
    refine hK_6 _ _ ?_
    refine w_seq (fun K hK_11 => ?_)
    obtain ⟨x10_12, qx10_12, H⟩ := H
    obtain ⟨x15_13, qx15_13, H⟩ := H
    obtain ⟨x20_14, qx20_14, H⟩ := H
    obtain ⟨x12_15, qx12_15, H⟩ := H
    obtain ⟨x17_16, qx17_16, H⟩ := H
    obtain ⟨x22_17, qx22_17, H⟩ := H
    refine reg_eq (rops := ro34_4) (by kernel_rfl) ?_
    have hT : Tab ro34_4 _ _ _ := tab_of tb34_4 rfl (by kernel_rfl)
    have hM := TabM.of tb34_4m
    refine d_start (m := 21) (fun w : World => (fun h : Heap => (hcell h ((x10_12).add 0) = some ((x12_15 : Sl).v)) ∧ (hcell h ((x15_13).add 1) = some ((x17_16 : Sl).v)) ∧ (hcell h ((x20_14).add 2) = some (.map x22_17))) w.heap) [14, 15, 16, 17, 18, 19, 20] (unb 21 0) mo hR (by kernel_rfl) (by kernel_rfl) (fun w' e => by rw [e]; exact ⟨qx12_15, qx17_16, qx22_17⟩) (fun w hh hR hs => ?_)
    replace H := M.at hh H; clear hh
    refine d_pureg (i := 0) (v := .pointer x0) (unb 21 1) rfl rfl hT (anyM hM (by kernel_rfl)) hE rfl (wanted_none rfl) (fun w => r_move hE rfl) (fun a hE => ?_)
    refine d_pureg (i := 1) (v := .pointer (some x10_12)) (unb 21 3) rfl rfl hT (anyM hM (by kernel_rfl)) hE rfl (wanted_none rfl) (fun w => r_nilCheck hE (hx_eq rfl (congrArg Value.pointer qx10_12))) (fun a hE => ?_)
    refine d_pureg (i := 2) (v := .pointer (some ((x10_12).add 0))) (unb 21 7) rfl rfl hT (anyM hM (by kernel_rfl)) hE rfl (wanted_none rfl) (fun w => r_fieldAddr hE rfl fd66_0) (fun a hE => ?_)
    refine d_pureg (i := 5) (v := .pointer x0) (unb 21 39) rfl rfl hT (anyM hM (by kernel_rfl)) hE rfl (wanted_none rfl) (fun w => r_move hE rfl) (fun a hE => ?_)
    refine d_pureg (i := 6) (v := .pointer (some x15_13)) (unb 21 103) rfl rfl hT (anyM hM (by kernel_rfl)) hE rfl (wanted_none rfl) (fun w => r_nilCheck hE (hx_eq rfl (congrArg Value.pointer qx15_13))) (fun a hE => ?_)
    refine d_pureg (i := 7) (v := .pointer (some ((x15_13).add 1))) (unb 21 231) rfl rfl hT (anyM hM (by kernel_rfl)) hE rfl (wanted_none rfl) (fun w => r_fieldAddr hE rfl fd66_1) (fun a hE => ?_)
    refine d_pureg (i := 10) (v := .pointer x0) (unb 21 1255) rfl rfl hT (anyM hM (by kernel_rfl)) hE rfl (wanted_none rfl) (fun w => r_move hE rfl) (fun a hE => ?_)
    refine d_pureg (i := 11) (v := .pointer (some x20_14)) (unb 21 3303) rfl rfl hT (anyM hM (by kernel_rfl)) hE rfl (wanted_none rfl) (fun w => r_nilCheck hE (hx_eq rfl (congrArg Value.pointer qx20_14))) (fun a hE => ?_)
    refine d_pureg (i := 12) (v := .pointer (some ((x20_14).add 2))) (unb 21 7399) rfl rfl hT (anyM hM (by kernel_rfl)) hE rfl (wanted_none rfl) (fun w => r_fieldAddr hE rfl fd66_2) (fun a hE => ?_)
    refine d_read (i := 3) (v := (x12_15 : Sl).v) (unb 21 7407) rfl rfl hT (takeM hM (by kernel_rfl)) hE rfl (wanted_none rfl) hs (fun w s => r_load hE rfl sc63 s.1) (fun a hE => ?_)
    refine d_read (i := 8) (v := (x17_16 : Sl).v) (unb 21 7663) rfl rfl hT (takeM hM (by kernel_rfl)) hE rfl (wanted_none rfl) hs (fun w s => r_load hE rfl sc45 s.2.1) (fun a hE => ?_)
    refine d_read (i := 13) (v := .map x22_17) (unb 21 15855) rfl rfl hT (takeM hM (by kernel_rfl)) hE rfl (wanted_none rfl) hs (fun w s => r_load hE rfl sc64 s.2.2) (fun a hE => ?_)
    refine d_call (i := 4) (unb 21 15871) rfl rfl rfl hT (oneM hM (by kernel_rfl)) rfl hE hR (wanted_none rfl) cl_slices_Clone_slapi_Sector_api_Sector rfl (S_slices_Clone_slapi_Sector_api_Sector x12_15) (M.unbind H) (fun r h H w' e => by obtain ⟨_, sA, H⟩ := H; rw [e]; exact sA) (fun x13_18 a w ea hR H hs => ?_)
    obtain ⟨_, sA, H⟩ := H; clear sA
    have hE := Env.put_some hE rfl ea; clear ea
    refine d_call (i := 9) (unb 21 16383) rfl rfl rfl hT (oneM hM (by kernel_rfl)) rfl hE hR (wanted_none rfl) cl_slices_Clone_slbool_bool rfl (S_slices_Clone_slbool_bool x17_16) (M.unbind H) (fun r h H w' e => by obtain ⟨_, sA, H⟩ := H; rw [e]; exact sA) (fun x18_19 a w ea hR H hs => ?_)
    obtain ⟨_, sA, H⟩ := H; clear sA
    have hE := Env.put_some hE rfl ea; clear ea
    refine d_calll (i := 14) (unb 21 32767) rfl rfl rfl hT (oneM hM (by kernel_rfl)) rfl hE hR (wanted_none rfl) cl_maps_Clone_map_int_api_Sector_int_api_Sector rfl (S_maps_Clone_map_int_api_Sector_int_api_Sector x22_17) (M.unbind H) (fun x23_20 a w ea hR H => ?_)
    have hE := Env.put_some hE rfl ea; clear ea
    refine d_pureg (i := 15) (v := .pointer (some ((x3_9).add 0))) (unb 21 65535) rfl rfl hT (anyM hM (by kernel_rfl)) hE rfl (wanted_none rfl) (fun w => r_fieldAddr hE rfl fd66_0) (fun a hE => ?_)
    obtain ⟨u_21, qu_21, H⟩ := H
    refine d_stlh (i := 16) (unb 21 131071) rfl rfl hT (oneM hM (by kernel_rfl)) rfl hE hR (wanted_none rfl) (r_store hE rfl rfl sz63 qu_21)  (fun a w hE hR hh => ?_)
    replace H := M.at hh H; clear hh
    refine d_pureg (i := 17) (v := .pointer (some ((x3_9).add 1))) (unb 21 262143) rfl rfl hT (anyM hM (by kernel_rfl)) hE rfl (wanted_none rfl) (fun w => r_fieldAddr hE rfl fd66_1) (fun a hE => ?_)
    obtain ⟨u_22, qu_22, H⟩ := H
    refine d_stlh (i := 18) (unb 21 524287) rfl rfl hT (oneM hM (by kernel_rfl)) rfl hE hR (wanted_none rfl) (r_store hE rfl rfl sz45 qu_22)  (fun a w hE hR hh => ?_)
    replace H := M.at hh H; clear hh
    refine d_pureg (i := 19) (v := .pointer (some ((x3_9).add 2))) (unb 21 1048575) rfl rfl hT (anyM hM (by kernel_rfl)) hE rfl (wanted_none rfl) (fun w => r_fieldAddr hE rfl fd66_2) (fun a hE => ?_)
    obtain ⟨u_23, qu_23, H⟩ := H
    refine d_stlh (i := 20) (unb 21 2097151) rfl rfl hT (oneM hM (by kernel_rfl)) rfl hE hR (wanted_none rfl) (r_store hE rfl rfl sz64 qu_23)  (fun a w hE hR hh => ?_)
    replace H := M.at hh H; clear hh
    refine d_done hT (doneM hM (by kernel_rfl)) ?_
    refine hK_11 _ _ ?_
    refine w_seq (fun K hK_24 => ?_)
    refine t_region ?_
    refine t_val (v := .pointer (some x3_9)) rfl rfl hE rfl (r_assign hE rfl) (fun a hE => ?_)
    refine t_nil ?_
    refine hK_24 _ _ ?_
    refine w_ret ?_
    exact hret _ _ _ (some x3_9) _ hE hR (res_run hE rfl (RV.tmp rfl RV.nil)) rfl H

end Gx
