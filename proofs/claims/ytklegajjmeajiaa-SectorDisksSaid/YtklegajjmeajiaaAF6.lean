/- Printed by program: Go functions as Lean programs, each tied to its code. No condition. -/
import Derived.Test.YtklegajjmeajiaaAT
import Derived.Test.YtklegajjmeajiaaAF0
import Derived.Test.YtklegajjmeajiaaAF1
import Derived.Test.YtklegajjmeajiaaAF2
import Derived.Test.YtklegajjmeajiaaAF3
import Derived.Test.YtklegajjmeajiaaAF4
import Derived.Test.YtklegajjmeajiaaAF5
namespace Gx
open Go
set_option linter.unusedVariables false
set_option maxRecDepth 100000
/-- ramble/ramblelaw05.SectorDamage -/
def ramblelaw05_SectorDamage (x0 : Array Value) (x1 : Int) (x2 : Int) : M (Bool) := do
  let x3_2 ← mkB ty_api_Frame x0
  let x16_4 ← ldG 3 x3_2
  let x17_5 ← sector_Seal x16_4
  let x7_6 ← mkB ty_api_Sector (Array.replicate 128 (.int .u8 0) : Array Value)
  M.need (x17_5.1.size = 128)
  stG x7_6 x17_5.1
  let x20_10 ← ramblelaw05_begun
  let x25_11 ← M.ite (!x20_10) (do
    M.pure true
    ) (do
    M.pure (x17_5.2 != 0)
    )
  M.ite x25_11 (do
    let x26_13 ← ramblelaw05_begun
    M.pure x26_13
    ) (do
    let x28_15 ← disk_New 1
    let x36_18 ← M.ite ((x28_15.1).isNone) (do
      M.pure true
      ) (do
      M.pure (x28_15.2 != 0)
      )
    let x42_19 ← M.ite x36_18 (do
      M.pure true
      ) (do
      let x39_20 ← ldG 128 x7_6
      let x40_21 ← disk_Disk_Write x28_15.1 0 x39_20
      M.pure (x40_21 != 0)
      )
    let x47_22 ← M.ite x42_19 (do
      M.pure true
      ) (do
      let x45_23 ← disk_Disk_Flush x28_15.1
      M.pure (x45_23 != 0)
      )
    let x56_24 ← M.ite x47_22 (do
      M.pure true
      ) (do
      let x54_25 ← disk_Disk_Burst x28_15.1 0 (Int.tmod (IntKind.wrap .i64 x1) 1024) x2
      M.pure (x54_25 != 0)
      )
    M.ite x56_24 (do
      M.pure false
      ) (do
      let x59_28 ← disk_Disk_Read x28_15.1 0
      let x11_29 ← mkB ty_api_Sector (Array.replicate 128 (.int .u8 0) : Array Value)
      M.need (x59_28.1.size = 128)
      stG x11_29 x59_28.1
      let x63_32 ← ldG 128 x11_29
      let x64_33 ← sector_Open x63_32
      let x13_34 ← mkB ty_api_Frame (#[.int .i64 0, .int .i64 0, .slice none 0 0] : Array Value)
      M.need (x64_33.1.size = 3)
      stG x13_34 x64_33.1
      let x86_37 ← M.ite (x59_28.2 == 0) (do
        let x70_38 ← ldG 128 x11_29
        let x71_39 ← ldG 128 x7_6
        let x72_40 ← eqA .u8 128 x70_38 x71_39
        let x76_41 ← M.ite x72_40 (do
          M.pure (x64_33.2 == 0)
          ) (do
          M.pure false
          )
        let x85_42 ← M.ite x76_41 (do
          M.pure true
          ) (do
          let x78_43 ← ldG 128 x11_29
          let x79_44 ← ldG 128 x7_6
          let x80_45 ← eqA .u8 128 x78_43 x79_44
          let x84_46 ← M.ite (!x80_45) (do
            M.pure (x64_33.2 == 50)
            ) (do
            M.pure false
            )
          M.pure x84_46
          )
        M.pure x85_42
        ) (do
        M.pure false
        )
      M.pure x86_37
      )
    )
theorem S_ramblelaw05_SectorDamage (x0 : Array Value) (x1 : Int) (x2 : Int) : Sound Go.Proofs.Try.prog 6 #[.agg x0, .int .u16 x1, .int .u32 x2] (fun (r : Bool) => .bool r) (ramblelaw05_SectorDamage x0 x1 x2) := by
  refine sound_of [(0, .agg x0), (1, .int .u16 x1), (2, .int .u32 x2)] Go.Proofs.Try.func6 rfl rfl (Nat.le_of_ble_eq_true rfl) (args_of ⟨rfl, rfl, rfl, trivial⟩) (fun w0 w Q R a hret hE hR H => ?_)
  unfold ramblelaw05_SectorDamage at H
  refine w_seq (fun K hK_1 => ?_)
  refine t_region ?_
  obtain ⟨x3_2, qx3_2, H⟩ := H
  refine t_valh (v := .pointer (some x3_2)) rfl rfl hE rfl hR (r_box hE rfl qx3_2) (fun a w hE hR hh => ?_)
  replace H := M.at hh H; clear hh
  refine t_val (v := .bool false) rfl rfl hE rfl (r_assign hE rfl) (fun a hE => ?_)
  refine t_nil ?_
  refine hK_1 _ _ ?_
  refine w_seq (fun K hK_3 => ?_)
  refine t_region ?_
  obtain ⟨x16_4, qx16_4, H⟩ := H
  refine t_val (v := .agg x16_4) rfl rfl hE rfl (r_loadG hE rfl ag24 qx16_4) (fun a hE => ?_)
  refine t_call hE hR cl8 rfl (S_sector_Seal x16_4) (M.unbind H) (fun x17_5 a w ea hR H => ?_)
  have hE := Env.put_some hE rfl ea; clear ea
  refine t_val (v := .tuple #[.agg x17_5.1, .int .i64 x17_5.2]) rfl rfl hE rfl (r_move hE rfl) (fun a hE => ?_)
  refine t_val (v := .agg x17_5.1) rfl rfl hE rfl (r_extract hE rfl rfl) (fun a hE => ?_)
  refine t_val (v := .int .i64 x17_5.2) rfl rfl hE rfl (r_extract hE rfl rfl) (fun a hE => ?_)
  obtain ⟨x7_6, qx7_6, H⟩ := H
  refine t_valh (v := .pointer (some x7_6)) rfl rfl hE rfl hR (r_alloc zr26 qx7_6) (fun a w hE hR hh => ?_)
  replace H := M.at hh H; clear hh
  obtain ⟨qz, H⟩ := H
  obtain ⟨u_7, qu_7, H⟩ := H
  refine t_sth rfl rfl hE hR (r_storeG hE rfl rfl sz26 qz qu_7) (fun a w hE hR hh => ?_)
  replace H := M.at hh H; clear hh
  refine t_val (v := .int .i64 x17_5.2) rfl rfl hE rfl (r_assign hE rfl) (fun a hE => ?_)
  refine t_nil ?_
  refine hK_3 _ _ ?_
  refine w_seq (fun K hK_8 => ?_)
  refine w_seq (fun K hK_9 => ?_)
  refine t_region ?_
  refine t_call hE hR cl12 rfl (S_ramblelaw05_begun ) (M.unbind H) (fun x20_10 a w ea hR H => ?_)
  have hE := Env.put_some hE rfl ea; clear ea
  refine t_val (v := .bool (!x20_10)) rfl rfl hE rfl (r_un hE rfl u_not) (fun a hE => ?_)
  refine t_val (v := .bool (!x20_10)) rfl rfl hE rfl (r_move hE rfl) (fun a hE => ?_)
  refine t_grp (n := 87) (w0 := w0) 3 (fun x25_11 : Bool => [(1, .int .u16 x1), (2, .int .u32 x2), (7, .pointer (some x7_6)), (25, .bool x25_11)]) (M.unbind H) (fun Kr hKr H => ?_) ?_
  · rcases bool_em (!x20_10) with hb | hb
    · replace H := M.ite_t hb H
      have hE := hE.reb 22 (!x20_10) true hb rfl
      refine t_off rfl hE rfl rfl rfl (fun a ea => ?_)
      have hE := Env.put_some hE rfl ea; clear ea
      refine t_off rfl hE rfl rfl rfl (fun a ea => ?_)
      have hE := Env.put_some hE rfl ea; clear ea
      refine t_val rfl rfl hE rfl (r_pick_t hE rfl rfl) (fun a hE => ?_)
      refine t_nil ?_
      exact hKr _ _ _ (hE.cut (.cons rfl (.cons rfl (.cons rfl (.cons rfl Subs.nil))))) hR H
    · replace H := M.ite_f hb H
      have hE := hE.reb 22 (!x20_10) false hb rfl
      refine t_on rfl hE rfl rfl rfl ?_
      refine t_val (v := .int .i64 x17_5.2) rfl rfl hE rfl (r_move hE rfl) (fun a hE => ?_)
      refine t_on rfl hE rfl rfl rfl ?_
      refine t_val (v := .bool (x17_5.2 != 0)) rfl rfl hE rfl (r_bin hE rfl rfl g_int b_neq) (fun a hE => ?_)
      refine t_val rfl rfl hE rfl (r_pick_f hE rfl rfl) (fun a hE => ?_)
      refine t_nil ?_
      exact hKr _ _ _ (hE.cut (.cons rfl (.cons rfl (.cons rfl (.cons rfl Subs.nil))))) hR H
  · intro x25_11 a w hE hR H
    refine t_nil ?_
    refine hK_9 _ _ ?_
    refine w_cond x25_11 hE rfl (fun hb => ?_) (fun hb => ?_)
    · replace H := M.ite_t hb H
      refine w_seq (fun K hK_12 => ?_)
      refine t_region ?_
      refine t_call hE hR cl12 rfl (S_ramblelaw05_begun ) (M.unbind H) (fun x26_13 a w ea hR H => ?_)
      have hE := Env.put_some hE rfl ea; clear ea
      refine t_val (v := .bool x26_13) rfl rfl hE rfl (r_assign hE rfl) (fun a hE => ?_)
      refine t_nil ?_
      refine hK_12 _ _ ?_
      refine w_ret ?_
      exact hret _ _ _ x26_13 _ hE hR (res_run hE rfl (RV.tmp rfl RV.nil)) rfl H
    · replace H := M.ite_f hb H
      refine w_skip ?_
      refine hK_8 _ _ ?_
      refine w_seq (fun K hK_14 => ?_)
      refine t_region ?_
      refine t_call hE hR cl22 rfl (S_disk_New 1) (M.unbind H) (fun x28_15 a w ea hR H => ?_)
      have hE := Env.put_some hE rfl ea; clear ea
      refine t_val (v := .tuple #[.pointer x28_15.1, .int .i64 x28_15.2]) rfl rfl hE rfl (r_move hE rfl) (fun a hE => ?_)
      refine t_val (v := .pointer x28_15.1) rfl rfl hE rfl (r_extract hE rfl rfl) (fun a hE => ?_)
      refine t_val (v := .int .i64 x28_15.2) rfl rfl hE rfl (r_extract hE rfl rfl) (fun a hE => ?_)
      refine t_val (v := .pointer x28_15.1) rfl rfl hE rfl (r_assign hE rfl) (fun a hE => ?_)
      refine t_val (v := .int .i64 x28_15.2) rfl rfl hE rfl (r_assign hE rfl) (fun a hE => ?_)
      refine t_nil ?_
      refine hK_14 _ _ ?_
      refine w_seq (fun K hK_16 => ?_)
      refine w_seq (fun K hK_17 => ?_)
      refine t_region ?_
      refine t_val (v := .pointer x28_15.1) rfl rfl hE rfl (r_move hE rfl) (fun a hE => ?_)
      refine t_val (v := .bool ((x28_15.1).isNone)) rfl rfl hE rfl (r_bin hE rfl rfl g_ptr (b_eqlP un46)) (fun a hE => ?_)
      refine t_val (v := .bool ((x28_15.1).isNone)) rfl rfl hE rfl (r_move hE rfl) (fun a hE => ?_)
      refine t_grp (n := 87) (w0 := w0) 3 (fun x36_18 : Bool => [(1, .int .u16 x1), (2, .int .u32 x2), (7, .pointer (some x7_6)), (9, .pointer x28_15.1), (36, .bool x36_18)]) (M.unbind H) (fun Kr hKr H => ?_) ?_
      · rcases bool_em ((x28_15.1).isNone) with hb | hb
        · replace H := M.ite_t hb H
          have hE := hE.reb 33 ((x28_15.1).isNone) true hb rfl
          refine t_off rfl hE rfl rfl rfl (fun a ea => ?_)
          have hE := Env.put_some hE rfl ea; clear ea
          refine t_off rfl hE rfl rfl rfl (fun a ea => ?_)
          have hE := Env.put_some hE rfl ea; clear ea
          refine t_val rfl rfl hE rfl (r_pick_t hE rfl rfl) (fun a hE => ?_)
          refine t_nil ?_
          exact hKr _ _ _ (hE.cut (.cons rfl (.cons rfl (.cons rfl (.cons rfl (.cons rfl Subs.nil)))))) hR H
        · replace H := M.ite_f hb H
          have hE := hE.reb 33 ((x28_15.1).isNone) false hb rfl
          refine t_on rfl hE rfl rfl rfl ?_
          refine t_val (v := .int .i64 x28_15.2) rfl rfl hE rfl (r_move hE rfl) (fun a hE => ?_)
          refine t_on rfl hE rfl rfl rfl ?_
          refine t_val (v := .bool (x28_15.2 != 0)) rfl rfl hE rfl (r_bin hE rfl rfl g_int b_neq) (fun a hE => ?_)
          refine t_val rfl rfl hE rfl (r_pick_f hE rfl rfl) (fun a hE => ?_)
          refine t_nil ?_
          exact hKr _ _ _ (hE.cut (.cons rfl (.cons rfl (.cons rfl (.cons rfl (.cons rfl Subs.nil)))))) hR H
      · intro x36_18 a w hE hR H
        refine t_val (v := .bool x36_18) rfl rfl hE rfl (r_move hE rfl) (fun a hE => ?_)
        refine t_grp (n := 87) (w0 := w0) 5 (fun x42_19 : Bool => [(1, .int .u16 x1), (2, .int .u32 x2), (7, .pointer (some x7_6)), (9, .pointer x28_15.1), (42, .bool x42_19)]) (M.unbind H) (fun Kr hKr H => ?_) ?_
        · rcases bool_em x36_18 with hb | hb
          · replace H := M.ite_t hb H
            have hE := hE.reb 37 x36_18 true hb rfl
            refine t_off rfl hE rfl rfl rfl (fun a ea => ?_)
            have hE := Env.put_some hE rfl ea; clear ea
            refine t_off rfl hE rfl rfl rfl (fun a ea => ?_)
            have hE := Env.put_some hE rfl ea; clear ea
            refine t_off rfl hE rfl rfl rfl (fun a ea => ?_)
            have hE := Env.put_some hE rfl ea; clear ea
            refine t_off rfl hE rfl rfl rfl (fun a ea => ?_)
            have hE := Env.put_some hE rfl ea; clear ea
            refine t_val rfl rfl hE rfl (r_pick_t hE rfl rfl) (fun a hE => ?_)
            refine t_nil ?_
            exact hKr _ _ _ (hE.cut (.cons rfl (.cons rfl (.cons rfl (.cons rfl (.cons rfl Subs.nil)))))) hR H
          · replace H := M.ite_f hb H
            have hE := hE.reb 37 x36_18 false hb rfl
            refine t_on rfl hE rfl rfl rfl ?_
            refine t_val (v := .pointer x28_15.1) rfl rfl hE rfl (r_move hE rfl) (fun a hE => ?_)
            refine t_on rfl hE rfl rfl rfl ?_
            obtain ⟨x39_20, qx39_20, H⟩ := H
            refine t_val (v := .agg x39_20) rfl rfl hE rfl (r_loadG hE rfl ag26 qx39_20) (fun a hE => ?_)
            refine t_on rfl hE rfl rfl rfl ?_
            refine t_call hE hR cl23 rfl (S_disk_Disk_Write x28_15.1 0 x39_20) (M.unbind H) (fun x40_21 a w ea hR H => ?_)
            have hE := Env.put_some hE rfl ea; clear ea
            refine t_on rfl hE rfl rfl rfl ?_
            refine t_val (v := .bool (x40_21 != 0)) rfl rfl hE rfl (r_bin hE rfl rfl g_int b_neq) (fun a hE => ?_)
            refine t_val rfl rfl hE rfl (r_pick_f hE rfl rfl) (fun a hE => ?_)
            refine t_nil ?_
            exact hKr _ _ _ (hE.cut (.cons rfl (.cons rfl (.cons rfl (.cons rfl (.cons rfl Subs.nil)))))) hR H
        · intro x42_19 a w hE hR H
          refine t_val (v := .bool x42_19) rfl rfl hE rfl (r_move hE rfl) (fun a hE => ?_)
          refine t_grp (n := 87) (w0 := w0) 4 (fun x47_22 : Bool => [(1, .int .u16 x1), (2, .int .u32 x2), (7, .pointer (some x7_6)), (9, .pointer x28_15.1), (47, .bool x47_22)]) (M.unbind H) (fun Kr hKr H => ?_) ?_
          · rcases bool_em x42_19 with hb | hb
            · replace H := M.ite_t hb H
              have hE := hE.reb 43 x42_19 true hb rfl
              refine t_off rfl hE rfl rfl rfl (fun a ea => ?_)
              have hE := Env.put_some hE rfl ea; clear ea
              refine t_off rfl hE rfl rfl rfl (fun a ea => ?_)
              have hE := Env.put_some hE rfl ea; clear ea
              refine t_off rfl hE rfl rfl rfl (fun a ea => ?_)
              have hE := Env.put_some hE rfl ea; clear ea
              refine t_val rfl rfl hE rfl (r_pick_t hE rfl rfl) (fun a hE => ?_)
              refine t_nil ?_
              exact hKr _ _ _ (hE.cut (.cons rfl (.cons rfl (.cons rfl (.cons rfl (.cons rfl Subs.nil)))))) hR H
            · replace H := M.ite_f hb H
              have hE := hE.reb 43 x42_19 false hb rfl
              refine t_on rfl hE rfl rfl rfl ?_
              refine t_val (v := .pointer x28_15.1) rfl rfl hE rfl (r_move hE rfl) (fun a hE => ?_)
              refine t_on rfl hE rfl rfl rfl ?_
              refine t_call hE hR cl24 rfl (S_disk_Disk_Flush x28_15.1) (M.unbind H) (fun x45_23 a w ea hR H => ?_)
              have hE := Env.put_some hE rfl ea; clear ea
              refine t_on rfl hE rfl rfl rfl ?_
              refine t_val (v := .bool (x45_23 != 0)) rfl rfl hE rfl (r_bin hE rfl rfl g_int b_neq) (fun a hE => ?_)
              refine t_val rfl rfl hE rfl (r_pick_f hE rfl rfl) (fun a hE => ?_)
              refine t_nil ?_
              exact hKr _ _ _ (hE.cut (.cons rfl (.cons rfl (.cons rfl (.cons rfl (.cons rfl Subs.nil)))))) hR H
          · intro x47_22 a w hE hR H
            refine t_val (v := .bool x47_22) rfl rfl hE rfl (r_move hE rfl) (fun a hE => ?_)
            refine t_grp (n := 87) (w0 := w0) 8 (fun x56_24 : Bool => [(7, .pointer (some x7_6)), (9, .pointer x28_15.1), (56, .bool x56_24)]) (M.unbind H) (fun Kr hKr H => ?_) ?_
            · rcases bool_em x47_22 with hb | hb
              · replace H := M.ite_t hb H
                have hE := hE.reb 48 x47_22 true hb rfl
                refine t_off rfl hE rfl rfl rfl (fun a ea => ?_)
                have hE := Env.put_some hE rfl ea; clear ea
                refine t_off rfl hE rfl rfl rfl (fun a ea => ?_)
                have hE := Env.put_some hE rfl ea; clear ea
                refine t_off rfl hE rfl rfl rfl (fun a ea => ?_)
                have hE := Env.put_some hE rfl ea; clear ea
                refine t_off rfl hE rfl rfl rfl (fun a ea => ?_)
                have hE := Env.put_some hE rfl ea; clear ea
                refine t_off rfl hE rfl rfl rfl (fun a ea => ?_)
                have hE := Env.put_some hE rfl ea; clear ea
                refine t_off rfl hE rfl rfl rfl (fun a ea => ?_)
                have hE := Env.put_some hE rfl ea; clear ea
                refine t_off rfl hE rfl rfl rfl (fun a ea => ?_)
                have hE := Env.put_some hE rfl ea; clear ea
                refine t_val rfl rfl hE rfl (r_pick_t hE rfl rfl) (fun a hE => ?_)
                refine t_nil ?_
                exact hKr _ _ _ (hE.cut (.cons rfl (.cons rfl (.cons rfl Subs.nil)))) hR H
              · replace H := M.ite_f hb H
                have hE := hE.reb 48 x47_22 false hb rfl
                refine t_on rfl hE rfl rfl rfl ?_
                refine t_val (v := .pointer x28_15.1) rfl rfl hE rfl (r_move hE rfl) (fun a hE => ?_)
                refine t_on rfl hE rfl rfl rfl ?_
                refine t_val (v := .int .u16 x1) rfl rfl hE rfl (r_move hE rfl) (fun a hE => ?_)
                refine t_on rfl hE rfl rfl rfl ?_
                refine t_val (v := .int .i64 (IntKind.wrap .i64 x1)) rfl rfl hE rfl (r_convI hE rfl un45 un3) (fun a hE => ?_)
                refine t_on rfl hE rfl rfl rfl ?_
                refine t_val (v := .int .i64 (Int.tmod (IntKind.wrap .i64 x1) 1024)) rfl rfl hE rfl (r_bin hE rfl rfl g_int (b_rem ⟨by decide, rfl⟩)) (fun a hE => ?_)
                refine t_on rfl hE rfl rfl rfl ?_
                refine t_val (v := .int .u32 x2) rfl rfl hE rfl (r_move hE rfl) (fun a hE => ?_)
                refine t_on rfl hE rfl rfl rfl ?_
                refine t_call hE hR cl25 rfl (S_disk_Disk_Burst x28_15.1 0 (Int.tmod (IntKind.wrap .i64 x1) 1024) x2) (M.unbind H) (fun x54_25 a w ea hR H => ?_)
                have hE := Env.put_some hE rfl ea; clear ea
                refine t_on rfl hE rfl rfl rfl ?_
                refine t_val (v := .bool (x54_25 != 0)) rfl rfl hE rfl (r_bin hE rfl rfl g_int b_neq) (fun a hE => ?_)
                refine t_val rfl rfl hE rfl (r_pick_f hE rfl rfl) (fun a hE => ?_)
                refine t_nil ?_
                exact hKr _ _ _ (hE.cut (.cons rfl (.cons rfl (.cons rfl Subs.nil)))) hR H
            · intro x56_24 a w hE hR H
              refine t_nil ?_
              refine hK_17 _ _ ?_
              refine w_cond x56_24 hE rfl (fun hb => ?_) (fun hb => ?_)
              · replace H := M.ite_t hb H
                refine w_seq (fun K hK_26 => ?_)
                refine t_region ?_
                refine t_val (v := .bool false) rfl rfl hE rfl (r_assign hE rfl) (fun a hE => ?_)
                refine t_nil ?_
                refine hK_26 _ _ ?_
                refine w_ret ?_
                exact hret _ _ _ false _ hE hR (res_run hE rfl (RV.tmp rfl RV.nil)) rfl H
              · replace H := M.ite_f hb H
                refine w_skip ?_
                refine hK_16 _ _ ?_
                refine w_seq (fun K hK_27 => ?_)
                refine t_region ?_
                refine t_val (v := .pointer x28_15.1) rfl rfl hE rfl (r_move hE rfl) (fun a hE => ?_)
                refine t_call hE hR cl26 rfl (S_disk_Disk_Read x28_15.1 0) (M.unbind H) (fun x59_28 a w ea hR H => ?_)
                have hE := Env.put_some hE rfl ea; clear ea
                refine t_val (v := .tuple #[.agg x59_28.1, .int .i64 x59_28.2]) rfl rfl hE rfl (r_move hE rfl) (fun a hE => ?_)
                refine t_val (v := .agg x59_28.1) rfl rfl hE rfl (r_extract hE rfl rfl) (fun a hE => ?_)
                refine t_val (v := .int .i64 x59_28.2) rfl rfl hE rfl (r_extract hE rfl rfl) (fun a hE => ?_)
                obtain ⟨x11_29, qx11_29, H⟩ := H
                refine t_valh (v := .pointer (some x11_29)) rfl rfl hE rfl hR (r_alloc zr26 qx11_29) (fun a w hE hR hh => ?_)
                replace H := M.at hh H; clear hh
                obtain ⟨qz, H⟩ := H
                obtain ⟨u_30, qu_30, H⟩ := H
                refine t_sth rfl rfl hE hR (r_storeG hE rfl rfl sz26 qz qu_30) (fun a w hE hR hh => ?_)
                replace H := M.at hh H; clear hh
                refine t_val (v := .int .i64 x59_28.2) rfl rfl hE rfl (r_assign hE rfl) (fun a hE => ?_)
                refine t_nil ?_
                refine hK_27 _ _ ?_
                refine w_seq (fun K hK_31 => ?_)
                refine t_region ?_
                obtain ⟨x63_32, qx63_32, H⟩ := H
                refine t_val (v := .agg x63_32) rfl rfl hE rfl (r_loadG hE rfl ag26 qx63_32) (fun a hE => ?_)
                refine t_call hE hR cl10 rfl (S_sector_Open x63_32) (M.unbind H) (fun x64_33 a w ea hR H => ?_)
                have hE := Env.put_some hE rfl ea; clear ea
                refine t_val (v := .tuple #[.agg x64_33.1, .int .i64 x64_33.2]) rfl rfl hE rfl (r_move hE rfl) (fun a hE => ?_)
                refine t_val (v := .agg x64_33.1) rfl rfl hE rfl (r_extract hE rfl rfl) (fun a hE => ?_)
                refine t_val (v := .int .i64 x64_33.2) rfl rfl hE rfl (r_extract hE rfl rfl) (fun a hE => ?_)
                obtain ⟨x13_34, qx13_34, H⟩ := H
                refine t_valh (v := .pointer (some x13_34)) rfl rfl hE rfl hR (r_alloc zr24 qx13_34) (fun a w hE hR hh => ?_)
                replace H := M.at hh H; clear hh
                obtain ⟨qz, H⟩ := H
                obtain ⟨u_35, qu_35, H⟩ := H
                refine t_sth rfl rfl hE hR (r_storeG hE rfl rfl sz24 qz qu_35) (fun a w hE hR hh => ?_)
                replace H := M.at hh H; clear hh
                refine t_val (v := .int .i64 x64_33.2) rfl rfl hE rfl (r_assign hE rfl) (fun a hE => ?_)
                refine t_nil ?_
                refine hK_31 _ _ ?_
                refine w_seq (fun K hK_36 => ?_)
                refine t_region ?_
                refine t_val (v := .int .i64 x59_28.2) rfl rfl hE rfl (r_move hE rfl) (fun a hE => ?_)
                refine t_val (v := .bool (x59_28.2 == 0)) rfl rfl hE rfl (r_bin hE rfl rfl g_int b_eql) (fun a hE => ?_)
                refine t_val (v := .bool (x59_28.2 == 0)) rfl rfl hE rfl (r_move hE rfl) (fun a hE => ?_)
                refine t_grp (n := 87) (w0 := w0) 17 (fun x86_37 : Bool => [(86, .bool x86_37)]) (M.unbind H) (fun Kr hKr H => ?_) ?_
                · rcases bool_em (x59_28.2 == 0) with hb | hb
                  · replace H := M.ite_t hb H
                    have hE := hE.reb 69 (x59_28.2 == 0) true hb rfl
                    refine t_on rfl hE rfl rfl rfl ?_
                    obtain ⟨x70_38, qx70_38, H⟩ := H
                    refine t_val (v := .agg x70_38) rfl rfl hE rfl (r_loadG hE rfl ag26 qx70_38) (fun a hE => ?_)
                    refine t_on rfl hE rfl rfl rfl ?_
                    obtain ⟨x71_39, qx71_39, H⟩ := H
                    refine t_val (v := .agg x71_39) rfl rfl hE rfl (r_loadG hE rfl ag26 qx71_39) (fun a hE => ?_)
                    refine t_on rfl hE rfl rfl rfl ?_
                    obtain ⟨x72_40, qx72_40, H⟩ := H
                    refine t_val (v := .bool x72_40) rfl rfl hE rfl (r_bin hE rfl rfl (g_agg eg26) (b_eqlA un26 un5 sz5 qx72_40)) (fun a hE => ?_)
                    refine t_on rfl hE rfl rfl rfl ?_
                    refine t_val (v := .bool x72_40) rfl rfl hE rfl (r_move hE rfl) (fun a hE => ?_)
                    refine t_grp (n := 87) (w0 := w0) 3 (fun x76_41 : Bool => [(7, .pointer (some x7_6)), (11, .pointer (some x11_29)), (14, .int .i64 x64_33.2), (69, .bool true), (76, .bool x76_41)]) (M.unbind H) (fun Kr hKr H => ?_) ?_
                    · rcases bool_em x72_40 with hb | hb
                      · replace H := M.ite_t hb H
                        have hE := hE.reb 73 x72_40 true hb rfl
                        refine t_on rfl hE rfl rfl rfl ?_
                        refine t_val (v := .int .i64 x64_33.2) rfl rfl hE rfl (r_move hE rfl) (fun a hE => ?_)
                        refine t_on rfl hE rfl rfl rfl ?_
                        refine t_val (v := .bool (x64_33.2 == 0)) rfl rfl hE rfl (r_bin hE rfl rfl g_int b_eql) (fun a hE => ?_)
                        refine t_on rfl hE rfl rfl rfl ?_
                        refine t_val rfl rfl hE rfl (r_pick_t hE rfl rfl) (fun a hE => ?_)
                        refine t_nil ?_
                        exact hKr _ _ _ (hE.cut (.cons rfl (.cons rfl (.cons rfl (.cons rfl (.cons rfl Subs.nil)))))) hR H
                      · replace H := M.ite_f hb H
                        have hE := hE.reb 73 x72_40 false hb rfl
                        refine t_off rfl hE rfl rfl rfl (fun a ea => ?_)
                        have hE := Env.put_some hE rfl ea; clear ea
                        refine t_off rfl hE rfl rfl rfl (fun a ea => ?_)
                        have hE := Env.put_some hE rfl ea; clear ea
                        refine t_on rfl hE rfl rfl rfl ?_
                        refine t_val rfl rfl hE rfl (r_pick_f hE rfl rfl) (fun a hE => ?_)
                        refine t_nil ?_
                        exact hKr _ _ _ (hE.cut (.cons rfl (.cons rfl (.cons rfl (.cons rfl (.cons rfl Subs.nil)))))) hR H
                    · intro x76_41 a w hE hR H
                      refine t_on rfl hE rfl rfl rfl ?_
                      refine t_val (v := .bool x76_41) rfl rfl hE rfl (r_move hE rfl) (fun a hE => ?_)
                      refine t_grp (n := 87) (w0 := w0) 8 (fun x85_42 : Bool => [(69, .bool true), (85, .bool x85_42)]) (M.unbind H) (fun Kr hKr H => ?_) ?_
                      · rcases bool_em x76_41 with hb | hb
                        · replace H := M.ite_t hb H
                          have hE := hE.reb 77 x76_41 true hb rfl
                          refine t_off rfl hE rfl rfl rfl (fun a ea => ?_)
                          have hE := Env.put_some hE rfl ea; clear ea
                          refine t_off rfl hE rfl rfl rfl (fun a ea => ?_)
                          have hE := Env.put_some hE rfl ea; clear ea
                          refine t_off rfl hE rfl rfl rfl (fun a ea => ?_)
                          have hE := Env.put_some hE rfl ea; clear ea
                          refine t_off rfl hE rfl rfl rfl (fun a ea => ?_)
                          have hE := Env.put_some hE rfl ea; clear ea
                          refine t_off' rfl hE rfl rfl (fun b hb => by cases hb) (fun a ea => ?_)
                          have hE := Env.put_some hE rfl ea; clear ea
                          refine t_off' rfl hE rfl rfl (fun b hb => by cases hb) (fun a ea => ?_)
                          have hE := Env.put_some hE rfl ea; clear ea
                          refine t_off rfl hE rfl rfl rfl (fun a ea => ?_)
                          have hE := Env.put_some hE rfl ea; clear ea
                          refine t_on rfl hE rfl rfl rfl ?_
                          refine t_val rfl rfl hE rfl (r_pick_t hE rfl rfl) (fun a hE => ?_)
                          refine t_nil ?_
                          exact hKr _ _ _ (hE.cut (.cons rfl (.cons rfl Subs.nil))) hR H
                        · replace H := M.ite_f hb H
                          have hE := hE.reb 77 x76_41 false hb rfl
                          refine t_on rfl hE rfl rfl rfl ?_
                          obtain ⟨x78_43, qx78_43, H⟩ := H
                          refine t_val (v := .agg x78_43) rfl rfl hE rfl (r_loadG hE rfl ag26 qx78_43) (fun a hE => ?_)
                          refine t_on rfl hE rfl rfl rfl ?_
                          obtain ⟨x79_44, qx79_44, H⟩ := H
                          refine t_val (v := .agg x79_44) rfl rfl hE rfl (r_loadG hE rfl ag26 qx79_44) (fun a hE => ?_)
                          refine t_on rfl hE rfl rfl rfl ?_
                          obtain ⟨x80_45, qx80_45, H⟩ := H
                          refine t_val (v := .bool (!x80_45)) rfl rfl hE rfl (r_bin hE rfl rfl (g_agg eg26) (b_neqA un26 un5 sz5 qx80_45)) (fun a hE => ?_)
                          refine t_on rfl hE rfl rfl rfl ?_
                          refine t_val (v := .bool (!x80_45)) rfl rfl hE rfl (r_move hE rfl) (fun a hE => ?_)
                          refine t_grp (n := 87) (w0 := w0) 3 (fun x84_46 : Bool => [(69, .bool true), (77, .bool false), (84, .bool x84_46)]) (M.unbind H) (fun Kr hKr H => ?_) ?_
                          · rcases bool_em (!x80_45) with hb | hb
                            · replace H := M.ite_t hb H
                              have hE := hE.reb 81 (!x80_45) true hb rfl
                              refine t_on rfl hE rfl rfl rfl ?_
                              refine t_val (v := .int .i64 x64_33.2) rfl rfl hE rfl (r_move hE rfl) (fun a hE => ?_)
                              refine t_on rfl hE rfl rfl rfl ?_
                              refine t_val (v := .bool (x64_33.2 == 50)) rfl rfl hE rfl (r_bin hE rfl rfl g_int b_eql) (fun a hE => ?_)
                              refine t_on rfl hE rfl rfl rfl ?_
                              refine t_val rfl rfl hE rfl (r_pick_t hE rfl rfl) (fun a hE => ?_)
                              refine t_nil ?_
                              exact hKr _ _ _ (hE.cut (.cons rfl (.cons rfl (.cons rfl Subs.nil)))) hR H
                            · replace H := M.ite_f hb H
                              have hE := hE.reb 81 (!x80_45) false hb rfl
                              refine t_off rfl hE rfl rfl rfl (fun a ea => ?_)
                              have hE := Env.put_some hE rfl ea; clear ea
                              refine t_off rfl hE rfl rfl rfl (fun a ea => ?_)
                              have hE := Env.put_some hE rfl ea; clear ea
                              refine t_on rfl hE rfl rfl rfl ?_
                              refine t_val rfl rfl hE rfl (r_pick_f hE rfl rfl) (fun a hE => ?_)
                              refine t_nil ?_
                              exact hKr _ _ _ (hE.cut (.cons rfl (.cons rfl (.cons rfl Subs.nil)))) hR H
                          · intro x84_46 a w hE hR H
                            refine t_on rfl hE rfl rfl rfl ?_
                            refine t_val rfl rfl hE rfl (r_pick_f hE rfl rfl) (fun a hE => ?_)
                            refine t_nil ?_
                            exact hKr _ _ _ (hE.cut (.cons rfl (.cons rfl Subs.nil))) hR H
                      · intro x85_42 a w hE hR H
                        refine t_val rfl rfl hE rfl (r_pick_t hE rfl rfl) (fun a hE => ?_)
                        refine t_nil ?_
                        exact hKr _ _ _ (hE.cut (.cons rfl Subs.nil)) hR H
                  · replace H := M.ite_f hb H
                    have hE := hE.reb 69 (x59_28.2 == 0) false hb rfl
                    refine t_off rfl hE rfl rfl rfl (fun a ea => ?_)
                    have hE := Env.put_some hE rfl ea; clear ea
                    refine t_off rfl hE rfl rfl rfl (fun a ea => ?_)
                    have hE := Env.put_some hE rfl ea; clear ea
                    refine t_off rfl hE rfl rfl rfl (fun a ea => ?_)
                    have hE := Env.put_some hE rfl ea; clear ea
                    refine t_off rfl hE rfl rfl rfl (fun a ea => ?_)
                    have hE := Env.put_some hE rfl ea; clear ea
                    refine t_off' rfl hE rfl rfl (fun b hb => by cases hb) (fun a ea => ?_)
                    have hE := Env.put_some hE rfl ea; clear ea
                    refine t_off' rfl hE rfl rfl (fun b hb => by cases hb) (fun a ea => ?_)
                    have hE := Env.put_some hE rfl ea; clear ea
                    refine t_off rfl hE rfl rfl rfl (fun a ea => ?_)
                    have hE := Env.put_some hE rfl ea; clear ea
                    refine t_off rfl hE rfl rfl rfl (fun a ea => ?_)
                    have hE := Env.put_some hE rfl ea; clear ea
                    refine t_off' rfl hE rfl rfl (fun b hb => by cases hb) (fun a ea => ?_)
                    have hE := Env.put_some hE rfl ea; clear ea
                    refine t_off' rfl hE rfl rfl (fun b hb => by cases hb) (fun a ea => ?_)
                    have hE := Env.put_some hE rfl ea; clear ea
                    refine t_off' rfl hE rfl rfl (fun b hb => by cases hb) (fun a ea => ?_)
                    have hE := Env.put_some hE rfl ea; clear ea
                    refine t_off' rfl hE rfl rfl (fun b hb => by cases hb) (fun a ea => ?_)
                    have hE := Env.put_some hE rfl ea; clear ea
                    refine t_off' rfl hE rfl rfl (fun b hb => by cases hb) (fun a ea => ?_)
                    have hE := Env.put_some hE rfl ea; clear ea
                    refine t_off' rfl hE rfl rfl (fun b hb => by cases hb) (fun a ea => ?_)
                    have hE := Env.put_some hE rfl ea; clear ea
                    refine t_off' rfl hE rfl rfl (fun b hb => by cases hb) (fun a ea => ?_)
                    have hE := Env.put_some hE rfl ea; clear ea
                    refine t_off rfl hE rfl rfl rfl (fun a ea => ?_)
                    have hE := Env.put_some hE rfl ea; clear ea
                    refine t_val rfl rfl hE rfl (r_pick_f hE rfl rfl) (fun a hE => ?_)
                    refine t_nil ?_
                    exact hKr _ _ _ (hE.cut (.cons rfl Subs.nil)) hR H
                · intro x86_37 a w hE hR H
                  refine t_val (v := .bool x86_37) rfl rfl hE rfl (r_assign hE rfl) (fun a hE => ?_)
                  refine t_nil ?_
                  refine hK_36 _ _ ?_
                  refine w_ret ?_
                  exact hret _ _ _ x86_37 _ hE hR (res_run hE rfl (RV.tmp rfl RV.nil)) rfl H

/-- bytes.Equal -/
def bytes_Equal (x0 : Sl) (x1 : Sl) : M (Bool) := do
  let x6_3 ← b2s x0
  let x8_4 ← b2s x1
  M.pure (sEq x6_3 x8_4)
theorem S_bytes_Equal (x0 : Sl) (x1 : Sl) : Sound Go.Proofs.Try.prog 19 #[(x0 : Sl).v, (x1 : Sl).v] (fun (r : Bool) => .bool r) (bytes_Equal x0 x1) := by
  refine sound_of [(0, (x0 : Sl).v), (1, (x1 : Sl).v)] Go.Proofs.Try.func19 rfl rfl (Nat.le_of_ble_eq_true rfl) (args_of ⟨rfl, rfl, trivial⟩) (fun w0 w Q R a hret hE hR H => ?_)
  unfold bytes_Equal at H
  refine w_seq (fun K hK_1 => ?_)
  refine t_region ?_
  refine t_val (v := .bool false) rfl rfl hE rfl (r_assign hE rfl) (fun a hE => ?_)
  refine t_nil ?_
  refine hK_1 _ _ ?_
  refine w_seq (fun K hK_2 => ?_)
  refine t_region ?_
  refine t_val (v := (x0 : Sl).v) rfl rfl hE rfl (r_move hE rfl) (fun a hE => ?_)
  obtain ⟨x6_3, qx6_3, H⟩ := H
  refine t_val (v := .string x6_3) rfl rfl hE rfl (b2s_run hE rfl un22 un9 un5 qx6_3) (fun a hE => ?_)
  refine t_val (v := (x1 : Sl).v) rfl rfl hE rfl (r_move hE rfl) (fun a hE => ?_)
  obtain ⟨x8_4, qx8_4, H⟩ := H
  refine t_val (v := .string x8_4) rfl rfl hE rfl (b2s_run hE rfl un22 un9 un5 qx8_4) (fun a hE => ?_)
  refine t_val (v := .bool (sEq x6_3 x8_4)) rfl rfl hE rfl (r_bin hE rfl rfl g_str b_eqlS) (fun a hE => ?_)
  refine t_val (v := .bool (sEq x6_3 x8_4)) rfl rfl hE rfl (r_assign hE rfl) (fun a hE => ?_)
  refine t_nil ?_
  refine hK_2 _ _ ?_
  refine w_ret ?_
  exact hret _ _ _ (sEq x6_3 x8_4) _ hE hR (res_run hE rfl (RV.tmp rfl RV.nil)) rfl H

/-- ramble/rambleref04.New -/
theorem tb27_3 : tabAt Go.Proofs.Try.f27 3 [[], [0, 0], [], [2, 2], [1, 3], [4], [5, 0, 1, 2, 3, 4, 5], [6, 0, 1, 2, 3, 4, 5, 6]] [[], [0], [], [2], [1, 3], [4], [5], []] [[], [0], [], [2], [0, 1, 2, 3], [0, 1, 2, 3, 4], [0, 1, 2, 3, 4, 5], [0, 1, 2, 3, 4, 5, 6]] = true := by kernel_rfl
def rambleref04_New (x0 : Int) : M (Option Addr × Int) := do
  let x9_4 ← M.ite (decide (x0 < 1)) (do
    M.pure true
    ) (do
    M.pure (decide (x0 > 16384))
    )
  M.ite x9_4 (do
    M.pure ((none : Option Addr), 1)
    ) (do
    let y_11 ← do
      M.both (do
        let x11_7 ← mkS ty_api_Sector 128 128 (Array.replicate 128 (.int .u8 0) : Array Value) x0 x0
        let x13_8 ← mkS ty_bool 1 1 (#[.bool false] : Array Value) x0 x0
        M.pure (x11_7, x13_8, (#[(x11_7 : Sl).v, (x13_8 : Sl).v, .slice none 0 0, .bool false, .int .i64 0, .int .i64 0] : Array Value))
        ) (do
        let x13_9 ← mkS ty_bool 1 1 (#[.bool false] : Array Value) x0 x0
        let x11_10 ← mkS ty_api_Sector 128 128 (Array.replicate 128 (.int .u8 0) : Array Value) x0 x0
        M.pure (x11_10, x13_9, (#[(x11_10 : Sl).v, (x13_9 : Sl).v, .slice none 0 0, .bool false, .int .i64 0, .int .i64 0] : Array Value))
        )
    let x15_12 ← mkB ty_rambleref04_Disk y_11.2.2
    M.pure (some x15_12, 0)
    )
theorem S_rambleref04_New (x0 : Int) : Sound Go.Proofs.Try.prog 27 #[.int .i64 x0] (fun (r : Option Addr × Int) => .tuple #[.pointer r.1, .int .i64 r.2]) (rambleref04_New x0) := by
  refine sound_of [(0, .int .i64 x0)] Go.Proofs.Try.func27 rfl rfl (Nat.le_of_ble_eq_true rfl) (args_of ⟨rfl, trivial⟩) (fun w0 w Q R a hret hE hR H => ?_)
  unfold rambleref04_New at H
  refine w_seq (fun K hK_1 => ?_)
  refine t_region ?_
  refine t_val (v := .pointer (none : Option Addr)) rfl rfl hE rfl (r_assign hE rfl) (fun a hE => ?_)
  refine t_val (v := .int .i64 0) rfl rfl hE rfl (r_assign hE rfl) (fun a hE => ?_)
  refine t_nil ?_
  refine hK_1 _ _ ?_
  refine w_seq (fun K hK_2 => ?_)
  refine w_seq (fun K hK_3 => ?_)
  refine t_region ?_
  refine t_val (v := .int .i64 x0) rfl rfl hE rfl (r_move hE rfl) (fun a hE => ?_)
  refine t_val (v := .bool (decide (x0 < 1))) rfl rfl hE rfl (r_bin hE rfl rfl g_int b_lss) (fun a hE => ?_)
  refine t_val (v := .bool (decide (x0 < 1))) rfl rfl hE rfl (r_move hE rfl) (fun a hE => ?_)
  refine t_grp (n := 16) (w0 := w0) 3 (fun x9_4 : Bool => [(0, .int .i64 x0), (9, .bool x9_4)]) (M.unbind H) (fun Kr hKr H => ?_) ?_
  · rcases bool_em (decide (x0 < 1)) with hb | hb
    · replace H := M.ite_t hb H
      have hE := hE.reb 6 (decide (x0 < 1)) true hb rfl
      refine t_off rfl hE rfl rfl rfl (fun a ea => ?_)
      have hE := Env.put_some hE rfl ea; clear ea
      refine t_off rfl hE rfl rfl rfl (fun a ea => ?_)
      have hE := Env.put_some hE rfl ea; clear ea
      refine t_val rfl rfl hE rfl (r_pick_t hE rfl rfl) (fun a hE => ?_)
      refine t_nil ?_
      exact hKr _ _ _ (hE.cut (.cons rfl (.cons rfl Subs.nil))) hR H
    · replace H := M.ite_f hb H
      have hE := hE.reb 6 (decide (x0 < 1)) false hb rfl
      refine t_on rfl hE rfl rfl rfl ?_
      refine t_val (v := .int .i64 x0) rfl rfl hE rfl (r_move hE rfl) (fun a hE => ?_)
      refine t_on rfl hE rfl rfl rfl ?_
      refine t_val (v := .bool (decide (x0 > 16384))) rfl rfl hE rfl (r_bin hE rfl rfl g_int b_gtr) (fun a hE => ?_)
      refine t_val rfl rfl hE rfl (r_pick_f hE rfl rfl) (fun a hE => ?_)
      refine t_nil ?_
      exact hKr _ _ _ (hE.cut (.cons rfl (.cons rfl Subs.nil))) hR H
  · intro x9_4 a w hE hR H
    refine t_nil ?_
    refine hK_3 _ _ ?_
    refine w_cond x9_4 hE rfl (fun hb => ?_) (fun hb => ?_)
    · replace H := M.ite_t hb H
      refine w_seq (fun K hK_5 => ?_)
      refine t_region ?_
      refine t_val (v := .pointer (none : Option Addr)) rfl rfl hE rfl (r_assign hE rfl) (fun a hE => ?_)
      refine t_val (v := .int .i64 1) rfl rfl hE rfl (r_assign hE rfl) (fun a hE => ?_)
      refine t_nil ?_
      refine hK_5 _ _ ?_
      refine w_ret ?_
      exact hret _ _ _ ((none : Option Addr), 1) _ hE hR (res_run hE rfl (RV.tmp rfl (RV.tmp rfl RV.nil))) rfl H
    · replace H := M.ite_f hb H
      refine w_skip ?_
      refine hK_2 _ _ ?_
      refine w_seq (fun K hK_6 => ?_)
      have hT := tab_of tb27_3 rfl rfl
      refine d_start (fun w : World => (fun h : Heap => True) w.heap) [0, 1, 2, 3, 4, 5, 6, 7] #[false, false, false, false, false, false, false, false] mo hR rfl rfl (fun w' e => by rw [e]; exact trivial) (fun w hh hR hs => ?_)
      replace H := M.at hh H; clear hh
      refine d_pureg (i := 0) (v := .int .i64 x0) #[true, false, false, false, false, false, false, false] rfl rfl hT (by kernel_rfl) hE rfl (wanted_none rfl) (fun w => r_move hE rfl) (fun a hE => ?_)
      refine d_pureg (i := 2) (v := .int .i64 x0) #[true, false, true, false, false, false, false, false] rfl rfl hT (by kernel_rfl) hE rfl (wanted_none rfl) (fun w => r_move hE rfl) (fun a hE => ?_)
      refine d_join (n := 16) (w0 := w0) (fun y_11 : Sl × Sl × Array Value => [(0, .int .i64 x0), (9, .bool x9_4), (10, .int .i64 x0), (12, .int .i64 x0), (11, (y_11.1 : Sl).v), (13, (y_11.2.1 : Sl).v), (14, .agg y_11.2.2)]) 3 #[true, true, true, true, true, false, false, false] (M.unbind H) ?_ ?_
      · intro y_11 a w hE hR H
        obtain ⟨x15_12, qx15_12, H⟩ := H
        refine d_lasth (i := 5) (v := .pointer (some x15_12)) #[true, true, true, true, true, true, false, false] rfl rfl hT (by kernel_rfl) rfl hE hR rfl (wanted_none rfl) (r_box hE rfl qx15_12)  (fun a w hE hR hh => ?_)
        replace H := M.at hh H; clear hh
        refine d_pureg (i := 6) (v := .pointer (some x15_12)) #[true, true, true, true, true, true, true, false] rfl rfl hT (by kernel_rfl) hE rfl (wanted_none rfl) (fun w => r_assign hE rfl) (fun a hE => ?_)
        refine d_pureg (i := 7) (v := .int .i64 0) #[true, true, true, true, true, true, true, true] rfl rfl hT (by kernel_rfl) hE rfl (wanted_none rfl) (fun w => r_assign hE rfl) (fun a hE => ?_)
        refine d_done hT (by kernel_rfl) ?_
        refine hK_6 _ _ ?_
        refine w_ret ?_
        exact hret _ _ _ (some x15_12, 0) _ hE hR (res_run hE rfl (RV.tmp rfl (RV.tmp rfl RV.nil))) rfl H
      · intro hj H
        refine d_pick [1, 3] hT (by kernel_rfl) rfl (fun i hi => ?_)
        simp only [List.mem_cons, List.not_mem_nil, or_false] at hi
        rcases hi with rfl | rfl
        · replace H := H.1
          refine p_ex (S := fun w : World => (fun h : Heap => True) w.heap) (i := 1) (fun x11_7 => (x11_7 : Sl).v) #[true, true, true, false, false, false, false, false] rfl rfl (by kernel_rfl) hR (wanted_none rfl) (M.unbind H) (fun Q H => mkS_run hE rfl rfl ap74 H) (fun _ _ _ _ _ => trivial) (fun x11_7 a w ea hR H hs => ?_)
          have hE := Env.put_some hE rfl ea; clear ea
          refine d_exl (i := 3) (fun x13_8 => (x13_8 : Sl).v) #[true, true, true, true, false, false, false, false] rfl rfl hT (by kernel_rfl) rfl hR (wanted_none rfl) (M.unbind H) (fun Q H => mkS_run hE rfl rfl ap75 H) (fun x13_8 a w ea hR H => ?_)
          have hE := Env.put_some hE rfl ea; clear ea
          refine d_pureg (i := 4) (v := .agg (#[(x11_7 : Sl).v, (x13_8 : Sl).v, .slice none 0 0, .bool false, .int .i64 0, .int .i64 0] : Array Value)) #[true, true, true, true, true, false, false, false] rfl rfl hT (by kernel_rfl) hE rfl (wanted_none rfl) (fun w => r_build hE rfl zr84 pl84 (by rfl)) (fun a hE => ?_)
          exact hj _ _ _ (hE.cut (.cons rfl (.cons rfl (.cons rfl (.cons rfl (.cons rfl (.cons rfl (.cons rfl Subs.nil)))))))) hR H
        · replace H := H.2
          refine p_ex (S := fun w : World => (fun h : Heap => True) w.heap) (i := 3) (fun x13_9 => (x13_9 : Sl).v) #[true, false, true, true, false, false, false, false] rfl rfl (by kernel_rfl) hR (wanted_none rfl) (M.unbind H) (fun Q H => mkS_run hE rfl rfl ap75 H) (fun _ _ _ _ _ => trivial) (fun x13_9 a w ea hR H hs => ?_)
          have hE := Env.put_some hE rfl ea; clear ea
          refine d_exl (i := 1) (fun x11_10 => (x11_10 : Sl).v) #[true, true, true, true, false, false, false, false] rfl rfl hT (by kernel_rfl) rfl hR (wanted_none rfl) (M.unbind H) (fun Q H => mkS_run hE rfl rfl ap74 H) (fun x11_10 a w ea hR H => ?_)
          have hE := Env.put_some hE rfl ea; clear ea
          refine d_pureg (i := 4) (v := .agg (#[(x11_10 : Sl).v, (x13_9 : Sl).v, .slice none 0 0, .bool false, .int .i64 0, .int .i64 0] : Array Value)) #[true, true, true, true, true, false, false, false] rfl rfl hT (by kernel_rfl) hE rfl (wanted_none rfl) (fun w => r_build hE rfl zr84 pl84 (by rfl)) (fun a hE => ?_)
          exact hj _ _ _ (hE.cut (.cons rfl (.cons rfl (.cons rfl (.cons rfl (.cons rfl (.cons rfl (.cons rfl Subs.nil)))))))) hR H

/-- ramble/sector.Put -/
def sector_Put (x0 : Option Addr) (x1 : Int) (x2 : Array Value) : M (Int) := do
  let x5_2 ← mkB ty_api_Frame x2
  let x10_4 ← ldG 3 x5_2
  let x11_5 ← sector_Seal x10_4
  let x7_6 ← mkB ty_api_Sector (Array.replicate 128 (.int .u8 0) : Array Value)
  M.need (x11_5.1.size = 128)
  stG x7_6 x11_5.1
  M.ite (x11_5.2 != 0) (do
    M.pure x11_5.2
    ) (do
    let x19_12 ← ldG 128 x7_6
    let x20_13 ← disk_Disk_Write x0 x1 x19_12
    M.pure x20_13
    )
theorem S_sector_Put (x0 : Option Addr) (x1 : Int) (x2 : Array Value) : Sound Go.Proofs.Try.prog 28 #[.pointer x0, .int .i64 x1, .agg x2] (fun (r : Int) => .int .i64 r) (sector_Put x0 x1 x2) := by
  refine sound_of [(0, .pointer x0), (1, .int .i64 x1), (2, .agg x2)] Go.Proofs.Try.func28 rfl rfl (Nat.le_of_ble_eq_true rfl) (args_of ⟨rfl, rfl, rfl, trivial⟩) (fun w0 w Q R a hret hE hR H => ?_)
  unfold sector_Put at H
  refine w_seq (fun K hK_1 => ?_)
  refine t_region ?_
  obtain ⟨x5_2, qx5_2, H⟩ := H
  refine t_valh (v := .pointer (some x5_2)) rfl rfl hE rfl hR (r_box hE rfl qx5_2) (fun a w hE hR hh => ?_)
  replace H := M.at hh H; clear hh
  refine t_val (v := .int .i64 0) rfl rfl hE rfl (r_assign hE rfl) (fun a hE => ?_)
  refine t_nil ?_
  refine hK_1 _ _ ?_
  refine w_seq (fun K hK_3 => ?_)
  refine t_region ?_
  obtain ⟨x10_4, qx10_4, H⟩ := H
  refine t_val (v := .agg x10_4) rfl rfl hE rfl (r_loadG hE rfl ag24 qx10_4) (fun a hE => ?_)
  refine t_call hE hR cl8 rfl (S_sector_Seal x10_4) (M.unbind H) (fun x11_5 a w ea hR H => ?_)
  have hE := Env.put_some hE rfl ea; clear ea
  refine t_val (v := .tuple #[.agg x11_5.1, .int .i64 x11_5.2]) rfl rfl hE rfl (r_move hE rfl) (fun a hE => ?_)
  refine t_val (v := .agg x11_5.1) rfl rfl hE rfl (r_extract hE rfl rfl) (fun a hE => ?_)
  refine t_val (v := .int .i64 x11_5.2) rfl rfl hE rfl (r_extract hE rfl rfl) (fun a hE => ?_)
  obtain ⟨x7_6, qx7_6, H⟩ := H
  refine t_valh (v := .pointer (some x7_6)) rfl rfl hE rfl hR (r_alloc zr26 qx7_6) (fun a w hE hR hh => ?_)
  replace H := M.at hh H; clear hh
  obtain ⟨qz, H⟩ := H
  obtain ⟨u_7, qu_7, H⟩ := H
  refine t_sth rfl rfl hE hR (r_storeG hE rfl rfl sz26 qz qu_7) (fun a w hE hR hh => ?_)
  replace H := M.at hh H; clear hh
  refine t_val (v := .int .i64 x11_5.2) rfl rfl hE rfl (r_assign hE rfl) (fun a hE => ?_)
  refine t_nil ?_
  refine hK_3 _ _ ?_
  refine w_seq (fun K hK_8 => ?_)
  refine w_seq (fun K hK_9 => ?_)
  refine t_region ?_
  refine t_val (v := .int .i64 x11_5.2) rfl rfl hE rfl (r_move hE rfl) (fun a hE => ?_)
  refine t_val (v := .bool (x11_5.2 != 0)) rfl rfl hE rfl (r_bin hE rfl rfl g_int b_neq) (fun a hE => ?_)
  refine t_nil ?_
  refine hK_9 _ _ ?_
  refine w_cond (x11_5.2 != 0) hE rfl (fun hb => ?_) (fun hb => ?_)
  · replace H := M.ite_t hb H
    refine w_seq (fun K hK_10 => ?_)
    refine t_region ?_
    refine t_val (v := .int .i64 x11_5.2) rfl rfl hE rfl (r_move hE rfl) (fun a hE => ?_)
    refine t_val (v := .int .i64 x11_5.2) rfl rfl hE rfl (r_assign hE rfl) (fun a hE => ?_)
    refine t_nil ?_
    refine hK_10 _ _ ?_
    refine w_ret ?_
    exact hret _ _ _ x11_5.2 _ hE hR (res_run hE rfl (RV.tmp rfl RV.nil)) rfl H
  · replace H := M.ite_f hb H
    refine w_skip ?_
    refine hK_8 _ _ ?_
    refine w_seq (fun K hK_11 => ?_)
    refine t_region ?_
    refine t_val (v := .pointer x0) rfl rfl hE rfl (r_move hE rfl) (fun a hE => ?_)
    refine t_val (v := .int .i64 x1) rfl rfl hE rfl (r_move hE rfl) (fun a hE => ?_)
    obtain ⟨x19_12, qx19_12, H⟩ := H
    refine t_val (v := .agg x19_12) rfl rfl hE rfl (r_loadG hE rfl ag26 qx19_12) (fun a hE => ?_)
    refine t_call hE hR cl23 rfl (S_disk_Disk_Write x0 x1 x19_12) (M.unbind H) (fun x20_13 a w ea hR H => ?_)
    have hE := Env.put_some hE rfl ea; clear ea
    refine t_val (v := .int .i64 x20_13) rfl rfl hE rfl (r_assign hE rfl) (fun a hE => ?_)
    refine t_nil ?_
    refine hK_11 _ _ ?_
    refine w_ret ?_
    exact hret _ _ _ x20_13 _ hE hR (res_run hE rfl (RV.tmp rfl RV.nil)) rfl H

/-- (*ramble/rambleref04.Disk).call -/
def rambleref04_Disk_call_j1 (c0_13 : Option Addr) : M (Bool) := do
  let x27_15 ← nilP c0_13
  let x29_16 ← ldI .i64 ((x27_15).add 5)
  let x31_17 ← nilP c0_13
  stV ((x31_17).add 5) (.int .i64 (IntKind.wrap .i64 (x29_16 + 1)))
  M.pure true
def rambleref04_Disk_call (x0 : Option Addr) : M (Bool) := do
  let x4_4 ← nilP x0
  let x6_5 ← ldI .i64 ((x4_4).add 4)
  M.ite (x6_5 == 1) (do
    let x9_7 ← nilP x0
    stV ((x9_7).add 3) (.bool true)
    let x12_10 ← nilP x0
    stV ((x12_10).add 4) (.int .i64 0)
    M.pure false
    ) (do
    let x15_21 ← nilP x0
    let x17_22 ← ldI .i64 ((x15_21).add 4)
    M.ite (decide (x17_22 > 0)) (do
      let x20_23 ← nilP x0
      let x22_24 ← ldI .i64 ((x20_23).add 4)
      let x24_25 ← nilP x0
      stV ((x24_25).add 4) (.int .i64 (IntKind.wrap .i64 (x22_24 - 1)))
      rambleref04_Disk_call_j1 x0
      ) (do
      rambleref04_Disk_call_j1 x0
      )
    )
theorem S_rambleref04_Disk_call (x0 : Option Addr) : Sound Go.Proofs.Try.prog 45 #[.pointer x0] (fun (r : Bool) => .bool r) (rambleref04_Disk_call x0) := by
  refine sound_of [(0, .pointer x0)] Go.Proofs.Try.func45 rfl rfl (Nat.le_of_ble_eq_true rfl) (args_of ⟨rfl, trivial⟩) (fun w0 w Q R a hret hE hR H => ?_)
  unfold rambleref04_Disk_call at H
  refine w_seq (fun K hK_1 => ?_)
  refine t_region ?_
  refine t_val (v := .bool false) rfl rfl hE rfl (r_assign hE rfl) (fun a hE => ?_)
  refine t_nil ?_
  refine hK_1 _ _ ?_
  refine w_seq (fun K hK_2 => ?_)
  refine w_seq (fun K hK_3 => ?_)
  refine t_region ?_
  refine t_val (v := .pointer x0) rfl rfl hE rfl (r_move hE rfl) (fun a hE => ?_)
  obtain ⟨x4_4, qx4_4, H⟩ := H
  refine t_val (v := .pointer (some x4_4)) rfl rfl hE rfl (r_nilCheck hE (hx_eq rfl (congrArg Value.pointer qx4_4))) (fun a hE => ?_)
  refine t_val (v := .pointer (some ((x4_4).add 4))) rfl rfl hE rfl (r_fieldAddr hE rfl fd84_4) (fun a hE => ?_)
  obtain ⟨x6_5, qx6_5, H⟩ := H
  refine t_val (v := .int .i64 x6_5) rfl rfl hE rfl (r_load hE rfl sc3 qx6_5) (fun a hE => ?_)
  refine t_val (v := .bool (x6_5 == 1)) rfl rfl hE rfl (r_bin hE rfl rfl g_int b_eql) (fun a hE => ?_)
  refine t_nil ?_
  refine hK_3 _ _ ?_
  refine w_cond (x6_5 == 1) hE rfl (fun hb => ?_) (fun hb => ?_)
  · replace H := M.ite_t hb H
    refine w_seq (fun K hK_6 => ?_)
    refine t_region ?_
    refine t_val (v := .pointer x0) rfl rfl hE rfl (r_move hE rfl) (fun a hE => ?_)
    obtain ⟨x9_7, qx9_7, H⟩ := H
    refine t_val (v := .pointer (some x9_7)) rfl rfl hE rfl (r_nilCheck hE (hx_eq rfl (congrArg Value.pointer qx9_7))) (fun a hE => ?_)
    refine t_val (v := .pointer (some ((x9_7).add 3))) rfl rfl hE rfl (r_fieldAddr hE rfl fd84_3) (fun a hE => ?_)
    obtain ⟨u_8, qu_8, H⟩ := H
    refine t_sth rfl rfl hE hR (r_store hE rfl rfl sz4 qu_8) (fun a w hE hR hh => ?_)
    replace H := M.at hh H; clear hh
    refine t_nil ?_
    refine hK_6 _ _ ?_
    refine w_seq (fun K hK_9 => ?_)
    refine t_region ?_
    refine t_val (v := .pointer x0) rfl rfl hE rfl (r_move hE rfl) (fun a hE => ?_)
    obtain ⟨x12_10, qx12_10, H⟩ := H
    refine t_val (v := .pointer (some x12_10)) rfl rfl hE rfl (r_nilCheck hE (hx_eq rfl (congrArg Value.pointer qx12_10))) (fun a hE => ?_)
    refine t_val (v := .pointer (some ((x12_10).add 4))) rfl rfl hE rfl (r_fieldAddr hE rfl fd84_4) (fun a hE => ?_)
    obtain ⟨u_11, qu_11, H⟩ := H
    refine t_sth rfl rfl hE hR (r_store hE rfl rfl sz3 qu_11) (fun a w hE hR hh => ?_)
    replace H := M.at hh H; clear hh
    refine t_nil ?_
    refine hK_9 _ _ ?_
    refine w_seq (fun K hK_12 => ?_)
    refine t_region ?_
    refine t_val (v := .bool false) rfl rfl hE rfl (r_assign hE rfl) (fun a hE => ?_)
    refine t_nil ?_
    refine hK_12 _ _ ?_
    refine w_ret ?_
    exact hret _ _ _ false _ hE hR (res_run hE rfl (RV.tmp rfl RV.nil)) rfl H
  · replace H := M.ite_f hb H
    refine w_skip ?_
    refine hK_2 _ _ ?_
    refine w_seq_join (fun a w => Env 33 a [(0, .pointer x0)] ∧ Rest w0 w ∧ (rambleref04_Disk_call_j1 x0).wp w.heap Q) ?_ ?_
    · rintro a w ⟨hE, hR, H⟩
      unfold rambleref04_Disk_call_j1 at H
      refine w_seq (fun K hK_14 => ?_)
      refine t_region ?_
      refine t_val (v := .pointer x0) rfl rfl hE rfl (r_move hE rfl) (fun a hE => ?_)
      obtain ⟨x27_15, qx27_15, H⟩ := H
      refine t_val (v := .pointer (some x27_15)) rfl rfl hE rfl (r_nilCheck hE (hx_eq rfl (congrArg Value.pointer qx27_15))) (fun a hE => ?_)
      refine t_val (v := .pointer (some ((x27_15).add 5))) rfl rfl hE rfl (r_fieldAddr hE rfl fd84_5) (fun a hE => ?_)
      obtain ⟨x29_16, qx29_16, H⟩ := H
      refine t_val (v := .int .i64 x29_16) rfl rfl hE rfl (r_load hE rfl sc2 qx29_16) (fun a hE => ?_)
      refine t_val (v := .int .i64 (IntKind.wrap .i64 (x29_16 + 1))) rfl rfl hE rfl (r_bin hE rfl rfl g_int b_add) (fun a hE => ?_)
      obtain ⟨x31_17, qx31_17, H⟩ := H
      refine t_val (v := .pointer (some x31_17)) rfl rfl hE rfl (r_nilCheck hE (hx_eq rfl (congrArg Value.pointer qx31_17))) (fun a hE => ?_)
      refine t_val (v := .pointer (some ((x31_17).add 5))) rfl rfl hE rfl (r_fieldAddr hE rfl fd84_5) (fun a hE => ?_)
      obtain ⟨u_18, qu_18, H⟩ := H
      refine t_sth rfl rfl hE hR (r_store hE rfl rfl sz2 qu_18) (fun a w hE hR hh => ?_)
      replace H := M.at hh H; clear hh
      refine t_nil ?_
      refine hK_14 _ _ ?_
      refine w_seq (fun K hK_19 => ?_)
      refine t_region ?_
      refine t_val (v := .bool true) rfl rfl hE rfl (r_assign hE rfl) (fun a hE => ?_)
      refine t_nil ?_
      refine hK_19 _ _ ?_
      refine w_ret ?_
      exact hret _ _ _ true _ hE hR (res_run hE rfl (RV.tmp rfl RV.nil)) rfl H
    · skip
      refine w_seq (fun K hK_20 => ?_)
      refine t_region ?_
      refine t_val (v := .pointer x0) rfl rfl hE rfl (r_move hE rfl) (fun a hE => ?_)
      obtain ⟨x15_21, qx15_21, H⟩ := H
      refine t_val (v := .pointer (some x15_21)) rfl rfl hE rfl (r_nilCheck hE (hx_eq rfl (congrArg Value.pointer qx15_21))) (fun a hE => ?_)
      refine t_val (v := .pointer (some ((x15_21).add 4))) rfl rfl hE rfl (r_fieldAddr hE rfl fd84_4) (fun a hE => ?_)
      obtain ⟨x17_22, qx17_22, H⟩ := H
      refine t_val (v := .int .i64 x17_22) rfl rfl hE rfl (r_load hE rfl sc3 qx17_22) (fun a hE => ?_)
      refine t_val (v := .bool (decide (x17_22 > 0))) rfl rfl hE rfl (r_bin hE rfl rfl g_int b_gtr) (fun a hE => ?_)
      refine t_nil ?_
      refine hK_20 _ _ ?_
      refine w_cond (decide (x17_22 > 0)) hE rfl (fun hb => ?_) (fun hb => ?_)
      · replace H := M.ite_t hb H
        refine t_region ?_
        refine t_val (v := .pointer x0) rfl rfl hE rfl (r_move hE rfl) (fun a hE => ?_)
        obtain ⟨x20_23, qx20_23, H⟩ := H
        refine t_val (v := .pointer (some x20_23)) rfl rfl hE rfl (r_nilCheck hE (hx_eq rfl (congrArg Value.pointer qx20_23))) (fun a hE => ?_)
        refine t_val (v := .pointer (some ((x20_23).add 4))) rfl rfl hE rfl (r_fieldAddr hE rfl fd84_4) (fun a hE => ?_)
        obtain ⟨x22_24, qx22_24, H⟩ := H
        refine t_val (v := .int .i64 x22_24) rfl rfl hE rfl (r_load hE rfl sc3 qx22_24) (fun a hE => ?_)
        refine t_val (v := .int .i64 (IntKind.wrap .i64 (x22_24 - 1))) rfl rfl hE rfl (r_bin hE rfl rfl g_int b_sub) (fun a hE => ?_)
        obtain ⟨x24_25, qx24_25, H⟩ := H
        refine t_val (v := .pointer (some x24_25)) rfl rfl hE rfl (r_nilCheck hE (hx_eq rfl (congrArg Value.pointer qx24_25))) (fun a hE => ?_)
        refine t_val (v := .pointer (some ((x24_25).add 4))) rfl rfl hE rfl (r_fieldAddr hE rfl fd84_4) (fun a hE => ?_)
        obtain ⟨u_26, qu_26, H⟩ := H
        refine t_sth rfl rfl hE hR (r_store hE rfl rfl sz3 qu_26) (fun a w hE hR hh => ?_)
        replace H := M.at hh H; clear hh
        refine t_nil ?_
        exact ⟨hE.cut (.cons rfl Subs.nil), hR, H⟩
      · replace H := M.ite_f hb H
        refine w_skip ?_
        exact ⟨hE.cut (.cons rfl Subs.nil), hR, H⟩

end Gx
