/- Printed by program: Go functions as Lean programs, each tied to its code. No condition. -/
import Derived.Test.YtklegajjmeajiaaAT
import Derived.Test.YtklegajjmeajiaaAF0
import Derived.Test.YtklegajjmeajiaaAF1
import Derived.Test.YtklegajjmeajiaaAF2
import Derived.Test.YtklegajjmeajiaaAF3
import Derived.Test.YtklegajjmeajiaaAF4
import Derived.Test.YtklegajjmeajiaaAF5
import Derived.Test.YtklegajjmeajiaaAF6
import Derived.Test.YtklegajjmeajiaaAF7
import Derived.Test.YtklegajjmeajiaaAF8
namespace Gx
open Go
set_option linter.unusedVariables false
set_option maxRecDepth 100000
/-- ramble/rambleref05.Get -/
def rambleref05_Get (x0 : Option Addr) (x1 : Int) (x2 : Int) (x3 : Int) : M (Sl × Int) := do
  let x16_3 ← rambleref04_Disk_Read x0 x1
  let x10_4 ← mkB ty_api_Sector (Array.replicate 128 (.int .u8 0) : Array Value)
  M.need (x16_3.1.size = 128)
  stG x10_4 x16_3.1
  M.ite (x16_3.2 != 0) (do
    M.pure (Sl.nil, x16_3.2)
    ) (do
    let x23_10 ← ldG 128 x10_4
    let x24_11 ← rambleref05_Open x23_10
    let x12_12 ← mkB ty_api_Frame (#[.int .i64 0, .int .i64 0, .slice none 0 0] : Array Value)
    M.need (x24_11.1.size = 3)
    stG x12_12 x24_11.1
    let x34_16 ← M.ite (x24_11.2 != 0) (do
      M.pure true
      ) (do
      let x31_17 ← ldI .i64 ((x12_12).add 0)
      M.pure (x31_17 != x2)
      )
    let x40_18 ← M.ite x34_16 (do
      M.pure true
      ) (do
      let x37_19 ← ldI .i64 ((x12_12).add 1)
      M.pure (x37_19 != x3)
      )
    M.ite x40_18 (do
      M.pure (Sl.nil, 50)
      ) (do
      let x42_22 ← ldL ((x12_12).add 2)
      M.pure (x42_22, 0)
      )
    )
theorem S_rambleref05_Get (x0 : Option Addr) (x1 : Int) (x2 : Int) (x3 : Int) : Sound Go.Proofs.Try.prog 33 #[.pointer x0, .int .i64 x1, .int .i64 x2, .int .i64 x3] (fun (r : Sl × Int) => .tuple #[(r.1 : Sl).v, .int .i64 r.2]) (rambleref05_Get x0 x1 x2 x3) := by
  refine sound_of [(0, .pointer x0), (1, .int .i64 x1), (2, .int .i64 x2), (3, .int .i64 x3)] Go.Proofs.Try.func33 rfl rfl (Nat.le_of_ble_eq_true rfl) (args_of ⟨rfl, rfl, rfl, rfl, trivial⟩) (fun w0 w Q R a hret hE hR H => ?_)
  unfold rambleref05_Get at H
  refine w_seq (fun K hK_1 => ?_)
  refine t_region ?_
  refine t_val (v := (Sl.nil : Sl).v) rfl rfl hE rfl (r_assign hE rfl) (fun a hE => ?_)
  refine t_val (v := .int .i64 0) rfl rfl hE rfl (r_assign hE rfl) (fun a hE => ?_)
  refine t_nil ?_
  refine hK_1 _ _ ?_
  refine w_seq (fun K hK_2 => ?_)
  refine t_region ?_
  refine t_val (v := .pointer x0) rfl rfl hE rfl (r_move hE rfl) (fun a hE => ?_)
  refine t_val (v := .int .i64 x1) rfl rfl hE rfl (r_move hE rfl) (fun a hE => ?_)
  refine t_call hE hR cl47 rfl (S_rambleref04_Disk_Read x0 x1) (M.unbind H) (fun x16_3 a w ea hR H => ?_)
  have hE := Env.put_some hE rfl ea; clear ea
  refine t_val (v := .tuple #[.agg x16_3.1, .int .i64 x16_3.2]) rfl rfl hE rfl (r_move hE rfl) (fun a hE => ?_)
  refine t_val (v := .agg x16_3.1) rfl rfl hE rfl (r_extract hE rfl rfl) (fun a hE => ?_)
  refine t_val (v := .int .i64 x16_3.2) rfl rfl hE rfl (r_extract hE rfl rfl) (fun a hE => ?_)
  obtain ⟨x10_4, qx10_4, H⟩ := H
  refine t_valh (v := .pointer (some x10_4)) rfl rfl hE rfl hR (r_alloc zr26 qx10_4) (fun a w hE hR hh => ?_)
  replace H := M.at hh H; clear hh
  obtain ⟨qz, H⟩ := H
  obtain ⟨u_5, qu_5, H⟩ := H
  refine t_sth rfl rfl hE hR (r_storeG hE rfl rfl sz26 qz qu_5) (fun a w hE hR hh => ?_)
  replace H := M.at hh H; clear hh
  refine t_val (v := .int .i64 x16_3.2) rfl rfl hE rfl (r_assign hE rfl) (fun a hE => ?_)
  refine t_nil ?_
  refine hK_2 _ _ ?_
  refine w_seq (fun K hK_6 => ?_)
  refine w_seq (fun K hK_7 => ?_)
  refine t_region ?_
  refine t_val (v := .int .i64 x16_3.2) rfl rfl hE rfl (r_move hE rfl) (fun a hE => ?_)
  refine t_val (v := .bool (x16_3.2 != 0)) rfl rfl hE rfl (r_bin hE rfl rfl g_int b_neq) (fun a hE => ?_)
  refine t_nil ?_
  refine hK_7 _ _ ?_
  refine w_cond (x16_3.2 != 0) hE rfl (fun hb => ?_) (fun hb => ?_)
  · replace H := M.ite_t hb H
    refine w_seq (fun K hK_8 => ?_)
    refine t_region ?_
    refine t_val (v := .int .i64 x16_3.2) rfl rfl hE rfl (r_move hE rfl) (fun a hE => ?_)
    refine t_val (v := (Sl.nil : Sl).v) rfl rfl hE rfl (r_assign hE rfl) (fun a hE => ?_)
    refine t_val (v := .int .i64 x16_3.2) rfl rfl hE rfl (r_assign hE rfl) (fun a hE => ?_)
    refine t_nil ?_
    refine hK_8 _ _ ?_
    refine w_ret ?_
    exact hret _ _ _ (Sl.nil, x16_3.2) _ hE hR (res_run hE rfl (RV.tmp rfl (RV.tmp rfl RV.nil))) rfl H
  · replace H := M.ite_f hb H
    refine w_skip ?_
    refine hK_6 _ _ ?_
    refine w_seq (fun K hK_9 => ?_)
    refine t_region ?_
    obtain ⟨x23_10, qx23_10, H⟩ := H
    refine t_val (v := .agg x23_10) rfl rfl hE rfl (r_loadG hE rfl ag26 qx23_10) (fun a hE => ?_)
    refine t_call hE hR cl11 rfl (S_rambleref05_Open x23_10) (M.unbind H) (fun x24_11 a w ea hR H => ?_)
    have hE := Env.put_some hE rfl ea; clear ea
    refine t_val (v := .tuple #[.agg x24_11.1, .int .i64 x24_11.2]) rfl rfl hE rfl (r_move hE rfl) (fun a hE => ?_)
    refine t_val (v := .agg x24_11.1) rfl rfl hE rfl (r_extract hE rfl rfl) (fun a hE => ?_)
    refine t_val (v := .int .i64 x24_11.2) rfl rfl hE rfl (r_extract hE rfl rfl) (fun a hE => ?_)
    obtain ⟨x12_12, qx12_12, H⟩ := H
    refine t_valh (v := .pointer (some x12_12)) rfl rfl hE rfl hR (r_alloc zr24 qx12_12) (fun a w hE hR hh => ?_)
    replace H := M.at hh H; clear hh
    obtain ⟨qz, H⟩ := H
    obtain ⟨u_13, qu_13, H⟩ := H
    refine t_sth rfl rfl hE hR (r_storeG hE rfl rfl sz24 qz qu_13) (fun a w hE hR hh => ?_)
    replace H := M.at hh H; clear hh
    refine t_val (v := .int .i64 x24_11.2) rfl rfl hE rfl (r_assign hE rfl) (fun a hE => ?_)
    refine t_nil ?_
    refine hK_9 _ _ ?_
    refine w_seq (fun K hK_14 => ?_)
    refine w_seq (fun K hK_15 => ?_)
    refine t_region ?_
    refine t_val (v := .int .i64 x24_11.2) rfl rfl hE rfl (r_move hE rfl) (fun a hE => ?_)
    refine t_val (v := .bool (x24_11.2 != 0)) rfl rfl hE rfl (r_bin hE rfl rfl g_int b_neq) (fun a hE => ?_)
    refine t_val (v := .bool (x24_11.2 != 0)) rfl rfl hE rfl (r_move hE rfl) (fun a hE => ?_)
    refine t_grp (n := 43) (w0 := w0) 5 (fun x34_16 : Bool => [(3, .int .i64 x3), (12, .pointer (some x12_12)), (34, .bool x34_16)]) (M.unbind H) (fun Kr hKr H => ?_) ?_
    · rcases bool_em (x24_11.2 != 0) with hb | hb
      · replace H := M.ite_t hb H
        have hE := hE.reb 29 (x24_11.2 != 0) true hb rfl
        refine t_off rfl hE rfl rfl rfl (fun a ea => ?_)
        have hE := Env.put_some hE rfl ea; clear ea
        refine t_off rfl hE rfl rfl rfl (fun a ea => ?_)
        have hE := Env.put_some hE rfl ea; clear ea
        refine t_off rfl hE rfl rfl rfl (fun a ea => ?_)
        have hE := Env.put_some hE rfl ea; clear ea
        refine t_off rfl hE rfl rfl rfl (fun a ea => ?_)
        have hE := Env.put_some hE rfl ea; clear ea
        refine t_val rfl rfl hE rfl (r_pick_t hE rfl rfl) (fun a hE => ?_)
        refine t_nil ?_
        exact hKr _ _ _ (hE.cut (.cons rfl (.cons rfl (.cons rfl Subs.nil)))) hR H
      · replace H := M.ite_f hb H
        have hE := hE.reb 29 (x24_11.2 != 0) false hb rfl
        refine t_on rfl hE rfl rfl rfl ?_
        refine t_val (v := .pointer (some ((x12_12).add 0))) rfl rfl hE rfl (r_fieldAddr hE rfl fd24_0) (fun a hE => ?_)
        refine t_on rfl hE rfl rfl rfl ?_
        obtain ⟨x31_17, qx31_17, H⟩ := H
        refine t_val (v := .int .i64 x31_17) rfl rfl hE rfl (r_load hE rfl sc3 qx31_17) (fun a hE => ?_)
        refine t_on rfl hE rfl rfl rfl ?_
        refine t_val (v := .int .i64 x2) rfl rfl hE rfl (r_move hE rfl) (fun a hE => ?_)
        refine t_on rfl hE rfl rfl rfl ?_
        refine t_val (v := .bool (x31_17 != x2)) rfl rfl hE rfl (r_bin hE rfl rfl g_int b_neq) (fun a hE => ?_)
        refine t_val rfl rfl hE rfl (r_pick_f hE rfl rfl) (fun a hE => ?_)
        refine t_nil ?_
        exact hKr _ _ _ (hE.cut (.cons rfl (.cons rfl (.cons rfl Subs.nil)))) hR H
    · intro x34_16 a w hE hR H
      refine t_val (v := .bool x34_16) rfl rfl hE rfl (r_move hE rfl) (fun a hE => ?_)
      refine t_grp (n := 43) (w0 := w0) 5 (fun x40_18 : Bool => [(12, .pointer (some x12_12)), (40, .bool x40_18)]) (M.unbind H) (fun Kr hKr H => ?_) ?_
      · rcases bool_em x34_16 with hb | hb
        · replace H := M.ite_t hb H
          have hE := hE.reb 35 x34_16 true hb rfl
          refine t_off rfl hE rfl rfl rfl (fun a ea => ?_)
          have hE := Env.put_some hE rfl ea; clear ea
          refine t_off rfl hE rfl rfl rfl (fun a ea => ?_)
          have hE := Env.put_some hE rfl ea; clear ea
          refine t_off rfl hE rfl rfl rfl (fun a ea => ?_)
          have hE := Env.put_some hE rfl ea; clear ea
          refine t_off rfl hE rfl rfl rfl (fun a ea => ?_)
          have hE := Env.put_some hE rfl ea; clear ea
          refine t_val rfl rfl hE rfl (r_pick_t hE rfl rfl) (fun a hE => ?_)
          refine t_nil ?_
          exact hKr _ _ _ (hE.cut (.cons rfl (.cons rfl Subs.nil))) hR H
        · replace H := M.ite_f hb H
          have hE := hE.reb 35 x34_16 false hb rfl
          refine t_on rfl hE rfl rfl rfl ?_
          refine t_val (v := .pointer (some ((x12_12).add 1))) rfl rfl hE rfl (r_fieldAddr hE rfl fd24_1) (fun a hE => ?_)
          refine t_on rfl hE rfl rfl rfl ?_
          obtain ⟨x37_19, qx37_19, H⟩ := H
          refine t_val (v := .int .i64 x37_19) rfl rfl hE rfl (r_load hE rfl sc2 qx37_19) (fun a hE => ?_)
          refine t_on rfl hE rfl rfl rfl ?_
          refine t_val (v := .int .i64 x3) rfl rfl hE rfl (r_move hE rfl) (fun a hE => ?_)
          refine t_on rfl hE rfl rfl rfl ?_
          refine t_val (v := .bool (x37_19 != x3)) rfl rfl hE rfl (r_bin hE rfl rfl g_int b_neq) (fun a hE => ?_)
          refine t_val rfl rfl hE rfl (r_pick_f hE rfl rfl) (fun a hE => ?_)
          refine t_nil ?_
          exact hKr _ _ _ (hE.cut (.cons rfl (.cons rfl Subs.nil))) hR H
      · intro x40_18 a w hE hR H
        refine t_nil ?_
        refine hK_15 _ _ ?_
        refine w_cond x40_18 hE rfl (fun hb => ?_) (fun hb => ?_)
        · replace H := M.ite_t hb H
          refine w_seq (fun K hK_20 => ?_)
          refine t_region ?_
          refine t_val (v := (Sl.nil : Sl).v) rfl rfl hE rfl (r_assign hE rfl) (fun a hE => ?_)
          refine t_val (v := .int .i64 50) rfl rfl hE rfl (r_assign hE rfl) (fun a hE => ?_)
          refine t_nil ?_
          refine hK_20 _ _ ?_
          refine w_ret ?_
          exact hret _ _ _ (Sl.nil, 50) _ hE hR (res_run hE rfl (RV.tmp rfl (RV.tmp rfl RV.nil))) rfl H
        · replace H := M.ite_f hb H
          refine w_skip ?_
          refine hK_14 _ _ ?_
          refine w_seq (fun K hK_21 => ?_)
          refine t_region ?_
          refine t_val (v := .pointer (some ((x12_12).add 2))) rfl rfl hE rfl (r_fieldAddr hE rfl fd24_2) (fun a hE => ?_)
          obtain ⟨x42_22, qx42_22, H⟩ := H
          refine t_val (v := (x42_22 : Sl).v) rfl rfl hE rfl (r_load hE rfl sc22 qx42_22) (fun a hE => ?_)
          refine t_val (v := (x42_22 : Sl).v) rfl rfl hE rfl (r_assign hE rfl) (fun a hE => ?_)
          refine t_val (v := .int .i64 0) rfl rfl hE rfl (r_assign hE rfl) (fun a hE => ?_)
          refine t_nil ?_
          refine hK_21 _ _ ?_
          refine w_ret ?_
          exact hret _ _ _ (x42_22, 0) _ hE hR (res_run hE rfl (RV.tmp rfl (RV.tmp rfl RV.nil))) rfl H

end Gx
