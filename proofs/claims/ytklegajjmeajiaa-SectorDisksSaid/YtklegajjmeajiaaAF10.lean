/- Printed by program: Go functions as Lean programs, each tied to its code. No condition. -/
import Derived.Test.YtklegajjmeajiaaAT
import Derived.Test.YtklegajjmeajiaaAF0
import Derived.Test.YtklegajjmeajiaaAF1
import Derived.Test.YtklegajjmeajiaaAF2
import Derived.Test.YtklegajjmeajiaaAF3
import Derived.Test.YtklegajjmeajiaaAF4
import Derived.Test.YtklegajjmeajiaaAF5
import Derived.Test.YtklegajjmeajiaaAF6
import Derived.Test.YtklegajjmeajiaaAF7
import Derived.Test.YtklegajjmeajiaaAF8
import Derived.Test.YtklegajjmeajiaaAF9
namespace Gx
open Go
set_option linter.unusedVariables false
set_option maxRecDepth 100000
/-- ramble/ramblelaw05.SectorDisks -/
def ramblelaw05_SectorDisks_j1 (self1 : (Int) → M (Bool)) (c37_27 : Int) : M (Bool) := do
  self1 (IntKind.wrap .i64 (c37_27 + 1))
theorem tb7_14 : tabAt Go.Proofs.Try.f7 14 [[], [], [1], [], [3], [0, 2, 4], [], [], [7], [], [9], [6, 8, 10, 5], [5, 11]] [[], [], [1], [], [3], [0, 2, 4], [], [], [7], [], [9], [6, 8, 10], [5, 11]] [[], [], [1], [], [3], [0, 1, 2, 3, 4], [], [], [7], [], [9], [0, 1, 2, 3, 4, 5, 6, 7, 8, 9, 10], [0, 1, 2, 3, 4, 5, 6, 7, 8, 9, 10, 11]] = true := by kernel_rfl
def ramblelaw05_SectorDisks_j2 (self1 : (Int) → M (Bool)) (c37_50 : Int) (x118_45 : Bool) : M (Bool) := do
  M.ite x118_45 (do
    M.pure false
    ) (do
    ramblelaw05_SectorDisks_j1 self1 c37_50
    )
theorem tb7_17 : tabAt Go.Proofs.Try.f7 17 [[], [0], [], [2, 1], [1, 3], [4, 3], [5], [5], [7, 5], [5], [9, 5], [5], [11, 5], [6, 8, 10, 12, 5, 5], [5], [5], [15, 5], [5], [17, 5], [5], [19, 5], [14, 16, 18, 20, 13, 5], [13, 21, 5], [5, 22]] [[], [0], [], [2], [1, 3], [4], [5], [5], [5, 7], [5], [5, 9], [5], [5, 11], [5, 6, 8, 10, 12], [5], [5], [5, 15], [5], [5, 17], [5], [5, 19], [5, 14, 16, 18, 20], [5, 13, 21], [5, 22]] [[], [0], [], [0, 1, 2], [0, 1, 2, 3], [0, 1, 2, 3, 4], [0, 1, 2, 3, 4, 5], [0, 1, 2, 3, 4, 5], [0, 1, 2, 3, 4, 5, 7], [0, 1, 2, 3, 4, 5], [0, 1, 2, 3, 4, 5, 9], [0, 1, 2, 3, 4, 5], [0, 1, 2, 3, 4, 5, 11], [0, 1, 2, 3, 4, 5, 6, 7, 8, 9, 10, 11, 12], [0, 1, 2, 3, 4, 5], [0, 1, 2, 3, 4, 5], [0, 1, 2, 3, 4, 5, 15], [0, 1, 2, 3, 4, 5], [0, 1, 2, 3, 4, 5, 17], [0, 1, 2, 3, 4, 5], [0, 1, 2, 3, 4, 5, 19], [0, 1, 2, 3, 4, 5, 6, 7, 8, 9, 10, 11, 12, 13, 14, 15, 16, 17, 18, 19, 20], [0, 1, 2, 3, 4, 5, 6, 7, 8, 9, 10, 11, 12, 13, 14, 15, 16, 17, 18, 19, 20, 21], [0, 1, 2, 3, 4, 5, 6, 7, 8, 9, 10, 11, 12, 13, 14, 15, 16, 17, 18, 19, 20, 21, 22]] = true := by kernel_rfl
def ramblelaw05_SectorDisks_l1 (c3_16 : Option Addr) (c5_17 : Option Addr) (c35_18 : Sl) (c36_19 : Int) (self1 : (Int) → M (Bool)) : (Int) → M (Bool) := fun s => match s with
  | x37_15 => do
    M.ite (decide (x37_15 < c36_19)) (do
      let x39_29 ← ixL c35_18 x37_15 7
      let x40_30 ← ldG 7 x39_29
      let x8_31 ← mkB ty_ramblelaw05_Op (#[.int .i64 0, .int .i64 0, .int .i64 0, .int .i64 0, .slice none 0 0, .int .i64 0, .int .u32 0] : Array Value)
      M.need (x40_30.size = 7)
      stG x8_31 x40_30
      let x42_34 ← ldI .i64 ((x8_31).add 0)
      M.ite (x42_34 == 0) (do
        let x82_37 ← ldI .i64 ((x8_31).add 1)
        let x84_38 ← ldG 3 ((x8_31).add 2)
        let x88_39 ← ldI .i64 ((x8_31).add 1)
        let x90_40 ← ldG 3 ((x8_31).add 2)
        let x85_41 ← sector_Put c3_16 x82_37 x84_38
        chk (fun h : Heap => (hcell h ((x8_31).add 1) = some (.int .i64 x82_37)) ∧ (x84_38.size = 3 ∧ ∀ i, i < 3 → hcell h (Addr.add ((x8_31).add 2) i) = x84_38[i]?) ∧ (hcell h ((x8_31).add 1) = some (.int .i64 x88_39)) ∧ (x90_40.size = 3 ∧ ∀ i, i < 3 → hcell h (Addr.add ((x8_31).add 2) i) = x90_40[i]?))
        let x91_42 ← rambleref05_Put c5_17 x88_39 x90_40
        M.ite (x85_41 != x91_42) (do
          M.pure false
          ) (do
          ramblelaw05_SectorDisks_j1 self1 x37_15
          )
        ) (do
        M.ite (x42_34 == 1) (do
          let x96_52 ← disk_Disk_Flush c3_16
          let x98_53 ← rambleref04_Disk_Flush c5_17
          M.ite (x96_52 != x98_53) (do
            ramblelaw05_SectorDisks_j2 self1 x37_15 true
            ) (do
            let x103_55 ← ldI .i64 ((x8_31).add 1)
            let x105_56 ← ldI .i64 ((x8_31).add 5)
            let x107_57 ← ldI .u32 ((x8_31).add 6)
            let x111_58 ← ldI .i64 ((x8_31).add 1)
            let x113_59 ← ldI .i64 ((x8_31).add 5)
            let x115_60 ← ldI .u32 ((x8_31).add 6)
            let x108_61 ← disk_Disk_Burst c3_16 x103_55 x105_56 x107_57
            chk (fun h : Heap => (hcell h ((x8_31).add 1) = some (.int .i64 x103_55)) ∧ (hcell h ((x8_31).add 5) = some (.int .i64 x105_56)) ∧ (hcell h ((x8_31).add 6) = some (.int .u32 x107_57)) ∧ (hcell h ((x8_31).add 1) = some (.int .i64 x111_58)) ∧ (hcell h ((x8_31).add 5) = some (.int .i64 x113_59)) ∧ (hcell h ((x8_31).add 6) = some (.int .u32 x115_60)))
            let x116_62 ← rambleref04_Disk_Burst c5_17 x111_58 x113_59 x115_60
            ramblelaw05_SectorDisks_j2 self1 x37_15 (x108_61 != x116_62)
            )
          ) (do
          let x46_64 ← ldI .i64 ((x8_31).add 1)
          let x49_65 ← ldI .i64 (((x8_31).add 2).add 0)
          let x52_66 ← ldI .i64 (((x8_31).add 2).add 1)
          let x53_67 ← sector_Get c3_16 x46_64 x49_65 x52_66
          let x59_69 ← ldI .i64 ((x8_31).add 1)
          let x62_70 ← ldI .i64 (((x8_31).add 2).add 0)
          let x65_71 ← ldI .i64 (((x8_31).add 2).add 1)
          let x66_72 ← rambleref05_Get c5_17 x59_69 x62_70 x65_71
          let x71_74 ← bytes_Equal x53_67.1 x66_72.1
          let x77_75 ← M.ite (!x71_74) (do
            M.pure true
            ) (do
            M.pure (x53_67.2 != x66_72.2)
            )
          M.ite x77_75 (do
            M.pure false
            ) (do
            ramblelaw05_SectorDisks_j1 self1 x37_15
            )
          )
        )
      ) (do
      let x121_78 ← sector_Put (none : Option Addr) 0 (#[.int .i64 1, .int .i64 0, .slice none 0 0] : Array Value)
      M.pure (x121_78 == 2)
      )
def ramblelaw05_SectorDisks (x0 : Sl) : M (Bool) := do
  let x14_3 ← disk_New 6
  let x18_5 ← rambleref04_New 6
  let x21_8 ← ramblelaw05_begun
  let x26_9 ← M.ite (!x21_8) (do
    M.pure true
    ) (do
    M.pure ((x14_3.1).isNone)
    )
  let x30_10 ← M.ite x26_9 (do
    M.pure true
    ) (do
    M.pure (x14_3.2 != 0)
    )
  let x34_11 ← M.ite x30_10 (do
    M.pure true
    ) (do
    M.pure (x18_5.2 != 0)
    )
  M.ite x34_11 (do
    M.pure false
    ) (do
    M.loop (ramblelaw05_SectorDisks_l1 x14_3.1 x18_5.1 x0 (x0.len : Int)) 0
    )
theorem S_ramblelaw05_SectorDisks (x0 : Sl) : Sound Go.Proofs.Try.prog 7 #[(x0 : Sl).v] (fun (r : Bool) => .bool r) (ramblelaw05_SectorDisks x0) := by
  refine sound_of [(0, (x0 : Sl).v)] Go.Proofs.Try.func7 rfl rfl (Nat.le_of_ble_eq_true rfl) (args_of ⟨rfl, trivial⟩) (fun w0 w Q R a hret hE hR H => ?_)
  unfold ramblelaw05_SectorDisks at H
  refine w_seq (fun K hK_1 => ?_)
  refine t_region ?_
  refine t_val (v := .bool false) rfl rfl hE rfl (r_assign hE rfl) (fun a hE => ?_)
  refine t_nil ?_
  refine hK_1 _ _ ?_
  refine w_seq (fun K hK_2 => ?_)
  refine t_region ?_
  refine t_call hE hR cl22 rfl (S_disk_New 6) (M.unbind H) (fun x14_3 a w ea hR H => ?_)
  have hE := Env.put_some hE rfl ea; clear ea
  refine t_val (v := .tuple #[.pointer x14_3.1, .int .i64 x14_3.2]) rfl rfl hE rfl (r_move hE rfl) (fun a hE => ?_)
  refine t_val (v := .pointer x14_3.1) rfl rfl hE rfl (r_extract hE rfl rfl) (fun a hE => ?_)
  refine t_val (v := .int .i64 x14_3.2) rfl rfl hE rfl (r_extract hE rfl rfl) (fun a hE => ?_)
  refine t_val (v := .pointer x14_3.1) rfl rfl hE rfl (r_assign hE rfl) (fun a hE => ?_)
  refine t_val (v := .int .i64 x14_3.2) rfl rfl hE rfl (r_assign hE rfl) (fun a hE => ?_)
  refine t_nil ?_
  refine hK_2 _ _ ?_
  refine w_seq (fun K hK_4 => ?_)
  refine t_region ?_
  refine t_call hE hR cl27 rfl (S_rambleref04_New 6) (M.unbind H) (fun x18_5 a w ea hR H => ?_)
  have hE := Env.put_some hE rfl ea; clear ea
  refine t_val (v := .tuple #[.pointer x18_5.1, .int .i64 x18_5.2]) rfl rfl hE rfl (r_move hE rfl) (fun a hE => ?_)
  refine t_val (v := .pointer x18_5.1) rfl rfl hE rfl (r_extract hE rfl rfl) (fun a hE => ?_)
  refine t_val (v := .int .i64 x18_5.2) rfl rfl hE rfl (r_extract hE rfl rfl) (fun a hE => ?_)
  refine t_val (v := .pointer x18_5.1) rfl rfl hE rfl (r_assign hE rfl) (fun a hE => ?_)
  refine t_val (v := .int .i64 x18_5.2) rfl rfl hE rfl (r_assign hE rfl) (fun a hE => ?_)
  refine t_nil ?_
  refine hK_4 _ _ ?_
  refine w_seq (fun K hK_6 => ?_)
  refine w_seq (fun K hK_7 => ?_)
  refine t_region ?_
  refine t_call hE hR cl12 rfl (S_ramblelaw05_begun ) (M.unbind H) (fun x21_8 a w ea hR H => ?_)
  have hE := Env.put_some hE rfl ea; clear ea
  refine t_val (v := .bool (!x21_8)) rfl rfl hE rfl (r_un hE rfl u_not) (fun a hE => ?_)
  refine t_val (v := .bool (!x21_8)) rfl rfl hE rfl (r_move hE rfl) (fun a hE => ?_)
  refine t_grp (n := 123) (w0 := w0) 3 (fun x26_9 : Bool => [(0, (x0 : Sl).v), (3, .pointer x14_3.1), (4, .int .i64 x14_3.2), (5, .pointer x18_5.1), (6, .int .i64 x18_5.2), (26, .bool x26_9)]) (M.unbind H) (fun Kr hKr H => ?_) ?_
  · rcases bool_em (!x21_8) with hb | hb
    · replace H := M.ite_t hb H
      have hE := hE.reb 23 (!x21_8) true hb rfl
      refine t_off rfl hE rfl rfl rfl (fun a ea => ?_)
      have hE := Env.put_some hE rfl ea; clear ea
      refine t_off rfl hE rfl rfl rfl (fun a ea => ?_)
      have hE := Env.put_some hE rfl ea; clear ea
      refine t_val rfl rfl hE rfl (r_pick_t hE rfl rfl) (fun a hE => ?_)
      refine t_nil ?_
      exact hKr _ _ _ (hE.cut (.cons rfl (.cons rfl (.cons rfl (.cons rfl (.cons rfl (.cons rfl Subs.nil))))))) hR H
    · replace H := M.ite_f hb H
      have hE := hE.reb 23 (!x21_8) false hb rfl
      refine t_on rfl hE rfl rfl rfl ?_
      refine t_val (v := .pointer x14_3.1) rfl rfl hE rfl (r_move hE rfl) (fun a hE => ?_)
      refine t_on rfl hE rfl rfl rfl ?_
      refine t_val (v := .bool ((x14_3.1).isNone)) rfl rfl hE rfl (r_bin hE rfl rfl g_ptr (b_eqlP un46)) (fun a hE => ?_)
      refine t_val rfl rfl hE rfl (r_pick_f hE rfl rfl) (fun a hE => ?_)
      refine t_nil ?_
      exact hKr _ _ _ (hE.cut (.cons rfl (.cons rfl (.cons rfl (.cons rfl (.cons rfl (.cons rfl Subs.nil))))))) hR H
  · intro x26_9 a w hE hR H
    refine t_val (v := .bool x26_9) rfl rfl hE rfl (r_move hE rfl) (fun a hE => ?_)
    refine t_grp (n := 123) (w0 := w0) 3 (fun x30_10 : Bool => [(0, (x0 : Sl).v), (3, .pointer x14_3.1), (5, .pointer x18_5.1), (6, .int .i64 x18_5.2), (30, .bool x30_10)]) (M.unbind H) (fun Kr hKr H => ?_) ?_
    · rcases bool_em x26_9 with hb | hb
      · replace H := M.ite_t hb H
        have hE := hE.reb 27 x26_9 true hb rfl
        refine t_off rfl hE rfl rfl rfl (fun a ea => ?_)
        have hE := Env.put_some hE rfl ea; clear ea
        refine t_off rfl hE rfl rfl rfl (fun a ea => ?_)
        have hE := Env.put_some hE rfl ea; clear ea
        refine t_val rfl rfl hE rfl (r_pick_t hE rfl rfl) (fun a hE => ?_)
        refine t_nil ?_
        exact hKr _ _ _ (hE.cut (.cons rfl (.cons rfl (.cons rfl (.cons rfl (.cons rfl Subs.nil)))))) hR H
      · replace H := M.ite_f hb H
        have hE := hE.reb 27 x26_9 false hb rfl
        refine t_on rfl hE rfl rfl rfl ?_
        refine t_val (v := .int .i64 x14_3.2) rfl rfl hE rfl (r_move hE rfl) (fun a hE => ?_)
        refine t_on rfl hE rfl rfl rfl ?_
        refine t_val (v := .bool (x14_3.2 != 0)) rfl rfl hE rfl (r_bin hE rfl rfl g_int b_neq) (fun a hE => ?_)
        refine t_val rfl rfl hE rfl (r_pick_f hE rfl rfl) (fun a hE => ?_)
        refine t_nil ?_
        exact hKr _ _ _ (hE.cut (.cons rfl (.cons rfl (.cons rfl (.cons rfl (.cons rfl Subs.nil)))))) hR H
    · intro x30_10 a w hE hR H
      refine t_val (v := .bool x30_10) rfl rfl hE rfl (r_move hE rfl) (fun a hE => ?_)
      refine t_grp (n := 123) (w0 := w0) 3 (fun x34_11 : Bool => [(0, (x0 : Sl).v), (3, .pointer x14_3.1), (5, .pointer x18_5.1), (34, .bool x34_11)]) (M.unbind H) (fun Kr hKr H => ?_) ?_
      · rcases bool_em x30_10 with hb | hb
        · replace H := M.ite_t hb H
          have hE := hE.reb 31 x30_10 true hb rfl
          refine t_off rfl hE rfl rfl rfl (fun a ea => ?_)
          have hE := Env.put_some hE rfl ea; clear ea
          refine t_off rfl hE rfl rfl rfl (fun a ea => ?_)
          have hE := Env.put_some hE rfl ea; clear ea
          refine t_val rfl rfl hE rfl (r_pick_t hE rfl rfl) (fun a hE => ?_)
          refine t_nil ?_
          exact hKr _ _ _ (hE.cut (.cons rfl (.cons rfl (.cons rfl (.cons rfl Subs.nil))))) hR H
        · replace H := M.ite_f hb H
          have hE := hE.reb 31 x30_10 false hb rfl
          refine t_on rfl hE rfl rfl rfl ?_
          refine t_val (v := .int .i64 x18_5.2) rfl rfl hE rfl (r_move hE rfl) (fun a hE => ?_)
          refine t_on rfl hE rfl rfl rfl ?_
          refine t_val (v := .bool (x18_5.2 != 0)) rfl rfl hE rfl (r_bin hE rfl rfl g_int b_neq) (fun a hE => ?_)
          refine t_val rfl rfl hE rfl (r_pick_f hE rfl rfl) (fun a hE => ?_)
          refine t_nil ?_
          exact hKr _ _ _ (hE.cut (.cons rfl (.cons rfl (.cons rfl (.cons rfl Subs.nil))))) hR H
      · intro x34_11 a w hE hR H
        refine t_nil ?_
        refine hK_7 _ _ ?_
        refine w_cond x34_11 hE rfl (fun hb => ?_) (fun hb => ?_)
        · replace H := M.ite_t hb H
          refine w_seq (fun K hK_12 => ?_)
          refine t_region ?_
          refine t_val (v := .bool false) rfl rfl hE rfl (r_assign hE rfl) (fun a hE => ?_)
          refine t_nil ?_
          refine hK_12 _ _ ?_
          refine w_ret ?_
          exact hret _ _ _ false _ hE hR (res_run hE rfl (RV.tmp rfl RV.nil)) rfl H
        · replace H := M.ite_f hb H
          refine w_skip ?_
          refine hK_6 _ _ ?_
          refine w_seq (fun K hK_13 => ?_)
          refine w_seq (fun K hK_14 => ?_)
          refine t_region ?_
          refine t_val (v := (x0 : Sl).v) rfl rfl hE rfl (r_move hE rfl) (fun a hE => ?_)
          refine t_val (v := .int .i64 (x0.len : Int)) rfl rfl hE rfl (r_len hE rfl 59 un54) (fun a hE => ?_)
          refine t_val (v := .int .i64 0) rfl rfl hE rfl (r_move hE rfl) (fun a hE => ?_)
          refine t_nil ?_
          refine hK_14 _ _ ?_
          refine w_block ?_
          refine l_loop (fun (s : Int) => [(3, .pointer x14_3.1), (5, .pointer x18_5.1), (35, (x0 : Sl).v), (36, .int .i64 (x0.len : Int)), (37, .int .i64 s)]) H (hE.cut (.cons rfl (.cons rfl (.cons rfl (.cons rfl (.cons rfl Subs.nil)))))) hR (fun Y self1 hY_20 x37_15 a w hE hR H => ?_)
          replace hE : Env 123 a [(3, .pointer x14_3.1), (5, .pointer x18_5.1), (35, (x0 : Sl).v), (36, .int .i64 (x0.len : Int)), (37, .int .i64 x37_15)] := hE
          replace H : (ramblelaw05_SectorDisks_l1 x14_3.1 x18_5.1 x0 (x0.len : Int) self1 x37_15).wp w.heap Q := H
          unfold ramblelaw05_SectorDisks_l1 at H
          refine w_seq (fun K hK_21 => ?_)
          refine t_region ?_
          refine t_val (v := .bool (decide (x37_15 < (x0.len : Int)))) rfl rfl hE rfl (r_bin hE rfl rfl g_int b_lss) (fun a hE => ?_)
          refine t_nil ?_
          refine hK_21 _ _ ?_
          refine w_seq (fun K hK_22 => ?_)
          refine w_cond (decide (x37_15 < (x0.len : Int))) hE rfl (fun hb => ?_) (fun hb => ?_)
          · replace H := M.ite_t hb H
            refine w_skip ?_
            refine hK_22 _ _ ?_
            refine w_seq_join (fun a w => Env 123 a [(3, .pointer x14_3.1), (5, .pointer x18_5.1), (35, (x0 : Sl).v), (36, .int .i64 (x0.len : Int)), (37, .int .i64 x37_15)] ∧ Rest w0 w ∧ (ramblelaw05_SectorDisks_j1 self1 x37_15).wp w.heap Q) ?_ ?_
            · rintro a w ⟨hE, hR, H⟩
              unfold ramblelaw05_SectorDisks_j1 at H
              refine t_region ?_
              refine t_val (v := .int .i64 (IntKind.wrap .i64 (x37_15 + 1))) rfl rfl hE rfl (r_bin hE rfl rfl g_int b_add) (fun a hE => ?_)
              refine t_val (v := .int .i64 (IntKind.wrap .i64 (x37_15 + 1))) rfl rfl hE rfl (r_move hE rfl) (fun a hE => ?_)
              refine t_nil ?_
              exact hY_20 (IntKind.wrap .i64 (x37_15 + 1)) _ _ (hE.cut (.cons rfl (.cons rfl (.cons rfl (.cons rfl (.cons rfl Subs.nil)))))) hR H
            · skip
              refine w_block ?_
              refine w_seq (fun K hK_28 => ?_)
              refine t_region ?_
              obtain ⟨x39_29, qx39_29, H⟩ := H
              refine t_val (v := .pointer (some x39_29)) rfl rfl hE rfl (r_indexAddrL hE rfl rfl un54 sz59 qx39_29) (fun a hE => ?_)
              obtain ⟨x40_30, qx40_30, H⟩ := H
              refine t_val (v := .agg x40_30) rfl rfl hE rfl (r_loadG hE rfl ag59 qx40_30) (fun a hE => ?_)
              obtain ⟨x8_31, qx8_31, H⟩ := H
              refine t_valh (v := .pointer (some x8_31)) rfl rfl hE rfl hR (r_alloc zr59 qx8_31) (fun a w hE hR hh => ?_)
              replace H := M.at hh H; clear hh
              obtain ⟨qz, H⟩ := H
              obtain ⟨u_32, qu_32, H⟩ := H
              refine t_sth rfl rfl hE hR (r_storeG hE rfl rfl sz59 qz qu_32) (fun a w hE hR hh => ?_)
              replace H := M.at hh H; clear hh
              refine t_nil ?_
              refine hK_28 _ _ ?_
              refine w_seq (fun K hK_33 => ?_)
              refine t_region ?_
              refine t_val (v := .pointer (some ((x8_31).add 0))) rfl rfl hE rfl (r_fieldAddr hE rfl fd59_0) (fun a hE => ?_)
              obtain ⟨x42_34, qx42_34, H⟩ := H
              refine t_val (v := .int .i64 x42_34) rfl rfl hE rfl (r_load hE rfl sc3 qx42_34) (fun a hE => ?_)
              refine t_nil ?_
              refine hK_33 _ _ ?_
              refine w_block ?_
              refine w_seq (fun K hK_35 => ?_)
              refine t_region ?_
              refine t_val (v := .bool (x42_34 == 0)) rfl rfl hE rfl (r_bin hE rfl rfl g_int b_eql) (fun a hE => ?_)
              refine t_val (v := .bool (x42_34 == 0)) rfl rfl hE rfl (r_assign hE rfl) (fun a hE => ?_)
              refine t_nil ?_
              refine hK_35 _ _ ?_
              refine w_cond (x42_34 == 0) hE rfl (fun hb => ?_) (fun hb => ?_)
              · replace H := M.ite_t hb H
                refine w_seq (fun K hK_36 => ?_)
                obtain ⟨x82_37, qx82_37, H⟩ := H
                obtain ⟨x84_38, qx84_38, H⟩ := H
                obtain ⟨x88_39, qx88_39, H⟩ := H
                obtain ⟨x90_40, qx90_40, H⟩ := H
                have hT := tab_of tb7_14 rfl rfl
                refine d_start (fun w : World => (fun h : Heap => (hcell h ((x8_31).add 1) = some (.int .i64 x82_37)) ∧ (x84_38.size = 3 ∧ ∀ i, i < 3 → hcell h (Addr.add ((x8_31).add 2) i) = x84_38[i]?) ∧ (hcell h ((x8_31).add 1) = some (.int .i64 x88_39)) ∧ (x90_40.size = 3 ∧ ∀ i, i < 3 → hcell h (Addr.add ((x8_31).add 2) i) = x90_40[i]?)) w.heap) [11, 12] #[false, false, false, false, false, false, false, false, false, false, false, false, false] mo hR rfl rfl (fun w' e => by rw [e]; exact ⟨qx82_37, qx84_38, qx88_39, qx90_40⟩) (fun w hh hR hs => ?_)
                replace H := M.at hh H; clear hh
                refine d_pureg (i := 0) (v := .pointer x14_3.1) #[true, false, false, false, false, false, false, false, false, false, false, false, false] rfl rfl hT (by kernel_rfl) hE rfl (wanted_none rfl) (fun w => r_move hE rfl) (fun a hE => ?_)
                refine d_pureg (i := 1) (v := .pointer (some ((x8_31).add 1))) #[true, true, false, false, false, false, false, false, false, false, false, false, false] rfl rfl hT (by kernel_rfl) hE rfl (wanted_none rfl) (fun w => r_fieldAddr hE rfl fd59_1) (fun a hE => ?_)
                refine d_pureg (i := 3) (v := .pointer (some ((x8_31).add 2))) #[true, true, false, true, false, false, false, false, false, false, false, false, false] rfl rfl hT (by kernel_rfl) hE rfl (wanted_none rfl) (fun w => r_fieldAddr hE rfl fd59_2) (fun a hE => ?_)
                refine d_pureg (i := 6) (v := .pointer x18_5.1) #[true, true, false, true, false, false, true, false, false, false, false, false, false] rfl rfl hT (by kernel_rfl) hE rfl (wanted_none rfl) (fun w => r_move hE rfl) (fun a hE => ?_)
                refine d_pureg (i := 7) (v := .pointer (some ((x8_31).add 1))) #[true, true, false, true, false, false, true, true, false, false, false, false, false] rfl rfl hT (by kernel_rfl) hE rfl (wanted_none rfl) (fun w => r_fieldAddr hE rfl fd59_1) (fun a hE => ?_)
                refine d_pureg (i := 9) (v := .pointer (some ((x8_31).add 2))) #[true, true, false, true, false, false, true, true, false, true, false, false, false] rfl rfl hT (by kernel_rfl) hE rfl (wanted_none rfl) (fun w => r_fieldAddr hE rfl fd59_2) (fun a hE => ?_)
                refine d_read (i := 2) (v := .int .i64 x82_37) #[true, true, true, true, false, false, true, true, false, true, false, false, false] rfl rfl hT (by kernel_rfl) hE rfl (wanted_none rfl) hs (fun w s => r_load hE rfl sc3 s.1) (fun a hE => ?_)
                refine d_read (i := 4) (v := .agg x84_38) #[true, true, true, true, true, false, true, true, false, true, false, false, false] rfl rfl hT (by kernel_rfl) hE rfl (wanted_none rfl) hs (fun w s => r_loadG hE rfl ag24 s.2.1) (fun a hE => ?_)
                refine d_read (i := 8) (v := .int .i64 x88_39) #[true, true, true, true, true, false, true, true, true, true, false, false, false] rfl rfl hT (by kernel_rfl) hE rfl (wanted_none rfl) hs (fun w s => r_load hE rfl sc3 s.2.2.1) (fun a hE => ?_)
                refine d_read (i := 10) (v := .agg x90_40) #[true, true, true, true, true, false, true, true, true, true, true, false, false] rfl rfl hT (by kernel_rfl) hE rfl (wanted_none rfl) hs (fun w s => r_loadG hE rfl ag24 s.2.2.2) (fun a hE => ?_)
                refine d_call (i := 5) #[true, true, true, true, true, true, true, true, true, true, true, false, false] rfl rfl rfl hT (by kernel_rfl) rfl hE hR (wanted_none rfl) cl28 rfl (S_sector_Put x14_3.1 x82_37 x84_38) (M.unbind H) (fun r h H w' e => by obtain ⟨_, sA, H⟩ := H; rw [e]; exact sA) (fun x85_41 a w ea hR H hs => ?_)
                obtain ⟨_, sA, H⟩ := H; clear sA
                have hE := Env.put_some hE rfl ea; clear ea
                refine d_calll (i := 11) #[true, true, true, true, true, true, true, true, true, true, true, true, false] rfl rfl rfl hT (by kernel_rfl) rfl hE hR (wanted_none rfl) cl29 rfl (S_rambleref05_Put x18_5.1 x88_39 x90_40) (M.unbind H) (fun x91_42 a w ea hR H => ?_)
                have hE := Env.put_some hE rfl ea; clear ea
                refine d_pureg (i := 12) (v := .bool (x85_41 != x91_42)) #[true, true, true, true, true, true, true, true, true, true, true, true, true] rfl rfl hT (by kernel_rfl) hE rfl (wanted_none rfl) (fun w => r_bin hE rfl rfl g_int b_neq) (fun a hE => ?_)
                refine d_done hT (by kernel_rfl) ?_
                refine hK_36 _ _ ?_
                refine w_cond (x85_41 != x91_42) hE rfl (fun hb => ?_) (fun hb => ?_)
                · replace H := M.ite_t hb H
                  refine w_seq (fun K hK_43 => ?_)
                  refine t_region ?_
                  refine t_val (v := .bool false) rfl rfl hE rfl (r_assign hE rfl) (fun a hE => ?_)
                  refine t_nil ?_
                  refine hK_43 _ _ ?_
                  refine w_ret ?_
                  exact hret _ _ _ false _ hE hR (res_run hE rfl (RV.tmp rfl RV.nil)) rfl H
                · replace H := M.ite_f hb H
                  refine w_skip ?_
                  exact ⟨hE.cut (.cons rfl (.cons rfl (.cons rfl (.cons rfl (.cons rfl Subs.nil))))), hR, H⟩
              · replace H := M.ite_f hb H
                refine w_seq (fun K hK_44 => ?_)
                refine t_region ?_
                refine t_val (v := .bool (x42_34 == 1)) rfl rfl hE rfl (r_bin hE rfl rfl g_int b_eql) (fun a hE => ?_)
                refine t_val (v := .bool (x42_34 == 1)) rfl rfl hE rfl (r_assign hE rfl) (fun a hE => ?_)
                refine t_nil ?_
                refine hK_44 _ _ ?_
                refine w_cond (x42_34 == 1) hE rfl (fun hb => ?_) (fun hb => ?_)
                · replace H := M.ite_t hb H
                  refine w_seq_join (fun a w => ∃ (x118_45 : Bool), Env 123 a [(3, .pointer x14_3.1), (5, .pointer x18_5.1), (35, (x0 : Sl).v), (36, .int .i64 (x0.len : Int)), (37, .int .i64 x37_15), (118, .bool x118_45)] ∧ Rest w0 w ∧ (ramblelaw05_SectorDisks_j2 self1 x37_15 x118_45).wp w.heap Q) ?_ ?_
                  · rintro a w ⟨x118_45, hE, hR, H⟩
                    unfold ramblelaw05_SectorDisks_j2 at H
                    refine w_cond x118_45 hE rfl (fun hb => ?_) (fun hb => ?_)
                    · replace H := M.ite_t hb H
                      refine w_seq (fun K hK_51 => ?_)
                      refine t_region ?_
                      refine t_val (v := .bool false) rfl rfl hE rfl (r_assign hE rfl) (fun a hE => ?_)
                      refine t_nil ?_
                      refine hK_51 _ _ ?_
                      refine w_ret ?_
                      exact hret _ _ _ false _ hE hR (res_run hE rfl (RV.tmp rfl RV.nil)) rfl H
                    · replace H := M.ite_f hb H
                      refine w_skip ?_
                      exact ⟨hE.cut (.cons rfl (.cons rfl (.cons rfl (.cons rfl (.cons rfl Subs.nil))))), hR, H⟩
                  · skip
                    have hT := tab_of tb7_17 rfl rfl
                    refine d_start (fun w : World => (fun h : Heap => True) w.heap) [0, 1, 2, 3, 4, 5, 6, 7, 8, 9, 10, 11, 12, 13, 14, 15, 16, 17, 18, 19, 20, 21, 22, 23] #[false, false, false, false, false, false, false, false, false, false, false, false, false, false, false, false, false, false, false, false, false, false, false, false] mo hR rfl rfl (fun w' e => by rw [e]; exact trivial) (fun w hh hR hs => ?_)
                    replace H := M.at hh H; clear hh
                    refine d_pureg (i := 0) (v := .pointer x14_3.1) #[true, false, false, false, false, false, false, false, false, false, false, false, false, false, false, false, false, false, false, false, false, false, false, false] rfl rfl hT (by kernel_rfl) hE rfl (wanted_none rfl) (fun w => r_move hE rfl) (fun a hE => ?_)
                    refine d_pureg (i := 2) (v := .pointer x18_5.1) #[true, false, true, false, false, false, false, false, false, false, false, false, false, false, false, false, false, false, false, false, false, false, false, false] rfl rfl hT (by kernel_rfl) hE rfl (wanted_none rfl) (fun w => r_move hE rfl) (fun a hE => ?_)
                    refine d_calll (i := 1) #[true, true, true, false, false, false, false, false, false, false, false, false, false, false, false, false, false, false, false, false, false, false, false, false] rfl rfl rfl hT (by kernel_rfl) rfl hE hR (wanted_none rfl) cl24 rfl (S_disk_Disk_Flush x14_3.1) (M.unbind H) (fun x96_52 a w ea hR H => ?_)
                    have hE := Env.put_some hE rfl ea; clear ea
                    refine d_calll (i := 3) #[true, true, true, true, false, false, false, false, false, false, false, false, false, false, false, false, false, false, false, false, false, false, false, false] rfl rfl rfl hT (by kernel_rfl) rfl hE hR (wanted_none rfl) cl30 rfl (S_rambleref04_Disk_Flush x18_5.1) (M.unbind H) (fun x98_53 a w ea hR H => ?_)
                    have hE := Env.put_some hE rfl ea; clear ea
                    rcases bool_em (x96_52 != x98_53) with hb_54 | hb_54
                    · replace H := M.ite_t hb_54 H
                      refine d_pureg (i := 4) (v := .bool (x96_52 != x98_53)) #[true, true, true, true, true, false, false, false, false, false, false, false, false, false, false, false, false, false, false, false, false, false, false, false] rfl rfl hT (by kernel_rfl) hE rfl (wanted_none rfl) (fun w => r_bin hE rfl rfl g_int b_neq) (fun a hE => ?_)
                      refine d_pureg (i := 5) (v := .bool (x96_52 != x98_53)) #[true, true, true, true, true, true, false, false, false, false, false, false, false, false, false, false, false, false, false, false, false, false, false, false] rfl rfl hT (by kernel_rfl) hE rfl (wanted_none rfl) (fun w => r_move hE rfl) (fun a hE => ?_)
                      have hE := hE.reb 100 (x96_52 != x98_53) true hb_54 rfl
                      refine d_off (i := 6) #[true, true, true, true, true, true, true, false, false, false, false, false, false, false, false, false, false, false, false, false, false, false, false, false] rfl rfl hT (by kernel_rfl) (unwanted_of rfl hE rfl rfl rfl) (fun a ea => ?_)
                      have hE := Env.put_some hE rfl ea; clear ea
                      refine d_off (i := 7) #[true, true, true, true, true, true, true, true, false, false, false, false, false, false, false, false, false, false, false, false, false, false, false, false] rfl rfl hT (by kernel_rfl) (unwanted_of rfl hE rfl rfl rfl) (fun a ea => ?_)
                      have hE := Env.put_some hE rfl ea; clear ea
                      refine d_off (i := 8) #[true, true, true, true, true, true, true, true, true, false, false, false, false, false, false, false, false, false, false, false, false, false, false, false] rfl rfl hT (by kernel_rfl) (unwanted_of rfl hE rfl rfl rfl) (fun a ea => ?_)
                      have hE := Env.put_some hE rfl ea; clear ea
                      refine d_off (i := 9) #[true, true, true, true, true, true, true, true, true, true, false, false, false, false, false, false, false, false, false, false, false, false, false, false] rfl rfl hT (by kernel_rfl) (unwanted_of rfl hE rfl rfl rfl) (fun a ea => ?_)
                      have hE := Env.put_some hE rfl ea; clear ea
                      refine d_off (i := 10) #[true, true, true, true, true, true, true, true, true, true, true, false, false, false, false, false, false, false, false, false, false, false, false, false] rfl rfl hT (by kernel_rfl) (unwanted_of rfl hE rfl rfl rfl) (fun a ea => ?_)
                      have hE := Env.put_some hE rfl ea; clear ea
                      refine d_off (i := 11) #[true, true, true, true, true, true, true, true, true, true, true, true, false, false, false, false, false, false, false, false, false, false, false, false] rfl rfl hT (by kernel_rfl) (unwanted_of rfl hE rfl rfl rfl) (fun a ea => ?_)
                      have hE := Env.put_some hE rfl ea; clear ea
                      refine d_off (i := 12) #[true, true, true, true, true, true, true, true, true, true, true, true, true, false, false, false, false, false, false, false, false, false, false, false] rfl rfl hT (by kernel_rfl) (unwanted_of rfl hE rfl rfl rfl) (fun a ea => ?_)
                      have hE := Env.put_some hE rfl ea; clear ea
                      refine d_off (i := 13) #[true, true, true, true, true, true, true, true, true, true, true, true, true, true, false, false, false, false, false, false, false, false, false, false] rfl rfl hT (by kernel_rfl) (unwanted_of rfl hE rfl rfl rfl) (fun a ea => ?_)
                      have hE := Env.put_some hE rfl ea; clear ea
                      refine d_off (i := 14) #[true, true, true, true, true, true, true, true, true, true, true, true, true, true, true, false, false, false, false, false, false, false, false, false] rfl rfl hT (by kernel_rfl) (unwanted_of rfl hE rfl rfl rfl) (fun a ea => ?_)
                      have hE := Env.put_some hE rfl ea; clear ea
                      refine d_off (i := 15) #[true, true, true, true, true, true, true, true, true, true, true, true, true, true, true, true, false, false, false, false, false, false, false, false] rfl rfl hT (by kernel_rfl) (unwanted_of rfl hE rfl rfl rfl) (fun a ea => ?_)
                      have hE := Env.put_some hE rfl ea; clear ea
                      refine d_off (i := 16) #[true, true, true, true, true, true, true, true, true, true, true, true, true, true, true, true, true, false, false, false, false, false, false, false] rfl rfl hT (by kernel_rfl) (unwanted_of rfl hE rfl rfl rfl) (fun a ea => ?_)
                      have hE := Env.put_some hE rfl ea; clear ea
                      refine d_off (i := 17) #[true, true, true, true, true, true, true, true, true, true, true, true, true, true, true, true, true, true, false, false, false, false, false, false] rfl rfl hT (by kernel_rfl) (unwanted_of rfl hE rfl rfl rfl) (fun a ea => ?_)
                      have hE := Env.put_some hE rfl ea; clear ea
                      refine d_off (i := 18) #[true, true, true, true, true, true, true, true, true, true, true, true, true, true, true, true, true, true, true, false, false, false, false, false] rfl rfl hT (by kernel_rfl) (unwanted_of rfl hE rfl rfl rfl) (fun a ea => ?_)
                      have hE := Env.put_some hE rfl ea; clear ea
                      refine d_off (i := 19) #[true, true, true, true, true, true, true, true, true, true, true, true, true, true, true, true, true, true, true, true, false, false, false, false] rfl rfl hT (by kernel_rfl) (unwanted_of rfl hE rfl rfl rfl) (fun a ea => ?_)
                      have hE := Env.put_some hE rfl ea; clear ea
                      refine d_off (i := 20) #[true, true, true, true, true, true, true, true, true, true, true, true, true, true, true, true, true, true, true, true, true, false, false, false] rfl rfl hT (by kernel_rfl) (unwanted_of rfl hE rfl rfl rfl) (fun a ea => ?_)
                      have hE := Env.put_some hE rfl ea; clear ea
                      refine d_off (i := 21) #[true, true, true, true, true, true, true, true, true, true, true, true, true, true, true, true, true, true, true, true, true, true, false, false] rfl rfl hT (by kernel_rfl) (unwanted_of rfl hE rfl rfl rfl) (fun a ea => ?_)
                      have hE := Env.put_some hE rfl ea; clear ea
                      refine d_off (i := 22) #[true, true, true, true, true, true, true, true, true, true, true, true, true, true, true, true, true, true, true, true, true, true, true, false] rfl rfl hT (by kernel_rfl) (unwanted_of rfl hE rfl rfl rfl) (fun a ea => ?_)
                      have hE := Env.put_some hE rfl ea; clear ea
                      refine d_pureg (i := 23) (v := .bool true) #[true, true, true, true, true, true, true, true, true, true, true, true, true, true, true, true, true, true, true, true, true, true, true, true] rfl rfl hT (by kernel_rfl) hE rfl (wanted_none rfl) (fun w => r_pick_t hE rfl rfl) (fun a hE => ?_)
                      refine d_done hT (by kernel_rfl) ?_
                      exact ⟨true, hE.cut (.cons rfl (.cons rfl (.cons rfl (.cons rfl (.cons rfl (.cons rfl Subs.nil)))))), hR, H⟩
                    · replace H := M.ite_f hb_54 H
                      obtain ⟨x103_55, qx103_55, H⟩ := H
                      obtain ⟨x105_56, qx105_56, H⟩ := H
                      obtain ⟨x107_57, qx107_57, H⟩ := H
                      obtain ⟨x111_58, qx111_58, H⟩ := H
                      obtain ⟨x113_59, qx113_59, H⟩ := H
                      obtain ⟨x115_60, qx115_60, H⟩ := H
                      refine d_switch (fun w : World => (fun h : Heap => (hcell h ((x8_31).add 1) = some (.int .i64 x103_55)) ∧ (hcell h ((x8_31).add 5) = some (.int .i64 x105_56)) ∧ (hcell h ((x8_31).add 6) = some (.int .u32 x107_57)) ∧ (hcell h ((x8_31).add 1) = some (.int .i64 x111_58)) ∧ (hcell h ((x8_31).add 5) = some (.int .i64 x113_59)) ∧ (hcell h ((x8_31).add 6) = some (.int .u32 x115_60))) w.heap) [21, 22, 23] (by kernel_rfl) ?_
                      have hs : (fun h : Heap => (hcell h ((x8_31).add 1) = some (.int .i64 x103_55)) ∧ (hcell h ((x8_31).add 5) = some (.int .i64 x105_56)) ∧ (hcell h ((x8_31).add 6) = some (.int .u32 x107_57)) ∧ (hcell h ((x8_31).add 1) = some (.int .i64 x111_58)) ∧ (hcell h ((x8_31).add 5) = some (.int .i64 x113_59)) ∧ (hcell h ((x8_31).add 6) = some (.int .u32 x115_60))) w.heap := ⟨qx103_55, qx105_56, qx107_57, qx111_58, qx113_59, qx115_60⟩
                      refine d_pureg (i := 4) (v := .bool (x96_52 != x98_53)) #[true, true, true, true, true, false, false, false, false, false, false, false, false, false, false, false, false, false, false, false, false, false, false, false] rfl rfl hT (by kernel_rfl) hE rfl (wanted_none rfl) (fun w => r_bin hE rfl rfl g_int b_neq) (fun a hE => ?_)
                      refine d_pureg (i := 5) (v := .bool (x96_52 != x98_53)) #[true, true, true, true, true, true, false, false, false, false, false, false, false, false, false, false, false, false, false, false, false, false, false, false] rfl rfl hT (by kernel_rfl) hE rfl (wanted_none rfl) (fun w => r_move hE rfl) (fun a hE => ?_)
                      have hE := hE.reb 100 (x96_52 != x98_53) false hb_54 rfl
                      refine d_pureg (i := 6) (v := .pointer x14_3.1) #[true, true, true, true, true, true, true, false, false, false, false, false, false, false, false, false, false, false, false, false, false, false, false, false] rfl rfl hT (by kernel_rfl) hE rfl (wanted_of rfl hE rfl rfl rfl) (fun w => r_move hE rfl) (fun a hE => ?_)
                      refine d_pureg (i := 7) (v := .pointer (some ((x8_31).add 1))) #[true, true, true, true, true, true, true, true, false, false, false, false, false, false, false, false, false, false, false, false, false, false, false, false] rfl rfl hT (by kernel_rfl) hE rfl (wanted_of rfl hE rfl rfl rfl) (fun w => r_fieldAddr hE rfl fd59_1) (fun a hE => ?_)
                      refine d_pureg (i := 9) (v := .pointer (some ((x8_31).add 5))) #[true, true, true, true, true, true, true, true, false, true, false, false, false, false, false, false, false, false, false, false, false, false, false, false] rfl rfl hT (by kernel_rfl) hE rfl (wanted_of rfl hE rfl rfl rfl) (fun w => r_fieldAddr hE rfl fd59_3) (fun a hE => ?_)
                      refine d_pureg (i := 11) (v := .pointer (some ((x8_31).add 6))) #[true, true, true, true, true, true, true, true, false, true, false, true, false, false, false, false, false, false, false, false, false, false, false, false] rfl rfl hT (by kernel_rfl) hE rfl (wanted_of rfl hE rfl rfl rfl) (fun w => r_fieldAddr hE rfl fd59_4) (fun a hE => ?_)
                      refine d_pureg (i := 14) (v := .pointer x18_5.1) #[true, true, true, true, true, true, true, true, false, true, false, true, false, false, true, false, false, false, false, false, false, false, false, false] rfl rfl hT (by kernel_rfl) hE rfl (wanted_of rfl hE rfl rfl rfl) (fun w => r_move hE rfl) (fun a hE => ?_)
                      refine d_pureg (i := 15) (v := .pointer (some ((x8_31).add 1))) #[true, true, true, true, true, true, true, true, false, true, false, true, false, false, true, true, false, false, false, false, false, false, false, false] rfl rfl hT (by kernel_rfl) hE rfl (wanted_of rfl hE rfl rfl rfl) (fun w => r_fieldAddr hE rfl fd59_1) (fun a hE => ?_)
                      refine d_pureg (i := 17) (v := .pointer (some ((x8_31).add 5))) #[true, true, true, true, true, true, true, true, false, true, false, true, false, false, true, true, false, true, false, false, false, false, false, false] rfl rfl hT (by kernel_rfl) hE rfl (wanted_of rfl hE rfl rfl rfl) (fun w => r_fieldAddr hE rfl fd59_3) (fun a hE => ?_)
                      refine d_pureg (i := 19) (v := .pointer (some ((x8_31).add 6))) #[true, true, true, true, true, true, true, true, false, true, false, true, false, false, true, true, false, true, false, true, false, false, false, false] rfl rfl hT (by kernel_rfl) hE rfl (wanted_of rfl hE rfl rfl rfl) (fun w => r_fieldAddr hE rfl fd59_4) (fun a hE => ?_)
                      refine d_read (i := 8) (v := .int .i64 x103_55) #[true, true, true, true, true, true, true, true, true, true, false, true, false, false, true, true, false, true, false, true, false, false, false, false] rfl rfl hT (by kernel_rfl) hE rfl (wanted_of rfl hE rfl rfl rfl) hs (fun w s => r_load hE rfl sc3 s.1) (fun a hE => ?_)
                      refine d_read (i := 10) (v := .int .i64 x105_56) #[true, true, true, true, true, true, true, true, true, true, true, true, false, false, true, true, false, true, false, true, false, false, false, false] rfl rfl hT (by kernel_rfl) hE rfl (wanted_of rfl hE rfl rfl rfl) hs (fun w s => r_load hE rfl sc3 s.2.1) (fun a hE => ?_)
                      refine d_read (i := 12) (v := .int .u32 x107_57) #[true, true, true, true, true, true, true, true, true, true, true, true, true, false, true, true, false, true, false, true, false, false, false, false] rfl rfl hT (by kernel_rfl) hE rfl (wanted_of rfl hE rfl rfl rfl) hs (fun w s => r_load hE rfl sc34 s.2.2.1) (fun a hE => ?_)
                      refine d_read (i := 16) (v := .int .i64 x111_58) #[true, true, true, true, true, true, true, true, true, true, true, true, true, false, true, true, true, true, false, true, false, false, false, false] rfl rfl hT (by kernel_rfl) hE rfl (wanted_of rfl hE rfl rfl rfl) hs (fun w s => r_load hE rfl sc3 s.2.2.2.1) (fun a hE => ?_)
                      refine d_read (i := 18) (v := .int .i64 x113_59) #[true, true, true, true, true, true, true, true, true, true, true, true, true, false, true, true, true, true, true, true, false, false, false, false] rfl rfl hT (by kernel_rfl) hE rfl (wanted_of rfl hE rfl rfl rfl) hs (fun w s => r_load hE rfl sc3 s.2.2.2.2.1) (fun a hE => ?_)
                      refine d_read (i := 20) (v := .int .u32 x115_60) #[true, true, true, true, true, true, true, true, true, true, true, true, true, false, true, true, true, true, true, true, true, false, false, false] rfl rfl hT (by kernel_rfl) hE rfl (wanted_of rfl hE rfl rfl rfl) hs (fun w s => r_load hE rfl sc34 s.2.2.2.2.2) (fun a hE => ?_)
                      refine d_call (i := 13) #[true, true, true, true, true, true, true, true, true, true, true, true, true, true, true, true, true, true, true, true, true, false, false, false] rfl rfl rfl hT (by kernel_rfl) rfl hE hR (wanted_of rfl hE rfl rfl rfl) cl25 rfl (S_disk_Disk_Burst x14_3.1 x103_55 x105_56 x107_57) (M.unbind H) (fun r h H w' e => by obtain ⟨_, sA, H⟩ := H; rw [e]; exact sA) (fun x108_61 a w ea hR H hs => ?_)
                      obtain ⟨_, sA, H⟩ := H; clear sA
                      have hE := Env.put_some hE rfl ea; clear ea
                      refine d_calll (i := 21) #[true, true, true, true, true, true, true, true, true, true, true, true, true, true, true, true, true, true, true, true, true, true, false, false] rfl rfl rfl hT (by kernel_rfl) rfl hE hR (wanted_of rfl hE rfl rfl rfl) cl31 rfl (S_rambleref04_Disk_Burst x18_5.1 x111_58 x113_59 x115_60) (M.unbind H) (fun x116_62 a w ea hR H => ?_)
                      have hE := Env.put_some hE rfl ea; clear ea
                      refine d_pureg (i := 22) (v := .bool (x108_61 != x116_62)) #[true, true, true, true, true, true, true, true, true, true, true, true, true, true, true, true, true, true, true, true, true, true, true, false] rfl rfl hT (by kernel_rfl) hE rfl (wanted_of rfl hE rfl rfl rfl) (fun w => r_bin hE rfl rfl g_int b_neq) (fun a hE => ?_)
                      refine d_pureg (i := 23) (v := .bool (x108_61 != x116_62)) #[true, true, true, true, true, true, true, true, true, true, true, true, true, true, true, true, true, true, true, true, true, true, true, true] rfl rfl hT (by kernel_rfl) hE rfl (wanted_none rfl) (fun w => r_pick_f hE rfl rfl) (fun a hE => ?_)
                      refine d_done hT (by kernel_rfl) ?_
                      exact ⟨x108_61 != x116_62, hE.cut (.cons rfl (.cons rfl (.cons rfl (.cons rfl (.cons rfl (.cons rfl Subs.nil)))))), hR, H⟩
                · replace H := M.ite_f hb H
                  refine w_seq (fun K hK_63 => ?_)
                  refine t_region ?_
                  refine t_val (v := .pointer x14_3.1) rfl rfl hE rfl (r_move hE rfl) (fun a hE => ?_)
                  refine t_val (v := .pointer (some ((x8_31).add 1))) rfl rfl hE rfl (r_fieldAddr hE rfl fd59_1) (fun a hE => ?_)
                  obtain ⟨x46_64, qx46_64, H⟩ := H
                  refine t_val (v := .int .i64 x46_64) rfl rfl hE rfl (r_load hE rfl sc3 qx46_64) (fun a hE => ?_)
                  refine t_val (v := .pointer (some ((x8_31).add 2))) rfl rfl hE rfl (r_fieldAddr hE rfl fd59_2) (fun a hE => ?_)
                  refine t_val (v := .pointer (some (((x8_31).add 2).add 0))) rfl rfl hE rfl (r_fieldAddr hE rfl fd24_0) (fun a hE => ?_)
                  obtain ⟨x49_65, qx49_65, H⟩ := H
                  refine t_val (v := .int .i64 x49_65) rfl rfl hE rfl (r_load hE rfl sc3 qx49_65) (fun a hE => ?_)
                  refine t_val (v := .pointer (some ((x8_31).add 2))) rfl rfl hE rfl (r_fieldAddr hE rfl fd59_2) (fun a hE => ?_)
                  refine t_val (v := .pointer (some (((x8_31).add 2).add 1))) rfl rfl hE rfl (r_fieldAddr hE rfl fd24_1) (fun a hE => ?_)
                  obtain ⟨x52_66, qx52_66, H⟩ := H
                  refine t_val (v := .int .i64 x52_66) rfl rfl hE rfl (r_load hE rfl sc2 qx52_66) (fun a hE => ?_)
                  refine t_call hE hR cl32 rfl (S_sector_Get x14_3.1 x46_64 x49_65 x52_66) (M.unbind H) (fun x53_67 a w ea hR H => ?_)
                  have hE := Env.put_some hE rfl ea; clear ea
                  refine t_val (v := .tuple #[(x53_67.1 : Sl).v, .int .i64 x53_67.2]) rfl rfl hE rfl (r_move hE rfl) (fun a hE => ?_)
                  refine t_val (v := (x53_67.1 : Sl).v) rfl rfl hE rfl (r_extract hE rfl rfl) (fun a hE => ?_)
                  refine t_val (v := .int .i64 x53_67.2) rfl rfl hE rfl (r_extract hE rfl rfl) (fun a hE => ?_)
                  refine t_val (v := (x53_67.1 : Sl).v) rfl rfl hE rfl (r_assign hE rfl) (fun a hE => ?_)
                  refine t_val (v := .int .i64 x53_67.2) rfl rfl hE rfl (r_assign hE rfl) (fun a hE => ?_)
                  refine t_nil ?_
                  refine hK_63 _ _ ?_
                  refine w_seq (fun K hK_68 => ?_)
                  refine t_region ?_
                  refine t_val (v := .pointer x18_5.1) rfl rfl hE rfl (r_move hE rfl) (fun a hE => ?_)
                  refine t_val (v := .pointer (some ((x8_31).add 1))) rfl rfl hE rfl (r_fieldAddr hE rfl fd59_1) (fun a hE => ?_)
                  obtain ⟨x59_69, qx59_69, H⟩ := H
                  refine t_val (v := .int .i64 x59_69) rfl rfl hE rfl (r_load hE rfl sc3 qx59_69) (fun a hE => ?_)
                  refine t_val (v := .pointer (some ((x8_31).add 2))) rfl rfl hE rfl (r_fieldAddr hE rfl fd59_2) (fun a hE => ?_)
                  refine t_val (v := .pointer (some (((x8_31).add 2).add 0))) rfl rfl hE rfl (r_fieldAddr hE rfl fd24_0) (fun a hE => ?_)
                  obtain ⟨x62_70, qx62_70, H⟩ := H
                  refine t_val (v := .int .i64 x62_70) rfl rfl hE rfl (r_load hE rfl sc3 qx62_70) (fun a hE => ?_)
                  refine t_val (v := .pointer (some ((x8_31).add 2))) rfl rfl hE rfl (r_fieldAddr hE rfl fd59_2) (fun a hE => ?_)
                  refine t_val (v := .pointer (some (((x8_31).add 2).add 1))) rfl rfl hE rfl (r_fieldAddr hE rfl fd24_1) (fun a hE => ?_)
                  obtain ⟨x65_71, qx65_71, H⟩ := H
                  refine t_val (v := .int .i64 x65_71) rfl rfl hE rfl (r_load hE rfl sc2 qx65_71) (fun a hE => ?_)
                  refine t_call hE hR cl33 rfl (S_rambleref05_Get x18_5.1 x59_69 x62_70 x65_71) (M.unbind H) (fun x66_72 a w ea hR H => ?_)
                  have hE := Env.put_some hE rfl ea; clear ea
                  refine t_val (v := .tuple #[(x66_72.1 : Sl).v, .int .i64 x66_72.2]) rfl rfl hE rfl (r_move hE rfl) (fun a hE => ?_)
                  refine t_val (v := (x66_72.1 : Sl).v) rfl rfl hE rfl (r_extract hE rfl rfl) (fun a hE => ?_)
                  refine t_val (v := .int .i64 x66_72.2) rfl rfl hE rfl (r_extract hE rfl rfl) (fun a hE => ?_)
                  refine t_val (v := (x66_72.1 : Sl).v) rfl rfl hE rfl (r_assign hE rfl) (fun a hE => ?_)
                  refine t_val (v := .int .i64 x66_72.2) rfl rfl hE rfl (r_assign hE rfl) (fun a hE => ?_)
                  refine t_nil ?_
                  refine hK_68 _ _ ?_
                  refine w_seq (fun K hK_73 => ?_)
                  refine t_region ?_
                  refine t_val (v := (x53_67.1 : Sl).v) rfl rfl hE rfl (r_move hE rfl) (fun a hE => ?_)
                  refine t_val (v := (x66_72.1 : Sl).v) rfl rfl hE rfl (r_move hE rfl) (fun a hE => ?_)
                  refine t_call hE hR cl19 rfl (S_bytes_Equal x53_67.1 x66_72.1) (M.unbind H) (fun x71_74 a w ea hR H => ?_)
                  have hE := Env.put_some hE rfl ea; clear ea
                  refine t_val (v := .bool (!x71_74)) rfl rfl hE rfl (r_un hE rfl u_not) (fun a hE => ?_)
                  refine t_val (v := .bool (!x71_74)) rfl rfl hE rfl (r_move hE rfl) (fun a hE => ?_)
                  refine t_grp (n := 123) (w0 := w0) 4 (fun x77_75 : Bool => [(3, .pointer x14_3.1), (5, .pointer x18_5.1), (35, (x0 : Sl).v), (36, .int .i64 (x0.len : Int)), (37, .int .i64 x37_15), (77, .bool x77_75)]) (M.unbind H) (fun Kr hKr H => ?_) ?_
                  · rcases bool_em (!x71_74) with hb | hb
                    · replace H := M.ite_t hb H
                      have hE := hE.reb 73 (!x71_74) true hb rfl
                      refine t_off rfl hE rfl rfl rfl (fun a ea => ?_)
                      have hE := Env.put_some hE rfl ea; clear ea
                      refine t_off rfl hE rfl rfl rfl (fun a ea => ?_)
                      have hE := Env.put_some hE rfl ea; clear ea
                      refine t_off rfl hE rfl rfl rfl (fun a ea => ?_)
                      have hE := Env.put_some hE rfl ea; clear ea
                      refine t_val rfl rfl hE rfl (r_pick_t hE rfl rfl) (fun a hE => ?_)
                      refine t_nil ?_
                      exact hKr _ _ _ (hE.cut (.cons rfl (.cons rfl (.cons rfl (.cons rfl (.cons rfl (.cons rfl Subs.nil))))))) hR H
                    · replace H := M.ite_f hb H
                      have hE := hE.reb 73 (!x71_74) false hb rfl
                      refine t_on rfl hE rfl rfl rfl ?_
                      refine t_val (v := .int .i64 x53_67.2) rfl rfl hE rfl (r_move hE rfl) (fun a hE => ?_)
                      refine t_on rfl hE rfl rfl rfl ?_
                      refine t_val (v := .int .i64 x66_72.2) rfl rfl hE rfl (r_move hE rfl) (fun a hE => ?_)
                      refine t_on rfl hE rfl rfl rfl ?_
                      refine t_val (v := .bool (x53_67.2 != x66_72.2)) rfl rfl hE rfl (r_bin hE rfl rfl g_int b_neq) (fun a hE => ?_)
                      refine t_val rfl rfl hE rfl (r_pick_f hE rfl rfl) (fun a hE => ?_)
                      refine t_nil ?_
                      exact hKr _ _ _ (hE.cut (.cons rfl (.cons rfl (.cons rfl (.cons rfl (.cons rfl (.cons rfl Subs.nil))))))) hR H
                  · intro x77_75 a w hE hR H
                    refine t_nil ?_
                    refine hK_73 _ _ ?_
                    refine w_cond x77_75 hE rfl (fun hb => ?_) (fun hb => ?_)
                    · replace H := M.ite_t hb H
                      refine w_seq (fun K hK_76 => ?_)
                      refine t_region ?_
                      refine t_val (v := .bool false) rfl rfl hE rfl (r_assign hE rfl) (fun a hE => ?_)
                      refine t_nil ?_
                      refine hK_76 _ _ ?_
                      refine w_ret ?_
                      exact hret _ _ _ false _ hE hR (res_run hE rfl (RV.tmp rfl RV.nil)) rfl H
                    · replace H := M.ite_f hb H
                      refine w_skip ?_
                      exact ⟨hE.cut (.cons rfl (.cons rfl (.cons rfl (.cons rfl (.cons rfl Subs.nil))))), hR, H⟩
          · replace H := M.ite_f hb H
            refine w_exit ?_
            refine Xu.same ?_
            refine hK_13 _ _ ?_
            refine w_seq (fun K hK_77 => ?_)
            refine t_region ?_
            refine t_val (v := .agg (#[.int .i64 1, .int .i64 0, .slice none 0 0] : Array Value)) rfl rfl hE rfl (r_build hE rfl zr24 pl24 (by rfl)) (fun a hE => ?_)
            refine t_call hE hR cl28 rfl (S_sector_Put (none : Option Addr) 0 (#[.int .i64 1, .int .i64 0, .slice none 0 0] : Array Value)) (M.unbind H) (fun x121_78 a w ea hR H => ?_)
            have hE := Env.put_some hE rfl ea; clear ea
            refine t_val (v := .bool (x121_78 == 2)) rfl rfl hE rfl (r_bin hE rfl rfl g_int b_eql) (fun a hE => ?_)
            refine t_val (v := .bool (x121_78 == 2)) rfl rfl hE rfl (r_assign hE rfl) (fun a hE => ?_)
            refine t_nil ?_
            refine hK_77 _ _ ?_
            refine w_ret ?_
            exact hret _ _ _ (x121_78 == 2) _ hE hR (res_run hE rfl (RV.tmp rfl RV.nil)) rfl H

end Gx
