/- Printed by program: Go functions as Lean programs, each tied to its code. No condition. -/
import Derived.Test.YtklegajjmeajiaaAT
import Derived.Test.YtklegajjmeajiaaAF0
import Derived.Test.YtklegajjmeajiaaAF1
import Derived.Test.YtklegajjmeajiaaAF2
import Derived.Test.YtklegajjmeajiaaAF3
import Derived.Test.YtklegajjmeajiaaAF4
namespace Gx
open Go
set_option linter.unusedVariables false
set_option maxRecDepth 100000
/-- (*ramble/disk.Disk).stay -/
theorem tb42_0 : tabAt Go.Proofs.Try.f42 0 [[], [0], [1], [2], [], [], [5], [6], [7], [], [8, 9], [3, 4, 0, 1, 2, 3, 4, 5, 6, 7, 8, 9, 10], [11, 10, 0, 1, 2, 3, 4, 5, 6, 7, 8, 9, 10]] [[], [0], [1], [2], [], [], [5], [6], [7], [], [8, 9], [3, 4], [10, 11]] [[], [0], [0, 1], [0, 1, 2], [], [], [5], [5, 6], [5, 6, 7], [], [5, 6, 7, 8, 9], [0, 1, 2, 3, 4, 5, 6, 7, 8, 9, 10], [0, 1, 2, 3, 4, 5, 6, 7, 8, 9, 10, 11]] = true := by kernel_rfl
def disk_Disk_stay (x0 : Option Addr) (x1 : Int) : M (Unit) := do
  let x5_2 ← nilP x0
  let x10_3 ← nilP x0
  let x7_4 ← ldL ((x5_2).add 0)
  let x12_5 ← ldMp ((x10_3).add 2)
  let x14_6 ← lkM (fun v : Array Value => .agg v) (.int .i64) (.int .i64 x1) (.agg (Array.replicate 128 (.int .u8 0) : Array Value)) x12_5
  let x15_7 ← ixL x7_4 x1 128
  M.need (x14_6.1.size = 128)
  stG x15_7 x14_6.1
  let x17_9 ← nilP x0
  let x19_10 ← ldL ((x17_9).add 1)
  let x21_11 ← ixL x19_10 x1 1
  stV x21_11 (.bool false)
  M.pure ()
theorem S_disk_Disk_stay (x0 : Option Addr) (x1 : Int) : Sound Go.Proofs.Try.prog 42 #[.pointer x0, .int .i64 x1] (fun (r : Unit) => .tuple #[]) (disk_Disk_stay x0 x1) := by
  refine sound_of [(0, .pointer x0), (1, .int .i64 x1)] Go.Proofs.Try.func42 rfl rfl (Nat.le_of_ble_eq_true rfl) (args_of ⟨rfl, rfl, trivial⟩) (fun w0 w Q R a hret hE hR H => ?_)
  unfold disk_Disk_stay at H
  refine w_seq (fun K hK_1 => ?_)
  obtain ⟨x5_2, qx5_2, H⟩ := H
  obtain ⟨x10_3, qx10_3, H⟩ := H
  obtain ⟨x7_4, qx7_4, H⟩ := H
  obtain ⟨x12_5, qx12_5, H⟩ := H
  obtain ⟨x14_6, qx14_6, H⟩ := H
  obtain ⟨x15_7, qx15_7, H⟩ := H
  have hT := tab_of tb42_0 rfl rfl
  refine d_start (fun w : World => (fun h : Heap => (hcell h ((x5_2).add 0) = some ((x7_4 : Sl).v)) ∧ (hcell h ((x10_3).add 2) = some (.map x12_5)) ∧ (∃ es res, mget h x12_5 = some es ∧ Instr.findNow (.int .i64) (.int .i64 x1) es.toList 0 = some res ∧ (fun v : Array Value => .agg v) x14_6.1 = (match res with | some p => p.2 | none => .agg (Array.replicate 128 (.int .u8 0) : Array Value)) ∧ x14_6.2 = res.isSome)) w.heap) [11, 12] #[false, false, false, false, false, false, false, false, false, false, false, false, false] mo hR rfl rfl (fun w' e => by rw [e]; exact ⟨qx7_4, qx12_5, qx14_6⟩) (fun w hh hR hs => ?_)
  replace H := M.at hh H; clear hh
  refine d_pureg (i := 0) (v := .pointer x0) #[true, false, false, false, false, false, false, false, false, false, false, false, false] rfl rfl hT (by kernel_rfl) hE rfl (wanted_none rfl) (fun w => r_move hE rfl) (fun a hE => ?_)
  refine d_pureg (i := 1) (v := .pointer (some x5_2)) #[true, true, false, false, false, false, false, false, false, false, false, false, false] rfl rfl hT (by kernel_rfl) hE rfl (wanted_none rfl) (fun w => r_nilCheck hE (hx_eq rfl (congrArg Value.pointer qx5_2))) (fun a hE => ?_)
  refine d_pureg (i := 2) (v := .pointer (some ((x5_2).add 0))) #[true, true, true, false, false, false, false, false, false, false, false, false, false] rfl rfl hT (by kernel_rfl) hE rfl (wanted_none rfl) (fun w => r_fieldAddr hE rfl fd78_0) (fun a hE => ?_)
  refine d_pureg (i := 4) (v := .int .i64 x1) #[true, true, true, false, true, false, false, false, false, false, false, false, false] rfl rfl hT (by kernel_rfl) hE rfl (wanted_none rfl) (fun w => r_move hE rfl) (fun a hE => ?_)
  refine d_pureg (i := 5) (v := .pointer x0) #[true, true, true, false, true, true, false, false, false, false, false, false, false] rfl rfl hT (by kernel_rfl) hE rfl (wanted_none rfl) (fun w => r_move hE rfl) (fun a hE => ?_)
  refine d_pureg (i := 6) (v := .pointer (some x10_3)) #[true, true, true, false, true, true, true, false, false, false, false, false, false] rfl rfl hT (by kernel_rfl) hE rfl (wanted_none rfl) (fun w => r_nilCheck hE (hx_eq rfl (congrArg Value.pointer qx10_3))) (fun a hE => ?_)
  refine d_pureg (i := 7) (v := .pointer (some ((x10_3).add 2))) #[true, true, true, false, true, true, true, true, false, false, false, false, false] rfl rfl hT (by kernel_rfl) hE rfl (wanted_none rfl) (fun w => r_fieldAddr hE rfl fd78_2) (fun a hE => ?_)
  refine d_pureg (i := 9) (v := .int .i64 x1) #[true, true, true, false, true, true, true, true, false, true, false, false, false] rfl rfl hT (by kernel_rfl) hE rfl (wanted_none rfl) (fun w => r_move hE rfl) (fun a hE => ?_)
  refine d_read (i := 3) (v := (x7_4 : Sl).v) #[true, true, true, true, true, true, true, true, false, true, false, false, false] rfl rfl hT (by kernel_rfl) hE rfl (wanted_none rfl) hs (fun w s => r_load hE rfl sc74 s.1) (fun a hE => ?_)
  refine d_read (i := 8) (v := .map x12_5) #[true, true, true, true, true, true, true, true, true, true, false, false, false] rfl rfl hT (by kernel_rfl) hE rfl (wanted_none rfl) hs (fun w s => r_load hE rfl sc76 s.2.1) (fun a hE => ?_)
  refine d_read (i := 10) (v := .agg x14_6.1) #[true, true, true, true, true, true, true, true, true, true, true, false, false] rfl rfl hT (by kernel_rfl) hE rfl (wanted_none rfl) hs (fun w s => r_lookup1 (dec := (fun v : Array Value => .agg v)) hE rfl rfl un76 un3 rfl zr26 s.2.2) (fun a hE => ?_)
  refine d_pureg (i := 11) (v := .pointer (some x15_7)) #[true, true, true, true, true, true, true, true, true, true, true, true, false] rfl rfl hT (by kernel_rfl) hE rfl (wanted_none rfl) (fun w => r_indexAddrL hE rfl rfl un74 sz26 qx15_7) (fun a hE => ?_)
  obtain ⟨qz, H⟩ := H
  obtain ⟨u_8, qu_8, H⟩ := H
  refine d_stlh (i := 12) #[true, true, true, true, true, true, true, true, true, true, true, true, true] rfl rfl hT (by kernel_rfl) rfl hE hR (wanted_none rfl) (r_storeG hE rfl rfl sz26 qz qu_8)  (fun a w hE hR hh => ?_)
  replace H := M.at hh H; clear hh
  refine d_done hT (by kernel_rfl) ?_
  refine hK_1 _ _ ?_
  refine t_region ?_
  refine t_val (v := .pointer x0) rfl rfl hE rfl (r_move hE rfl) (fun a hE => ?_)
  obtain ⟨x17_9, qx17_9, H⟩ := H
  refine t_val (v := .pointer (some x17_9)) rfl rfl hE rfl (r_nilCheck hE (hx_eq rfl (congrArg Value.pointer qx17_9))) (fun a hE => ?_)
  refine t_val (v := .pointer (some ((x17_9).add 1))) rfl rfl hE rfl (r_fieldAddr hE rfl fd78_1) (fun a hE => ?_)
  obtain ⟨x19_10, qx19_10, H⟩ := H
  refine t_val (v := (x19_10 : Sl).v) rfl rfl hE rfl (r_load hE rfl sc75 qx19_10) (fun a hE => ?_)
  refine t_val (v := .int .i64 x1) rfl rfl hE rfl (r_move hE rfl) (fun a hE => ?_)
  obtain ⟨x21_11, qx21_11, H⟩ := H
  refine t_val (v := .pointer (some x21_11)) rfl rfl hE rfl (r_indexAddrL hE rfl rfl un75 sz4 qx21_11) (fun a hE => ?_)
  obtain ⟨u_12, qu_12, H⟩ := H
  refine t_sth rfl rfl hE hR (r_store hE rfl rfl sz4 qu_12) (fun a w hE hR hh => ?_)
  replace H := M.at hh H; clear hh
  refine t_nil ?_
  exact hret _ _ _ () _ hE hR (res_run hE rfl RV.nil) rfl H

/-- (*ramble/disk.Disk).Flush -/
def disk_Disk_Flush_l1 (c0_17 : Option Addr) (c20_18 : Addr) (self1 : (Unit) → M (Int)) : (Unit) → M (Int) := fun s => match s with
  | () => do
    let x21_21 ← nxM c20_18
    let x22_22 ← exB x21_21 0
    M.ite x22_22 (do
      let x23_25 ← enM c20_18
      let x24_26 ← exI .i64 x23_25.1
      let x27_27 ← disk_Disk_stay c0_17 x24_26
      self1 ()
      ) (do
      let x29_29 ← nilP c0_17
      let x31_30 ← ldMp ((x29_29).add 2)
      let u_31 ← clM x31_30
      M.pure 0
      )
def disk_Disk_Flush (x0 : Option Addr) : M (Int) := do
  let x7_4 ← disk_Disk_can x0
  M.ite (x7_4 != 0) (do
    M.pure x7_4
    ) (do
    let x12_9 ← disk_Disk_call x0
    M.ite (x12_9 != 0) (do
      M.pure x12_9
      ) (do
      let x17_14 ← nilP x0
      let x19_15 ← ldMp ((x17_14).add 2)
      let x20_16 ← rgM x19_15
      M.loop (disk_Disk_Flush_l1 x0 x20_16) ()
      )
    )
theorem S_disk_Disk_Flush (x0 : Option Addr) : Sound Go.Proofs.Try.prog 24 #[.pointer x0] (fun (r : Int) => .int .i64 r) (disk_Disk_Flush x0) := by
  refine sound_of [(0, .pointer x0)] Go.Proofs.Try.func24 rfl rfl (Nat.le_of_ble_eq_true rfl) (args_of ⟨rfl, trivial⟩) (fun w0 w Q R a hret hE hR H => ?_)
  unfold disk_Disk_Flush at H
  refine w_seq (fun K hK_1 => ?_)
  refine t_region ?_
  refine t_val (v := .int .i64 0) rfl rfl hE rfl (r_assign hE rfl) (fun a hE => ?_)
  refine t_nil ?_
  refine hK_1 _ _ ?_
  refine w_seq (fun K hK_2 => ?_)
  refine w_seq (fun K hK_3 => ?_)
  refine t_region ?_
  refine t_val (v := .pointer x0) rfl rfl hE rfl (r_move hE rfl) (fun a hE => ?_)
  refine t_call hE hR cl39 rfl (S_disk_Disk_can x0) (M.unbind H) (fun x7_4 a w ea hR H => ?_)
  have hE := Env.put_some hE rfl ea; clear ea
  refine t_val (v := .int .i64 x7_4) rfl rfl hE rfl (r_assign hE rfl) (fun a hE => ?_)
  refine t_nil ?_
  refine hK_3 _ _ ?_
  refine w_seq (fun K hK_5 => ?_)
  refine t_region ?_
  refine t_val (v := .int .i64 x7_4) rfl rfl hE rfl (r_move hE rfl) (fun a hE => ?_)
  refine t_val (v := .bool (x7_4 != 0)) rfl rfl hE rfl (r_bin hE rfl rfl g_int b_neq) (fun a hE => ?_)
  refine t_nil ?_
  refine hK_5 _ _ ?_
  refine w_cond (x7_4 != 0) hE rfl (fun hb => ?_) (fun hb => ?_)
  · replace H := M.ite_t hb H
    refine w_seq (fun K hK_6 => ?_)
    refine t_region ?_
    refine t_val (v := .int .i64 x7_4) rfl rfl hE rfl (r_move hE rfl) (fun a hE => ?_)
    refine t_val (v := .int .i64 x7_4) rfl rfl hE rfl (r_assign hE rfl) (fun a hE => ?_)
    refine t_nil ?_
    refine hK_6 _ _ ?_
    refine w_ret ?_
    exact hret _ _ _ x7_4 _ hE hR (res_run hE rfl (RV.tmp rfl RV.nil)) rfl H
  · replace H := M.ite_f hb H
    refine w_skip ?_
    refine hK_2 _ _ ?_
    refine w_seq (fun K hK_7 => ?_)
    refine w_seq (fun K hK_8 => ?_)
    refine t_region ?_
    refine t_val (v := .pointer x0) rfl rfl hE rfl (r_move hE rfl) (fun a hE => ?_)
    refine t_call hE hR cl41 rfl (S_disk_Disk_call x0) (M.unbind H) (fun x12_9 a w ea hR H => ?_)
    have hE := Env.put_some hE rfl ea; clear ea
    refine t_val (v := .int .i64 x12_9) rfl rfl hE rfl (r_assign hE rfl) (fun a hE => ?_)
    refine t_nil ?_
    refine hK_8 _ _ ?_
    refine w_seq (fun K hK_10 => ?_)
    refine t_region ?_
    refine t_val (v := .int .i64 x12_9) rfl rfl hE rfl (r_move hE rfl) (fun a hE => ?_)
    refine t_val (v := .bool (x12_9 != 0)) rfl rfl hE rfl (r_bin hE rfl rfl g_int b_neq) (fun a hE => ?_)
    refine t_nil ?_
    refine hK_10 _ _ ?_
    refine w_cond (x12_9 != 0) hE rfl (fun hb => ?_) (fun hb => ?_)
    · replace H := M.ite_t hb H
      refine w_seq (fun K hK_11 => ?_)
      refine t_region ?_
      refine t_val (v := .int .i64 x12_9) rfl rfl hE rfl (r_move hE rfl) (fun a hE => ?_)
      refine t_val (v := .int .i64 x12_9) rfl rfl hE rfl (r_assign hE rfl) (fun a hE => ?_)
      refine t_nil ?_
      refine hK_11 _ _ ?_
      refine w_ret ?_
      exact hret _ _ _ x12_9 _ hE hR (res_run hE rfl (RV.tmp rfl RV.nil)) rfl H
    · replace H := M.ite_f hb H
      refine w_skip ?_
      refine hK_7 _ _ ?_
      refine w_seq (fun K hK_12 => ?_)
      refine w_seq (fun K hK_13 => ?_)
      refine t_region ?_
      refine t_val (v := .pointer x0) rfl rfl hE rfl (r_move hE rfl) (fun a hE => ?_)
      obtain ⟨x17_14, qx17_14, H⟩ := H
      refine t_val (v := .pointer (some x17_14)) rfl rfl hE rfl (r_nilCheck hE (hx_eq rfl (congrArg Value.pointer qx17_14))) (fun a hE => ?_)
      refine t_val (v := .pointer (some ((x17_14).add 2))) rfl rfl hE rfl (r_fieldAddr hE rfl fd78_2) (fun a hE => ?_)
      obtain ⟨x19_15, qx19_15, H⟩ := H
      refine t_val (v := .map x19_15) rfl rfl hE rfl (r_load hE rfl sc76 qx19_15) (fun a hE => ?_)
      obtain ⟨x20_16, qx20_16, H⟩ := H
      refine t_valh (v := .pointer (some x20_16)) rfl rfl hE rfl hR (r_range hE rfl un76 qx20_16) (fun a w hE hR hh => ?_)
      replace H := M.at hh H; clear hh
      refine t_nil ?_
      refine hK_13 _ _ ?_
      refine w_block ?_
      refine l_loop (fun (s : Unit) => [(0, .pointer x0), (20, .pointer (some x20_16))]) H (hE.cut (.cons rfl (.cons rfl Subs.nil))) hR (fun Y self1 hY_19 s a w hE hR H => ?_)
      cases s
      replace hE : Env 32 a [(0, .pointer x0), (20, .pointer (some x20_16))] := hE
      replace H : (disk_Disk_Flush_l1 x0 x20_16 self1 ()).wp w.heap Q := H
      unfold disk_Disk_Flush_l1 at H
      refine w_seq (fun K hK_20 => ?_)
      refine t_region ?_
      refine t_ex (fun x21_21 => x21_21) rfl rfl hR (M.unbind H) (fun Q H => nx_run hE rfl H) (fun x21_21 a w ea hR H => ?_)
      have hE := Env.put_some hE rfl ea; clear ea
      obtain ⟨x22_22, qx22_22, H⟩ := H
      refine t_val (v := .bool x22_22) rfl rfl hE rfl (ex_run hE rfl qx22_22) (fun a hE => ?_)
      refine t_nil ?_
      refine hK_20 _ _ ?_
      refine w_seq (fun K hK_23 => ?_)
      refine w_cond x22_22 hE rfl (fun hb => ?_) (fun hb => ?_)
      · replace H := M.ite_t hb H
        refine w_skip ?_
        refine hK_23 _ _ ?_
        refine w_block ?_
        refine w_seq (fun K hK_24 => ?_)
        refine t_region ?_
        obtain ⟨x23_25, qx23_25, H⟩ := H
        refine t_val (v := .tuple #[x23_25.1, x23_25.2]) rfl rfl hE rfl (r_entry hE rfl qx23_25) (fun a hE => ?_)
        obtain ⟨x24_26, qx24_26, H⟩ := H
        refine t_val (v := .int .i64 x24_26) rfl rfl hE rfl (r_extract hE rfl (congrArg some qx24_26)) (fun a hE => ?_)
        refine t_val (v := .int .i64 x24_26) rfl rfl hE rfl (r_assign hE rfl) (fun a hE => ?_)
        refine t_nil ?_
        refine hK_24 _ _ ?_
        refine t_region ?_
        refine t_val (v := .pointer x0) rfl rfl hE rfl (r_move hE rfl) (fun a hE => ?_)
        refine t_val (v := .int .i64 x24_26) rfl rfl hE rfl (r_move hE rfl) (fun a hE => ?_)
        refine t_call hE hR cl42 rfl (S_disk_Disk_stay x0 x24_26) (M.unbind H) (fun x27_27 a w ea hR H => ?_)
        have hE := Env.put_some hE rfl ea; clear ea
        refine t_nil ?_
        exact hY_19 () _ _ (hE.cut (.cons rfl (.cons rfl Subs.nil))) hR H
      · replace H := M.ite_f hb H
        refine w_exit ?_
        refine Xu.same ?_
        refine hK_12 _ _ ?_
        refine w_seq (fun K hK_28 => ?_)
        refine t_region ?_
        refine t_val (v := .pointer x0) rfl rfl hE rfl (r_move hE rfl) (fun a hE => ?_)
        obtain ⟨x29_29, qx29_29, H⟩ := H
        refine t_val (v := .pointer (some x29_29)) rfl rfl hE rfl (r_nilCheck hE (hx_eq rfl (congrArg Value.pointer qx29_29))) (fun a hE => ?_)
        refine t_val (v := .pointer (some ((x29_29).add 2))) rfl rfl hE rfl (r_fieldAddr hE rfl fd78_2) (fun a hE => ?_)
        obtain ⟨x31_30, qx31_30, H⟩ := H
        refine t_val (v := .map x31_30) rfl rfl hE rfl (r_load hE rfl sc76 qx31_30) (fun a hE => ?_)
        obtain ⟨u_31, qu_31, H⟩ := H
        refine t_valnh (v := .tuple #[]) rfl rfl hE hR (r_clearM hE rfl un76 qu_31) (fun a w hE hR hh => ?_)
        replace H := M.at hh H; clear hh
        refine t_nil ?_
        refine hK_28 _ _ ?_
        refine w_seq (fun K hK_32 => ?_)
        refine t_region ?_
        refine t_val (v := .int .i64 0) rfl rfl hE rfl (r_assign hE rfl) (fun a hE => ?_)
        refine t_nil ?_
        refine hK_32 _ _ ?_
        refine w_ret ?_
        exact hret _ _ _ 0 _ hE hR (res_run hE rfl (RV.tmp rfl RV.nil)) rfl H

/-- (*ramble/disk.Disk).Burst -/
def disk_Disk_Burst_j1 (self1 : (Int) → M (Int)) (c29_31 : Int) : M (Int) := do
  self1 (IntKind.wrap .i64 (c29_31 + 1))
theorem tb25_13 : tabAt Go.Proofs.Try.f25 13 [[], [0], [1], [2], [], [], [5], [3, 4], [7, 6], [8], [], [10], [11], [9, 12], [3, 4], [14, 6, 0, 1, 2, 3, 4, 5, 6, 7, 8, 9, 10, 11, 12, 13], [15, 13, 0, 1, 2, 3, 4, 5, 6, 7, 8, 9, 10, 11, 12, 13]] [[], [0], [1], [2], [], [], [5], [3, 4], [6, 7], [8], [], [10], [11], [9, 12], [3, 4], [6, 14], [13, 15]] [[], [0], [0, 1], [0, 1, 2], [], [], [5], [0, 1, 2, 3, 4], [0, 1, 2, 3, 4, 5, 6, 7], [0, 1, 2, 3, 4, 5, 6, 7, 8], [], [10], [10, 11], [0, 1, 2, 3, 4, 5, 6, 7, 8, 9, 10, 11, 12], [0, 1, 2, 3, 4], [0, 1, 2, 3, 4, 5, 6, 7, 8, 9, 10, 11, 12, 13, 14], [0, 1, 2, 3, 4, 5, 6, 7, 8, 9, 10, 11, 12, 13, 14, 15]] = true := by kernel_rfl
def disk_Disk_Burst_l1 (c0_18 : Option Addr) (c1_19 : Int) (c2_20 : Int) (c3_21 : Int) (c28_22 : Int) (self1 : (Int) → M (Int)) : (Int) → M (Int) := fun s => match s with
  | x29_17 => do
    M.ite (decide (x29_17 < c28_22)) (do
      let x34_34 ← pShr .u32 c3_21 x29_17
      M.ite ((iAnd .u32 x34_34 1) == 1) (do
        let x41_36 ← nilP c0_18
        let x52_37 ← pShl .u8 1 (Int.tmod (IntKind.wrap .i64 (c2_20 + x29_17)) 8)
        let x43_38 ← ldL ((x41_36).add 0)
        let x47_39 ← ixL x43_38 c1_19 128
        let x48_40 ← ixA x47_39 128 (IntKind.wrap .i64 (Int.tdiv (IntKind.wrap .i64 (c2_20 + x29_17)) 8)) 1
        let x54_41 ← ixL x43_38 c1_19 128
        let x49_42 ← ldI .u8 x48_40
        let x55_43 ← ixA x54_41 128 (IntKind.wrap .i64 (Int.tdiv (IntKind.wrap .i64 (c2_20 + x29_17)) 8)) 1
        stV x55_43 (.int .u8 (iXor .u8 x49_42 x52_37))
        disk_Disk_Burst_j1 self1 x29_17
        ) (do
        disk_Disk_Burst_j1 self1 x29_17
        )
      ) (do
      M.pure 0
      )
def disk_Disk_Burst (x0 : Option Addr) (x1 : Int) (x2 : Int) (x3 : Int) : M (Int) := do
  let x13_4 ← disk_Disk_none x0
  M.ite x13_4 (do
    M.pure 2
    ) (do
    let x16_8 ← disk_Disk_there x0 x1
    M.ite (x16_8 != 0) (do
      M.pure x16_8
      ) (do
      let x25_13 ← M.ite (decide (x2 < 0)) (do
        M.pure true
        ) (do
        M.pure (decide (x2 ≥ 1024))
        )
      M.ite x25_13 (do
        M.pure 1
        ) (do
        M.loop (disk_Disk_Burst_l1 x0 x1 x2 x3 (iMin 32 (IntKind.wrap .i64 (1024 - x2)))) 0
        )
      )
    )
theorem S_disk_Disk_Burst (x0 : Option Addr) (x1 : Int) (x2 : Int) (x3 : Int) : Sound Go.Proofs.Try.prog 25 #[.pointer x0, .int .i64 x1, .int .i64 x2, .int .u32 x3] (fun (r : Int) => .int .i64 r) (disk_Disk_Burst x0 x1 x2 x3) := by
  refine sound_of [(0, .pointer x0), (1, .int .i64 x1), (2, .int .i64 x2), (3, .int .u32 x3)] Go.Proofs.Try.func25 rfl rfl (Nat.le_of_ble_eq_true rfl) (args_of ⟨rfl, rfl, rfl, rfl, trivial⟩) (fun w0 w Q R a hret hE hR H => ?_)
  unfold disk_Disk_Burst at H
  refine w_seq (fun K hK_1 => ?_)
  refine t_region ?_
  refine t_val (v := .int .i64 0) rfl rfl hE rfl (r_assign hE rfl) (fun a hE => ?_)
  refine t_nil ?_
  refine hK_1 _ _ ?_
  refine w_seq (fun K hK_2 => ?_)
  refine w_seq (fun K hK_3 => ?_)
  refine t_region ?_
  refine t_val (v := .pointer x0) rfl rfl hE rfl (r_move hE rfl) (fun a hE => ?_)
  refine t_call hE hR cl43 rfl (S_disk_Disk_none x0) (M.unbind H) (fun x13_4 a w ea hR H => ?_)
  have hE := Env.put_some hE rfl ea; clear ea
  refine t_nil ?_
  refine hK_3 _ _ ?_
  refine w_cond x13_4 hE rfl (fun hb => ?_) (fun hb => ?_)
  · replace H := M.ite_t hb H
    refine w_seq (fun K hK_5 => ?_)
    refine t_region ?_
    refine t_val (v := .int .i64 2) rfl rfl hE rfl (r_assign hE rfl) (fun a hE => ?_)
    refine t_nil ?_
    refine hK_5 _ _ ?_
    refine w_ret ?_
    exact hret _ _ _ 2 _ hE hR (res_run hE rfl (RV.tmp rfl RV.nil)) rfl H
  · replace H := M.ite_f hb H
    refine w_skip ?_
    refine hK_2 _ _ ?_
    refine w_seq (fun K hK_6 => ?_)
    refine w_seq (fun K hK_7 => ?_)
    refine t_region ?_
    refine t_val (v := .pointer x0) rfl rfl hE rfl (r_move hE rfl) (fun a hE => ?_)
    refine t_val (v := .int .i64 x1) rfl rfl hE rfl (r_move hE rfl) (fun a hE => ?_)
    refine t_call hE hR cl40 rfl (S_disk_Disk_there x0 x1) (M.unbind H) (fun x16_8 a w ea hR H => ?_)
    have hE := Env.put_some hE rfl ea; clear ea
    refine t_val (v := .int .i64 x16_8) rfl rfl hE rfl (r_assign hE rfl) (fun a hE => ?_)
    refine t_nil ?_
    refine hK_7 _ _ ?_
    refine w_seq (fun K hK_9 => ?_)
    refine t_region ?_
    refine t_val (v := .int .i64 x16_8) rfl rfl hE rfl (r_move hE rfl) (fun a hE => ?_)
    refine t_val (v := .bool (x16_8 != 0)) rfl rfl hE rfl (r_bin hE rfl rfl g_int b_neq) (fun a hE => ?_)
    refine t_nil ?_
    refine hK_9 _ _ ?_
    refine w_cond (x16_8 != 0) hE rfl (fun hb => ?_) (fun hb => ?_)
    · replace H := M.ite_t hb H
      refine w_seq (fun K hK_10 => ?_)
      refine t_region ?_
      refine t_val (v := .int .i64 x16_8) rfl rfl hE rfl (r_move hE rfl) (fun a hE => ?_)
      refine t_val (v := .int .i64 x16_8) rfl rfl hE rfl (r_assign hE rfl) (fun a hE => ?_)
      refine t_nil ?_
      refine hK_10 _ _ ?_
      refine w_ret ?_
      exact hret _ _ _ x16_8 _ hE hR (res_run hE rfl (RV.tmp rfl RV.nil)) rfl H
    · replace H := M.ite_f hb H
      refine w_skip ?_
      refine hK_6 _ _ ?_
      refine w_seq (fun K hK_11 => ?_)
      refine w_seq (fun K hK_12 => ?_)
      refine t_region ?_
      refine t_val (v := .int .i64 x2) rfl rfl hE rfl (r_move hE rfl) (fun a hE => ?_)
      refine t_val (v := .bool (decide (x2 < 0))) rfl rfl hE rfl (r_bin hE rfl rfl g_int b_lss) (fun a hE => ?_)
      refine t_val (v := .bool (decide (x2 < 0))) rfl rfl hE rfl (r_move hE rfl) (fun a hE => ?_)
      refine t_grp (n := 57) (w0 := w0) 3 (fun x25_13 : Bool => [(0, .pointer x0), (1, .int .i64 x1), (2, .int .i64 x2), (3, .int .u32 x3), (25, .bool x25_13)]) (M.unbind H) (fun Kr hKr H => ?_) ?_
      · rcases bool_em (decide (x2 < 0)) with hb | hb
        · replace H := M.ite_t hb H
          have hE := hE.reb 22 (decide (x2 < 0)) true hb rfl
          refine t_off rfl hE rfl rfl rfl (fun a ea => ?_)
          have hE := Env.put_some hE rfl ea; clear ea
          refine t_off rfl hE rfl rfl rfl (fun a ea => ?_)
          have hE := Env.put_some hE rfl ea; clear ea
          refine t_val rfl rfl hE rfl (r_pick_t hE rfl rfl) (fun a hE => ?_)
          refine t_nil ?_
          exact hKr _ _ _ (hE.cut (.cons rfl (.cons rfl (.cons rfl (.cons rfl (.cons rfl Subs.nil)))))) hR H
        · replace H := M.ite_f hb H
          have hE := hE.reb 22 (decide (x2 < 0)) false hb rfl
          refine t_on rfl hE rfl rfl rfl ?_
          refine t_val (v := .int .i64 x2) rfl rfl hE rfl (r_move hE rfl) (fun a hE => ?_)
          refine t_on rfl hE rfl rfl rfl ?_
          refine t_val (v := .bool (decide (x2 ≥ 1024))) rfl rfl hE rfl (r_bin hE rfl rfl g_int b_geq) (fun a hE => ?_)
          refine t_val rfl rfl hE rfl (r_pick_f hE rfl rfl) (fun a hE => ?_)
          refine t_nil ?_
          exact hKr _ _ _ (hE.cut (.cons rfl (.cons rfl (.cons rfl (.cons rfl (.cons rfl Subs.nil)))))) hR H
      · intro x25_13 a w hE hR H
        refine t_nil ?_
        refine hK_12 _ _ ?_
        refine w_cond x25_13 hE rfl (fun hb => ?_) (fun hb => ?_)
        · replace H := M.ite_t hb H
          refine w_seq (fun K hK_14 => ?_)
          refine t_region ?_
          refine t_val (v := .int .i64 1) rfl rfl hE rfl (r_assign hE rfl) (fun a hE => ?_)
          refine t_nil ?_
          refine hK_14 _ _ ?_
          refine w_ret ?_
          exact hret _ _ _ 1 _ hE hR (res_run hE rfl (RV.tmp rfl RV.nil)) rfl H
        · replace H := M.ite_f hb H
          refine w_skip ?_
          refine hK_11 _ _ ?_
          refine w_seq (fun K hK_15 => ?_)
          refine w_seq (fun K hK_16 => ?_)
          refine t_region ?_
          refine t_val (v := .int .i64 x2) rfl rfl hE rfl (r_move hE rfl) (fun a hE => ?_)
          refine t_val (v := .int .i64 (IntKind.wrap .i64 (1024 - x2))) rfl rfl hE rfl (r_bin hE rfl rfl g_int b_sub) (fun a hE => ?_)
          refine t_val (v := .int .i64 (iMin 32 (IntKind.wrap .i64 (1024 - x2)))) rfl rfl hE rfl (r_min hE rfl rfl) (fun a hE => ?_)
          refine t_val (v := .int .i64 0) rfl rfl hE rfl (r_move hE rfl) (fun a hE => ?_)
          refine t_nil ?_
          refine hK_16 _ _ ?_
          refine w_block ?_
          refine l_loop (fun (s : Int) => [(0, .pointer x0), (1, .int .i64 x1), (2, .int .i64 x2), (3, .int .u32 x3), (28, .int .i64 (iMin 32 (IntKind.wrap .i64 (1024 - x2)))), (29, .int .i64 s)]) H (hE.cut (.cons rfl (.cons rfl (.cons rfl (.cons rfl (.cons rfl (.cons rfl Subs.nil))))))) hR (fun Y self1 hY_23 x29_17 a w hE hR H => ?_)
          replace hE : Env 57 a [(0, .pointer x0), (1, .int .i64 x1), (2, .int .i64 x2), (3, .int .u32 x3), (28, .int .i64 (iMin 32 (IntKind.wrap .i64 (1024 - x2)))), (29, .int .i64 x29_17)] := hE
          replace H : (disk_Disk_Burst_l1 x0 x1 x2 x3 (iMin 32 (IntKind.wrap .i64 (1024 - x2))) self1 x29_17).wp w.heap Q := H
          unfold disk_Disk_Burst_l1 at H
          refine w_seq (fun K hK_24 => ?_)
          refine t_region ?_
          refine t_val (v := .bool (decide (x29_17 < (iMin 32 (IntKind.wrap .i64 (1024 - x2)))))) rfl rfl hE rfl (r_bin hE rfl rfl g_int b_lss) (fun a hE => ?_)
          refine t_nil ?_
          refine hK_24 _ _ ?_
          refine w_seq (fun K hK_25 => ?_)
          refine w_cond (decide (x29_17 < (iMin 32 (IntKind.wrap .i64 (1024 - x2))))) hE rfl (fun hb => ?_) (fun hb => ?_)
          · replace H := M.ite_t hb H
            refine w_skip ?_
            refine hK_25 _ _ ?_
            refine w_seq_join (fun a w => Env 57 a [(0, .pointer x0), (1, .int .i64 x1), (2, .int .i64 x2), (3, .int .u32 x3), (28, .int .i64 (iMin 32 (IntKind.wrap .i64 (1024 - x2)))), (29, .int .i64 x29_17)] ∧ Rest w0 w ∧ (disk_Disk_Burst_j1 self1 x29_17).wp w.heap Q) ?_ ?_
            · rintro a w ⟨hE, hR, H⟩
              unfold disk_Disk_Burst_j1 at H
              refine t_region ?_
              refine t_val (v := .int .i64 (IntKind.wrap .i64 (x29_17 + 1))) rfl rfl hE rfl (r_bin hE rfl rfl g_int b_add) (fun a hE => ?_)
              refine t_val (v := .int .i64 (IntKind.wrap .i64 (x29_17 + 1))) rfl rfl hE rfl (r_move hE rfl) (fun a hE => ?_)
              refine t_nil ?_
              exact hY_23 (IntKind.wrap .i64 (x29_17 + 1)) _ _ (hE.cut (.cons rfl (.cons rfl (.cons rfl (.cons rfl (.cons rfl (.cons rfl Subs.nil))))))) hR H
            · skip
              refine w_block ?_
              refine w_seq (fun K hK_32 => ?_)
              refine t_region ?_
              refine t_val (v := .int .i64 x29_17) rfl rfl hE rfl (r_move hE rfl) (fun a hE => ?_)
              refine t_val (v := .int .i64 x29_17) rfl rfl hE rfl (r_assign hE rfl) (fun a hE => ?_)
              refine t_nil ?_
              refine hK_32 _ _ ?_
              refine w_seq (fun K hK_33 => ?_)
              refine t_region ?_
              refine t_val (v := .int .u32 x3) rfl rfl hE rfl (r_move hE rfl) (fun a hE => ?_)
              refine t_val (v := .int .i64 x29_17) rfl rfl hE rfl (r_move hE rfl) (fun a hE => ?_)
              obtain ⟨x34_34, qx34_34, H⟩ := H
              refine t_val (v := .int .u32 x34_34) rfl rfl hE rfl (r_bin hE rfl rfl g_int (b_shr qx34_34)) (fun a hE => ?_)
              refine t_val (v := .int .u32 (iAnd .u32 x34_34 1)) rfl rfl hE rfl (r_bin hE rfl rfl g_int b_and) (fun a hE => ?_)
              refine t_val (v := .bool ((iAnd .u32 x34_34 1) == 1)) rfl rfl hE rfl (r_bin hE rfl rfl g_int b_eql) (fun a hE => ?_)
              refine t_nil ?_
              refine hK_33 _ _ ?_
              refine w_cond ((iAnd .u32 x34_34 1) == 1) hE rfl (fun hb => ?_) (fun hb => ?_)
              · replace H := M.ite_t hb H
                refine w_seq (fun K hK_35 => ?_)
                refine t_region ?_
                refine t_val (v := .int .i64 x2) rfl rfl hE rfl (r_move hE rfl) (fun a hE => ?_)
                refine t_val (v := .int .i64 x29_17) rfl rfl hE rfl (r_move hE rfl) (fun a hE => ?_)
                refine t_val (v := .int .i64 (IntKind.wrap .i64 (x2 + x29_17))) rfl rfl hE rfl (r_bin hE rfl rfl g_int b_add) (fun a hE => ?_)
                refine t_val (v := .int .i64 (IntKind.wrap .i64 (x2 + x29_17))) rfl rfl hE rfl (r_assign hE rfl) (fun a hE => ?_)
                refine t_nil ?_
                refine hK_35 _ _ ?_
                obtain ⟨x41_36, qx41_36, H⟩ := H
                obtain ⟨x52_37, qx52_37, H⟩ := H
                obtain ⟨x43_38, qx43_38, H⟩ := H
                obtain ⟨x47_39, qx47_39, H⟩ := H
                obtain ⟨x48_40, qx48_40, H⟩ := H
                obtain ⟨x54_41, qx54_41, H⟩ := H
                obtain ⟨x49_42, qx49_42, H⟩ := H
                obtain ⟨x55_43, qx55_43, H⟩ := H
                have hT := tab_of tb25_13 rfl rfl
                refine d_start (fun w : World => (fun h : Heap => (hcell h ((x41_36).add 0) = some ((x43_38 : Sl).v)) ∧ (hcell h x48_40 = some (.int .u8 x49_42))) w.heap) [13, 15, 16] #[false, false, false, false, false, false, false, false, false, false, false, false, false, false, false, false, false] mo hR rfl rfl (fun w' e => by rw [e]; exact ⟨qx43_38, qx49_42⟩) (fun w hh hR hs => ?_)
                replace H := M.at hh H; clear hh
                refine d_pureg (i := 0) (v := .pointer x0) #[true, false, false, false, false, false, false, false, false, false, false, false, false, false, false, false, false] rfl rfl hT (by kernel_rfl) hE rfl (wanted_none rfl) (fun w => r_move hE rfl) (fun a hE => ?_)
                refine d_pureg (i := 1) (v := .pointer (some x41_36)) #[true, true, false, false, false, false, false, false, false, false, false, false, false, false, false, false, false] rfl rfl hT (by kernel_rfl) hE rfl (wanted_none rfl) (fun w => r_nilCheck hE (hx_eq rfl (congrArg Value.pointer qx41_36))) (fun a hE => ?_)
                refine d_pureg (i := 2) (v := .pointer (some ((x41_36).add 0))) #[true, true, true, false, false, false, false, false, false, false, false, false, false, false, false, false, false] rfl rfl hT (by kernel_rfl) hE rfl (wanted_none rfl) (fun w => r_fieldAddr hE rfl fd78_0) (fun a hE => ?_)
                refine d_pureg (i := 4) (v := .int .i64 x1) #[true, true, true, false, true, false, false, false, false, false, false, false, false, false, false, false, false] rfl rfl hT (by kernel_rfl) hE rfl (wanted_none rfl) (fun w => r_move hE rfl) (fun a hE => ?_)
                refine d_pureg (i := 5) (v := .int .i64 (IntKind.wrap .i64 (x2 + x29_17))) #[true, true, true, false, true, true, false, false, false, false, false, false, false, false, false, false, false] rfl rfl hT (by kernel_rfl) hE rfl (wanted_none rfl) (fun w => r_move hE rfl) (fun a hE => ?_)
                refine d_pureg (i := 6) (v := .int .i64 (IntKind.wrap .i64 (Int.tdiv (IntKind.wrap .i64 (x2 + x29_17)) 8))) #[true, true, true, false, true, true, true, false, false, false, false, false, false, false, false, false, false] rfl rfl hT (by kernel_rfl) hE rfl (wanted_none rfl) (fun w => r_bin hE rfl rfl g_int (b_quo ⟨by decide, rfl⟩)) (fun a hE => ?_)
                refine d_pureg (i := 10) (v := .int .i64 (IntKind.wrap .i64 (x2 + x29_17))) #[true, true, true, false, true, true, true, false, false, false, true, false, false, false, false, false, false] rfl rfl hT (by kernel_rfl) hE rfl (wanted_none rfl) (fun w => r_move hE rfl) (fun a hE => ?_)
                refine d_pureg (i := 11) (v := .int .i64 (Int.tmod (IntKind.wrap .i64 (x2 + x29_17)) 8)) #[true, true, true, false, true, true, true, false, false, false, true, true, false, false, false, false, false] rfl rfl hT (by kernel_rfl) hE rfl (wanted_none rfl) (fun w => r_bin hE rfl rfl g_int (b_rem ⟨by decide, rfl⟩)) (fun a hE => ?_)
                refine d_pureg (i := 12) (v := .int .u8 x52_37) #[true, true, true, false, true, true, true, false, false, false, true, true, true, false, false, false, false] rfl rfl hT (by kernel_rfl) hE rfl (wanted_none rfl) (fun w => r_bin hE rfl rfl g_int (b_shl qx52_37)) (fun a hE => ?_)
                refine d_read (i := 3) (v := (x43_38 : Sl).v) #[true, true, true, true, true, true, true, false, false, false, true, true, true, false, false, false, false] rfl rfl hT (by kernel_rfl) hE rfl (wanted_none rfl) hs (fun w s => r_load hE rfl sc74 s.1) (fun a hE => ?_)
                refine d_pureg (i := 7) (v := .pointer (some x47_39)) #[true, true, true, true, true, true, true, true, false, false, true, true, true, false, false, false, false] rfl rfl hT (by kernel_rfl) hE rfl (wanted_none rfl) (fun w => r_indexAddrL hE rfl rfl un74 sz26 qx47_39) (fun a hE => ?_)
                refine d_pureg (i := 8) (v := .pointer (some x48_40)) #[true, true, true, true, true, true, true, true, true, false, true, true, true, false, false, false, false] rfl rfl hT (by kernel_rfl) hE rfl (wanted_none rfl) (fun w => r_indexAddrA hE rfl rfl un26 sz5 qx48_40) (fun a hE => ?_)
                refine d_pureg (i := 14) (v := .pointer (some x54_41)) #[true, true, true, true, true, true, true, true, true, false, true, true, true, false, true, false, false] rfl rfl hT (by kernel_rfl) hE rfl (wanted_none rfl) (fun w => r_indexAddrL hE rfl rfl un74 sz26 qx54_41) (fun a hE => ?_)
                refine d_read (i := 9) (v := .int .u8 x49_42) #[true, true, true, true, true, true, true, true, true, true, true, true, true, false, true, false, false] rfl rfl hT (by kernel_rfl) hE rfl (wanted_none rfl) hs (fun w s => r_load hE rfl sc5 s.2) (fun a hE => ?_)
                refine d_pureg (i := 13) (v := .int .u8 (iXor .u8 x49_42 x52_37)) #[true, true, true, true, true, true, true, true, true, true, true, true, true, true, true, false, false] rfl rfl hT (by kernel_rfl) hE rfl (wanted_none rfl) (fun w => r_bin hE rfl rfl g_int b_xor) (fun a hE => ?_)
                refine d_pureg (i := 15) (v := .pointer (some x55_43)) #[true, true, true, true, true, true, true, true, true, true, true, true, true, true, true, true, false] rfl rfl hT (by kernel_rfl) hE rfl (wanted_none rfl) (fun w => r_indexAddrA hE rfl rfl un26 sz5 qx55_43) (fun a hE => ?_)
                obtain ⟨u_44, qu_44, H⟩ := H
                refine d_stlh (i := 16) #[true, true, true, true, true, true, true, true, true, true, true, true, true, true, true, true, true] rfl rfl hT (by kernel_rfl) rfl hE hR (wanted_none rfl) (r_store hE rfl rfl sz5 qu_44)  (fun a w hE hR hh => ?_)
                replace H := M.at hh H; clear hh
                refine d_done hT (by kernel_rfl) ?_
                exact ⟨hE.cut (.cons rfl (.cons rfl (.cons rfl (.cons rfl (.cons rfl (.cons rfl Subs.nil)))))), hR, H⟩
              · replace H := M.ite_f hb H
                refine w_skip ?_
                exact ⟨hE.cut (.cons rfl (.cons rfl (.cons rfl (.cons rfl (.cons rfl (.cons rfl Subs.nil)))))), hR, H⟩
          · replace H := M.ite_f hb H
            refine w_exit ?_
            refine Xu.same ?_
            refine hK_15 _ _ ?_
            refine w_seq (fun K hK_45 => ?_)
            refine t_region ?_
            refine t_val (v := .int .i64 0) rfl rfl hE rfl (r_assign hE rfl) (fun a hE => ?_)
            refine t_nil ?_
            refine hK_45 _ _ ?_
            refine w_ret ?_
            exact hret _ _ _ 0 _ hE hR (res_run hE rfl (RV.tmp rfl RV.nil)) rfl H

/-- (*ramble/disk.Disk).Read -/
def disk_Disk_Read (x0 : Option Addr) (x1 : Int) : M (Array Value × Int) := do
  let x4_2 ← mkB ty_api_Sector (Array.replicate 128 (.int .u8 0) : Array Value)
  let x11_5 ← disk_Disk_can x0
  M.ite (x11_5 != 0) (do
    M.need ((Array.replicate 128 (.int .u8 0) : Array Value).size = 128)
    stG x4_2 (Array.replicate 128 (.int .u8 0) : Array Value)
    let r4_9 ← ldG 128 x4_2
    M.pure (r4_9, x11_5)
    ) (do
    let x18_12 ← disk_Disk_there x0 x1
    M.ite (x18_12 != 0) (do
      M.need ((Array.replicate 128 (.int .u8 0) : Array Value).size = 128)
      stG x4_2 (Array.replicate 128 (.int .u8 0) : Array Value)
      let r4_16 ← ldG 128 x4_2
      M.pure (r4_16, x18_12)
      ) (do
      let x25_19 ← nilP x0
      let x27_20 ← ldMp ((x25_19).add 2)
      let x29_21 ← lkM (fun v : Array Value => .agg v) (.int .i64) (.int .i64 x1) (.agg (Array.replicate 128 (.int .u8 0) : Array Value)) x27_20
      let x8_22 ← mkB ty_api_Sector (Array.replicate 128 (.int .u8 0) : Array Value)
      M.need (x29_21.1.size = 128)
      stG x8_22 x29_21.1
      M.ite x29_21.2 (do
        let x33_26 ← ldG 128 x8_22
        M.need (x33_26.size = 128)
        stG x4_2 x33_26
        let r4_28 ← ldG 128 x4_2
        M.pure (r4_28, 0)
        ) (do
        let x35_31 ← nilP x0
        let x37_32 ← ldL ((x35_31).add 1)
        let x39_33 ← ixL x37_32 x1 1
        let x40_34 ← ldB x39_33
        M.ite x40_34 (do
          M.need ((Array.replicate 128 (.int .u8 0) : Array Value).size = 128)
          stG x4_2 (Array.replicate 128 (.int .u8 0) : Array Value)
          let r4_37 ← ldG 128 x4_2
          M.pure (r4_37, 40)
          ) (do
          let x43_39 ← nilP x0
          let x45_40 ← ldL ((x43_39).add 0)
          let x47_41 ← ixL x45_40 x1 128
          let x48_42 ← ldG 128 x47_41
          M.need (x48_42.size = 128)
          stG x4_2 x48_42
          let r4_44 ← ldG 128 x4_2
          M.pure (r4_44, 0)
          )
        )
      )
    )
theorem S_disk_Disk_Read (x0 : Option Addr) (x1 : Int) : Sound Go.Proofs.Try.prog 26 #[.pointer x0, .int .i64 x1] (fun (r : Array Value × Int) => .tuple #[.agg r.1, .int .i64 r.2]) (disk_Disk_Read x0 x1) := by
  refine sound_of [(0, .pointer x0), (1, .int .i64 x1)] Go.Proofs.Try.func26 rfl rfl (Nat.le_of_ble_eq_true rfl) (args_of ⟨rfl, rfl, trivial⟩) (fun w0 w Q R a hret hE hR H => ?_)
  unfold disk_Disk_Read at H
  refine w_seq (fun K hK_1 => ?_)
  refine t_region ?_
  obtain ⟨x4_2, qx4_2, H⟩ := H
  refine t_valh (v := .pointer (some x4_2)) rfl rfl hE rfl hR (r_alloc zr26 qx4_2) (fun a w hE hR hh => ?_)
  replace H := M.at hh H; clear hh
  refine t_val (v := .int .i64 0) rfl rfl hE rfl (r_assign hE rfl) (fun a hE => ?_)
  refine t_nil ?_
  refine hK_1 _ _ ?_
  refine w_seq (fun K hK_3 => ?_)
  refine w_seq (fun K hK_4 => ?_)
  refine t_region ?_
  refine t_val (v := .pointer x0) rfl rfl hE rfl (r_move hE rfl) (fun a hE => ?_)
  refine t_call hE hR cl39 rfl (S_disk_Disk_can x0) (M.unbind H) (fun x11_5 a w ea hR H => ?_)
  have hE := Env.put_some hE rfl ea; clear ea
  refine t_val (v := .int .i64 x11_5) rfl rfl hE rfl (r_assign hE rfl) (fun a hE => ?_)
  refine t_nil ?_
  refine hK_4 _ _ ?_
  refine w_seq (fun K hK_6 => ?_)
  refine t_region ?_
  refine t_val (v := .int .i64 x11_5) rfl rfl hE rfl (r_move hE rfl) (fun a hE => ?_)
  refine t_val (v := .bool (x11_5 != 0)) rfl rfl hE rfl (r_bin hE rfl rfl g_int b_neq) (fun a hE => ?_)
  refine t_nil ?_
  refine hK_6 _ _ ?_
  refine w_cond (x11_5 != 0) hE rfl (fun hb => ?_) (fun hb => ?_)
  · replace H := M.ite_t hb H
    refine w_seq (fun K hK_7 => ?_)
    refine t_region ?_
    refine t_val (v := .agg (Array.replicate 128 (.int .u8 0) : Array Value)) rfl rfl hE rfl (r_build0 bd26) (fun a hE => ?_)
    refine t_val (v := .int .i64 x11_5) rfl rfl hE rfl (r_move hE rfl) (fun a hE => ?_)
    obtain ⟨qz, H⟩ := H
    obtain ⟨u_8, qu_8, H⟩ := H
    refine t_sth rfl rfl hE hR (r_storeG hE rfl rfl sz26 qz qu_8) (fun a w hE hR hh => ?_)
    replace H := M.at hh H; clear hh
    refine t_val (v := .int .i64 x11_5) rfl rfl hE rfl (r_assign hE rfl) (fun a hE => ?_)
    refine t_nil ?_
    refine hK_7 _ _ ?_
    refine w_ret ?_
    obtain ⟨r4_9, qr4_9, H⟩ := H
    exact hret _ _ _ (r4_9, x11_5) _ hE hR (res_run hE rfl (RV.cellG rfl ag26 qr4_9 (RV.tmp rfl RV.nil))) rfl H
  · replace H := M.ite_f hb H
    refine w_skip ?_
    refine hK_3 _ _ ?_
    refine w_seq (fun K hK_10 => ?_)
    refine w_seq (fun K hK_11 => ?_)
    refine t_region ?_
    refine t_val (v := .pointer x0) rfl rfl hE rfl (r_move hE rfl) (fun a hE => ?_)
    refine t_val (v := .int .i64 x1) rfl rfl hE rfl (r_move hE rfl) (fun a hE => ?_)
    refine t_call hE hR cl40 rfl (S_disk_Disk_there x0 x1) (M.unbind H) (fun x18_12 a w ea hR H => ?_)
    have hE := Env.put_some hE rfl ea; clear ea
    refine t_val (v := .int .i64 x18_12) rfl rfl hE rfl (r_assign hE rfl) (fun a hE => ?_)
    refine t_nil ?_
    refine hK_11 _ _ ?_
    refine w_seq (fun K hK_13 => ?_)
    refine t_region ?_
    refine t_val (v := .int .i64 x18_12) rfl rfl hE rfl (r_move hE rfl) (fun a hE => ?_)
    refine t_val (v := .bool (x18_12 != 0)) rfl rfl hE rfl (r_bin hE rfl rfl g_int b_neq) (fun a hE => ?_)
    refine t_nil ?_
    refine hK_13 _ _ ?_
    refine w_cond (x18_12 != 0) hE rfl (fun hb => ?_) (fun hb => ?_)
    · replace H := M.ite_t hb H
      refine w_seq (fun K hK_14 => ?_)
      refine t_region ?_
      refine t_val (v := .agg (Array.replicate 128 (.int .u8 0) : Array Value)) rfl rfl hE rfl (r_build0 bd26) (fun a hE => ?_)
      refine t_val (v := .int .i64 x18_12) rfl rfl hE rfl (r_move hE rfl) (fun a hE => ?_)
      obtain ⟨qz, H⟩ := H
      obtain ⟨u_15, qu_15, H⟩ := H
      refine t_sth rfl rfl hE hR (r_storeG hE rfl rfl sz26 qz qu_15) (fun a w hE hR hh => ?_)
      replace H := M.at hh H; clear hh
      refine t_val (v := .int .i64 x18_12) rfl rfl hE rfl (r_assign hE rfl) (fun a hE => ?_)
      refine t_nil ?_
      refine hK_14 _ _ ?_
      refine w_ret ?_
      obtain ⟨r4_16, qr4_16, H⟩ := H
      exact hret _ _ _ (r4_16, x18_12) _ hE hR (res_run hE rfl (RV.cellG rfl ag26 qr4_16 (RV.tmp rfl RV.nil))) rfl H
    · replace H := M.ite_f hb H
      refine w_skip ?_
      refine hK_10 _ _ ?_
      refine w_seq (fun K hK_17 => ?_)
      refine w_seq (fun K hK_18 => ?_)
      refine t_region ?_
      refine t_val (v := .pointer x0) rfl rfl hE rfl (r_move hE rfl) (fun a hE => ?_)
      obtain ⟨x25_19, qx25_19, H⟩ := H
      refine t_val (v := .pointer (some x25_19)) rfl rfl hE rfl (r_nilCheck hE (hx_eq rfl (congrArg Value.pointer qx25_19))) (fun a hE => ?_)
      refine t_val (v := .pointer (some ((x25_19).add 2))) rfl rfl hE rfl (r_fieldAddr hE rfl fd78_2) (fun a hE => ?_)
      obtain ⟨x27_20, qx27_20, H⟩ := H
      refine t_val (v := .map x27_20) rfl rfl hE rfl (r_load hE rfl sc76 qx27_20) (fun a hE => ?_)
      refine t_val (v := .int .i64 x1) rfl rfl hE rfl (r_move hE rfl) (fun a hE => ?_)
      obtain ⟨x29_21, qx29_21, H⟩ := H
      refine t_val (v := .tuple #[.agg x29_21.1, .bool x29_21.2]) rfl rfl hE rfl (r_lookup2 (dec := (fun v : Array Value => .agg v)) hE rfl rfl un76 un3 rfl zr26 qx29_21) (fun a hE => ?_)
      refine t_val (v := .tuple #[.agg x29_21.1, .bool x29_21.2]) rfl rfl hE rfl (r_move hE rfl) (fun a hE => ?_)
      refine t_val (v := .agg x29_21.1) rfl rfl hE rfl (r_extract hE rfl rfl) (fun a hE => ?_)
      refine t_val (v := .bool x29_21.2) rfl rfl hE rfl (r_extract hE rfl rfl) (fun a hE => ?_)
      obtain ⟨x8_22, qx8_22, H⟩ := H
      refine t_valh (v := .pointer (some x8_22)) rfl rfl hE rfl hR (r_alloc zr26 qx8_22) (fun a w hE hR hh => ?_)
      replace H := M.at hh H; clear hh
      obtain ⟨qz, H⟩ := H
      obtain ⟨u_23, qu_23, H⟩ := H
      refine t_sth rfl rfl hE hR (r_storeG hE rfl rfl sz26 qz qu_23) (fun a w hE hR hh => ?_)
      replace H := M.at hh H; clear hh
      refine t_val (v := .bool x29_21.2) rfl rfl hE rfl (r_assign hE rfl) (fun a hE => ?_)
      refine t_nil ?_
      refine hK_18 _ _ ?_
      refine w_seq (fun K hK_24 => ?_)
      refine t_region ?_
      refine t_val (v := .bool x29_21.2) rfl rfl hE rfl (r_move hE rfl) (fun a hE => ?_)
      refine t_nil ?_
      refine hK_24 _ _ ?_
      refine w_cond x29_21.2 hE rfl (fun hb => ?_) (fun hb => ?_)
      · replace H := M.ite_t hb H
        refine w_seq (fun K hK_25 => ?_)
        refine t_region ?_
        obtain ⟨x33_26, qx33_26, H⟩ := H
        refine t_val (v := .agg x33_26) rfl rfl hE rfl (r_loadG hE rfl ag26 qx33_26) (fun a hE => ?_)
        obtain ⟨qz, H⟩ := H
        obtain ⟨u_27, qu_27, H⟩ := H
        refine t_sth rfl rfl hE hR (r_storeG hE rfl rfl sz26 qz qu_27) (fun a w hE hR hh => ?_)
        replace H := M.at hh H; clear hh
        refine t_val (v := .int .i64 0) rfl rfl hE rfl (r_assign hE rfl) (fun a hE => ?_)
        refine t_nil ?_
        refine hK_25 _ _ ?_
        refine w_ret ?_
        obtain ⟨r4_28, qr4_28, H⟩ := H
        exact hret _ _ _ (r4_28, 0) _ hE hR (res_run hE rfl (RV.cellG rfl ag26 qr4_28 (RV.tmp rfl RV.nil))) rfl H
      · replace H := M.ite_f hb H
        refine w_skip ?_
        refine hK_17 _ _ ?_
        refine w_seq (fun K hK_29 => ?_)
        refine w_seq (fun K hK_30 => ?_)
        refine t_region ?_
        refine t_val (v := .pointer x0) rfl rfl hE rfl (r_move hE rfl) (fun a hE => ?_)
        obtain ⟨x35_31, qx35_31, H⟩ := H
        refine t_val (v := .pointer (some x35_31)) rfl rfl hE rfl (r_nilCheck hE (hx_eq rfl (congrArg Value.pointer qx35_31))) (fun a hE => ?_)
        refine t_val (v := .pointer (some ((x35_31).add 1))) rfl rfl hE rfl (r_fieldAddr hE rfl fd78_1) (fun a hE => ?_)
        obtain ⟨x37_32, qx37_32, H⟩ := H
        refine t_val (v := (x37_32 : Sl).v) rfl rfl hE rfl (r_load hE rfl sc75 qx37_32) (fun a hE => ?_)
        refine t_val (v := .int .i64 x1) rfl rfl hE rfl (r_move hE rfl) (fun a hE => ?_)
        obtain ⟨x39_33, qx39_33, H⟩ := H
        refine t_val (v := .pointer (some x39_33)) rfl rfl hE rfl (r_indexAddrL hE rfl rfl un75 sz4 qx39_33) (fun a hE => ?_)
        obtain ⟨x40_34, qx40_34, H⟩ := H
        refine t_val (v := .bool x40_34) rfl rfl hE rfl (r_load hE rfl sc4 qx40_34) (fun a hE => ?_)
        refine t_nil ?_
        refine hK_30 _ _ ?_
        refine w_cond x40_34 hE rfl (fun hb => ?_) (fun hb => ?_)
        · replace H := M.ite_t hb H
          refine w_seq (fun K hK_35 => ?_)
          refine t_region ?_
          refine t_val (v := .agg (Array.replicate 128 (.int .u8 0) : Array Value)) rfl rfl hE rfl (r_build0 bd26) (fun a hE => ?_)
          obtain ⟨qz, H⟩ := H
          obtain ⟨u_36, qu_36, H⟩ := H
          refine t_sth rfl rfl hE hR (r_storeG hE rfl rfl sz26 qz qu_36) (fun a w hE hR hh => ?_)
          replace H := M.at hh H; clear hh
          refine t_val (v := .int .i64 40) rfl rfl hE rfl (r_assign hE rfl) (fun a hE => ?_)
          refine t_nil ?_
          refine hK_35 _ _ ?_
          refine w_ret ?_
          obtain ⟨r4_37, qr4_37, H⟩ := H
          exact hret _ _ _ (r4_37, 40) _ hE hR (res_run hE rfl (RV.cellG rfl ag26 qr4_37 (RV.tmp rfl RV.nil))) rfl H
        · replace H := M.ite_f hb H
          refine w_skip ?_
          refine hK_29 _ _ ?_
          refine w_seq (fun K hK_38 => ?_)
          refine t_region ?_
          refine t_val (v := .pointer x0) rfl rfl hE rfl (r_move hE rfl) (fun a hE => ?_)
          obtain ⟨x43_39, qx43_39, H⟩ := H
          refine t_val (v := .pointer (some x43_39)) rfl rfl hE rfl (r_nilCheck hE (hx_eq rfl (congrArg Value.pointer qx43_39))) (fun a hE => ?_)
          refine t_val (v := .pointer (some ((x43_39).add 0))) rfl rfl hE rfl (r_fieldAddr hE rfl fd78_0) (fun a hE => ?_)
          obtain ⟨x45_40, qx45_40, H⟩ := H
          refine t_val (v := (x45_40 : Sl).v) rfl rfl hE rfl (r_load hE rfl sc74 qx45_40) (fun a hE => ?_)
          refine t_val (v := .int .i64 x1) rfl rfl hE rfl (r_move hE rfl) (fun a hE => ?_)
          obtain ⟨x47_41, qx47_41, H⟩ := H
          refine t_val (v := .pointer (some x47_41)) rfl rfl hE rfl (r_indexAddrL hE rfl rfl un74 sz26 qx47_41) (fun a hE => ?_)
          obtain ⟨x48_42, qx48_42, H⟩ := H
          refine t_val (v := .agg x48_42) rfl rfl hE rfl (r_loadG hE rfl ag26 qx48_42) (fun a hE => ?_)
          obtain ⟨qz, H⟩ := H
          obtain ⟨u_43, qu_43, H⟩ := H
          refine t_sth rfl rfl hE hR (r_storeG hE rfl rfl sz26 qz qu_43) (fun a w hE hR hh => ?_)
          replace H := M.at hh H; clear hh
          refine t_val (v := .int .i64 0) rfl rfl hE rfl (r_assign hE rfl) (fun a hE => ?_)
          refine t_nil ?_
          refine hK_38 _ _ ?_
          refine w_ret ?_
          obtain ⟨r4_44, qr4_44, H⟩ := H
          exact hret _ _ _ (r4_44, 0) _ hE hR (res_run hE rfl (RV.cellG rfl ag26 qr4_44 (RV.tmp rfl RV.nil))) rfl H

end Gx
