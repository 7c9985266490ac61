/- Printed by program: Go functions as Lean programs, each tied to its code. No condition. -/
import Derived.Test.YthelieedlghccaaDoorP0
import Derived.Test.YthelieedlghccaaDoorP1
import Derived.Test.YthelieedlghccaaDoorP2
import Derived.Test.YthelieedlghccaaDoorP3
import Derived.Test.YthelieedlghccaaDoorP4
set_option linter.unusedVariables false
set_option linter.unusedSimpArgs false
namespace Gx
open Go
set_option linter.unusedVariables false
set_option maxRecDepth 100000
/-- (*strings.Builder).grow -/
noncomputable def ro98_0 : Array Oper := opsOf Go.Proofs.Tryd.f98 0
def tE98_0 : List (List Nat) := [[], [0], [1], [2], [3], [4], [], [5, 6], [7], [], [9], [10], [11], [12], [8, 13], [14, 8, 0, 1, 2, 3, 4, 5, 6, 7, 8, 9, 10, 11, 12, 13, 14]]
def tC98_0 : List (List Nat) := [[], [0], [1], [2], [3], [4], [], [5, 6], [7], [], [9], [10], [11], [12], [8, 13], [14]]
def tW98_0 : List (List Nat) := [[], [0], [0, 1], [0, 1, 2], [0, 1, 2, 3], [0, 1, 2, 3, 4], [], [0, 1, 2, 3, 4, 5, 6], [0, 1, 2, 3, 4, 5, 6, 7], [], [9], [9, 10], [9, 10, 11], [9, 10, 11, 12], [0, 1, 2, 3, 4, 5, 6, 7, 8, 9, 10, 11, 12, 13], [0, 1, 2, 3, 4, 5, 6, 7, 8, 9, 10, 11, 12, 13, 14]]
theorem tb98_0 : tabAt Go.Proofs.Tryd.f98 0 tE98_0 tC98_0 tW98_0 = true := by kernel_rfl
theorem tb98_0m : tabMB 16 tE98_0 tC98_0 tW98_0 [0, 1, 2, 4, 8, 16, 0, 96, 128, 0, 512, 1024, 2048, 4096, 8448, 32767] [0, 1, 2, 4, 8, 16, 0, 96, 128, 0, 512, 1024, 2048, 4096, 8448, 16384] [0, 1, 3, 7, 15, 31, 0, 127, 255, 0, 512, 1536, 3584, 7680, 16383, 32767] = true := by kernel_rfl
def strings_Builder_grow (x0 : Option Addr) (x1 : Int) : M (Unit) := do
  let x6_2 ← nilP x0
  let x15_3 ← nilP x0
  let x8_4 ← ldL ((x6_2).add 1)
  let x17_5 ← ldL ((x15_3).add 1)
  let x13_6 ← mnz ty_uint8 (IntKind.wrap .i64 ((IntKind.wrap .i64 (2 * (x8_4.cap : Int))) + x1))
  chk (fun h : Heap => (hcell h ((x6_2).add 1) = some ((x8_4 : Sl).v)) ∧ (hcell h ((x15_3).add 1) = some ((x17_5 : Sl).v)))
  let x19_7 ← slL x13_6 0 (x17_5.len : Int) 1
  let x22_9 ← nilP x0
  let x24_10 ← ldL ((x22_9).add 1)
  let x25_11 ← cpL 1 x19_7 x24_10
  let x28_12 ← nilP x0
  stV ((x28_12).add 1) ((x19_7 : Sl).v)
  M.pure ()
theorem S_strings_Builder_grow (x0 : Option Addr) (x1 : Int) : Sound Go.Proofs.Tryd.prog 98 #[.pointer x0, .int .i64 x1] (fun (r : Unit) => .tuple #[]) (strings_Builder_grow x0 x1) := by
  refine sound_of [(0, .pointer x0), (1, .int .i64 x1)] Go.Proofs.Tryd.func98 rfl rfl (Nat.le_of_ble_eq_true rfl) (args_of ⟨rfl, rfl, trivial⟩) (fun w0 w Q R a hret hE hR H => ?_)
  unfold strings_Builder_grow at H
  refine w_seq (fun K hK_1 => ?_)
  obtain ⟨x6_2, qx6_2, H⟩ := H
  obtain ⟨x15_3, qx15_3, H⟩ := H
  obtain ⟨x8_4, qx8_4, H⟩ := H
  obtain ⟨x17_5, qx17_5, H⟩ := H
  refine reg_eq (rops := ro98_0) (by kernel_rfl) ?_
  have hT : Tab ro98_0 _ _ _ := tab_of tb98_0 rfl (by kernel_rfl)
  have hM := TabM.of tb98_0m
  refine d_start (m := 16) (fun w : World => (fun h : Heap => (hcell h ((x6_2).add 1) = some ((x8_4 : Sl).v)) ∧ (hcell h ((x15_3).add 1) = some ((x17_5 : Sl).v))) w.heap) [14, 15] (unb 16 0) mo hR (by kernel_rfl) (by kernel_rfl) (fun w' e => by rw [e]; exact ⟨qx8_4, qx17_5⟩) (fun w hh hR hs => ?_)
  replace H := M.at hh H; clear hh
  refine d_pureg (i := 0) (v := .pointer x0) (unb 16 1) rfl rfl hT (anyM hM (by kernel_rfl)) hE rfl (wanted_none rfl) (fun w => r_move hE rfl) (fun a hE => ?_)
  refine d_pureg (i := 1) (v := .pointer (some x6_2)) (unb 16 3) rfl rfl hT (anyM hM (by kernel_rfl)) hE rfl (wanted_none rfl) (fun w => r_nilCheck hE (hx_eq rfl (congrArg Value.pointer qx6_2))) (fun a hE => ?_)
  refine d_pureg (i := 2) (v := .pointer (some ((x6_2).add 1))) (unb 16 7) rfl rfl hT (anyM hM (by kernel_rfl)) hE rfl (wanted_none rfl) (fun w => r_fieldAddr hE rfl fd53_1) (fun a hE => ?_)
  refine d_pureg (i := 6) (v := .int .i64 x1) (unb 16 71) rfl rfl hT (anyM hM (by kernel_rfl)) hE rfl (wanted_none rfl) (fun w => r_move hE rfl) (fun a hE => ?_)
  refine d_pureg (i := 9) (v := .pointer x0) (unb 16 583) rfl rfl hT (anyM hM (by kernel_rfl)) hE rfl (wanted_none rfl) (fun w => r_move hE rfl) (fun a hE => ?_)
  refine d_pureg (i := 10) (v := .pointer (some x15_3)) (unb 16 1607) rfl rfl hT (anyM hM (by kernel_rfl)) hE rfl (wanted_none rfl) (fun w => r_nilCheck hE (hx_eq rfl (congrArg Value.pointer qx15_3))) (fun a hE => ?_)
  refine d_pureg (i := 11) (v := .pointer (some ((x15_3).add 1))) (unb 16 3655) rfl rfl hT (anyM hM (by kernel_rfl)) hE rfl (wanted_none rfl) (fun w => r_fieldAddr hE rfl fd53_1) (fun a hE => ?_)
  refine d_read (i := 3) (v := (x8_4 : Sl).v) (unb 16 3663) rfl rfl hT (takeM hM (by kernel_rfl)) hE rfl (wanted_none rfl) hs (fun w s => r_load hE rfl sc51 s.1) (fun a hE => ?_)
  refine d_pureg (i := 4) (v := .int .i64 (x8_4.cap : Int)) (unb 16 3679) rfl rfl hT (anyM hM (by kernel_rfl)) hE rfl (wanted_none rfl) (fun w => r_cap hE rfl 5 un51) (fun a hE => ?_)
  refine d_pureg (i := 5) (v := .int .i64 (IntKind.wrap .i64 (2 * (x8_4.cap : Int)))) (unb 16 3711) rfl rfl hT (anyM hM (by kernel_rfl)) hE rfl (wanted_none rfl) (fun w => r_bin hE rfl rfl g_int b_mul) (fun a hE => ?_)
  refine d_pureg (i := 7) (v := .int .i64 (IntKind.wrap .i64 ((IntKind.wrap .i64 (2 * (x8_4.cap : Int))) + x1))) (unb 16 3839) rfl rfl hT (anyM hM (by kernel_rfl)) hE rfl (wanted_none rfl) (fun w => r_bin hE rfl rfl g_int b_add) (fun a hE => ?_)
  refine d_read (i := 12) (v := (x17_5 : Sl).v) (unb 16 7935) rfl rfl hT (takeM hM (by kernel_rfl)) hE rfl (wanted_none rfl) hs (fun w s => r_load hE rfl sc51 s.2) (fun a hE => ?_)
  refine d_pureg (i := 13) (v := .int .i64 (x17_5.len : Int)) (unb 16 16127) rfl rfl hT (anyM hM (by kernel_rfl)) hE rfl (wanted_none rfl) (fun w => r_len hE rfl 5 un51) (fun a hE => ?_)
  refine d_ex (i := 8) (fun x13_6 => (x13_6 : Sl).v) (unb 16 16383) rfl rfl hT (oneM hM (by kernel_rfl)) rfl hR (wanted_none rfl) (M.unbind H) (fun Q H => mnz_run (ps := #[3]) hE rfl Go.Proofs.Tryd.func106 (by kernel_rfl) (by kernel_rfl) (by kernel_rfl) (by kernel_rfl) un51 H) (fun r h H w' e => by obtain ⟨_, sA, H⟩ := H; rw [e]; exact sA) (fun x13_6 a w ea hR H hs => ?_)
  obtain ⟨_, sA, H⟩ := H; clear sA
  have hE := Env.put_some hE rfl ea; clear ea
  obtain ⟨x19_7, qx19_7, H⟩ := H
  refine d_pureg (i := 14) (v := (x19_7 : Sl).v) (unb 16 32767) rfl rfl hT (anyM hM (by kernel_rfl)) hE rfl (wanted_none rfl) (fun w => r_sliceL_h hE rfl rfl un51 sz5 qx19_7) (fun a hE => ?_)
  refine d_pureg (i := 15) (v := (x19_7 : Sl).v) (unb 16 65535) rfl rfl hT (anyM hM (by kernel_rfl)) hE rfl (wanted_none rfl) (fun w => r_assign hE rfl) (fun a hE => ?_)
  refine d_done hT (doneM hM (by kernel_rfl)) ?_
  refine hK_1 _ _ ?_
  refine w_seq (fun K hK_8 => ?_)
  refine t_region ?_
  refine t_val (v := (x19_7 : Sl).v) rfl rfl hE rfl (r_move hE rfl) (fun a hE => ?_)
  refine t_val (v := .pointer x0) rfl rfl hE rfl (r_move hE rfl) (fun a hE => ?_)
  obtain ⟨x22_9, qx22_9, H⟩ := H
  refine t_val (v := .pointer (some x22_9)) rfl rfl hE rfl (r_nilCheck hE (hx_eq rfl (congrArg Value.pointer qx22_9))) (fun a hE => ?_)
  refine t_val (v := .pointer (some ((x22_9).add 1))) rfl rfl hE rfl (r_fieldAddr hE rfl fd53_1) (fun a hE => ?_)
  obtain ⟨x24_10, qx24_10, H⟩ := H
  refine t_val (v := (x24_10 : Sl).v) rfl rfl hE rfl (r_load hE rfl sc51 qx24_10) (fun a hE => ?_)
  refine t_ex (fun x25_11 => .int .i64 x25_11) rfl rfl hR (M.unbind H) (fun Q H => cp_run hE rfl rfl un51 sz5 H) (fun x25_11 a w ea hR H => ?_)
  have hE := Env.put_some hE rfl ea; clear ea
  refine t_nil ?_
  refine hK_8 _ _ ?_
  refine t_region ?_
  refine t_val (v := .pointer x0) rfl rfl hE rfl (r_move hE rfl) (fun a hE => ?_)
  refine t_val (v := (x19_7 : Sl).v) rfl rfl hE rfl (r_move hE rfl) (fun a hE => ?_)
  obtain ⟨x28_12, qx28_12, H⟩ := H
  refine t_val (v := .pointer (some x28_12)) rfl rfl hE rfl (r_nilCheck hE (hx_eq rfl (congrArg Value.pointer qx28_12))) (fun a hE => ?_)
  refine t_val (v := .pointer (some ((x28_12).add 1))) rfl rfl hE rfl (r_fieldAddr hE rfl fd53_1) (fun a hE => ?_)
  obtain ⟨u_13, qu_13, H⟩ := H
  refine t_sth rfl rfl hE hR (r_store hE rfl rfl sz51 qu_13) (fun a w hE hR hh => ?_)
  replace H := M.at hh H; clear hh
  refine t_nil ?_
  exact hret _ _ _ () _ hE hR (res_run hE rfl RV.nil) rfl H

/-- (*strings.Builder).Grow -/
theorem tb87_3 : tabAt Go.Proofs.Tryd.f87 3 [[], [0], [1], [2], [3], [], [5], [6], [7], [8], [4, 9], [], [10, 11]] [[], [0], [1], [2], [3], [], [5], [6], [7], [8], [4, 9], [], [10, 11]] [[], [0], [0, 1], [0, 1, 2], [0, 1, 2, 3], [], [5], [5, 6], [5, 6, 7], [5, 6, 7, 8], [0, 1, 2, 3, 4, 5, 6, 7, 8, 9], [], [0, 1, 2, 3, 4, 5, 6, 7, 8, 9, 10, 11]] = true := by kernel_rfl
def strings_Builder_Grow (x0 : Option Addr) (x1 : Int) : M (Unit) := do
  let x5_2 ← strings_Builder_copyCheck x0
  M.ite (decide (x1 < 0)) (do
    M.fail
    ) (do
    let x10_6 ← nilP x0
    let x15_7 ← nilP x0
    let x12_8 ← ldL ((x10_6).add 1)
    let x17_9 ← ldL ((x15_7).add 1)
    M.ite (decide ((IntKind.wrap .i64 ((x12_8.cap : Int) - (x17_9.len : Int))) < x1)) (do
      let x24_10 ← strings_Builder_grow x0 x1
      M.pure ()
      ) (do
      M.pure ()
      )
    )
theorem S_strings_Builder_Grow (x0 : Option Addr) (x1 : Int) : Sound Go.Proofs.Tryd.prog 87 #[.pointer x0, .int .i64 x1] (fun (r : Unit) => .tuple #[]) (strings_Builder_Grow x0 x1) := by
  refine sound_of [(0, .pointer x0), (1, .int .i64 x1)] Go.Proofs.Tryd.func87 rfl rfl (Nat.le_of_ble_eq_true rfl) (args_of ⟨rfl, rfl, trivial⟩) (fun w0 w Q R a hret hE hR H => ?_)
  unfold strings_Builder_Grow at H
  refine w_seq (fun K hK_1 => ?_)
  refine t_region ?_
  refine t_val (v := .pointer x0) rfl rfl hE rfl (r_move hE rfl) (fun a hE => ?_)
  refine t_call hE hR cl_strings_Builder_copyCheck rfl (S_strings_Builder_copyCheck x0) (M.unbind H) (fun x5_2 a w ea hR H => ?_)
  have hE := Env.put_some hE rfl ea; clear ea
  refine t_nil ?_
  refine hK_1 _ _ ?_
  refine w_seq (fun K hK_3 => ?_)
  refine w_seq (fun K hK_4 => ?_)
  refine t_region ?_
  refine t_val (v := .int .i64 x1) rfl rfl hE rfl (r_move hE rfl) (fun a hE => ?_)
  refine t_val (v := .bool (decide (x1 < 0))) rfl rfl hE rfl (r_bin hE rfl rfl g_int b_lss) (fun a hE => ?_)
  refine t_nil ?_
  refine hK_4 _ _ ?_
  refine w_cond (decide (x1 < 0)) hE rfl (fun hb => ?_) (fun hb => ?_)
  · replace H := M.ite_t hb H
    exact False.elim H
  · replace H := M.ite_f hb H
    refine w_skip ?_
    refine hK_3 _ _ ?_
    refine w_seq (fun K hK_5 => ?_)
    obtain ⟨x10_6, qx10_6, H⟩ := H
    obtain ⟨x15_7, qx15_7, H⟩ := H
    obtain ⟨x12_8, qx12_8, H⟩ := H
    obtain ⟨x17_9, qx17_9, H⟩ := H
    have hT := tab_of tb87_3 rfl rfl
    refine d_start (fun w : World => (fun h : Heap => (hcell h ((x10_6).add 1) = some ((x12_8 : Sl).v)) ∧ (hcell h ((x15_7).add 1) = some ((x17_9 : Sl).v))) w.heap) [10, 12] #[false, false, false, false, false, false, false, false, false, false, false, false, false] mo hR rfl rfl (fun w' e => by rw [e]; exact ⟨qx12_8, qx17_9⟩) (fun w hh hR hs => ?_)
    replace H := M.at hh H; clear hh
    refine d_pureg (i := 0) (v := .pointer x0) #[true, false, false, false, false, false, false, false, false, false, false, false, false] rfl rfl hT (by kernel_rfl) hE rfl (wanted_none rfl) (fun w => r_move hE rfl) (fun a hE => ?_)
    refine d_pureg (i := 1) (v := .pointer (some x10_6)) #[true, true, false, false, false, false, false, false, false, false, false, false, false] rfl rfl hT (by kernel_rfl) hE rfl (wanted_none rfl) (fun w => r_nilCheck hE (hx_eq rfl (congrArg Value.pointer qx10_6))) (fun a hE => ?_)
    refine d_pureg (i := 2) (v := .pointer (some ((x10_6).add 1))) #[true, true, true, false, false, false, false, false, false, false, false, false, false] rfl rfl hT (by kernel_rfl) hE rfl (wanted_none rfl) (fun w => r_fieldAddr hE rfl fd53_1) (fun a hE => ?_)
    refine d_pureg (i := 5) (v := .pointer x0) #[true, true, true, false, false, true, false, false, false, false, false, false, false] rfl rfl hT (by kernel_rfl) hE rfl (wanted_none rfl) (fun w => r_move hE rfl) (fun a hE => ?_)
    refine d_pureg (i := 6) (v := .pointer (some x15_7)) #[true, true, true, false, false, true, true, false, false, false, false, false, false] rfl rfl hT (by kernel_rfl) hE rfl (wanted_none rfl) (fun w => r_nilCheck hE (hx_eq rfl (congrArg Value.pointer qx15_7))) (fun a hE => ?_)
    refine d_pureg (i := 7) (v := .pointer (some ((x15_7).add 1))) #[true, true, true, false, false, true, true, true, false, false, false, false, false] rfl rfl hT (by kernel_rfl) hE rfl (wanted_none rfl) (fun w => r_fieldAddr hE rfl fd53_1) (fun a hE => ?_)
    refine d_pureg (i := 11) (v := .int .i64 x1) #[true, true, true, false, false, true, true, true, false, false, false, true, false] rfl rfl hT (by kernel_rfl) hE rfl (wanted_none rfl) (fun w => r_move hE rfl) (fun a hE => ?_)
    refine d_read (i := 3) (v := (x12_8 : Sl).v) #[true, true, true, true, false, true, true, true, false, false, false, true, false] rfl rfl hT (by kernel_rfl) hE rfl (wanted_none rfl) hs (fun w s => r_load hE rfl sc51 s.1) (fun a hE => ?_)
    refine d_pureg (i := 4) (v := .int .i64 (x12_8.cap : Int)) #[true, true, true, true, true, true, true, true, false, false, false, true, false] rfl rfl hT (by kernel_rfl) hE rfl (wanted_none rfl) (fun w => r_cap hE rfl 5 un51) (fun a hE => ?_)
    refine d_read (i := 8) (v := (x17_9 : Sl).v) #[true, true, true, true, true, true, true, true, true, false, false, true, false] rfl rfl hT (by kernel_rfl) hE rfl (wanted_none rfl) hs (fun w s => r_load hE rfl sc51 s.2) (fun a hE => ?_)
    refine d_pureg (i := 9) (v := .int .i64 (x17_9.len : Int)) #[true, true, true, true, true, true, true, true, true, true, false, true, false] rfl rfl hT (by kernel_rfl) hE rfl (wanted_none rfl) (fun w => r_len hE rfl 5 un51) (fun a hE => ?_)
    refine d_pureg (i := 10) (v := .int .i64 (IntKind.wrap .i64 ((x12_8.cap : Int) - (x17_9.len : Int)))) #[true, true, true, true, true, true, true, true, true, true, true, true, false] rfl rfl hT (by kernel_rfl) hE rfl (wanted_none rfl) (fun w => r_bin hE rfl rfl g_int b_sub) (fun a hE => ?_)
    refine d_pureg (i := 12) (v := .bool (decide ((IntKind.wrap .i64 ((x12_8.cap : Int) - (x17_9.len : Int))) < x1))) #[true, true, true, true, true, true, true, true, true, true, true, true, true] rfl rfl hT (by kernel_rfl) hE rfl (wanted_none rfl) (fun w => r_bin hE rfl rfl g_int b_lss) (fun a hE => ?_)
    refine d_done hT (by kernel_rfl) ?_
    refine hK_5 _ _ ?_
    refine w_cond (decide ((IntKind.wrap .i64 ((x12_8.cap : Int) - (x17_9.len : Int))) < x1)) hE rfl (fun hb => ?_) (fun hb => ?_)
    · replace H := M.ite_t hb H
      refine t_region ?_
      refine t_val (v := .pointer x0) rfl rfl hE rfl (r_move hE rfl) (fun a hE => ?_)
      refine t_val (v := .int .i64 x1) rfl rfl hE rfl (r_move hE rfl) (fun a hE => ?_)
      refine t_call hE hR cl_strings_Builder_grow rfl (S_strings_Builder_grow x0 x1) (M.unbind H) (fun x24_10 a w ea hR H => ?_)
      have hE := Env.put_some hE rfl ea; clear ea
      refine t_nil ?_
      exact hret _ _ _ () _ hE hR (res_run hE rfl RV.nil) rfl H
    · replace H := M.ite_f hb H
      refine w_skip ?_
      exact hret _ _ _ () _ hE hR (res_run hE rfl RV.nil) rfl H

/-- strings.Join -/
def strings_Join_l2 (c1_43 : ByteArray) (c8_44 : Addr) (c63_45 : Sl) (c64_46 : Int) (self2 : (Int) → M (ByteArray)) : (Int) → M (ByteArray) := fun s => match s with
  | x65_42 => do
    M.ite (decide (x65_42 < c64_46)) (do
      let x67_52 ← ixL c63_45 x65_42 1
      let x68_53 ← ldS x67_52
      let x70_55 ← strings_Builder_WriteString (some c8_44) c1_43
      let x72_56 ← strings_Builder_WriteString (some c8_44) x68_53
      self2 (IntKind.wrap .i64 (x65_42 + 1))
      ) (do
      let x74_58 ← strings_Builder_String (some c8_44)
      M.pure x74_58
      )
def strings_Join_l1 (c0_18 : Sl) (c1_19 : ByteArray) (c39_20 : Sl) (c40_21 : Int) (self1 : (Int × Int) → M (ByteArray)) : (Int × Int) → M (ByteArray) := fun s => match s with
  | (x5_16, x41_17) => do
    M.ite (decide (x41_17 < c40_21)) (do
      let x43_27 ← ixL c39_20 x41_17 1
      let x44_28 ← ldS x43_27
      M.ite (decide ((x44_28.size : Int) > (IntKind.wrap .i64 (9223372036854775807 - x5_16)))) (do
        M.fail
        ) (do
        self1 (IntKind.wrap .i64 (x5_16 + (x44_28.size : Int)), IntKind.wrap .i64 (x41_17 + 1))
        )
      ) (do
      let x8_32 ← mkB ty_strings_Builder (#[.pointer none, .slice none 0 0] : Array Value)
      let x57_34 ← strings_Builder_Grow (some x8_32) x5_16
      let x59_36 ← ixL c0_18 0 1
      let x60_37 ← ldS x59_36
      let x61_38 ← strings_Builder_WriteString (some x8_32) x60_37
      let x63_41 ← slL c0_18 1 c0_18.len 1
      M.loop (strings_Join_l2 c1_19 x8_32 x63_41 (x63_41.len : Int)) 0
      )
def strings_Join_j1 (c0_12 : Sl) (c1_13 : ByteArray) (x5_11 : Int) : M (ByteArray) := do
  M.loop (strings_Join_l1 c0_12 c1_13 c0_12 (c0_12.len : Int)) (x5_11, 0)
def strings_Join (x0 : Sl) (x1 : ByteArray) : M (ByteArray) := do
  M.ite ((x0.len : Int) == 0) (do
    M.pure ByteArray.empty
    ) (do
    M.ite ((x0.len : Int) == 1) (do
      let x18_8 ← ixL x0 0 1
      let x19_9 ← ldS x18_8
      M.pure x19_9
      ) (do
      M.ite (decide ((x1.size : Int) > 0)) (do
        let x28_62 ← pQuo .i64 9223372036854775807 (IntKind.wrap .i64 ((x0.len : Int) - 1))
        M.ite (decide ((x1.size : Int) ≥ x28_62)) (do
          M.fail
          ) (do
          strings_Join_j1 x0 x1 (IntKind.wrap .i64 (0 + (IntKind.wrap .i64 ((x1.size : Int) * (IntKind.wrap .i64 ((x0.len : Int) - 1))))))
          )
        ) (do
        strings_Join_j1 x0 x1 0
        )
      )
    )
theorem S_strings_Join (x0 : Sl) (x1 : ByteArray) : Sound Go.Proofs.Tryd.prog 69 #[(x0 : Sl).v, .string x1] (fun (r : ByteArray) => .string r) (strings_Join x0 x1) := by
  refine sound_of [(0, (x0 : Sl).v), (1, .string x1)] Go.Proofs.Tryd.func69 rfl rfl (Nat.le_of_ble_eq_true rfl) (args_of ⟨rfl, rfl, trivial⟩) (fun w0 w Q R a hret hE hR H => ?_)
  unfold strings_Join at H
  refine w_seq (fun K hK_1 => ?_)
  refine t_region ?_
  refine t_val (v := .string ByteArray.empty) rfl rfl hE rfl (r_assign hE rfl) (fun a hE => ?_)
  refine t_nil ?_
  refine hK_1 _ _ ?_
  refine w_seq (fun K hK_2 => ?_)
  refine w_seq (fun K hK_3 => ?_)
  refine t_region ?_
  refine t_val (v := (x0 : Sl).v) rfl rfl hE rfl (r_move hE rfl) (fun a hE => ?_)
  refine t_val (v := .int .i64 (x0.len : Int)) rfl rfl hE rfl (r_len hE rfl 9 un30) (fun a hE => ?_)
  refine t_nil ?_
  refine hK_3 _ _ ?_
  refine w_block ?_
  refine w_seq (fun K hK_4 => ?_)
  refine t_region ?_
  refine t_val (v := .bool ((x0.len : Int) == 0)) rfl rfl hE rfl (r_bin hE rfl rfl g_int b_eql) (fun a hE => ?_)
  refine t_val (v := .bool ((x0.len : Int) == 0)) rfl rfl hE rfl (r_assign hE rfl) (fun a hE => ?_)
  refine t_nil ?_
  refine hK_4 _ _ ?_
  refine w_cond ((x0.len : Int) == 0) hE rfl (fun hb => ?_) (fun hb => ?_)
  · replace H := M.ite_t hb H
    refine w_seq (fun K hK_5 => ?_)
    refine t_region ?_
    refine t_val (v := .string ByteArray.empty) rfl rfl hE rfl (r_assign hE rfl) (fun a hE => ?_)
    refine t_nil ?_
    refine hK_5 _ _ ?_
    refine w_ret ?_
    exact hret _ _ _ ByteArray.empty _ hE hR (res_run hE rfl (RV.tmp rfl RV.nil)) rfl H
  · replace H := M.ite_f hb H
    refine w_seq (fun K hK_6 => ?_)
    refine t_region ?_
    refine t_val (v := .bool ((x0.len : Int) == 1)) rfl rfl hE rfl (r_bin hE rfl rfl g_int b_eql) (fun a hE => ?_)
    refine t_val (v := .bool ((x0.len : Int) == 1)) rfl rfl hE rfl (r_assign hE rfl) (fun a hE => ?_)
    refine t_nil ?_
    refine hK_6 _ _ ?_
    refine w_cond ((x0.len : Int) == 1) hE rfl (fun hb => ?_) (fun hb => ?_)
    · replace H := M.ite_t hb H
      refine w_seq (fun K hK_7 => ?_)
      refine t_region ?_
      refine t_val (v := (x0 : Sl).v) rfl rfl hE rfl (r_move hE rfl) (fun a hE => ?_)
      obtain ⟨x18_8, qx18_8, H⟩ := H
      refine t_val (v := .pointer (some x18_8)) rfl rfl hE rfl (r_indexAddrL hE rfl rfl un30 sz9 qx18_8) (fun a hE => ?_)
      obtain ⟨x19_9, qx19_9, H⟩ := H
      refine t_val (v := .string x19_9) rfl rfl hE rfl (r_load hE rfl sc9 qx19_9) (fun a hE => ?_)
      refine t_val (v := .string x19_9) rfl rfl hE rfl (r_assign hE rfl) (fun a hE => ?_)
      refine t_nil ?_
      refine hK_7 _ _ ?_
      refine w_ret ?_
      exact hret _ _ _ x19_9 _ hE hR (res_run hE rfl (RV.tmp rfl RV.nil)) rfl H
    · replace H := M.ite_f hb H
      refine w_skip ?_
      refine hK_2 _ _ ?_
      refine w_seq (fun K hK_10 => ?_)
      refine t_region ?_
      refine t_val (v := .int .i64 0) rfl rfl hE rfl (r_assign hE rfl) (fun a hE => ?_)
      refine t_nil ?_
      refine hK_10 _ _ ?_
      refine w_seq_join (fun a w => ∃ (x5_11 : Int), Env (⟨75, []⟩ : Frm) a [(0, (x0 : Sl).v), (1, .string x1), (5, .int .i64 x5_11)] ∧ Rest w0 w ∧ (strings_Join_j1 x0 x1 x5_11).wp w.heap Q) ?_ ?_
      · rintro a w ⟨x5_11, hE, hR, H⟩
        unfold strings_Join_j1 at H
        refine w_seq (fun K hK_14 => ?_)
        refine w_seq (fun K hK_15 => ?_)
        refine t_region ?_
        refine t_val (v := (x0 : Sl).v) rfl rfl hE rfl (r_move hE rfl) (fun a hE => ?_)
        refine t_val (v := .int .i64 (x0.len : Int)) rfl rfl hE rfl (r_len hE rfl 9 un30) (fun a hE => ?_)
        refine t_val (v := .int .i64 0) rfl rfl hE rfl (r_move hE rfl) (fun a hE => ?_)
        refine t_nil ?_
        refine hK_15 _ _ ?_
        refine w_block ?_
        refine l_loop (fun (s : Int × Int) => (⟨75, []⟩ : Frm)) (fun (s : Int × Int) => [(0, (x0 : Sl).v), (1, .string x1), (5, .int .i64 s.1), (39, (x0 : Sl).v), (40, .int .i64 (x0.len : Int)), (41, .int .i64 s.2)]) H (hE.cut (.cons rfl (.cons rfl (.cons rfl (.cons rfl (.cons rfl (.cons rfl Subs.nil))))))) hR (fun Y self1 hY_22 s a w hE hR H => ?_)
        rcases s with ⟨x5_16, x41_17⟩
        replace hE : Env (⟨75, []⟩ : Frm) a [(0, (x0 : Sl).v), (1, .string x1), (5, .int .i64 x5_16), (39, (x0 : Sl).v), (40, .int .i64 (x0.len : Int)), (41, .int .i64 x41_17)] := hE
        replace H : (strings_Join_l1 x0 x1 x0 (x0.len : Int) self1 (x5_16, x41_17)).wp w.heap Q := H
        unfold strings_Join_l1 at H
        refine w_seq (fun K hK_23 => ?_)
        refine t_region ?_
        refine t_val (v := .bool (decide (x41_17 < (x0.len : Int)))) rfl rfl hE rfl (r_bin hE rfl rfl g_int b_lss) (fun a hE => ?_)
        refine t_nil ?_
        refine hK_23 _ _ ?_
        refine w_seq (fun K hK_24 => ?_)
        refine w_cond (decide (x41_17 < (x0.len : Int))) hE rfl (fun hb => ?_) (fun hb => ?_)
        · replace H := M.ite_t hb H
          refine w_skip ?_
          refine hK_24 _ _ ?_
          refine w_seq (fun K hK_25 => ?_)
          refine w_block ?_
          refine w_seq (fun K hK_26 => ?_)
          refine t_region ?_
          obtain ⟨x43_27, qx43_27, H⟩ := H
          refine t_val (v := .pointer (some x43_27)) rfl rfl hE rfl (r_indexAddrL hE rfl rfl un30 sz9 qx43_27) (fun a hE => ?_)
          obtain ⟨x44_28, qx44_28, H⟩ := H
          refine t_val (v := .string x44_28) rfl rfl hE rfl (r_load hE rfl sc9 qx44_28) (fun a hE => ?_)
          refine t_val (v := .string x44_28) rfl rfl hE rfl (r_assign hE rfl) (fun a hE => ?_)
          refine t_nil ?_
          refine hK_26 _ _ ?_
          refine w_seq (fun K hK_29 => ?_)
          refine w_seq (fun K hK_30 => ?_)
          refine t_region ?_
          refine t_val (v := .string x44_28) rfl rfl hE rfl (r_move hE rfl) (fun a hE => ?_)
          refine t_val (v := .int .i64 (x44_28.size : Int)) rfl rfl hE rfl (r_lenS hE rfl un9) (fun a hE => ?_)
          refine t_val (v := .int .i64 x5_16) rfl rfl hE rfl (r_move hE rfl) (fun a hE => ?_)
          refine t_val (v := .int .i64 (IntKind.wrap .i64 (9223372036854775807 - x5_16))) rfl rfl hE rfl (r_bin hE rfl rfl g_int b_sub) (fun a hE => ?_)
          refine t_val (v := .bool (decide ((x44_28.size : Int) > (IntKind.wrap .i64 (9223372036854775807 - x5_16))))) rfl rfl hE rfl (r_bin hE rfl rfl g_int b_gtr) (fun a hE => ?_)
          refine t_nil ?_
          refine hK_30 _ _ ?_
          refine w_cond (decide ((x44_28.size : Int) > (IntKind.wrap .i64 (9223372036854775807 - x5_16)))) hE rfl (fun hb => ?_) (fun hb => ?_)
          · replace H := M.ite_t hb H
            exact False.elim H
          · replace H := M.ite_f hb H
            refine w_skip ?_
            refine hK_29 _ _ ?_
            refine t_region ?_
            refine t_val (v := .int .i64 x5_16) rfl rfl hE rfl (r_move hE rfl) (fun a hE => ?_)
            refine t_val (v := .string x44_28) rfl rfl hE rfl (r_move hE rfl) (fun a hE => ?_)
            refine t_val (v := .int .i64 (x44_28.size : Int)) rfl rfl hE rfl (r_lenS hE rfl un9) (fun a hE => ?_)
            refine t_val (v := .int .i64 (IntKind.wrap .i64 (x5_16 + (x44_28.size : Int)))) rfl rfl hE rfl (r_bin hE rfl rfl g_int b_add) (fun a hE => ?_)
            refine t_val (v := .int .i64 (IntKind.wrap .i64 (x5_16 + (x44_28.size : Int)))) rfl rfl hE rfl (r_assign hE rfl) (fun a hE => ?_)
            refine t_nil ?_
            refine hK_25 _ _ ?_
            refine t_region ?_
            refine t_val (v := .int .i64 (IntKind.wrap .i64 (x41_17 + 1))) rfl rfl hE rfl (r_bin hE rfl rfl g_int b_add) (fun a hE => ?_)
            refine t_val (v := .int .i64 (IntKind.wrap .i64 (x41_17 + 1))) rfl rfl hE rfl (r_move hE rfl) (fun a hE => ?_)
            refine t_nil ?_
            exact hY_22 (IntKind.wrap .i64 (x5_16 + (x44_28.size : Int)), IntKind.wrap .i64 (x41_17 + 1)) _ _ (hE.cut (.cons rfl (.cons rfl (.cons rfl (.cons rfl (.cons rfl (.cons rfl Subs.nil))))))) hR H
        · replace H := M.ite_f hb H
          refine w_exit ?_
          refine Xu.same ?_
          refine hK_14 _ _ ?_
          refine w_seq (fun K hK_31 => ?_)
          refine t_region ?_
          obtain ⟨x8_32, qx8_32, H⟩ := H
          refine t_valh (v := .pointer (some x8_32)) rfl rfl hE rfl hR (r_alloc zr53 qx8_32) (fun a w hE hR hh => ?_)
          replace H := M.at hh H; clear hh
          refine t_nil ?_
          refine hK_31 _ _ ?_
          refine w_seq (fun K hK_33 => ?_)
          refine t_region ?_
          refine t_val (v := .int .i64 x5_16) rfl rfl hE rfl (r_move hE rfl) (fun a hE => ?_)
          refine t_call hE hR cl_strings_Builder_Grow rfl (S_strings_Builder_Grow (some x8_32) x5_16) (M.unbind H) (fun x57_34 a w ea hR H => ?_)
          have hE := Env.put_some hE rfl ea; clear ea
          refine t_nil ?_
          refine hK_33 _ _ ?_
          refine w_seq (fun K hK_35 => ?_)
          refine t_region ?_
          refine t_val (v := (x0 : Sl).v) rfl rfl hE rfl (r_move hE rfl) (fun a hE => ?_)
          obtain ⟨x59_36, qx59_36, H⟩ := H
          refine t_val (v := .pointer (some x59_36)) rfl rfl hE rfl (r_indexAddrL hE rfl rfl un30 sz9 qx59_36) (fun a hE => ?_)
          obtain ⟨x60_37, qx60_37, H⟩ := H
          refine t_val (v := .string x60_37) rfl rfl hE rfl (r_load hE rfl sc9 qx60_37) (fun a hE => ?_)
          refine t_call hE hR cl_strings_Builder_WriteString rfl (S_strings_Builder_WriteString (some x8_32) x60_37) (M.unbind H) (fun x61_38 a w ea hR H => ?_)
          have hE := Env.put_some hE rfl ea; clear ea
          refine t_nil ?_
          refine hK_35 _ _ ?_
          refine w_seq (fun K hK_39 => ?_)
          refine w_seq (fun K hK_40 => ?_)
          refine t_region ?_
          refine t_val (v := (x0 : Sl).v) rfl rfl hE rfl (r_move hE rfl) (fun a hE => ?_)
          obtain ⟨x63_41, qx63_41, H⟩ := H
          refine t_val (v := (x63_41 : Sl).v) rfl rfl hE rfl (r_sliceL_l hE rfl rfl un30 sz9 qx63_41) (fun a hE => ?_)
          refine t_val (v := .int .i64 (x63_41.len : Int)) rfl rfl hE rfl (r_len hE rfl 9 un30) (fun a hE => ?_)
          refine t_val (v := .int .i64 0) rfl rfl hE rfl (r_move hE rfl) (fun a hE => ?_)
          refine t_nil ?_
          refine hK_40 _ _ ?_
          refine w_block ?_
          refine l_loop (fun (s : Int) => (⟨75, []⟩ : Frm)) (fun (s : Int) => [(1, .string x1), (8, .pointer (some x8_32)), (63, (x63_41 : Sl).v), (64, .int .i64 (x63_41.len : Int)), (65, .int .i64 s)]) H (hE.cut (.cons rfl (.cons rfl (.cons rfl (.cons rfl (.cons rfl Subs.nil)))))) hR (fun Y self2 hY_47 x65_42 a w hE hR H => ?_)
          replace hE : Env (⟨75, []⟩ : Frm) a [(1, .string x1), (8, .pointer (some x8_32)), (63, (x63_41 : Sl).v), (64, .int .i64 (x63_41.len : Int)), (65, .int .i64 x65_42)] := hE
          replace H : (strings_Join_l2 x1 x8_32 x63_41 (x63_41.len : Int) self2 x65_42).wp w.heap Q := H
          unfold strings_Join_l2 at H
          refine w_seq (fun K hK_48 => ?_)
          refine t_region ?_
          refine t_val (v := .bool (decide (x65_42 < (x63_41.len : Int)))) rfl rfl hE rfl (r_bin hE rfl rfl g_int b_lss) (fun a hE => ?_)
          refine t_nil ?_
          refine hK_48 _ _ ?_
          refine w_seq (fun K hK_49 => ?_)
          refine w_cond (decide (x65_42 < (x63_41.len : Int))) hE rfl (fun hb => ?_) (fun hb => ?_)
          · replace H := M.ite_t hb H
            refine w_skip ?_
            refine hK_49 _ _ ?_
            refine w_seq (fun K hK_50 => ?_)
            refine w_block ?_
            refine w_seq (fun K hK_51 => ?_)
            refine t_region ?_
            obtain ⟨x67_52, qx67_52, H⟩ := H
            refine t_val (v := .pointer (some x67_52)) rfl rfl hE rfl (r_indexAddrL hE rfl rfl un30 sz9 qx67_52) (fun a hE => ?_)
            obtain ⟨x68_53, qx68_53, H⟩ := H
            refine t_val (v := .string x68_53) rfl rfl hE rfl (r_load hE rfl sc9 qx68_53) (fun a hE => ?_)
            refine t_val (v := .string x68_53) rfl rfl hE rfl (r_assign hE rfl) (fun a hE => ?_)
            refine t_nil ?_
            refine hK_51 _ _ ?_
            refine w_seq (fun K hK_54 => ?_)
            refine t_region ?_
            refine t_val (v := .string x1) rfl rfl hE rfl (r_move hE rfl) (fun a hE => ?_)
            refine t_call hE hR cl_strings_Builder_WriteString rfl (S_strings_Builder_WriteString (some x8_32) x1) (M.unbind H) (fun x70_55 a w ea hR H => ?_)
            have hE := Env.put_some hE rfl ea; clear ea
            refine t_nil ?_
            refine hK_54 _ _ ?_
            refine t_region ?_
            refine t_val (v := .string x68_53) rfl rfl hE rfl (r_move hE rfl) (fun a hE => ?_)
            refine t_call hE hR cl_strings_Builder_WriteString rfl (S_strings_Builder_WriteString (some x8_32) x68_53) (M.unbind H) (fun x72_56 a w ea hR H => ?_)
            have hE := Env.put_some hE rfl ea; clear ea
            refine t_nil ?_
            refine hK_50 _ _ ?_
            refine t_region ?_
            refine t_val (v := .int .i64 (IntKind.wrap .i64 (x65_42 + 1))) rfl rfl hE rfl (r_bin hE rfl rfl g_int b_add) (fun a hE => ?_)
            refine t_val (v := .int .i64 (IntKind.wrap .i64 (x65_42 + 1))) rfl rfl hE rfl (r_move hE rfl) (fun a hE => ?_)
            refine t_nil ?_
            exact hY_47 (IntKind.wrap .i64 (x65_42 + 1)) _ _ (hE.cut (.cons rfl (.cons rfl (.cons rfl (.cons rfl (.cons rfl Subs.nil)))))) hR H
          · replace H := M.ite_f hb H
            refine w_exit ?_
            refine Xu.same ?_
            refine hK_39 _ _ ?_
            refine w_seq (fun K hK_57 => ?_)
            refine t_region ?_
            refine t_call hE hR cl_strings_Builder_String rfl (S_strings_Builder_String (some x8_32)) (M.unbind H) (fun x74_58 a w ea hR H => ?_)
            have hE := Env.put_some hE rfl ea; clear ea
            refine t_val (v := .string x74_58) rfl rfl hE rfl (r_assign hE rfl) (fun a hE => ?_)
            refine t_nil ?_
            refine hK_57 _ _ ?_
            refine w_ret ?_
            exact hret _ _ _ x74_58 _ hE hR (res_run hE rfl (RV.tmp rfl RV.nil)) rfl H
      · skip
        refine w_seq (fun K hK_59 => ?_)
        refine t_region ?_
        refine t_val (v := .string x1) rfl rfl hE rfl (r_move hE rfl) (fun a hE => ?_)
        refine t_val (v := .int .i64 (x1.size : Int)) rfl rfl hE rfl (r_lenS hE rfl un9) (fun a hE => ?_)
        refine t_val (v := .bool (decide ((x1.size : Int) > 0))) rfl rfl hE rfl (r_bin hE rfl rfl g_int b_gtr) (fun a hE => ?_)
        refine t_nil ?_
        refine hK_59 _ _ ?_
        refine w_cond (decide ((x1.size : Int) > 0)) hE rfl (fun hb => ?_) (fun hb => ?_)
        · replace H := M.ite_t hb H
          refine w_seq (fun K hK_60 => ?_)
          refine w_seq (fun K hK_61 => ?_)
          refine t_region ?_
          refine t_val (v := .string x1) rfl rfl hE rfl (r_move hE rfl) (fun a hE => ?_)
          refine t_val (v := .int .i64 (x1.size : Int)) rfl rfl hE rfl (r_lenS hE rfl un9) (fun a hE => ?_)
          refine t_val (v := (x0 : Sl).v) rfl rfl hE rfl (r_move hE rfl) (fun a hE => ?_)
          refine t_val (v := .int .i64 (x0.len : Int)) rfl rfl hE rfl (r_len hE rfl 9 un30) (fun a hE => ?_)
          refine t_val (v := .int .i64 (IntKind.wrap .i64 ((x0.len : Int) - 1))) rfl rfl hE rfl (r_bin hE rfl rfl g_int b_sub) (fun a hE => ?_)
          obtain ⟨x28_62, qx28_62, H⟩ := H
          refine t_val (v := .int .i64 x28_62) rfl rfl hE rfl (r_bin hE rfl rfl g_int (b_quo qx28_62)) (fun a hE => ?_)
          refine t_val (v := .bool (decide ((x1.size : Int) ≥ x28_62))) rfl rfl hE rfl (r_bin hE rfl rfl g_int b_geq) (fun a hE => ?_)
          refine t_nil ?_
          refine hK_61 _ _ ?_
          refine w_cond (decide ((x1.size : Int) ≥ x28_62)) hE rfl (fun hb => ?_) (fun hb => ?_)
          · replace H := M.ite_t hb H
            exact False.elim H
          · replace H := M.ite_f hb H
            refine w_skip ?_
            refine hK_60 _ _ ?_
            refine t_region ?_
            refine t_val (v := .int .i64 0) rfl rfl hE rfl (r_move hE rfl) (fun a hE => ?_)
            refine t_val (v := .string x1) rfl rfl hE rfl (r_move hE rfl) (fun a hE => ?_)
            refine t_val (v := .int .i64 (x1.size : Int)) rfl rfl hE rfl (r_lenS hE rfl un9) (fun a hE => ?_)
            refine t_val (v := (x0 : Sl).v) rfl rfl hE rfl (r_move hE rfl) (fun a hE => ?_)
            refine t_val (v := .int .i64 (x0.len : Int)) rfl rfl hE rfl (r_len hE rfl 9 un30) (fun a hE => ?_)
            refine t_val (v := .int .i64 (IntKind.wrap .i64 ((x0.len : Int) - 1))) rfl rfl hE rfl (r_bin hE rfl rfl g_int b_sub) (fun a hE => ?_)
            refine t_val (v := .int .i64 (IntKind.wrap .i64 ((x1.size : Int) * (IntKind.wrap .i64 ((x0.len : Int) - 1))))) rfl rfl hE rfl (r_bin hE rfl rfl g_int b_mul) (fun a hE => ?_)
            refine t_val (v := .int .i64 (IntKind.wrap .i64 (0 + (IntKind.wrap .i64 ((x1.size : Int) * (IntKind.wrap .i64 ((x0.len : Int) - 1))))))) rfl rfl hE rfl (r_bin hE rfl rfl g_int b_add) (fun a hE => ?_)
            refine t_val (v := .int .i64 (IntKind.wrap .i64 (0 + (IntKind.wrap .i64 ((x1.size : Int) * (IntKind.wrap .i64 ((x0.len : Int) - 1))))))) rfl rfl hE rfl (r_assign hE rfl) (fun a hE => ?_)
            refine t_nil ?_
            exact ⟨IntKind.wrap .i64 (0 + (IntKind.wrap .i64 ((x1.size : Int) * (IntKind.wrap .i64 ((x0.len : Int) - 1))))), hE.cut (.cons rfl (.cons rfl (.cons rfl Subs.nil))), hR, H⟩
        · replace H := M.ite_f hb H
          refine w_skip ?_
          exact ⟨0, hE.cut (.cons rfl (.cons rfl (.cons rfl Subs.nil))), hR, H⟩

end Gx
namespace Gx
open Go
set_option linter.unusedVariables false
set_option maxRecDepth 100000
/-- ramble/value.text -/
def value_text_j2 (self1 : (Sl × Int) → M (ByteArray)) (c49_56 : Int) (x5_51 : Sl) : M (ByteArray) := do
  self1 (x5_51, IntKind.wrap .i64 (c49_56 + 1))
def value_text_l1 (c1_44 : Int) (c2_45 : Addr) (c47_46 : Sl) (c48_47 : Int) (self1 : (Sl × Int) → M (ByteArray)) : (Sl × Int) → M (ByteArray) := fun s => match s with
  | (x5_42, x49_43) => do
    M.ite (decide (x49_43 < c48_47)) (do
      let x52_58 ← ixL c47_46 x49_43 4
      let x53_59 ← ldG 4 x52_58
      let x7_60 ← mkB ty_api_Value (#[.int .i64 0, .int .i64 0, .string ByteArray.empty, .slice none 0 0] : Array Value)
      M.need (x53_59.size = 4)
      stG x7_60 x53_59
      let x54_63 ← ldG 4 x7_60
      let x57_64 ← callF Go.Proofs.Tryd.prog fn_value_text #[.agg x54_63, .int .i64 (IntKind.wrap .i64 (c1_44 + 1))] (fun r : ByteArray => .string r)
      let x59_66 ← ldI .i64 ((c2_45).add 0)
      let x65_67 ← M.ite (x59_66 == 5) (do
        M.pure ((Int.tmod x49_43 2) == 1)
        ) (do
        M.pure false
        )
      M.ite x65_67 (do
        let x70_68 ← ixL x5_42 (IntKind.wrap .i64 ((x5_42.len : Int) - 1)) 1
        let x71_69 ← ldS x70_68
        let x73_70 ← sCat (⟨#[58, 32]⟩ : ByteArray) x57_64
        let x74_71 ← sCat x71_69 x73_70
        let x75_72 ← ixL x5_42 (IntKind.wrap .i64 ((x5_42.len : Int) - 1)) 1
        stV x75_72 (.string x74_71)
        value_text_j2 self1 x49_43 x5_42
        ) (do
        let x78_74 ← bdL ty_string 1 #[.string x57_64]
        let x79_75 ← apL ty_string 1 16 (#[.string ByteArray.empty] : Array Value) x5_42 x78_74
        value_text_j2 self1 x49_43 x79_75
        )
      ) (do
      let x82_77 ← strings_Join x5_42 (⟨#[44, 32]⟩ : ByteArray)
      let x84_80 ← ldI .i64 ((c2_45).add 0)
      M.ite (x84_80 == 5) (do
        let x87_82 ← sCat (⟨#[123]⟩ : ByteArray) x82_77
        let x88_83 ← sCat x87_82 (⟨#[125]⟩ : ByteArray)
        M.pure x88_83
        ) (do
        let x90_85 ← sCat (⟨#[91]⟩ : ByteArray) x82_77
        let x91_86 ← sCat x90_85 (⟨#[93]⟩ : ByteArray)
        M.pure x91_86
        )
      )
def value_text_j1 (c1_36 : Int) (c2_37 : Addr) (x43_35 : Bool) : M (ByteArray) := do
  M.ite x43_35 (do
    let x47_41 ← ldL ((c2_37).add 3)
    M.loop (value_text_l1 c1_36 c2_37 x47_41 (x47_41.len : Int)) (Sl.nil, 0)
    ) (do
    M.pure (⟨#[63]⟩ : ByteArray)
    )
def value_text (x0 : Array Value) (x1 : Int) : M (ByteArray) := do
  let x2_2 ← mkB ty_api_Value x0
  M.ite (decide (x1 > 8)) (do
    M.pure (⟨#[63]⟩ : ByteArray)
    ) (do
    let x13_8 ← ldI .i64 ((x2_2).add 0)
    M.ite (x13_8 == 1) (do
      let x17_11 ← ldI .i64 ((x2_2).add 1)
      let x18_12 ← num_Text x17_11
      M.pure x18_12
      ) (do
      M.ite (x13_8 == 2) (do
        let x22_15 ← ldS ((x2_2).add 2)
        let x23_16 ← value_quote x22_15
        M.pure x23_16
        ) (do
        M.ite (x13_8 == 3) (do
          let x27_20 ← ldI .i64 ((x2_2).add 1)
          M.ite (x27_20 == 1) (do
            M.pure (⟨#[116, 114, 117, 101]⟩ : ByteArray)
            ) (do
            M.pure (⟨#[102, 97, 108, 115, 101]⟩ : ByteArray)
            )
          ) (do
          M.ite (x13_8 == 6) (do
            let x32_25 ← ldI .i64 ((x2_2).add 1)
            let x33_26 ← num_Text x32_25
            let x34_27 ← sCat (⟨#[118, 91]⟩ : ByteArray) x33_26
            let x35_28 ← sCat x34_27 (⟨#[93]⟩ : ByteArray)
            M.pure x35_28
            ) (do
            M.ite (x13_8 == 7) (do
              let x39_31 ← ldI .i64 ((x2_2).add 1)
              let x40_32 ← num_Text x39_31
              let x41_33 ← sCat (⟨#[101, 91]⟩ : ByteArray) x40_32
              let x42_34 ← sCat x41_33 (⟨#[93]⟩ : ByteArray)
              M.pure x42_34
              ) (do
              M.ite (x13_8 == 4) (do
                value_text_j1 x1 x2_2 (x13_8 == 4)
                ) (do
                value_text_j1 x1 x2_2 (x13_8 == 5)
                )
              )
            )
          )
        )
      )
    )
theorem S_value_text (x0 : Array Value) (x1 : Int) : Sound Go.Proofs.Tryd.prog 45 #[.agg x0, .int .i64 x1] (fun (r : ByteArray) => .string r) (value_text x0 x1) := by
  refine sound_of [(0, .agg x0), (1, .int .i64 x1)] Go.Proofs.Tryd.func45 rfl rfl (Nat.le_of_ble_eq_true rfl) (args_of ⟨rfl, rfl, trivial⟩) (fun w0 w Q R a hret hE hR H => ?_)
  unfold value_text at H
  refine w_seq (fun K hK_1 => ?_)
  refine t_region ?_
  obtain ⟨x2_2, qx2_2, H⟩ := H
  refine t_valh (v := .pointer (some x2_2)) rfl rfl hE rfl hR (r_box hE rfl qx2_2) (fun a w hE hR hh => ?_)
  replace H := M.at hh H; clear hh
  refine t_val (v := .string ByteArray.empty) rfl rfl hE rfl (r_assign hE rfl) (fun a hE => ?_)
  refine t_nil ?_
  refine hK_1 _ _ ?_
  refine w_seq (fun K hK_3 => ?_)
  refine w_seq (fun K hK_4 => ?_)
  refine t_region ?_
  refine t_val (v := .int .i64 x1) rfl rfl hE rfl (r_move hE rfl) (fun a hE => ?_)
  refine t_val (v := .bool (decide (x1 > 8))) rfl rfl hE rfl (r_bin hE rfl rfl g_int b_gtr) (fun a hE => ?_)
  refine t_nil ?_
  refine hK_4 _ _ ?_
  refine w_cond (decide (x1 > 8)) hE rfl (fun hb => ?_) (fun hb => ?_)
  · replace H := M.ite_t hb H
    refine w_seq (fun K hK_5 => ?_)
    refine t_region ?_
    refine t_val (v := .string (⟨#[63]⟩ : ByteArray)) rfl rfl hE rfl (r_assign hE rfl) (fun a hE => ?_)
    refine t_nil ?_
    refine hK_5 _ _ ?_
    refine w_ret ?_
    exact hret _ _ _ (⟨#[63]⟩ : ByteArray) _ hE hR (res_run hE rfl (RV.tmp rfl RV.nil)) rfl H
  · replace H := M.ite_f hb H
    refine w_skip ?_
    refine hK_3 _ _ ?_
    refine w_seq (fun K hK_6 => ?_)
    refine w_seq (fun K hK_7 => ?_)
    refine t_region ?_
    refine t_val (v := .pointer (some ((x2_2).add 0))) rfl rfl hE rfl (r_fieldAddr hE rfl fd42_0) (fun a hE => ?_)
    obtain ⟨x13_8, qx13_8, H⟩ := H
    refine t_val (v := .int .i64 x13_8) rfl rfl hE rfl (r_load hE rfl sc3 qx13_8) (fun a hE => ?_)
    refine t_nil ?_
    refine hK_7 _ _ ?_
    refine w_block ?_
    refine w_seq (fun K hK_9 => ?_)
    refine t_region ?_
    refine t_val (v := .bool (x13_8 == 1)) rfl rfl hE rfl (r_bin hE rfl rfl g_int b_eql) (fun a hE => ?_)
    refine t_val (v := .bool (x13_8 == 1)) rfl rfl hE rfl (r_assign hE rfl) (fun a hE => ?_)
    refine t_nil ?_
    refine hK_9 _ _ ?_
    refine w_cond (x13_8 == 1) hE rfl (fun hb => ?_) (fun hb => ?_)
    · replace H := M.ite_t hb H
      refine w_seq (fun K hK_10 => ?_)
      refine t_region ?_
      refine t_val (v := .pointer (some ((x2_2).add 1))) rfl rfl hE rfl (r_fieldAddr hE rfl fd42_1) (fun a hE => ?_)
      obtain ⟨x17_11, qx17_11, H⟩ := H
      refine t_val (v := .int .i64 x17_11) rfl rfl hE rfl (r_load hE rfl sc2 qx17_11) (fun a hE => ?_)
      refine t_call hE hR cl_num_Text rfl (S_num_Text x17_11) (M.unbind H) (fun x18_12 a w ea hR H => ?_)
      have hE := Env.put_some hE rfl ea; clear ea
      refine t_val (v := .string x18_12) rfl rfl hE rfl (r_assign hE rfl) (fun a hE => ?_)
      refine t_nil ?_
      refine hK_10 _ _ ?_
      refine w_ret ?_
      exact hret _ _ _ x18_12 _ hE hR (res_run hE rfl (RV.tmp rfl RV.nil)) rfl H
    · replace H := M.ite_f hb H
      refine w_seq (fun K hK_13 => ?_)
      refine t_region ?_
      refine t_val (v := .bool (x13_8 == 2)) rfl rfl hE rfl (r_bin hE rfl rfl g_int b_eql) (fun a hE => ?_)
      refine t_val (v := .bool (x13_8 == 2)) rfl rfl hE rfl (r_assign hE rfl) (fun a hE => ?_)
      refine t_nil ?_
      refine hK_13 _ _ ?_
      refine w_cond (x13_8 == 2) hE rfl (fun hb => ?_) (fun hb => ?_)
      · replace H := M.ite_t hb H
        refine w_seq (fun K hK_14 => ?_)
        refine t_region ?_
        refine t_val (v := .pointer (some ((x2_2).add 2))) rfl rfl hE rfl (r_fieldAddr hE rfl fd42_2) (fun a hE => ?_)
        obtain ⟨x22_15, qx22_15, H⟩ := H
        refine t_val (v := .string x22_15) rfl rfl hE rfl (r_load hE rfl sc9 qx22_15) (fun a hE => ?_)
        refine t_call hE hR cl_value_quote rfl (S_value_quote x22_15) (M.unbind H) (fun x23_16 a w ea hR H => ?_)
        have hE := Env.put_some hE rfl ea; clear ea
        refine t_val (v := .string x23_16) rfl rfl hE rfl (r_assign hE rfl) (fun a hE => ?_)
        refine t_nil ?_
        refine hK_14 _ _ ?_
        refine w_ret ?_
        exact hret _ _ _ x23_16 _ hE hR (res_run hE rfl (RV.tmp rfl RV.nil)) rfl H
      · replace H := M.ite_f hb H
        refine w_seq (fun K hK_17 => ?_)
        refine t_region ?_
        refine t_val (v := .bool (x13_8 == 3)) rfl rfl hE rfl (r_bin hE rfl rfl g_int b_eql) (fun a hE => ?_)
        refine t_val (v := .bool (x13_8 == 3)) rfl rfl hE rfl (r_assign hE rfl) (fun a hE => ?_)
        refine t_nil ?_
        refine hK_17 _ _ ?_
        refine w_cond (x13_8 == 3) hE rfl (fun hb => ?_) (fun hb => ?_)
        · replace H := M.ite_t hb H
          refine w_seq (fun K hK_18 => ?_)
          refine w_seq (fun K hK_19 => ?_)
          refine t_region ?_
          refine t_val (v := .pointer (some ((x2_2).add 1))) rfl rfl hE rfl (r_fieldAddr hE rfl fd42_1) (fun a hE => ?_)
          obtain ⟨x27_20, qx27_20, H⟩ := H
          refine t_val (v := .int .i64 x27_20) rfl rfl hE rfl (r_load hE rfl sc2 qx27_20) (fun a hE => ?_)
          refine t_val (v := .bool (x27_20 == 1)) rfl rfl hE rfl (r_bin hE rfl rfl g_int b_eql) (fun a hE => ?_)
          refine t_nil ?_
          refine hK_19 _ _ ?_
          refine w_cond (x27_20 == 1) hE rfl (fun hb => ?_) (fun hb => ?_)
          · replace H := M.ite_t hb H
            refine w_seq (fun K hK_21 => ?_)
            refine t_region ?_
            refine t_val (v := .string (⟨#[116, 114, 117, 101]⟩ : ByteArray)) rfl rfl hE rfl (r_assign hE rfl) (fun a hE => ?_)
            refine t_nil ?_
            refine hK_21 _ _ ?_
            refine w_ret ?_
            exact hret _ _ _ (⟨#[116, 114, 117, 101]⟩ : ByteArray) _ hE hR (res_run hE rfl (RV.tmp rfl RV.nil)) rfl H
          · replace H := M.ite_f hb H
            refine w_skip ?_
            refine hK_18 _ _ ?_
            refine w_seq (fun K hK_22 => ?_)
            refine t_region ?_
            refine t_val (v := .string (⟨#[102, 97, 108, 115, 101]⟩ : ByteArray)) rfl rfl hE rfl (r_assign hE rfl) (fun a hE => ?_)
            refine t_nil ?_
            refine hK_22 _ _ ?_
            refine w_ret ?_
            exact hret _ _ _ (⟨#[102, 97, 108, 115, 101]⟩ : ByteArray) _ hE hR (res_run hE rfl (RV.tmp rfl RV.nil)) rfl H
        · replace H := M.ite_f hb H
          refine w_seq (fun K hK_23 => ?_)
          refine t_region ?_
          refine t_val (v := .bool (x13_8 == 6)) rfl rfl hE rfl (r_bin hE rfl rfl g_int b_eql) (fun a hE => ?_)
          refine t_val (v := .bool (x13_8 == 6)) rfl rfl hE rfl (r_assign hE rfl) (fun a hE => ?_)
          refine t_nil ?_
          refine hK_23 _ _ ?_
          refine w_cond (x13_8 == 6) hE rfl (fun hb => ?_) (fun hb => ?_)
          · replace H := M.ite_t hb H
            refine w_seq (fun K hK_24 => ?_)
            refine t_region ?_
            refine t_val (v := .pointer (some ((x2_2).add 1))) rfl rfl hE rfl (r_fieldAddr hE rfl fd42_1) (fun a hE => ?_)
            obtain ⟨x32_25, qx32_25, H⟩ := H
            refine t_val (v := .int .i64 x32_25) rfl rfl hE rfl (r_load hE rfl sc2 qx32_25) (fun a hE => ?_)
            refine t_call hE hR cl_num_Text rfl (S_num_Text x32_25) (M.unbind H) (fun x33_26 a w ea hR H => ?_)
            have hE := Env.put_some hE rfl ea; clear ea
            obtain ⟨x34_27, qx34_27, H⟩ := H
            refine t_val (v := .string x34_27) rfl rfl hE rfl (r_bin hE rfl rfl g_str (b_addS qx34_27)) (fun a hE => ?_)
            obtain ⟨x35_28, qx35_28, H⟩ := H
            refine t_val (v := .string x35_28) rfl rfl hE rfl (r_bin hE rfl rfl g_str (b_addS qx35_28)) (fun a hE => ?_)
            refine t_val (v := .string x35_28) rfl rfl hE rfl (r_assign hE rfl) (fun a hE => ?_)
            refine t_nil ?_
            refine hK_24 _ _ ?_
            refine w_ret ?_
            exact hret _ _ _ x35_28 _ hE hR (res_run hE rfl (RV.tmp rfl RV.nil)) rfl H
          · replace H := M.ite_f hb H
            refine w_seq (fun K hK_29 => ?_)
            refine t_region ?_
            refine t_val (v := .bool (x13_8 == 7)) rfl rfl hE rfl (r_bin hE rfl rfl g_int b_eql) (fun a hE => ?_)
            refine t_val (v := .bool (x13_8 == 7)) rfl rfl hE rfl (r_assign hE rfl) (fun a hE => ?_)
            refine t_nil ?_
            refine hK_29 _ _ ?_
            refine w_cond (x13_8 == 7) hE rfl (fun hb => ?_) (fun hb => ?_)
            · replace H := M.ite_t hb H
              refine w_seq (fun K hK_30 => ?_)
              refine t_region ?_
              refine t_val (v := .pointer (some ((x2_2).add 1))) rfl rfl hE rfl (r_fieldAddr hE rfl fd42_1) (fun a hE => ?_)
              obtain ⟨x39_31, qx39_31, H⟩ := H
              refine t_val (v := .int .i64 x39_31) rfl rfl hE rfl (r_load hE rfl sc2 qx39_31) (fun a hE => ?_)
              refine t_call hE hR cl_num_Text rfl (S_num_Text x39_31) (M.unbind H) (fun x40_32 a w ea hR H => ?_)
              have hE := Env.put_some hE rfl ea; clear ea
              obtain ⟨x41_33, qx41_33, H⟩ := H
              refine t_val (v := .string x41_33) rfl rfl hE rfl (r_bin hE rfl rfl g_str (b_addS qx41_33)) (fun a hE => ?_)
              obtain ⟨x42_34, qx42_34, H⟩ := H
              refine t_val (v := .string x42_34) rfl rfl hE rfl (r_bin hE rfl rfl g_str (b_addS qx42_34)) (fun a hE => ?_)
              refine t_val (v := .string x42_34) rfl rfl hE rfl (r_assign hE rfl) (fun a hE => ?_)
              refine t_nil ?_
              refine hK_30 _ _ ?_
              refine w_ret ?_
              exact hret _ _ _ x42_34 _ hE hR (res_run hE rfl (RV.tmp rfl RV.nil)) rfl H
            · replace H := M.ite_f hb H
              refine w_seq_join (fun a w => ∃ (x43_35 : Bool), Env (⟨92, []⟩ : Frm) a [(1, .int .i64 x1), (2, .pointer (some x2_2)), (43, .bool x43_35)] ∧ Rest w0 w ∧ (value_text_j1 x1 x2_2 x43_35).wp w.heap Q) ?_ ?_
              · rintro a w ⟨x43_35, hE, hR, H⟩
                unfold value_text_j1 at H
                refine w_cond x43_35 hE rfl (fun hb => ?_) (fun hb => ?_)
                · replace H := M.ite_t hb H
                  refine w_skip ?_
                  refine hK_6 _ _ ?_
                  refine w_seq (fun K hK_38 => ?_)
                  refine t_region ?_
                  refine t_val (v := (Sl.nil : Sl).v) rfl rfl hE rfl (r_assign hE rfl) (fun a hE => ?_)
                  refine t_nil ?_
                  refine hK_38 _ _ ?_
                  refine w_seq (fun K hK_39 => ?_)
                  refine w_seq (fun K hK_40 => ?_)
                  refine t_region ?_
                  refine t_val (v := .pointer (some ((x2_2).add 3))) rfl rfl hE rfl (r_fieldAddr hE rfl fd42_3) (fun a hE => ?_)
                  obtain ⟨x47_41, qx47_41, H⟩ := H
                  refine t_val (v := (x47_41 : Sl).v) rfl rfl hE rfl (r_load hE rfl sc22 qx47_41) (fun a hE => ?_)
                  refine t_val (v := .int .i64 (x47_41.len : Int)) rfl rfl hE rfl (r_len hE rfl 42 un22) (fun a hE => ?_)
                  refine t_val (v := .int .i64 0) rfl rfl hE rfl (r_move hE rfl) (fun a hE => ?_)
                  refine t_nil ?_
                  refine hK_40 _ _ ?_
                  refine w_block ?_
                  refine l_loop (fun (s : Sl × Int) => (⟨92, []⟩ : Frm)) (fun (s : Sl × Int) => [(1, .int .i64 x1), (2, .pointer (some x2_2)), (5, (s.1 : Sl).v), (47, (x47_41 : Sl).v), (48, .int .i64 (x47_41.len : Int)), (49, .int .i64 s.2)]) H (hE.cut (.cons rfl (.cons rfl (.cons rfl (.cons rfl (.cons rfl (.cons rfl Subs.nil))))))) hR (fun Y self1 hY_48 s a w hE hR H => ?_)
                  rcases s with ⟨x5_42, x49_43⟩
                  replace hE : Env (⟨92, []⟩ : Frm) a [(1, .int .i64 x1), (2, .pointer (some x2_2)), (5, (x5_42 : Sl).v), (47, (x47_41 : Sl).v), (48, .int .i64 (x47_41.len : Int)), (49, .int .i64 x49_43)] := hE
                  replace H : (value_text_l1 x1 x2_2 x47_41 (x47_41.len : Int) self1 (x5_42, x49_43)).wp w.heap Q := H
                  unfold value_text_l1 at H
                  refine w_seq (fun K hK_49 => ?_)
                  refine t_region ?_
                  refine t_val (v := .bool (decide (x49_43 < (x47_41.len : Int)))) rfl rfl hE rfl (r_bin hE rfl rfl g_int b_lss) (fun a hE => ?_)
                  refine t_nil ?_
                  refine hK_49 _ _ ?_
                  refine w_seq (fun K hK_50 => ?_)
                  refine w_cond (decide (x49_43 < (x47_41.len : Int))) hE rfl (fun hb => ?_) (fun hb => ?_)
                  · replace H := M.ite_t hb H
                    refine w_skip ?_
                    refine hK_50 _ _ ?_
                    refine w_seq_join (fun a w => ∃ (x5_51 : Sl), Env (⟨92, []⟩ : Frm) a [(1, .int .i64 x1), (2, .pointer (some x2_2)), (47, (x47_41 : Sl).v), (48, .int .i64 (x47_41.len : Int)), (49, .int .i64 x49_43), (5, (x5_51 : Sl).v)] ∧ Rest w0 w ∧ (value_text_j2 self1 x49_43 x5_51).wp w.heap Q) ?_ ?_
                    · rintro a w ⟨x5_51, hE, hR, H⟩
                      unfold value_text_j2 at H
                      refine t_region ?_
                      refine t_val (v := .int .i64 (IntKind.wrap .i64 (x49_43 + 1))) rfl rfl hE rfl (r_bin hE rfl rfl g_int b_add) (fun a hE => ?_)
                      refine t_val (v := .int .i64 (IntKind.wrap .i64 (x49_43 + 1))) rfl rfl hE rfl (r_move hE rfl) (fun a hE => ?_)
                      refine t_nil ?_
                      exact hY_48 (x5_51, IntKind.wrap .i64 (x49_43 + 1)) _ _ (hE.cut (.cons rfl (.cons rfl (.cons rfl (.cons rfl (.cons rfl (.cons rfl Subs.nil))))))) hR H
                    · skip
                      refine w_block ?_
                      refine w_seq (fun K hK_57 => ?_)
                      refine t_region ?_
                      refine t_val (v := .int .i64 x49_43) rfl rfl hE rfl (r_move hE rfl) (fun a hE => ?_)
                      obtain ⟨x52_58, qx52_58, H⟩ := H
                      refine t_val (v := .pointer (some x52_58)) rfl rfl hE rfl (r_indexAddrL hE rfl rfl un22 sz42 qx52_58) (fun a hE => ?_)
                      obtain ⟨x53_59, qx53_59, H⟩ := H
                      refine t_val (v := .agg x53_59) rfl rfl hE rfl (r_loadG hE rfl ag42 qx53_59) (fun a hE => ?_)
                      obtain ⟨x7_60, qx7_60, H⟩ := H
                      refine t_valh (v := .pointer (some x7_60)) rfl rfl hE rfl hR (r_alloc zr42 qx7_60) (fun a w hE hR hh => ?_)
                      replace H := M.at hh H; clear hh
                      refine t_val (v := .int .i64 x49_43) rfl rfl hE rfl (r_assign hE rfl) (fun a hE => ?_)
                      obtain ⟨qz, H⟩ := H
                      obtain ⟨u_61, qu_61, H⟩ := H
                      refine t_sth rfl rfl hE hR (r_storeG hE rfl rfl sz42 qz qu_61) (fun a w hE hR hh => ?_)
                      replace H := M.at hh H; clear hh
                      refine t_nil ?_
                      refine hK_57 _ _ ?_
                      refine w_seq (fun K hK_62 => ?_)
                      refine t_region ?_
                      obtain ⟨x54_63, qx54_63, H⟩ := H
                      refine t_val (v := .agg x54_63) rfl rfl hE rfl (r_loadG hE rfl ag42 qx54_63) (fun a hE => ?_)
                      refine t_val (v := .int .i64 x1) rfl rfl hE rfl (r_move hE rfl) (fun a hE => ?_)
                      refine t_val (v := .int .i64 (IntKind.wrap .i64 (x1 + 1))) rfl rfl hE rfl (r_bin hE rfl rfl g_int b_add) (fun a hE => ?_)
                      refine t_call hE hR cl_value_text rfl (sound_callF) (M.unbind H) (fun x57_64 a w ea hR H => ?_)
                      have hE := Env.put_some hE rfl ea; clear ea
                      refine t_val (v := .string x57_64) rfl rfl hE rfl (r_assign hE rfl) (fun a hE => ?_)
                      refine t_nil ?_
                      refine hK_62 _ _ ?_
                      refine w_seq (fun K hK_65 => ?_)
                      refine t_region ?_
                      refine t_val (v := .pointer (some ((x2_2).add 0))) rfl rfl hE rfl (r_fieldAddr hE rfl fd42_0) (fun a hE => ?_)
                      obtain ⟨x59_66, qx59_66, H⟩ := H
                      refine t_val (v := .int .i64 x59_66) rfl rfl hE rfl (r_load hE rfl sc3 qx59_66) (fun a hE => ?_)
                      refine t_val (v := .bool (x59_66 == 5)) rfl rfl hE rfl (r_bin hE rfl rfl g_int b_eql) (fun a hE => ?_)
                      refine t_val (v := .bool (x59_66 == 5)) rfl rfl hE rfl (r_move hE rfl) (fun a hE => ?_)
                      refine t_grp (n := (⟨92, []⟩ : Frm)) (w0 := w0) 4 (fun x65_67 : Bool => [(1, .int .i64 x1), (2, .pointer (some x2_2)), (47, (x47_41 : Sl).v), (48, .int .i64 (x47_41.len : Int)), (5, (x5_42 : Sl).v), (49, .int .i64 x49_43), (8, .string x57_64), (65, .bool x65_67)]) (M.unbind H) (fun Kr hKr H => ?_) ?_
                      · rcases bool_em (x59_66 == 5) with hb | hb
                        · replace H := M.ite_t hb H
                          have hE := hE.reb 61 (x59_66 == 5) true hb rfl
                          refine t_on rfl hE rfl rfl rfl ?_
                          refine t_val (v := .int .i64 x49_43) rfl rfl hE rfl (r_move hE rfl) (fun a hE => ?_)
                          refine t_on rfl hE rfl rfl rfl ?_
                          refine t_val (v := .int .i64 (Int.tmod x49_43 2)) rfl rfl hE rfl (r_bin hE rfl rfl g_int (b_rem ⟨by decide, rfl⟩)) (fun a hE => ?_)
                          refine t_on rfl hE rfl rfl rfl ?_
                          refine t_val (v := .bool ((Int.tmod x49_43 2) == 1)) rfl rfl hE rfl (r_bin hE rfl rfl g_int b_eql) (fun a hE => ?_)
                          refine t_val rfl rfl hE rfl (r_pick_t hE rfl rfl) (fun a hE => ?_)
                          refine t_nil ?_
                          exact hKr _ _ _ (hE.cut (.cons rfl (.cons rfl (.cons rfl (.cons rfl (.cons rfl (.cons rfl (.cons rfl (.cons rfl Subs.nil))))))))) hR H
                        · replace H := M.ite_f hb H
                          have hE := hE.reb 61 (x59_66 == 5) false hb rfl
                          refine t_off rfl hE rfl rfl rfl (fun a ea => ?_)
                          have hE := Env.put_some hE rfl ea; clear ea
                          refine t_off rfl hE rfl rfl rfl (fun a ea => ?_)
                          have hE := Env.put_some hE rfl ea; clear ea
                          refine t_off rfl hE rfl rfl rfl (fun a ea => ?_)
                          have hE := Env.put_some hE rfl ea; clear ea
                          refine t_val rfl rfl hE rfl (r_pick_f hE rfl rfl) (fun a hE => ?_)
                          refine t_nil ?_
                          exact hKr _ _ _ (hE.cut (.cons rfl (.cons rfl (.cons rfl (.cons rfl (.cons rfl (.cons rfl (.cons rfl (.cons rfl Subs.nil))))))))) hR H
                      · intro x65_67 a w hE hR H
                        refine t_nil ?_
                        refine hK_65 _ _ ?_
                        refine w_cond x65_67 hE rfl (fun hb => ?_) (fun hb => ?_)
                        · replace H := M.ite_t hb H
                          refine t_region ?_
                          refine t_val (v := (x5_42 : Sl).v) rfl rfl hE rfl (r_move hE rfl) (fun a hE => ?_)
                          refine t_val (v := (x5_42 : Sl).v) rfl rfl hE rfl (r_move hE rfl) (fun a hE => ?_)
                          refine t_val (v := .int .i64 (x5_42.len : Int)) rfl rfl hE rfl (r_len hE rfl 9 un30) (fun a hE => ?_)
                          refine t_val (v := .int .i64 (IntKind.wrap .i64 ((x5_42.len : Int) - 1))) rfl rfl hE rfl (r_bin hE rfl rfl g_int b_sub) (fun a hE => ?_)
                          obtain ⟨x70_68, qx70_68, H⟩ := H
                          refine t_val (v := .pointer (some x70_68)) rfl rfl hE rfl (r_indexAddrL hE rfl rfl un30 sz9 qx70_68) (fun a hE => ?_)
                          obtain ⟨x71_69, qx71_69, H⟩ := H
                          refine t_val (v := .string x71_69) rfl rfl hE rfl (r_load hE rfl sc9 qx71_69) (fun a hE => ?_)
                          refine t_val (v := .string x57_64) rfl rfl hE rfl (r_move hE rfl) (fun a hE => ?_)
                          obtain ⟨x73_70, qx73_70, H⟩ := H
                          refine t_val (v := .string x73_70) rfl rfl hE rfl (r_bin hE rfl rfl g_str (b_addS qx73_70)) (fun a hE => ?_)
                          obtain ⟨x74_71, qx74_71, H⟩ := H
                          refine t_val (v := .string x74_71) rfl rfl hE rfl (r_bin hE rfl rfl g_str (b_addS qx74_71)) (fun a hE => ?_)
                          obtain ⟨x75_72, qx75_72, H⟩ := H
                          refine t_val (v := .pointer (some x75_72)) rfl rfl hE rfl (r_indexAddrL hE rfl rfl un30 sz9 qx75_72) (fun a hE => ?_)
                          obtain ⟨u_73, qu_73, H⟩ := H
                          refine t_sth rfl rfl hE hR (r_store hE rfl rfl sz9 qu_73) (fun a w hE hR hh => ?_)
                          replace H := M.at hh H; clear hh
                          refine t_nil ?_
                          exact ⟨x5_42, hE.cut (.cons rfl (.cons rfl (.cons rfl (.cons rfl (.cons rfl (.cons rfl Subs.nil)))))), hR, H⟩
                        · replace H := M.ite_f hb H
                          refine t_region ?_
                          refine t_val (v := (x5_42 : Sl).v) rfl rfl hE rfl (r_move hE rfl) (fun a hE => ?_)
                          refine t_val (v := .string x57_64) rfl rfl hE rfl (r_move hE rfl) (fun a hE => ?_)
                          obtain ⟨x78_74, qx78_74, H⟩ := H
                          refine t_valh (v := (x78_74 : Sl).v) rfl rfl hE rfl hR (r_buildL (cells := #[.string x57_64]) hE rfl un30 sz9 zr9 rfl rfl qx78_74) (fun a w hE hR hh => ?_)
                          replace H := M.at hh H; clear hh
                          refine t_ex (fun x79_75 => (x79_75 : Sl).v) rfl rfl hR (M.unbind H) (fun Q H => ap_run hE rfl rfl ap30 H) (fun x79_75 a w ea hR H => ?_)
                          have hE := Env.put_some hE rfl ea; clear ea
                          refine t_val (v := (x79_75 : Sl).v) rfl rfl hE rfl (r_assign hE rfl) (fun a hE => ?_)
                          refine t_nil ?_
                          exact ⟨x79_75, hE.cut (.cons rfl (.cons rfl (.cons rfl (.cons rfl (.cons rfl (.cons rfl Subs.nil)))))), hR, H⟩
                  · replace H := M.ite_f hb H
                    refine w_exit ?_
                    refine Xu.same ?_
                    refine hK_39 _ _ ?_
                    refine w_seq (fun K hK_76 => ?_)
                    refine t_region ?_
                    refine t_val (v := (x5_42 : Sl).v) rfl rfl hE rfl (r_move hE rfl) (fun a hE => ?_)
                    refine t_call hE hR cl_strings_Join rfl (S_strings_Join x5_42 (⟨#[44, 32]⟩ : ByteArray)) (M.unbind H) (fun x82_77 a w ea hR H => ?_)
                    have hE := Env.put_some hE rfl ea; clear ea
                    refine t_val (v := .string x82_77) rfl rfl hE rfl (r_assign hE rfl) (fun a hE => ?_)
                    refine t_nil ?_
                    refine hK_76 _ _ ?_
                    refine w_seq (fun K hK_78 => ?_)
                    refine w_seq (fun K hK_79 => ?_)
                    refine t_region ?_
                    refine t_val (v := .pointer (some ((x2_2).add 0))) rfl rfl hE rfl (r_fieldAddr hE rfl fd42_0) (fun a hE => ?_)
                    obtain ⟨x84_80, qx84_80, H⟩ := H
                    refine t_val (v := .int .i64 x84_80) rfl rfl hE rfl (r_load hE rfl sc3 qx84_80) (fun a hE => ?_)
                    refine t_val (v := .bool (x84_80 == 5)) rfl rfl hE rfl (r_bin hE rfl rfl g_int b_eql) (fun a hE => ?_)
                    refine t_nil ?_
                    refine hK_79 _ _ ?_
                    refine w_cond (x84_80 == 5) hE rfl (fun hb => ?_) (fun hb => ?_)
                    · replace H := M.ite_t hb H
                      refine w_seq (fun K hK_81 => ?_)
                      refine t_region ?_
                      refine t_val (v := .string x82_77) rfl rfl hE rfl (r_move hE rfl) (fun a hE => ?_)
                      obtain ⟨x87_82, qx87_82, H⟩ := H
                      refine t_val (v := .string x87_82) rfl rfl hE rfl (r_bin hE rfl rfl g_str (b_addS qx87_82)) (fun a hE => ?_)
                      obtain ⟨x88_83, qx88_83, H⟩ := H
                      refine t_val (v := .string x88_83) rfl rfl hE rfl (r_bin hE rfl rfl g_str (b_addS qx88_83)) (fun a hE => ?_)
                      refine t_val (v := .string x88_83) rfl rfl hE rfl (r_assign hE rfl) (fun a hE => ?_)
                      refine t_nil ?_
                      refine hK_81 _ _ ?_
                      refine w_ret ?_
                      exact hret _ _ _ x88_83 _ hE hR (res_run hE rfl (RV.tmp rfl RV.nil)) rfl H
                    · replace H := M.ite_f hb H
                      refine w_skip ?_
                      refine hK_78 _ _ ?_
                      refine w_seq (fun K hK_84 => ?_)
                      refine t_region ?_
                      refine t_val (v := .string x82_77) rfl rfl hE rfl (r_move hE rfl) (fun a hE => ?_)
                      obtain ⟨x90_85, qx90_85, H⟩ := H
                      refine t_val (v := .string x90_85) rfl rfl hE rfl (r_bin hE rfl rfl g_str (b_addS qx90_85)) (fun a hE => ?_)
                      obtain ⟨x91_86, qx91_86, H⟩ := H
                      refine t_val (v := .string x91_86) rfl rfl hE rfl (r_bin hE rfl rfl g_str (b_addS qx91_86)) (fun a hE => ?_)
                      refine t_val (v := .string x91_86) rfl rfl hE rfl (r_assign hE rfl) (fun a hE => ?_)
                      refine t_nil ?_
                      refine hK_84 _ _ ?_
                      refine w_ret ?_
                      exact hret _ _ _ x91_86 _ hE hR (res_run hE rfl (RV.tmp rfl RV.nil)) rfl H
                · replace H := M.ite_f hb H
                  refine w_seq (fun K hK_87 => ?_)
                  refine t_region ?_
                  refine t_val (v := .string (⟨#[63]⟩ : ByteArray)) rfl rfl hE rfl (r_assign hE rfl) (fun a hE => ?_)
                  refine t_nil ?_
                  refine hK_87 _ _ ?_
                  refine w_ret ?_
                  exact hret _ _ _ (⟨#[63]⟩ : ByteArray) _ hE hR (res_run hE rfl (RV.tmp rfl RV.nil)) rfl H
              · skip
                refine w_seq (fun K hK_88 => ?_)
                refine t_region ?_
                refine t_val (v := .bool (x13_8 == 4)) rfl rfl hE rfl (r_bin hE rfl rfl g_int b_eql) (fun a hE => ?_)
                refine t_val (v := .bool (x13_8 == 4)) rfl rfl hE rfl (r_assign hE rfl) (fun a hE => ?_)
                refine t_nil ?_
                refine hK_88 _ _ ?_
                refine w_cond (x13_8 == 4) hE rfl (fun hb => ?_) (fun hb => ?_)
                · replace H := M.ite_t hb H
                  refine w_skip ?_
                  exact ⟨x13_8 == 4, hE.cut (.cons rfl (.cons rfl (.cons rfl Subs.nil))), hR, H⟩
                · replace H := M.ite_f hb H
                  refine t_region ?_
                  refine t_val (v := .bool (x13_8 == 5)) rfl rfl hE rfl (r_bin hE rfl rfl g_int b_eql) (fun a hE => ?_)
                  refine t_val (v := .bool (x13_8 == 5)) rfl rfl hE rfl (r_assign hE rfl) (fun a hE => ?_)
                  refine t_nil ?_
                  exact ⟨x13_8 == 5, hE.cut (.cons rfl (.cons rfl (.cons rfl Subs.nil))), hR, H⟩

/-- ramble/value.Text -/
def value_Text (x0 : Array Value) : M (ByteArray) := do
  let x1_2 ← mkB ty_api_Value x0
  let x3_4 ← ldG 4 x1_2
  let x4_5 ← value_text x3_4 1
  M.pure x4_5
theorem S_value_Text (x0 : Array Value) : Sound Go.Proofs.Tryd.prog 22 #[.agg x0] (fun (r : ByteArray) => .string r) (value_Text x0) := by
  refine sound_of [(0, .agg x0)] Go.Proofs.Tryd.func22 rfl rfl (Nat.le_of_ble_eq_true rfl) (args_of ⟨rfl, trivial⟩) (fun w0 w Q R a hret hE hR H => ?_)
  unfold value_Text at H
  refine w_seq (fun K hK_1 => ?_)
  refine t_region ?_
  obtain ⟨x1_2, qx1_2, H⟩ := H
  refine t_valh (v := .pointer (some x1_2)) rfl rfl hE rfl hR (r_box hE rfl qx1_2) (fun a w hE hR hh => ?_)
  replace H := M.at hh H; clear hh
  refine t_val (v := .string ByteArray.empty) rfl rfl hE rfl (r_assign hE rfl) (fun a hE => ?_)
  refine t_nil ?_
  refine hK_1 _ _ ?_
  refine w_seq (fun K hK_3 => ?_)
  refine t_region ?_
  obtain ⟨x3_4, qx3_4, H⟩ := H
  refine t_val (v := .agg x3_4) rfl rfl hE rfl (r_loadG hE rfl ag42 qx3_4) (fun a hE => ?_)
  refine t_call hE hR cl_value_text rfl (S_value_text x3_4 1) (M.unbind H) (fun x4_5 a w ea hR H => ?_)
  have hE := Env.put_some hE rfl ea; clear ea
  refine t_val (v := .string x4_5) rfl rfl hE rfl (r_assign hE rfl) (fun a hE => ?_)
  refine t_nil ?_
  refine hK_3 _ _ ?_
  refine w_ret ?_
  exact hret _ _ _ x4_5 _ hE hR (res_run hE rfl (RV.tmp rfl RV.nil)) rfl H

/-- ramble/result.List -/
def result_List_l1 (c5_12 : Addr) (c13_13 : Sl) (c14_14 : Int) (self1 : (Int) → M (ByteArray × Int)) : (Int) → M (ByteArray × Int) := fun s => match s with
  | x15_11 => do
    M.ite (decide (x15_11 < c14_14)) (do
      let x17_20 ← ixL c13_13 x15_11 4
      let x18_21 ← ldG 4 x17_20
      let x7_22 ← mkB ty_api_Value (#[.int .i64 0, .int .i64 0, .string ByteArray.empty, .slice none 0 0] : Array Value)
      M.need (x18_21.size = 4)
      stG x7_22 x18_21
      let x19_25 ← ldG 4 x7_22
      let x20_26 ← value_Text x19_25
      let x21_27 ← strings_Builder_WriteString (some c5_12) x20_26
      let x22_28 ← strings_Builder_WriteByte (some c5_12) 10
      self1 (IntKind.wrap .i64 (x15_11 + 1))
      ) (do
      let x24_30 ← strings_Builder_String (some c5_12)
      M.pure (x24_30, 0)
      )
def result_List (x0 : Sl) : M (ByteArray × Int) := do
  let x9_4 ← result_first x0
  M.ite (x9_4 != 0) (do
    M.pure (ByteArray.empty, x9_4)
    ) (do
    let x5_8 ← mkB ty_strings_Builder (#[.pointer none, .slice none 0 0] : Array Value)
    M.loop (result_List_l1 x5_8 x0 (x0.len : Int)) 0
    )
theorem S_result_List (x0 : Sl) : Sound Go.Proofs.Tryd.prog 32 #[(x0 : Sl).v] (fun (r : ByteArray × Int) => .tuple #[.string r.1, .int .i64 r.2]) (result_List x0) := by
  refine sound_of [(0, (x0 : Sl).v)] Go.Proofs.Tryd.func32 rfl rfl (Nat.le_of_ble_eq_true rfl) (args_of ⟨rfl, trivial⟩) (fun w0 w Q R a hret hE hR H => ?_)
  unfold result_List at H
  refine w_seq (fun K hK_1 => ?_)
  refine t_region ?_
  refine t_val (v := .string ByteArray.empty) rfl rfl hE rfl (r_assign hE rfl) (fun a hE => ?_)
  refine t_val (v := .int .i64 0) rfl rfl hE rfl (r_assign hE rfl) (fun a hE => ?_)
  refine t_nil ?_
  refine hK_1 _ _ ?_
  refine w_seq (fun K hK_2 => ?_)
  refine w_seq (fun K hK_3 => ?_)
  refine t_region ?_
  refine t_val (v := (x0 : Sl).v) rfl rfl hE rfl (r_move hE rfl) (fun a hE => ?_)
  refine t_call hE hR cl_result_first rfl (S_result_first x0) (M.unbind H) (fun x9_4 a w ea hR H => ?_)
  have hE := Env.put_some hE rfl ea; clear ea
  refine t_val (v := .int .i64 x9_4) rfl rfl hE rfl (r_assign hE rfl) (fun a hE => ?_)
  refine t_nil ?_
  refine hK_3 _ _ ?_
  refine w_seq (fun K hK_5 => ?_)
  refine t_region ?_
  refine t_val (v := .int .i64 x9_4) rfl rfl hE rfl (r_move hE rfl) (fun a hE => ?_)
  refine t_val (v := .bool (x9_4 != 0)) rfl rfl hE rfl (r_bin hE rfl rfl g_int b_neq) (fun a hE => ?_)
  refine t_nil ?_
  refine hK_5 _ _ ?_
  refine w_cond (x9_4 != 0) hE rfl (fun hb => ?_) (fun hb => ?_)
  · replace H := M.ite_t hb H
    refine w_seq (fun K hK_6 => ?_)
    refine t_region ?_
    refine t_val (v := .int .i64 x9_4) rfl rfl hE rfl (r_move hE rfl) (fun a hE => ?_)
    refine t_val (v := .string ByteArray.empty) rfl rfl hE rfl (r_assign hE rfl) (fun a hE => ?_)
    refine t_val (v := .int .i64 x9_4) rfl rfl hE rfl (r_assign hE rfl) (fun a hE => ?_)
    refine t_nil ?_
    refine hK_6 _ _ ?_
    refine w_ret ?_
    exact hret _ _ _ (ByteArray.empty, x9_4) _ hE hR (res_run hE rfl (RV.tmp rfl (RV.tmp rfl RV.nil))) rfl H
  · replace H := M.ite_f hb H
    refine w_skip ?_
    refine hK_2 _ _ ?_
    refine w_seq (fun K hK_7 => ?_)
    refine t_region ?_
    obtain ⟨x5_8, qx5_8, H⟩ := H
    refine t_valh (v := .pointer (some x5_8)) rfl rfl hE rfl hR (r_alloc zr53 qx5_8) (fun a w hE hR hh => ?_)
    replace H := M.at hh H; clear hh
    refine t_nil ?_
    refine hK_7 _ _ ?_
    refine w_seq (fun K hK_9 => ?_)
    refine w_seq (fun K hK_10 => ?_)
    refine t_region ?_
    refine t_val (v := (x0 : Sl).v) rfl rfl hE rfl (r_move hE rfl) (fun a hE => ?_)
    refine t_val (v := .int .i64 (x0.len : Int)) rfl rfl hE rfl (r_len hE rfl 42 un22) (fun a hE => ?_)
    refine t_val (v := .int .i64 0) rfl rfl hE rfl (r_move hE rfl) (fun a hE => ?_)
    refine t_nil ?_
    refine hK_10 _ _ ?_
    refine w_block ?_
    refine l_loop (fun (s : Int) => (⟨25, []⟩ : Frm)) (fun (s : Int) => [(5, .pointer (some x5_8)), (13, (x0 : Sl).v), (14, .int .i64 (x0.len : Int)), (15, .int .i64 s)]) H (hE.cut (.cons rfl (.cons rfl (.cons rfl (.cons rfl Subs.nil))))) hR (fun Y self1 hY_15 x15_11 a w hE hR H => ?_)
    replace hE : Env (⟨25, []⟩ : Frm) a [(5, .pointer (some x5_8)), (13, (x0 : Sl).v), (14, .int .i64 (x0.len : Int)), (15, .int .i64 x15_11)] := hE
    replace H : (result_List_l1 x5_8 x0 (x0.len : Int) self1 x15_11).wp w.heap Q := H
    unfold result_List_l1 at H
    refine w_seq (fun K hK_16 => ?_)
    refine t_region ?_
    refine t_val (v := .bool (decide (x15_11 < (x0.len : Int)))) rfl rfl hE rfl (r_bin hE rfl rfl g_int b_lss) (fun a hE => ?_)
    refine t_nil ?_
    refine hK_16 _ _ ?_
    refine w_seq (fun K hK_17 => ?_)
    refine w_cond (decide (x15_11 < (x0.len : Int))) hE rfl (fun hb => ?_) (fun hb => ?_)
    · replace H := M.ite_t hb H
      refine w_skip ?_
      refine hK_17 _ _ ?_
      refine w_seq (fun K hK_18 => ?_)
      refine w_block ?_
      refine w_seq (fun K hK_19 => ?_)
      refine t_region ?_
      obtain ⟨x17_20, qx17_20, H⟩ := H
      refine t_val (v := .pointer (some x17_20)) rfl rfl hE rfl (r_indexAddrL hE rfl rfl un22 sz42 qx17_20) (fun a hE => ?_)
      obtain ⟨x18_21, qx18_21, H⟩ := H
      refine t_val (v := .agg x18_21) rfl rfl hE rfl (r_loadG hE rfl ag42 qx18_21) (fun a hE => ?_)
      obtain ⟨x7_22, qx7_22, H⟩ := H
      refine t_valh (v := .pointer (some x7_22)) rfl rfl hE rfl hR (r_alloc zr42 qx7_22) (fun a w hE hR hh => ?_)
      replace H := M.at hh H; clear hh
      obtain ⟨qz, H⟩ := H
      obtain ⟨u_23, qu_23, H⟩ := H
      refine t_sth rfl rfl hE hR (r_storeG hE rfl rfl sz42 qz qu_23) (fun a w hE hR hh => ?_)
      replace H := M.at hh H; clear hh
      refine t_nil ?_
      refine hK_19 _ _ ?_
      refine w_seq (fun K hK_24 => ?_)
      refine t_region ?_
      obtain ⟨x19_25, qx19_25, H⟩ := H
      refine t_val (v := .agg x19_25) rfl rfl hE rfl (r_loadG hE rfl ag42 qx19_25) (fun a hE => ?_)
      refine t_call hE hR cl_value_Text rfl (S_value_Text x19_25) (M.unbind H) (fun x20_26 a w ea hR H => ?_)
      have hE := Env.put_some hE rfl ea; clear ea
      refine t_call hE hR cl_strings_Builder_WriteString rfl (S_strings_Builder_WriteString (some x5_8) x20_26) (M.unbind H) (fun x21_27 a w ea hR H => ?_)
      have hE := Env.put_some hE rfl ea; clear ea
      refine t_nil ?_
      refine hK_24 _ _ ?_
      refine t_region ?_
      refine t_call hE hR cl_strings_Builder_WriteByte rfl (S_strings_Builder_WriteByte (some x5_8) 10) (M.unbind H) (fun x22_28 a w ea hR H => ?_)
      have hE := Env.put_some hE rfl ea; clear ea
      refine t_nil ?_
      refine hK_18 _ _ ?_
      refine t_region ?_
      refine t_val (v := .int .i64 (IntKind.wrap .i64 (x15_11 + 1))) rfl rfl hE rfl (r_bin hE rfl rfl g_int b_add) (fun a hE => ?_)
      refine t_val (v := .int .i64 (IntKind.wrap .i64 (x15_11 + 1))) rfl rfl hE rfl (r_move hE rfl) (fun a hE => ?_)
      refine t_nil ?_
      exact hY_15 (IntKind.wrap .i64 (x15_11 + 1)) _ _ (hE.cut (.cons rfl (.cons rfl (.cons rfl (.cons rfl Subs.nil))))) hR H
    · replace H := M.ite_f hb H
      refine w_exit ?_
      refine Xu.same ?_
      refine hK_9 _ _ ?_
      refine w_seq (fun K hK_29 => ?_)
      refine t_region ?_
      refine t_call hE hR cl_strings_Builder_String rfl (S_strings_Builder_String (some x5_8)) (M.unbind H) (fun x24_30 a w ea hR H => ?_)
      have hE := Env.put_some hE rfl ea; clear ea
      refine t_val (v := .string x24_30) rfl rfl hE rfl (r_assign hE rfl) (fun a hE => ?_)
      refine t_val (v := .int .i64 0) rfl rfl hE rfl (r_assign hE rfl) (fun a hE => ?_)
      refine t_nil ?_
      refine hK_29 _ _ ?_
      refine w_ret ?_
      exact hret _ _ _ (x24_30, 0) _ hE hR (res_run hE rfl (RV.tmp rfl (RV.tmp rfl RV.nil))) rfl H

/-- ramble/ramblelaw23.begun -/
def ramblelaw23_begun  : M (Bool) := do
  let x7_3 ← rambleref02_Str (⟨#[120]⟩ : ByteArray)
  let x8_4 ← rambleref02_Int 1
  let y_6 ← fillL 4 2 (#[.int .i64 0, .int .i64 0, .string ByteArray.empty, .slice none 0 0] : Array Value) [(0, .agg x7_3), (1, .agg x8_4)]
  let x9_5 ← bdL ty_api_Value 2 y_6
  let x1_7 ← mkB ty_api_Value (#[.int .i64 0, .int .i64 0, .string ByteArray.empty, .slice none 0 0] : Array Value)
  M.need ((#[.int .i64 5, .int .i64 0, .string ByteArray.empty, (x9_5 : Sl).v] : Array Value).size = 4)
  stG x1_7 (#[.int .i64 5, .int .i64 0, .string ByteArray.empty, (x9_5 : Sl).v] : Array Value)
  let x11_10 ← rambleref02_Str (⟨#[121]⟩ : ByteArray)
  let x12_11 ← rambleref02_Int 2
  let y_13 ← fillL 4 2 (#[.int .i64 0, .int .i64 0, .string ByteArray.empty, .slice none 0 0] : Array Value) [(0, .agg x11_10), (1, .agg x12_11)]
  let x13_12 ← bdL ty_api_Value 2 y_13
  let x2_14 ← mkB ty_api_Value (#[.int .i64 0, .int .i64 0, .string ByteArray.empty, .slice none 0 0] : Array Value)
  M.need ((#[.int .i64 5, .int .i64 0, .string ByteArray.empty, (x13_12 : Sl).v] : Array Value).size = 4)
  stG x2_14 (#[.int .i64 5, .int .i64 0, .string ByteArray.empty, (x13_12 : Sl).v] : Array Value)
  let x16_17 ← ldG 4 x1_7
  let x17_18 ← ldG 4 x2_14
  let y_20 ← fillL 4 2 (#[.int .i64 0, .int .i64 0, .string ByteArray.empty, .slice none 0 0] : Array Value) [(0, .agg x16_17), (1, .agg x17_18)]
  let x18_19 ← bdL ty_api_Value 2 y_20
  let x19_21 ← result_Table x18_19
  let x23_23 ← rambleref02_Int 1
  let x24_24 ← rambleref02_Str (⟨#[97]⟩ : ByteArray)
  let y_26 ← fillL 4 2 (#[.int .i64 0, .int .i64 0, .string ByteArray.empty, .slice none 0 0] : Array Value) [(0, .agg x23_23), (1, .agg x24_24)]
  let x25_25 ← bdL ty_api_Value 2 y_26
  let x26_27 ← result_List x25_25
  let x34_29 ← M.ite (sEq x19_21.1 (⟨#[39, 120, 39, 32, 124, 32, 39, 121, 39, 10, 49, 32, 124, 32, 45, 10, 45, 32, 124, 32, 50, 10]⟩ : ByteArray)) (do
    M.pure (x19_21.2 == 0)
    ) (do
    M.pure false
    )
  let x38_30 ← M.ite x34_29 (do
    M.pure (sEq x26_27.1 (⟨#[49, 10, 39, 97, 39, 10]⟩ : ByteArray))
    ) (do
    M.pure false
    )
  let x42_31 ← M.ite x38_30 (do
    M.pure (x26_27.2 == 0)
    ) (do
    M.pure false
    )
  M.pure x42_31
theorem S_ramblelaw23_begun  : Sound Go.Proofs.Tryd.prog 8 #[] (fun (r : Bool) => .bool r) (ramblelaw23_begun ) := by
  refine sound_of [] Go.Proofs.Tryd.func8 rfl rfl (Nat.le_of_ble_eq_true rfl) (args_of trivial) (fun w0 w Q R a hret hE hR H => ?_)
  unfold ramblelaw23_begun at H
  refine w_seq (fun K hK_1 => ?_)
  refine t_region ?_
  refine t_val (v := .bool false) rfl rfl hE rfl (r_assign hE rfl) (fun a hE => ?_)
  refine t_nil ?_
  refine hK_1 _ _ ?_
  refine w_seq (fun K hK_2 => ?_)
  refine t_region ?_
  refine t_call hE hR cl_rambleref02_Str rfl (S_rambleref02_Str (⟨#[120]⟩ : ByteArray)) (M.unbind H) (fun x7_3 a w ea hR H => ?_)
  have hE := Env.put_some hE rfl ea; clear ea
  refine t_call hE hR cl_rambleref02_Int rfl (S_rambleref02_Int 1) (M.unbind H) (fun x8_4 a w ea hR H => ?_)
  have hE := Env.put_some hE rfl ea; clear ea
  obtain ⟨y_6, qy_6, H⟩ := H
  obtain ⟨x9_5, qx9_5, H⟩ := H
  refine t_valh (v := (x9_5 : Sl).v) rfl rfl hE rfl hR (r_buildL hE rfl un22 sz42 zr42 rfl qy_6 qx9_5) (fun a w hE hR hh => ?_)
  replace H := M.at hh H; clear hh
  refine t_val (v := .agg (#[.int .i64 5, .int .i64 0, .string ByteArray.empty, (x9_5 : Sl).v] : Array Value)) rfl rfl hE rfl (r_build hE rfl zr42 pl42 (by rfl)) (fun a hE => ?_)
  obtain ⟨x1_7, qx1_7, H⟩ := H
  refine t_valh (v := .pointer (some x1_7)) rfl rfl hE rfl hR (r_alloc zr42 qx1_7) (fun a w hE hR hh => ?_)
  replace H := M.at hh H; clear hh
  obtain ⟨qz, H⟩ := H
  obtain ⟨u_8, qu_8, H⟩ := H
  refine t_sth rfl rfl hE hR (r_storeG hE rfl rfl sz42 qz qu_8) (fun a w hE hR hh => ?_)
  replace H := M.at hh H; clear hh
  refine t_nil ?_
  refine hK_2 _ _ ?_
  refine w_seq (fun K hK_9 => ?_)
  refine t_region ?_
  refine t_call hE hR cl_rambleref02_Str rfl (S_rambleref02_Str (⟨#[121]⟩ : ByteArray)) (M.unbind H) (fun x11_10 a w ea hR H => ?_)
  have hE := Env.put_some hE rfl ea; clear ea
  refine t_call hE hR cl_rambleref02_Int rfl (S_rambleref02_Int 2) (M.unbind H) (fun x12_11 a w ea hR H => ?_)
  have hE := Env.put_some hE rfl ea; clear ea
  obtain ⟨y_13, qy_13, H⟩ := H
  obtain ⟨x13_12, qx13_12, H⟩ := H
  refine t_valh (v := (x13_12 : Sl).v) rfl rfl hE rfl hR (r_buildL hE rfl un22 sz42 zr42 rfl qy_13 qx13_12) (fun a w hE hR hh => ?_)
  replace H := M.at hh H; clear hh
  refine t_val (v := .agg (#[.int .i64 5, .int .i64 0, .string ByteArray.empty, (x13_12 : Sl).v] : Array Value)) rfl rfl hE rfl (r_build hE rfl zr42 pl42 (by rfl)) (fun a hE => ?_)
  obtain ⟨x2_14, qx2_14, H⟩ := H
  refine t_valh (v := .pointer (some x2_14)) rfl rfl hE rfl hR (r_alloc zr42 qx2_14) (fun a w hE hR hh => ?_)
  replace H := M.at hh H; clear hh
  obtain ⟨qz, H⟩ := H
  obtain ⟨u_15, qu_15, H⟩ := H
  refine t_sth rfl rfl hE hR (r_storeG hE rfl rfl sz42 qz qu_15) (fun a w hE hR hh => ?_)
  replace H := M.at hh H; clear hh
  refine t_nil ?_
  refine hK_9 _ _ ?_
  refine w_seq (fun K hK_16 => ?_)
  refine t_region ?_
  obtain ⟨x16_17, qx16_17, H⟩ := H
  refine t_val (v := .agg x16_17) rfl rfl hE rfl (r_loadG hE rfl ag42 qx16_17) (fun a hE => ?_)
  obtain ⟨x17_18, qx17_18, H⟩ := H
  refine t_val (v := .agg x17_18) rfl rfl hE rfl (r_loadG hE rfl ag42 qx17_18) (fun a hE => ?_)
  obtain ⟨y_20, qy_20, H⟩ := H
  obtain ⟨x18_19, qx18_19, H⟩ := H
  refine t_valh (v := (x18_19 : Sl).v) rfl rfl hE rfl hR (r_buildL hE rfl un22 sz42 zr42 rfl qy_20 qx18_19) (fun a w hE hR hh => ?_)
  replace H := M.at hh H; clear hh
  refine t_call hE hR cl_result_Table rfl (S_result_Table x18_19) (M.unbind H) (fun x19_21 a w ea hR H => ?_)
  have hE := Env.put_some hE rfl ea; clear ea
  refine t_val (v := .tuple #[.string x19_21.1, .int .i64 x19_21.2]) rfl rfl hE rfl (r_move hE rfl) (fun a hE => ?_)
  refine t_val (v := .string x19_21.1) rfl rfl hE rfl (r_extract hE rfl rfl) (fun a hE => ?_)
  refine t_val (v := .int .i64 x19_21.2) rfl rfl hE rfl (r_extract hE rfl rfl) (fun a hE => ?_)
  refine t_val (v := .string x19_21.1) rfl rfl hE rfl (r_assign hE rfl) (fun a hE => ?_)
  refine t_val (v := .int .i64 x19_21.2) rfl rfl hE rfl (r_assign hE rfl) (fun a hE => ?_)
  refine t_nil ?_
  refine hK_16 _ _ ?_
  refine w_seq (fun K hK_22 => ?_)
  refine t_region ?_
  refine t_call hE hR cl_rambleref02_Int rfl (S_rambleref02_Int 1) (M.unbind H) (fun x23_23 a w ea hR H => ?_)
  have hE := Env.put_some hE rfl ea; clear ea
  refine t_call hE hR cl_rambleref02_Str rfl (S_rambleref02_Str (⟨#[97]⟩ : ByteArray)) (M.unbind H) (fun x24_24 a w ea hR H => ?_)
  have hE := Env.put_some hE rfl ea; clear ea
  obtain ⟨y_26, qy_26, H⟩ := H
  obtain ⟨x25_25, qx25_25, H⟩ := H
  refine t_valh (v := (x25_25 : Sl).v) rfl rfl hE rfl hR (r_buildL hE rfl un22 sz42 zr42 rfl qy_26 qx25_25) (fun a w hE hR hh => ?_)
  replace H := M.at hh H; clear hh
  refine t_call hE hR cl_result_List rfl (S_result_List x25_25) (M.unbind H) (fun x26_27 a w ea hR H => ?_)
  have hE := Env.put_some hE rfl ea; clear ea
  refine t_val (v := .tuple #[.string x26_27.1, .int .i64 x26_27.2]) rfl rfl hE rfl (r_move hE rfl) (fun a hE => ?_)
  refine t_val (v := .string x26_27.1) rfl rfl hE rfl (r_extract hE rfl rfl) (fun a hE => ?_)
  refine t_val (v := .int .i64 x26_27.2) rfl rfl hE rfl (r_extract hE rfl rfl) (fun a hE => ?_)
  refine t_val (v := .string x26_27.1) rfl rfl hE rfl (r_assign hE rfl) (fun a hE => ?_)
  refine t_val (v := .int .i64 x26_27.2) rfl rfl hE rfl (r_assign hE rfl) (fun a hE => ?_)
  refine t_nil ?_
  refine hK_22 _ _ ?_
  refine w_seq (fun K hK_28 => ?_)
  refine t_region ?_
  refine t_val (v := .string x19_21.1) rfl rfl hE rfl (r_move hE rfl) (fun a hE => ?_)
  refine t_val (v := .bool (sEq x19_21.1 (⟨#[39, 120, 39, 32, 124, 32, 39, 121, 39, 10, 49, 32, 124, 32, 45, 10, 45, 32, 124, 32, 50, 10]⟩ : ByteArray))) rfl rfl hE rfl (r_bin hE rfl rfl g_str b_eqlS) (fun a hE => ?_)
  refine t_val (v := .bool (sEq x19_21.1 (⟨#[39, 120, 39, 32, 124, 32, 39, 121, 39, 10, 49, 32, 124, 32, 45, 10, 45, 32, 124, 32, 50, 10]⟩ : ByteArray))) rfl rfl hE rfl (r_move hE rfl) (fun a hE => ?_)
  refine t_grp (n := (⟨43, []⟩ : Frm)) (w0 := w0) 3 (fun x34_29 : Bool => [(0, .bool false), (5, .string x26_27.1), (6, .int .i64 x26_27.2), (34, .bool x34_29)]) (M.unbind H) (fun Kr hKr H => ?_) ?_
  · rcases bool_em (sEq x19_21.1 (⟨#[39, 120, 39, 32, 124, 32, 39, 121, 39, 10, 49, 32, 124, 32, 45, 10, 45, 32, 124, 32, 50, 10]⟩ : ByteArray)) with hb | hb
    · replace H := M.ite_t hb H
      have hE := hE.reb 31 (sEq x19_21.1 (⟨#[39, 120, 39, 32, 124, 32, 39, 121, 39, 10, 49, 32, 124, 32, 45, 10, 45, 32, 124, 32, 50, 10]⟩ : ByteArray)) true hb rfl
      refine t_on rfl hE rfl rfl rfl ?_
      refine t_val (v := .int .i64 x19_21.2) rfl rfl hE rfl (r_move hE rfl) (fun a hE => ?_)
      refine t_on rfl hE rfl rfl rfl ?_
      refine t_val (v := .bool (x19_21.2 == 0)) rfl rfl hE rfl (r_bin hE rfl rfl g_int b_eql) (fun a hE => ?_)
      refine t_val rfl rfl hE rfl (r_pick_t hE rfl rfl) (fun a hE => ?_)
      refine t_nil ?_
      exact hKr _ _ _ (hE.cut (.cons rfl (.cons rfl (.cons rfl (.cons rfl Subs.nil))))) hR H
    · replace H := M.ite_f hb H
      have hE := hE.reb 31 (sEq x19_21.1 (⟨#[39, 120, 39, 32, 124, 32, 39, 121, 39, 10, 49, 32, 124, 32, 45, 10, 45, 32, 124, 32, 50, 10]⟩ : ByteArray)) false hb rfl
      refine t_off rfl hE rfl rfl rfl (fun a ea => ?_)
      have hE := Env.put_some hE rfl ea; clear ea
      refine t_off rfl hE rfl rfl rfl (fun a ea => ?_)
      have hE := Env.put_some hE rfl ea; clear ea
      refine t_val rfl rfl hE rfl (r_pick_f hE rfl rfl) (fun a hE => ?_)
      refine t_nil ?_
      exact hKr _ _ _ (hE.cut (.cons rfl (.cons rfl (.cons rfl (.cons rfl Subs.nil))))) hR H
  · intro x34_29 a w hE hR H
    refine t_val (v := .bool x34_29) rfl rfl hE rfl (r_move hE rfl) (fun a hE => ?_)
    refine t_grp (n := (⟨43, []⟩ : Frm)) (w0 := w0) 3 (fun x38_30 : Bool => [(0, .bool false), (6, .int .i64 x26_27.2), (38, .bool x38_30)]) (M.unbind H) (fun Kr hKr H => ?_) ?_
    · rcases bool_em x34_29 with hb | hb
      · replace H := M.ite_t hb H
        have hE := hE.reb 35 x34_29 true hb rfl
        refine t_on rfl hE rfl rfl rfl ?_
        refine t_val (v := .string x26_27.1) rfl rfl hE rfl (r_move hE rfl) (fun a hE => ?_)
        refine t_on rfl hE rfl rfl rfl ?_
        refine t_val (v := .bool (sEq x26_27.1 (⟨#[49, 10, 39, 97, 39, 10]⟩ : ByteArray))) rfl rfl hE rfl (r_bin hE rfl rfl g_str b_eqlS) (fun a hE => ?_)
        refine t_val rfl rfl hE rfl (r_pick_t hE rfl rfl) (fun a hE => ?_)
        refine t_nil ?_
        exact hKr _ _ _ (hE.cut (.cons rfl (.cons rfl (.cons rfl Subs.nil)))) hR H
      · replace H := M.ite_f hb H
        have hE := hE.reb 35 x34_29 false hb rfl
        refine t_off rfl hE rfl rfl rfl (fun a ea => ?_)
        have hE := Env.put_some hE rfl ea; clear ea
        refine t_off rfl hE rfl rfl rfl (fun a ea => ?_)
        have hE := Env.put_some hE rfl ea; clear ea
        refine t_val rfl rfl hE rfl (r_pick_f hE rfl rfl) (fun a hE => ?_)
        refine t_nil ?_
        exact hKr _ _ _ (hE.cut (.cons rfl (.cons rfl (.cons rfl Subs.nil)))) hR H
    · intro x38_30 a w hE hR H
      refine t_val (v := .bool x38_30) rfl rfl hE rfl (r_move hE rfl) (fun a hE => ?_)
      refine t_grp (n := (⟨43, []⟩ : Frm)) (w0 := w0) 3 (fun x42_31 : Bool => [(0, .bool false), (42, .bool x42_31)]) (M.unbind H) (fun Kr hKr H => ?_) ?_
      · rcases bool_em x38_30 with hb | hb
        · replace H := M.ite_t hb H
          have hE := hE.reb 39 x38_30 true hb rfl
          refine t_on rfl hE rfl rfl rfl ?_
          refine t_val (v := .int .i64 x26_27.2) rfl rfl hE rfl (r_move hE rfl) (fun a hE => ?_)
          refine t_on rfl hE rfl rfl rfl ?_
          refine t_val (v := .bool (x26_27.2 == 0)) rfl rfl hE rfl (r_bin hE rfl rfl g_int b_eql) (fun a hE => ?_)
          refine t_val rfl rfl hE rfl (r_pick_t hE rfl rfl) (fun a hE => ?_)
          refine t_nil ?_
          exact hKr _ _ _ (hE.cut (.cons rfl (.cons rfl Subs.nil))) hR H
        · replace H := M.ite_f hb H
          have hE := hE.reb 39 x38_30 false hb rfl
          refine t_off rfl hE rfl rfl rfl (fun a ea => ?_)
          have hE := Env.put_some hE rfl ea; clear ea
          refine t_off rfl hE rfl rfl rfl (fun a ea => ?_)
          have hE := Env.put_some hE rfl ea; clear ea
          refine t_val rfl rfl hE rfl (r_pick_f hE rfl rfl) (fun a hE => ?_)
          refine t_nil ?_
          exact hKr _ _ _ (hE.cut (.cons rfl (.cons rfl Subs.nil))) hR H
      · intro x42_31 a w hE hR H
        refine t_val (v := .bool x42_31) rfl rfl hE rfl (r_assign hE rfl) (fun a hE => ?_)
        refine t_nil ?_
        refine hK_28 _ _ ?_
        refine w_ret ?_
        exact hret _ _ _ x42_31 _ hE hR (res_run hE rfl (RV.tmp rfl RV.nil)) rfl H

end Gx
namespace Gx
open Go
set_option linter.unusedVariables false
set_option maxRecDepth 100000
/-- ramble/ramblelaw23.ResultTables -/
def ramblelaw23_ResultTables (x0 : Sl) : M (Bool) := do
  let x8_4 ← ramblelaw23_few x0
  M.ite (!x8_4) (do
    M.pure true
    ) (do
    let x12_7 ← result_Table x0
    let x17_9 ← rambleref23_Table x0
    let x20_11 ← ramblelaw23_begun
    let x25_12 ← M.ite x20_11 (do
      M.pure (sEq x12_7.1 x17_9.1)
      ) (do
      M.pure false
      )
    let x30_13 ← M.ite x25_12 (do
      M.pure (x12_7.2 == x17_9.2)
      ) (do
      M.pure false
      )
    M.pure x30_13
    )
theorem S_ramblelaw23_ResultTables (x0 : Sl) : Sound Go.Proofs.Tryd.prog 3 #[(x0 : Sl).v] (fun (r : Bool) => .bool r) (ramblelaw23_ResultTables x0) := by
  refine sound_of [(0, (x0 : Sl).v)] Go.Proofs.Tryd.func3 rfl rfl (Nat.le_of_ble_eq_true rfl) (args_of ⟨rfl, trivial⟩) (fun w0 w Q R a hret hE hR H => ?_)
  unfold ramblelaw23_ResultTables at H
  refine w_seq (fun K hK_1 => ?_)
  refine t_region ?_
  refine t_val (v := .bool false) rfl rfl hE rfl (r_assign hE rfl) (fun a hE => ?_)
  refine t_nil ?_
  refine hK_1 _ _ ?_
  refine w_seq (fun K hK_2 => ?_)
  refine w_seq (fun K hK_3 => ?_)
  refine t_region ?_
  refine t_val (v := (x0 : Sl).v) rfl rfl hE rfl (r_move hE rfl) (fun a hE => ?_)
  refine t_call hE hR cl_ramblelaw23_few rfl (S_ramblelaw23_few x0) (M.unbind H) (fun x8_4 a w ea hR H => ?_)
  have hE := Env.put_some hE rfl ea; clear ea
  refine t_val (v := .bool (!x8_4)) rfl rfl hE rfl (r_un hE rfl u_not) (fun a hE => ?_)
  refine t_nil ?_
  refine hK_3 _ _ ?_
  refine w_cond (!x8_4) hE rfl (fun hb => ?_) (fun hb => ?_)
  · replace H := M.ite_t hb H
    refine w_seq (fun K hK_5 => ?_)
    refine t_region ?_
    refine t_val (v := .bool true) rfl rfl hE rfl (r_assign hE rfl) (fun a hE => ?_)
    refine t_nil ?_
    refine hK_5 _ _ ?_
    refine w_ret ?_
    exact hret _ _ _ true _ hE hR (res_run hE rfl (RV.tmp rfl RV.nil)) rfl H
  · replace H := M.ite_f hb H
    refine w_skip ?_
    refine hK_2 _ _ ?_
    refine w_seq (fun K hK_6 => ?_)
    refine t_region ?_
    refine t_val (v := (x0 : Sl).v) rfl rfl hE rfl (r_move hE rfl) (fun a hE => ?_)
    refine t_call hE hR cl_result_Table rfl (S_result_Table x0) (M.unbind H) (fun x12_7 a w ea hR H => ?_)
    have hE := Env.put_some hE rfl ea; clear ea
    refine t_val (v := .tuple #[.string x12_7.1, .int .i64 x12_7.2]) rfl rfl hE rfl (r_move hE rfl) (fun a hE => ?_)
    refine t_val (v := .string x12_7.1) rfl rfl hE rfl (r_extract hE rfl rfl) (fun a hE => ?_)
    refine t_val (v := .int .i64 x12_7.2) rfl rfl hE rfl (r_extract hE rfl rfl) (fun a hE => ?_)
    refine t_val (v := .string x12_7.1) rfl rfl hE rfl (r_assign hE rfl) (fun a hE => ?_)
    refine t_val (v := .int .i64 x12_7.2) rfl rfl hE rfl (r_assign hE rfl) (fun a hE => ?_)
    refine t_nil ?_
    refine hK_6 _ _ ?_
    refine w_seq (fun K hK_8 => ?_)
    refine t_region ?_
    refine t_val (v := (x0 : Sl).v) rfl rfl hE rfl (r_move hE rfl) (fun a hE => ?_)
    refine t_call hE hR cl_rambleref23_Table rfl (S_rambleref23_Table x0) (M.unbind H) (fun x17_9 a w ea hR H => ?_)
    have hE := Env.put_some hE rfl ea; clear ea
    refine t_val (v := .tuple #[.string x17_9.1, .int .i64 x17_9.2]) rfl rfl hE rfl (r_move hE rfl) (fun a hE => ?_)
    refine t_val (v := .string x17_9.1) rfl rfl hE rfl (r_extract hE rfl rfl) (fun a hE => ?_)
    refine t_val (v := .int .i64 x17_9.2) rfl rfl hE rfl (r_extract hE rfl rfl) (fun a hE => ?_)
    refine t_val (v := .string x17_9.1) rfl rfl hE rfl (r_assign hE rfl) (fun a hE => ?_)
    refine t_val (v := .int .i64 x17_9.2) rfl rfl hE rfl (r_assign hE rfl) (fun a hE => ?_)
    refine t_nil ?_
    refine hK_8 _ _ ?_
    refine w_seq (fun K hK_10 => ?_)
    refine t_region ?_
    refine t_call hE hR cl_ramblelaw23_begun rfl (S_ramblelaw23_begun ) (M.unbind H) (fun x20_11 a w ea hR H => ?_)
    have hE := Env.put_some hE rfl ea; clear ea
    refine t_val (v := .bool x20_11) rfl rfl hE rfl (r_move hE rfl) (fun a hE => ?_)
    refine t_grp (n := (⟨31, []⟩ : Frm)) (w0 := w0) 4 (fun x25_12 : Bool => [(2, .bool false), (4, .int .i64 x12_7.2), (6, .int .i64 x17_9.2), (25, .bool x25_12)]) (M.unbind H) (fun Kr hKr H => ?_) ?_
    · rcases bool_em x20_11 with hb | hb
      · replace H := M.ite_t hb H
        have hE := hE.reb 21 x20_11 true hb rfl
        refine t_on rfl hE rfl rfl rfl ?_
        refine t_val (v := .string x12_7.1) rfl rfl hE rfl (r_move hE rfl) (fun a hE => ?_)
        refine t_on rfl hE rfl rfl rfl ?_
        refine t_val (v := .string x17_9.1) rfl rfl hE rfl (r_move hE rfl) (fun a hE => ?_)
        refine t_on rfl hE rfl rfl rfl ?_
        refine t_val (v := .bool (sEq x12_7.1 x17_9.1)) rfl rfl hE rfl (r_bin hE rfl rfl g_str b_eqlS) (fun a hE => ?_)
        refine t_val rfl rfl hE rfl (r_pick_t hE rfl rfl) (fun a hE => ?_)
        refine t_nil ?_
        exact hKr _ _ _ (hE.cut (.cons rfl (.cons rfl (.cons rfl (.cons rfl Subs.nil))))) hR H
      · replace H := M.ite_f hb H
        have hE := hE.reb 21 x20_11 false hb rfl
        refine t_off rfl hE rfl rfl rfl (fun a ea => ?_)
        have hE := Env.put_some hE rfl ea; clear ea
        refine t_off rfl hE rfl rfl rfl (fun a ea => ?_)
        have hE := Env.put_some hE rfl ea; clear ea
        refine t_off rfl hE rfl rfl rfl (fun a ea => ?_)
        have hE := Env.put_some hE rfl ea; clear ea
        refine t_val rfl rfl hE rfl (r_pick_f hE rfl rfl) (fun a hE => ?_)
        refine t_nil ?_
        exact hKr _ _ _ (hE.cut (.cons rfl (.cons rfl (.cons rfl (.cons rfl Subs.nil))))) hR H
    · intro x25_12 a w hE hR H
      refine t_val (v := .bool x25_12) rfl rfl hE rfl (r_move hE rfl) (fun a hE => ?_)
      refine t_grp (n := (⟨31, []⟩ : Frm)) (w0 := w0) 4 (fun x30_13 : Bool => [(2, .bool false), (30, .bool x30_13)]) (M.unbind H) (fun Kr hKr H => ?_) ?_
      · rcases bool_em x25_12 with hb | hb
        · replace H := M.ite_t hb H
          have hE := hE.reb 26 x25_12 true hb rfl
          refine t_on rfl hE rfl rfl rfl ?_
          refine t_val (v := .int .i64 x12_7.2) rfl rfl hE rfl (r_move hE rfl) (fun a hE => ?_)
          refine t_on rfl hE rfl rfl rfl ?_
          refine t_val (v := .int .i64 x17_9.2) rfl rfl hE rfl (r_move hE rfl) (fun a hE => ?_)
          refine t_on rfl hE rfl rfl rfl ?_
          refine t_val (v := .bool (x12_7.2 == x17_9.2)) rfl rfl hE rfl (r_bin hE rfl rfl g_int b_eql) (fun a hE => ?_)
          refine t_val rfl rfl hE rfl (r_pick_t hE rfl rfl) (fun a hE => ?_)
          refine t_nil ?_
          exact hKr _ _ _ (hE.cut (.cons rfl (.cons rfl Subs.nil))) hR H
        · replace H := M.ite_f hb H
          have hE := hE.reb 26 x25_12 false hb rfl
          refine t_off rfl hE rfl rfl rfl (fun a ea => ?_)
          have hE := Env.put_some hE rfl ea; clear ea
          refine t_off rfl hE rfl rfl rfl (fun a ea => ?_)
          have hE := Env.put_some hE rfl ea; clear ea
          refine t_off rfl hE rfl rfl rfl (fun a ea => ?_)
          have hE := Env.put_some hE rfl ea; clear ea
          refine t_val rfl rfl hE rfl (r_pick_f hE rfl rfl) (fun a hE => ?_)
          refine t_nil ?_
          exact hKr _ _ _ (hE.cut (.cons rfl (.cons rfl Subs.nil))) hR H
      · intro x30_13 a w hE hR H
        refine t_val (v := .bool x30_13) rfl rfl hE rfl (r_assign hE rfl) (fun a hE => ?_)
        refine t_nil ?_
        refine hK_10 _ _ ?_
        refine w_ret ?_
        exact hret _ _ _ x30_13 _ hE hR (res_run hE rfl (RV.tmp rfl RV.nil)) rfl H

/-- ramble/value.may$1 -/
def value_may_1 (x0 : Array Value) (x1 : Addr) : M (Bool) := do
  let x2_2 ← mkB ty_api_Value x0
  let x4_4 ← ldG 4 x2_2
  let x5_5 ← ldI .i64 x1
  let x7_6 ← value_may x4_4 (IntKind.wrap .i64 (x5_5 + 1))
  M.pure (!x7_6)
theorem S_value_may_1 (x0 : Array Value) (x1 : Addr) : Sound Go.Proofs.Tryd.prog 79 #[.agg x0, .pointer (some x1)] (fun (r : Bool) => .bool r) (value_may_1 x0 x1) := by
  refine sound_of [(0, .agg x0), (1, .pointer (some x1))] Go.Proofs.Tryd.func79 rfl rfl (Nat.le_of_ble_eq_true rfl) (args_of ⟨rfl, rfl, trivial⟩) (fun w0 w Q R a hret hE hR H => ?_)
  unfold value_may_1 at H
  refine w_seq (fun K hK_1 => ?_)
  refine t_region ?_
  obtain ⟨x2_2, qx2_2, H⟩ := H
  refine t_valh (v := .pointer (some x2_2)) rfl rfl hE rfl hR (r_box hE rfl qx2_2) (fun a w hE hR hh => ?_)
  replace H := M.at hh H; clear hh
  refine t_val (v := .bool false) rfl rfl hE rfl (r_assign hE rfl) (fun a hE => ?_)
  refine t_nil ?_
  refine hK_1 _ _ ?_
  refine w_seq (fun K hK_3 => ?_)
  refine t_region ?_
  obtain ⟨x4_4, qx4_4, H⟩ := H
  refine t_val (v := .agg x4_4) rfl rfl hE rfl (r_loadG hE rfl ag42 qx4_4) (fun a hE => ?_)
  obtain ⟨x5_5, qx5_5, H⟩ := H
  refine t_val (v := .int .i64 x5_5) rfl rfl hE rfl (r_load hE rfl sc3 qx5_5) (fun a hE => ?_)
  refine t_val (v := .int .i64 (IntKind.wrap .i64 (x5_5 + 1))) rfl rfl hE rfl (r_bin hE rfl rfl g_int b_add) (fun a hE => ?_)
  refine t_call hE hR cl_value_may rfl (S_value_may x4_4 (IntKind.wrap .i64 (x5_5 + 1))) (M.unbind H) (fun x7_6 a w ea hR H => ?_)
  have hE := Env.put_some hE rfl ea; clear ea
  refine t_val (v := .bool (!x7_6)) rfl rfl hE rfl (r_un hE rfl u_not) (fun a hE => ?_)
  refine t_val (v := .bool (!x7_6)) rfl rfl hE rfl (r_assign hE rfl) (fun a hE => ?_)
  refine t_nil ?_
  refine hK_3 _ _ ?_
  refine w_ret ?_
  exact hret _ _ _ (!x7_6) _ hE hR (res_run hE rfl (RV.tmp rfl RV.nil)) rfl H

/-- slices.Chunk[[]ramble/api.Value,ramble/api.Value]$1 -/
theorem tb36_3 : tabAt Go.Proofs.Tryd.f36 3 [[], [], [], [1, 2], [3], [0, 4], [5, 0, 1, 2, 3, 4, 5]] [[], [], [], [1, 2], [3], [0, 4], [5]] [[], [], [], [1, 2], [1, 2, 3], [0, 1, 2, 3, 4], [0, 1, 2, 3, 4, 5]] = true := by kernel_rfl
def slices_Chunk_slapi_Value_api_Value_1_l1 (c0_3 : Value) (c1_4 : Addr) (c2_5 : Addr) (self1 : (Int) → M (Unit)) : (Int) → M (Unit) := fun s => match s with
  | x4_2 => do
    let x7_9 ← ldL c1_4
    M.ite (decide (x4_2 < (x7_9.len : Int))) (do
      let x13_12 ← ldI .i64 c2_5
      let x14_13 ← ldL c1_4
      let x16_14 ← slL x14_13 x4_2 x14_13.len 4
      let x20_16 ← ldL c1_4
      let x28_17 ← slL3 x20_16 x4_2 (IntKind.wrap .i64 (x4_2 + (iMin x13_12 (x16_14.len : Int)))) (IntKind.wrap .i64 (x4_2 + (iMin x13_12 (x16_14.len : Int)))) 4
      let x29_18 ← callV Go.Proofs.Tryd.prog (fun r : Bool => .bool r) c0_3 [(x28_17 : Sl).v]
      M.ite (!x29_18) (do
        M.pure ()
        ) (do
        let x11_19 ← ldI .i64 c2_5
        self1 (IntKind.wrap .i64 (x4_2 + x11_19))
        )
      ) (do
      M.pure ()
      )
def slices_Chunk_slapi_Value_api_Value_1 (x0 : Value) (x1 : Addr) (x2 : Addr) : M (Unit) := do
  M.loop (slices_Chunk_slapi_Value_api_Value_1_l1 x0 x1 x2) 0
theorem S_slices_Chunk_slapi_Value_api_Value_1 (x0 : Value) (x1 : Addr) (x2 : Addr) : Sound Go.Proofs.Tryd.prog 36 #[x0, .pointer (some x1), .pointer (some x2)] (fun (r : Unit) => .tuple #[]) (slices_Chunk_slapi_Value_api_Value_1 x0 x1 x2) := by
  refine sound_of [(0, x0), (1, .pointer (some x1)), (2, .pointer (some x2))] Go.Proofs.Tryd.func36 rfl rfl (Nat.le_of_ble_eq_true rfl) (args_of ⟨rfl, rfl, rfl, trivial⟩) (fun w0 w Q R a hret hE hR H => ?_)
  unfold slices_Chunk_slapi_Value_api_Value_1 at H
  refine w_seq (fun K hK_1 => ?_)
  refine t_region ?_
  refine t_val (v := .int .i64 0) rfl rfl hE rfl (r_assign hE rfl) (fun a hE => ?_)
  refine t_nil ?_
  refine hK_1 _ _ ?_
  refine w_block ?_
  refine l_loop (fun (s : Int) => (⟨31, []⟩ : Frm)) (fun (s : Int) => [(0, x0), (1, .pointer (some x1)), (2, .pointer (some x2)), (4, .int .i64 s)]) H (hE.cut (.cons rfl (.cons rfl (.cons rfl (.cons rfl Subs.nil))))) hR (fun Y self1 hY_6 x4_2 a w hE hR H => ?_)
  replace hE : Env (⟨31, []⟩ : Frm) a [(0, x0), (1, .pointer (some x1)), (2, .pointer (some x2)), (4, .int .i64 x4_2)] := hE
  replace H : (slices_Chunk_slapi_Value_api_Value_1_l1 x0 x1 x2 self1 x4_2).wp w.heap Q := H
  unfold slices_Chunk_slapi_Value_api_Value_1_l1 at H
  refine w_seq (fun K hK_7 => ?_)
  refine w_seq (fun K hK_8 => ?_)
  refine t_region ?_
  refine t_val (v := .int .i64 x4_2) rfl rfl hE rfl (r_move hE rfl) (fun a hE => ?_)
  obtain ⟨x7_9, qx7_9, H⟩ := H
  refine t_val (v := (x7_9 : Sl).v) rfl rfl hE rfl (r_load hE rfl sc22 qx7_9) (fun a hE => ?_)
  refine t_val (v := .int .i64 (x7_9.len : Int)) rfl rfl hE rfl (r_len hE rfl 42 un22) (fun a hE => ?_)
  refine t_val (v := .bool (decide (x4_2 < (x7_9.len : Int)))) rfl rfl hE rfl (r_bin hE rfl rfl g_int b_lss) (fun a hE => ?_)
  refine t_nil ?_
  refine hK_8 _ _ ?_
  refine w_cond (decide (x4_2 < (x7_9.len : Int))) hE rfl (fun hb => ?_) (fun hb => ?_)
  · replace H := M.ite_t hb H
    refine w_skip ?_
    refine hK_7 _ _ ?_
    refine w_seq (fun K hK_10 => ?_)
    refine w_block ?_
    refine w_seq (fun K hK_11 => ?_)
    obtain ⟨x13_12, qx13_12, H⟩ := H
    obtain ⟨x14_13, qx14_13, H⟩ := H
    obtain ⟨x16_14, qx16_14, H⟩ := H
    have hT := tab_of tb36_3 rfl rfl
    refine d_start (fun w : World => (fun h : Heap => (hcell h x2 = some (.int .i64 x13_12)) ∧ (hcell h x1 = some ((x14_13 : Sl).v))) w.heap) [5, 6] #[false, false, false, false, false, false, false] mo hR rfl rfl (fun w' e => by rw [e]; exact ⟨qx13_12, qx14_13⟩) (fun w hh hR hs => ?_)
    replace H := M.at hh H; clear hh
    refine d_pureg (i := 2) (v := .int .i64 x4_2) #[false, false, true, false, false, false, false] rfl rfl hT (by kernel_rfl) hE rfl (wanted_none rfl) (fun w => r_move hE rfl) (fun a hE => ?_)
    refine d_read (i := 0) (v := .int .i64 x13_12) #[true, false, true, false, false, false, false] rfl rfl hT (by kernel_rfl) hE rfl (wanted_none rfl) hs (fun w s => r_load hE rfl sc3 s.1) (fun a hE => ?_)
    refine d_read (i := 1) (v := (x14_13 : Sl).v) #[true, true, true, false, false, false, false] rfl rfl hT (by kernel_rfl) hE rfl (wanted_none rfl) hs (fun w s => r_load hE rfl sc22 s.2) (fun a hE => ?_)
    refine d_pureg (i := 3) (v := (x16_14 : Sl).v) #[true, true, true, true, false, false, false] rfl rfl hT (by kernel_rfl) hE rfl (wanted_none rfl) (fun w => r_sliceL_l hE rfl rfl un22 sz42 qx16_14) (fun a hE => ?_)
    refine d_pureg (i := 4) (v := .int .i64 (x16_14.len : Int)) #[true, true, true, true, true, false, false] rfl rfl hT (by kernel_rfl) hE rfl (wanted_none rfl) (fun w => r_len hE rfl 42 un22) (fun a hE => ?_)
    refine d_pureg (i := 5) (v := .int .i64 (iMin x13_12 (x16_14.len : Int))) #[true, true, true, true, true, true, false] rfl rfl hT (by kernel_rfl) hE rfl (wanted_none rfl) (fun w => r_min hE rfl rfl) (fun a hE => ?_)
    refine d_pureg (i := 6) (v := .int .i64 (iMin x13_12 (x16_14.len : Int))) #[true, true, true, true, true, true, true] rfl rfl hT (by kernel_rfl) hE rfl (wanted_none rfl) (fun w => r_assign hE rfl) (fun a hE => ?_)
    refine d_done hT (by kernel_rfl) ?_
    refine hK_11 _ _ ?_
    refine w_seq (fun K hK_15 => ?_)
    refine t_region ?_
    refine t_val (v := x0) rfl rfl hE rfl (r_move hE rfl) (fun a hE => ?_)
    obtain ⟨x20_16, qx20_16, H⟩ := H
    refine t_val (v := (x20_16 : Sl).v) rfl rfl hE rfl (r_load hE rfl sc22 qx20_16) (fun a hE => ?_)
    refine t_val (v := .int .i64 x4_2) rfl rfl hE rfl (r_move hE rfl) (fun a hE => ?_)
    refine t_val (v := .int .i64 x4_2) rfl rfl hE rfl (r_move hE rfl) (fun a hE => ?_)
    refine t_val (v := .int .i64 (iMin x13_12 (x16_14.len : Int))) rfl rfl hE rfl (r_move hE rfl) (fun a hE => ?_)
    refine t_val (v := .int .i64 (IntKind.wrap .i64 (x4_2 + (iMin x13_12 (x16_14.len : Int))))) rfl rfl hE rfl (r_bin hE rfl rfl g_int b_add) (fun a hE => ?_)
    refine t_val (v := .int .i64 x4_2) rfl rfl hE rfl (r_move hE rfl) (fun a hE => ?_)
    refine t_val (v := .int .i64 (iMin x13_12 (x16_14.len : Int))) rfl rfl hE rfl (r_move hE rfl) (fun a hE => ?_)
    refine t_val (v := .int .i64 (IntKind.wrap .i64 (x4_2 + (iMin x13_12 (x16_14.len : Int))))) rfl rfl hE rfl (r_bin hE rfl rfl g_int b_add) (fun a hE => ?_)
    obtain ⟨x28_17, qx28_17, H⟩ := H
    refine t_val (v := (x28_17 : Sl).v) rfl rfl hE rfl (r_sliceL3 hE rfl rfl rfl rfl un22 sz42 qx28_17) (fun a hE => ?_)
    refine t_callV hE hR rfl rfl (M.unbind H) (fun x29_18 a w ea hR H => ?_)
    have hE := Env.put_some hE rfl ea; clear ea
    refine t_val (v := .bool (!x29_18)) rfl rfl hE rfl (r_un hE rfl u_not) (fun a hE => ?_)
    refine t_nil ?_
    refine hK_15 _ _ ?_
    refine w_cond (!x29_18) hE rfl (fun hb => ?_) (fun hb => ?_)
    · replace H := M.ite_t hb H
      refine w_ret ?_
      exact hret _ _ _ () _ hE hR (res_run hE rfl RV.nil) rfl H
    · replace H := M.ite_f hb H
      refine w_skip ?_
      refine hK_10 _ _ ?_
      refine t_region ?_
      refine t_val (v := .int .i64 x4_2) rfl rfl hE rfl (r_move hE rfl) (fun a hE => ?_)
      obtain ⟨x11_19, qx11_19, H⟩ := H
      refine t_val (v := .int .i64 x11_19) rfl rfl hE rfl (r_load hE rfl sc3 qx11_19) (fun a hE => ?_)
      refine t_val (v := .int .i64 (IntKind.wrap .i64 (x4_2 + x11_19))) rfl rfl hE rfl (r_bin hE rfl rfl g_int b_add) (fun a hE => ?_)
      refine t_val (v := .int .i64 (IntKind.wrap .i64 (x4_2 + x11_19))) rfl rfl hE rfl (r_assign hE rfl) (fun a hE => ?_)
      refine t_nil ?_
      exact hY_6 (IntKind.wrap .i64 (x4_2 + x11_19)) _ _ (hE.cut (.cons rfl (.cons rfl (.cons rfl (.cons rfl Subs.nil))))) hR H
  · replace H := M.ite_f hb H
    refine w_exit ?_
    refine Xu.same ?_
    exact hret _ _ _ () _ hE hR (res_run hE rfl RV.nil) rfl H

/-- ramble/value.Same -/
def value_Same (x0 : Array Value) (x1 : Array Value) : M (Bool) := do
  let x2_2 ← mkB ty_api_Value x0
  let x3_3 ← mkB ty_api_Value x1
  let x5_5 ← ldG 4 x2_2
  let x6_6 ← ldG 4 x3_3
  let x7_7 ← value_Compare x5_5 x6_6
  M.pure (x7_7 == 0)
theorem S_value_Same (x0 : Array Value) (x1 : Array Value) : Sound Go.Proofs.Tryd.prog 18 #[.agg x0, .agg x1] (fun (r : Bool) => .bool r) (value_Same x0 x1) := by
  refine sound_of [(0, .agg x0), (1, .agg x1)] Go.Proofs.Tryd.func18 rfl rfl (Nat.le_of_ble_eq_true rfl) (args_of ⟨rfl, rfl, trivial⟩) (fun w0 w Q R a hret hE hR H => ?_)
  unfold value_Same at H
  refine w_seq (fun K hK_1 => ?_)
  refine t_region ?_
  obtain ⟨x2_2, qx2_2, H⟩ := H
  refine t_valh (v := .pointer (some x2_2)) rfl rfl hE rfl hR (r_box hE rfl qx2_2) (fun a w hE hR hh => ?_)
  replace H := M.at hh H; clear hh
  obtain ⟨x3_3, qx3_3, H⟩ := H
  refine t_valh (v := .pointer (some x3_3)) rfl rfl hE rfl hR (r_box hE rfl qx3_3) (fun a w hE hR hh => ?_)
  replace H := M.at hh H; clear hh
  refine t_val (v := .bool false) rfl rfl hE rfl (r_assign hE rfl) (fun a hE => ?_)
  refine t_nil ?_
  refine hK_1 _ _ ?_
  refine w_seq (fun K hK_4 => ?_)
  refine t_region ?_
  obtain ⟨x5_5, qx5_5, H⟩ := H
  refine t_val (v := .agg x5_5) rfl rfl hE rfl (r_loadG hE rfl ag42 qx5_5) (fun a hE => ?_)
  obtain ⟨x6_6, qx6_6, H⟩ := H
  refine t_val (v := .agg x6_6) rfl rfl hE rfl (r_loadG hE rfl ag42 qx6_6) (fun a hE => ?_)
  refine t_call hE hR cl_value_Compare rfl (S_value_Compare x5_5 x6_6) (M.unbind H) (fun x7_7 a w ea hR H => ?_)
  have hE := Env.put_some hE rfl ea; clear ea
  refine t_val (v := .bool (x7_7 == 0)) rfl rfl hE rfl (r_bin hE rfl rfl g_int b_eql) (fun a hE => ?_)
  refine t_val (v := .bool (x7_7 == 0)) rfl rfl hE rfl (r_assign hE rfl) (fun a hE => ?_)
  refine t_nil ?_
  refine hK_4 _ _ ?_
  refine w_ret ?_
  exact hret _ _ _ (x7_7 == 0) _ hE hR (res_run hE rfl (RV.tmp rfl RV.nil)) rfl H

/-- ramble/result.Table$1 -/
def result_Table_1_j1 (self1 : (Int) → M (Unit)) (c0_18 : Value) (c2_19 : Addr) (c5_20 : Addr) (c8_23 : Int) : M (Unit) := do
  let x17_24 ← ldG 4 c5_20
  let x18_25 ← callV Go.Proofs.Tryd.prog (fun r : ByteArray => .string r) c0_18 [.agg x17_24]
  let x19_26 ← strings_Builder_WriteString (some c2_19) x18_25
  self1 (IntKind.wrap .i64 (c8_23 + 1))
def result_Table_1_l1 (c0_5 : Value) (c2_6 : Addr) (c6_7 : Sl) (c7_8 : Int) (self1 : (Int) → M (Unit)) : (Int) → M (Unit) := fun s => match s with
  | x8_4 => do
    M.ite (decide (x8_4 < c7_8)) (do
      let x11_14 ← ixL c6_7 x8_4 4
      let x12_15 ← ldG 4 x11_14
      let x5_16 ← mkB ty_api_Value (#[.int .i64 0, .int .i64 0, .string ByteArray.empty, .slice none 0 0] : Array Value)
      M.need (x12_15.size = 4)
      stG x5_16 x12_15
      M.ite (decide (x8_4 > 0)) (do
        let x15_28 ← strings_Builder_WriteString (some c2_6) (⟨#[32, 124, 32]⟩ : ByteArray)
        result_Table_1_j1 self1 c0_5 c2_6 x5_16 x8_4
        ) (do
        result_Table_1_j1 self1 c0_5 c2_6 x5_16 x8_4
        )
      ) (do
      let x21_29 ← strings_Builder_WriteByte (some c2_6) 10
      M.pure ()
      )
def result_Table_1 (x0 : Value) (x1 : Addr) (x2 : Addr) : M (Unit) := do
  let x6_3 ← ldL x1
  M.loop (result_Table_1_l1 x0 x2 x6_3 (x6_3.len : Int)) 0
theorem S_result_Table_1 (x0 : Value) (x1 : Addr) (x2 : Addr) : Sound Go.Proofs.Tryd.prog 19 #[x0, .pointer (some x1), .pointer (some x2)] (fun (r : Unit) => .tuple #[]) (result_Table_1 x0 x1 x2) := by
  refine sound_of [(0, x0), (1, .pointer (some x1)), (2, .pointer (some x2))] Go.Proofs.Tryd.func19 rfl rfl (Nat.le_of_ble_eq_true rfl) (args_of ⟨rfl, rfl, rfl, trivial⟩) (fun w0 w Q R a hret hE hR H => ?_)
  unfold result_Table_1 at H
  refine w_seq (fun K hK_1 => ?_)
  refine w_seq (fun K hK_2 => ?_)
  refine t_region ?_
  obtain ⟨x6_3, qx6_3, H⟩ := H
  refine t_val (v := (x6_3 : Sl).v) rfl rfl hE rfl (r_load hE rfl sc22 qx6_3) (fun a hE => ?_)
  refine t_val (v := .int .i64 (x6_3.len : Int)) rfl rfl hE rfl (r_len hE rfl 42 un22) (fun a hE => ?_)
  refine t_val (v := .int .i64 0) rfl rfl hE rfl (r_move hE rfl) (fun a hE => ?_)
  refine t_nil ?_
  refine hK_2 _ _ ?_
  refine w_block ?_
  refine l_loop (fun (s : Int) => (⟨22, []⟩ : Frm)) (fun (s : Int) => [(0, x0), (2, .pointer (some x2)), (6, (x6_3 : Sl).v), (7, .int .i64 (x6_3.len : Int)), (8, .int .i64 s)]) H (hE.cut (.cons rfl (.cons rfl (.cons rfl (.cons rfl (.cons rfl Subs.nil)))))) hR (fun Y self1 hY_9 x8_4 a w hE hR H => ?_)
  replace hE : Env (⟨22, []⟩ : Frm) a [(0, x0), (2, .pointer (some x2)), (6, (x6_3 : Sl).v), (7, .int .i64 (x6_3.len : Int)), (8, .int .i64 x8_4)] := hE
  replace H : (result_Table_1_l1 x0 x2 x6_3 (x6_3.len : Int) self1 x8_4).wp w.heap Q := H
  unfold result_Table_1_l1 at H
  refine w_seq (fun K hK_10 => ?_)
  refine t_region ?_
  refine t_val (v := .bool (decide (x8_4 < (x6_3.len : Int)))) rfl rfl hE rfl (r_bin hE rfl rfl g_int b_lss) (fun a hE => ?_)
  refine t_nil ?_
  refine hK_10 _ _ ?_
  refine w_seq (fun K hK_11 => ?_)
  refine w_cond (decide (x8_4 < (x6_3.len : Int))) hE rfl (fun hb => ?_) (fun hb => ?_)
  · replace H := M.ite_t hb H
    refine w_skip ?_
    refine hK_11 _ _ ?_
    refine w_seq (fun K hK_12 => ?_)
    refine w_block ?_
    refine w_seq (fun K hK_13 => ?_)
    refine t_region ?_
    refine t_val (v := .int .i64 x8_4) rfl rfl hE rfl (r_move hE rfl) (fun a hE => ?_)
    obtain ⟨x11_14, qx11_14, H⟩ := H
    refine t_val (v := .pointer (some x11_14)) rfl rfl hE rfl (r_indexAddrL hE rfl rfl un22 sz42 qx11_14) (fun a hE => ?_)
    obtain ⟨x12_15, qx12_15, H⟩ := H
    refine t_val (v := .agg x12_15) rfl rfl hE rfl (r_loadG hE rfl ag42 qx12_15) (fun a hE => ?_)
    obtain ⟨x5_16, qx5_16, H⟩ := H
    refine t_valh (v := .pointer (some x5_16)) rfl rfl hE rfl hR (r_alloc zr42 qx5_16) (fun a w hE hR hh => ?_)
    replace H := M.at hh H; clear hh
    refine t_val (v := .int .i64 x8_4) rfl rfl hE rfl (r_assign hE rfl) (fun a hE => ?_)
    obtain ⟨qz, H⟩ := H
    obtain ⟨u_17, qu_17, H⟩ := H
    refine t_sth rfl rfl hE hR (r_storeG hE rfl rfl sz42 qz qu_17) (fun a w hE hR hh => ?_)
    replace H := M.at hh H; clear hh
    refine t_nil ?_
    refine hK_13 _ _ ?_
    refine w_seq_join (fun a w => Env (⟨22, []⟩ : Frm) a [(0, x0), (2, .pointer (some x2)), (5, .pointer (some x5_16)), (6, (x6_3 : Sl).v), (7, .int .i64 (x6_3.len : Int)), (8, .int .i64 x8_4)] ∧ Rest w0 w ∧ (result_Table_1_j1 self1 x0 x2 x5_16 x8_4).wp w.heap Q) ?_ ?_
    · rintro a w ⟨hE, hR, H⟩
      unfold result_Table_1_j1 at H
      refine t_region ?_
      refine t_val (v := x0) rfl rfl hE rfl (r_move hE rfl) (fun a hE => ?_)
      obtain ⟨x17_24, qx17_24, H⟩ := H
      refine t_val (v := .agg x17_24) rfl rfl hE rfl (r_loadG hE rfl ag42 qx17_24) (fun a hE => ?_)
      refine t_callV hE hR rfl rfl (M.unbind H) (fun x18_25 a w ea hR H => ?_)
      have hE := Env.put_some hE rfl ea; clear ea
      refine t_call hE hR cl_strings_Builder_WriteString rfl (S_strings_Builder_WriteString (some x2) x18_25) (M.unbind H) (fun x19_26 a w ea hR H => ?_)
      have hE := Env.put_some hE rfl ea; clear ea
      refine t_nil ?_
      refine hK_12 _ _ ?_
      refine t_region ?_
      refine t_val (v := .int .i64 (IntKind.wrap .i64 (x8_4 + 1))) rfl rfl hE rfl (r_bin hE rfl rfl g_int b_add) (fun a hE => ?_)
      refine t_val (v := .int .i64 (IntKind.wrap .i64 (x8_4 + 1))) rfl rfl hE rfl (r_move hE rfl) (fun a hE => ?_)
      refine t_nil ?_
      exact hY_9 (IntKind.wrap .i64 (x8_4 + 1)) _ _ (hE.cut (.cons rfl (.cons rfl (.cons rfl (.cons rfl (.cons rfl Subs.nil)))))) hR H
    · skip
      refine w_seq (fun K hK_27 => ?_)
      refine t_region ?_
      refine t_val (v := .int .i64 x8_4) rfl rfl hE rfl (r_move hE rfl) (fun a hE => ?_)
      refine t_val (v := .bool (decide (x8_4 > 0))) rfl rfl hE rfl (r_bin hE rfl rfl g_int b_gtr) (fun a hE => ?_)
      refine t_nil ?_
      refine hK_27 _ _ ?_
      refine w_cond (decide (x8_4 > 0)) hE rfl (fun hb => ?_) (fun hb => ?_)
      · replace H := M.ite_t hb H
        refine t_region ?_
        refine t_call hE hR cl_strings_Builder_WriteString rfl (S_strings_Builder_WriteString (some x2) (⟨#[32, 124, 32]⟩ : ByteArray)) (M.unbind H) (fun x15_28 a w ea hR H => ?_)
        have hE := Env.put_some hE rfl ea; clear ea
        refine t_nil ?_
        exact ⟨hE.cut (.cons rfl (.cons rfl (.cons rfl (.cons rfl (.cons rfl (.cons rfl Subs.nil)))))), hR, H⟩
      · replace H := M.ite_f hb H
        refine w_skip ?_
        exact ⟨hE.cut (.cons rfl (.cons rfl (.cons rfl (.cons rfl (.cons rfl (.cons rfl Subs.nil)))))), hR, H⟩
  · replace H := M.ite_f hb H
    refine w_exit ?_
    refine Xu.same ?_
    refine hK_1 _ _ ?_
    refine t_region ?_
    refine t_call hE hR cl_strings_Builder_WriteByte rfl (S_strings_Builder_WriteByte (some x2) 10) (M.unbind H) (fun x21_29 a w ea hR H => ?_)
    have hE := Env.put_some hE rfl ea; clear ea
    refine t_nil ?_
    exact hret _ _ _ () _ hE hR (res_run hE rfl RV.nil) rfl H

/-- slices.Clone[[]ramble/api.Value,ramble/api.Value] -/
def slices_Clone_slapi_Value_api_Value (x0 : Sl) : M (Sl) := do
  M.ite ((x0).base.isNone) (do
    M.pure Sl.nil
    ) (do
    let y_7 ← fillL 4 0 (#[.int .i64 0, .int .i64 0, .string ByteArray.empty, .slice none 0 0] : Array Value) []
    let x5_6 ← bdL ty_api_Value 0 y_7
    let x7_8 ← apL ty_api_Value 4 56 (#[.int .i64 0, .int .i64 0, .string ByteArray.empty, .slice none 0 0] : Array Value) x5_6 x0
    M.pure x7_8
    )
theorem S_slices_Clone_slapi_Value_api_Value (x0 : Sl) : Sound Go.Proofs.Tryd.prog 70 #[(x0 : Sl).v] (fun (r : Sl) => (r : Sl).v) (slices_Clone_slapi_Value_api_Value x0) := by
  refine sound_of [(0, (x0 : Sl).v)] Go.Proofs.Tryd.func70 rfl rfl (Nat.le_of_ble_eq_true rfl) (args_of ⟨rfl, trivial⟩) (fun w0 w Q R a hret hE hR H => ?_)
  unfold slices_Clone_slapi_Value_api_Value at H
  refine w_seq (fun K hK_1 => ?_)
  refine t_region ?_
  refine t_val (v := (Sl.nil : Sl).v) rfl rfl hE rfl (r_assign hE rfl) (fun a hE => ?_)
  refine t_nil ?_
  refine hK_1 _ _ ?_
  refine w_seq (fun K hK_2 => ?_)
  refine w_seq (fun K hK_3 => ?_)
  refine t_region ?_
  refine t_val (v := (x0 : Sl).v) rfl rfl hE rfl (r_move hE rfl) (fun a hE => ?_)
  refine t_val (v := .bool ((x0).base.isNone)) rfl rfl hE rfl (r_bin hE rfl rfl (g_sl (v := Sl.nil)) (b_eqlL un22)) (fun a hE => ?_)
  refine t_nil ?_
  refine hK_3 _ _ ?_
  refine w_cond ((x0).base.isNone) hE rfl (fun hb => ?_) (fun hb => ?_)
  · replace H := M.ite_t hb H
    refine w_seq (fun K hK_4 => ?_)
    refine t_region ?_
    refine t_val (v := (Sl.nil : Sl).v) rfl rfl hE rfl (r_assign hE rfl) (fun a hE => ?_)
    refine t_nil ?_
    refine hK_4 _ _ ?_
    refine w_ret ?_
    exact hret _ _ _ Sl.nil _ hE hR (res_run hE rfl (RV.tmp rfl RV.nil)) rfl H
  · replace H := M.ite_f hb H
    refine w_skip ?_
    refine hK_2 _ _ ?_
    refine w_seq (fun K hK_5 => ?_)
    refine t_region ?_
    obtain ⟨y_7, qy_7, H⟩ := H
    obtain ⟨x5_6, qx5_6, H⟩ := H
    refine t_valh (v := (x5_6 : Sl).v) rfl rfl hE rfl hR (r_buildL hE rfl un22 sz42 zr42 rfl qy_7 qx5_6) (fun a w hE hR hh => ?_)
    replace H := M.at hh H; clear hh
    refine t_val (v := (x0 : Sl).v) rfl rfl hE rfl (r_move hE rfl) (fun a hE => ?_)
    refine t_ex (fun x7_8 => (x7_8 : Sl).v) rfl rfl hR (M.unbind H) (fun Q H => ap_run hE rfl rfl ap22 H) (fun x7_8 a w ea hR H => ?_)
    have hE := Env.put_some hE rfl ea; clear ea
    refine t_val (v := (x7_8 : Sl).v) rfl rfl hE rfl (r_assign hE rfl) (fun a hE => ?_)
    refine t_nil ?_
    refine hK_5 _ _ ?_
    refine w_ret ?_
    exact hret _ _ _ x7_8 _ hE hR (res_run hE rfl (RV.tmp rfl RV.nil)) rfl H

/-- ramble/value.Clone -/
theorem tb46_5 : tabAt Go.Proofs.Tryd.f46 5 [[], [0], [], [], [3], [], [4, 5], [6], [7], [1, 2, 0, 1, 2, 3, 4, 5, 6, 7, 8], [9, 8, 8, 0, 1, 2, 3, 4, 5, 6, 7, 8]] [[], [0], [], [], [3], [], [4, 5], [6], [7], [1, 2], [8, 9]] [[], [0], [], [], [3], [], [3, 4, 5], [3, 4, 5, 6], [3, 4, 5, 6, 7], [0, 1, 2, 3, 4, 5, 6, 7, 8], [0, 1, 2, 3, 4, 5, 6, 7, 8, 9]] = true := by kernel_rfl
def value_Clone_l1 (c1_12 : Addr) (c2_13 : Addr) (c10_14 : Int) (self1 : (Int) → M (Array Value)) : (Int) → M (Array Value) := fun s => match s with
  | x11_11 => do
    M.ite (decide (x11_11 < c10_14)) (do
      let x15_20 ← ldL ((c1_12).add 3)
      let x18_21 ← ldL ((c1_12).add 3)
      let x20_22 ← ixL x18_21 x11_11 4
      let x21_23 ← ldG 4 x20_22
      let x22_24 ← callF Go.Proofs.Tryd.prog fn_value_Clone #[.agg x21_23] (fun r : Array Value => .agg r)
      chk (fun h : Heap => (hcell h ((c1_12).add 3) = some ((x15_20 : Sl).v)) ∧ (hcell h ((c1_12).add 3) = some ((x18_21 : Sl).v)) ∧ (x21_23.size = 4 ∧ ∀ i, i < 4 → hcell h (Addr.add x20_22 i) = x21_23[i]?))
      let x23_25 ← ixL x15_20 x11_11 4
      M.need (x22_24.size = 4)
      stG x23_25 x22_24
      self1 (IntKind.wrap .i64 (x11_11 + 1))
      ) (do
      let x25_28 ← ldG 4 c1_12
      M.need (x25_28.size = 4)
      stG c2_13 x25_28
      let r2_30 ← ldG 4 c2_13
      M.pure r2_30
      )
def value_Clone (x0 : Array Value) : M (Array Value) := do
  let x1_2 ← mkB ty_api_Value x0
  let x2_3 ← mkB ty_api_Value (#[.int .i64 0, .int .i64 0, .string ByteArray.empty, .slice none 0 0] : Array Value)
  let x5_5 ← ldL ((x1_2).add 3)
  let x6_6 ← slices_Clone_slapi_Value_api_Value x5_5
  stV ((x1_2).add 3) ((x6_6 : Sl).v)
  let x9_10 ← ldL ((x1_2).add 3)
  M.loop (value_Clone_l1 x1_2 x2_3 (x9_10.len : Int)) 0
theorem S_value_Clone (x0 : Array Value) : Sound Go.Proofs.Tryd.prog 46 #[.agg x0] (fun (r : Array Value) => .agg r) (value_Clone x0) := by
  refine sound_of [(0, .agg x0)] Go.Proofs.Tryd.func46 rfl rfl (Nat.le_of_ble_eq_true rfl) (args_of ⟨rfl, trivial⟩) (fun w0 w Q R a hret hE hR H => ?_)
  unfold value_Clone at H
  refine w_seq (fun K hK_1 => ?_)
  refine t_region ?_
  obtain ⟨x1_2, qx1_2, H⟩ := H
  refine t_valh (v := .pointer (some x1_2)) rfl rfl hE rfl hR (r_box hE rfl qx1_2) (fun a w hE hR hh => ?_)
  replace H := M.at hh H; clear hh
  obtain ⟨x2_3, qx2_3, H⟩ := H
  refine t_valh (v := .pointer (some x2_3)) rfl rfl hE rfl hR (r_alloc zr42 qx2_3) (fun a w hE hR hh => ?_)
  replace H := M.at hh H; clear hh
  refine t_nil ?_
  refine hK_1 _ _ ?_
  refine w_seq (fun K hK_4 => ?_)
  refine t_region ?_
  refine t_val (v := .pointer (some ((x1_2).add 3))) rfl rfl hE rfl (r_fieldAddr hE rfl fd42_3) (fun a hE => ?_)
  obtain ⟨x5_5, qx5_5, H⟩ := H
  refine t_val (v := (x5_5 : Sl).v) rfl rfl hE rfl (r_load hE rfl sc22 qx5_5) (fun a hE => ?_)
  refine t_call hE hR cl_slices_Clone_slapi_Value_api_Value rfl (S_slices_Clone_slapi_Value_api_Value x5_5) (M.unbind H) (fun x6_6 a w ea hR H => ?_)
  have hE := Env.put_some hE rfl ea; clear ea
  refine t_val (v := .pointer (some ((x1_2).add 3))) rfl rfl hE rfl (r_fieldAddr hE rfl fd42_3) (fun a hE => ?_)
  obtain ⟨u_7, qu_7, H⟩ := H
  refine t_sth rfl rfl hE hR (r_store hE rfl rfl sz22 qu_7) (fun a w hE hR hh => ?_)
  replace H := M.at hh H; clear hh
  refine t_nil ?_
  refine hK_4 _ _ ?_
  refine w_seq (fun K hK_8 => ?_)
  refine w_seq (fun K hK_9 => ?_)
  refine t_region ?_
  refine t_val (v := .pointer (some ((x1_2).add 3))) rfl rfl hE rfl (r_fieldAddr hE rfl fd42_3) (fun a hE => ?_)
  obtain ⟨x9_10, qx9_10, H⟩ := H
  refine t_val (v := (x9_10 : Sl).v) rfl rfl hE rfl (r_load hE rfl sc22 qx9_10) (fun a hE => ?_)
  refine t_val (v := .int .i64 (x9_10.len : Int)) rfl rfl hE rfl (r_len hE rfl 42 un22) (fun a hE => ?_)
  refine t_val (v := .int .i64 0) rfl rfl hE rfl (r_move hE rfl) (fun a hE => ?_)
  refine t_nil ?_
  refine hK_9 _ _ ?_
  refine w_block ?_
  refine l_loop (fun (s : Int) => (⟨26, []⟩ : Frm)) (fun (s : Int) => [(1, .pointer (some x1_2)), (2, .pointer (some x2_3)), (10, .int .i64 (x9_10.len : Int)), (11, .int .i64 s)]) H (hE.cut (.cons rfl (.cons rfl (.cons rfl (.cons rfl Subs.nil))))) hR (fun Y self1 hY_15 x11_11 a w hE hR H => ?_)
  replace hE : Env (⟨26, []⟩ : Frm) a [(1, .pointer (some x1_2)), (2, .pointer (some x2_3)), (10, .int .i64 (x9_10.len : Int)), (11, .int .i64 x11_11)] := hE
  replace H : (value_Clone_l1 x1_2 x2_3 (x9_10.len : Int) self1 x11_11).wp w.heap Q := H
  unfold value_Clone_l1 at H
  refine w_seq (fun K hK_16 => ?_)
  refine t_region ?_
  refine t_val (v := .bool (decide (x11_11 < (x9_10.len : Int)))) rfl rfl hE rfl (r_bin hE rfl rfl g_int b_lss) (fun a hE => ?_)
  refine t_nil ?_
  refine hK_16 _ _ ?_
  refine w_seq (fun K hK_17 => ?_)
  refine w_cond (decide (x11_11 < (x9_10.len : Int))) hE rfl (fun hb => ?_) (fun hb => ?_)
  · replace H := M.ite_t hb H
    refine w_skip ?_
    refine hK_17 _ _ ?_
    refine w_seq (fun K hK_18 => ?_)
    refine w_block ?_
    refine w_seq (fun K hK_19 => ?_)
    refine t_region ?_
    refine t_val (v := .int .i64 x11_11) rfl rfl hE rfl (r_move hE rfl) (fun a hE => ?_)
    refine t_val (v := .int .i64 x11_11) rfl rfl hE rfl (r_assign hE rfl) (fun a hE => ?_)
    refine t_nil ?_
    refine hK_19 _ _ ?_
    obtain ⟨x15_20, qx15_20, H⟩ := H
    obtain ⟨x18_21, qx18_21, H⟩ := H
    obtain ⟨x20_22, qx20_22, H⟩ := H
    obtain ⟨x21_23, qx21_23, H⟩ := H
    have hT := tab_of tb46_5 rfl rfl
    refine d_start (fun w : World => (fun h : Heap => (hcell h ((x1_2).add 3) = some ((x15_20 : Sl).v)) ∧ (hcell h ((x1_2).add 3) = some ((x18_21 : Sl).v)) ∧ (x21_23.size = 4 ∧ ∀ i, i < 4 → hcell h (Addr.add x20_22 i) = x21_23[i]?)) w.heap) [9, 10] #[false, false, false, false, false, false, false, false, false, false, false] mo hR rfl rfl (fun w' e => by rw [e]; exact ⟨qx15_20, qx18_21, qx21_23⟩) (fun w hh hR hs => ?_)
    replace H := M.at hh H; clear hh
    refine d_pureg (i := 0) (v := .pointer (some ((x1_2).add 3))) #[true, false, false, false, false, false, false, false, false, false, false] rfl rfl hT (by kernel_rfl) hE rfl (wanted_none rfl) (fun w => r_fieldAddr hE rfl fd42_3) (fun a hE => ?_)
    refine d_pureg (i := 2) (v := .int .i64 x11_11) #[true, false, true, false, false, false, false, false, false, false, false] rfl rfl hT (by kernel_rfl) hE rfl (wanted_none rfl) (fun w => r_move hE rfl) (fun a hE => ?_)
    refine d_pureg (i := 3) (v := .pointer (some ((x1_2).add 3))) #[true, false, true, true, false, false, false, false, false, false, false] rfl rfl hT (by kernel_rfl) hE rfl (wanted_none rfl) (fun w => r_fieldAddr hE rfl fd42_3) (fun a hE => ?_)
    refine d_pureg (i := 5) (v := .int .i64 x11_11) #[true, false, true, true, false, true, false, false, false, false, false] rfl rfl hT (by kernel_rfl) hE rfl (wanted_none rfl) (fun w => r_move hE rfl) (fun a hE => ?_)
    refine d_read (i := 1) (v := (x15_20 : Sl).v) #[true, true, true, true, false, true, false, false, false, false, false] rfl rfl hT (by kernel_rfl) hE rfl (wanted_none rfl) hs (fun w s => r_load hE rfl sc22 s.1) (fun a hE => ?_)
    refine d_read (i := 4) (v := (x18_21 : Sl).v) #[true, true, true, true, true, true, false, false, false, false, false] rfl rfl hT (by kernel_rfl) hE rfl (wanted_none rfl) hs (fun w s => r_load hE rfl sc22 s.2.1) (fun a hE => ?_)
    refine d_pureg (i := 6) (v := .pointer (some x20_22)) #[true, true, true, true, true, true, true, false, false, false, false] rfl rfl hT (by kernel_rfl) hE rfl (wanted_none rfl) (fun w => r_indexAddrL hE rfl rfl un22 sz42 qx20_22) (fun a hE => ?_)
    refine d_read (i := 7) (v := .agg x21_23) #[true, true, true, true, true, true, true, true, false, false, false] rfl rfl hT (by kernel_rfl) hE rfl (wanted_none rfl) hs (fun w s => r_loadG hE rfl ag42 s.2.2) (fun a hE => ?_)
    refine d_call (i := 8) #[true, true, true, true, true, true, true, true, true, false, false] rfl rfl rfl hT (by kernel_rfl) rfl hE hR (wanted_none rfl) cl_value_Clone rfl (sound_callF) (M.unbind H) (fun r h H w' e => by obtain ⟨_, sA, H⟩ := H; rw [e]; exact sA) (fun x22_24 a w ea hR H hs => ?_)
    obtain ⟨_, sA, H⟩ := H; clear sA
    have hE := Env.put_some hE rfl ea; clear ea
    obtain ⟨x23_25, qx23_25, H⟩ := H
    refine d_pureg (i := 9) (v := .pointer (some x23_25)) #[true, true, true, true, true, true, true, true, true, true, false] rfl rfl hT (by kernel_rfl) hE rfl (wanted_none rfl) (fun w => r_indexAddrL hE rfl rfl un22 sz42 qx23_25) (fun a hE => ?_)
    obtain ⟨qz, H⟩ := H
    obtain ⟨u_26, qu_26, H⟩ := H
    refine d_stlh (i := 10) #[true, true, true, true, true, true, true, true, true, true, true] rfl rfl hT (by kernel_rfl) rfl hE hR (wanted_none rfl) (r_storeG hE rfl rfl sz42 qz qu_26)  (fun a w hE hR hh => ?_)
    replace H := M.at hh H; clear hh
    refine d_done hT (by kernel_rfl) ?_
    refine hK_18 _ _ ?_
    refine t_region ?_
    refine t_val (v := .int .i64 (IntKind.wrap .i64 (x11_11 + 1))) rfl rfl hE rfl (r_bin hE rfl rfl g_int b_add) (fun a hE => ?_)
    refine t_val (v := .int .i64 (IntKind.wrap .i64 (x11_11 + 1))) rfl rfl hE rfl (r_move hE rfl) (fun a hE => ?_)
    refine t_nil ?_
    exact hY_15 (IntKind.wrap .i64 (x11_11 + 1)) _ _ (hE.cut (.cons rfl (.cons rfl (.cons rfl (.cons rfl Subs.nil))))) hR H
  · replace H := M.ite_f hb H
    refine w_exit ?_
    refine Xu.same ?_
    refine hK_8 _ _ ?_
    refine w_seq (fun K hK_27 => ?_)
    refine t_region ?_
    obtain ⟨x25_28, qx25_28, H⟩ := H
    refine t_val (v := .agg x25_28) rfl rfl hE rfl (r_loadG hE rfl ag42 qx25_28) (fun a hE => ?_)
    obtain ⟨qz, H⟩ := H
    obtain ⟨u_29, qu_29, H⟩ := H
    refine t_sth rfl rfl hE hR (r_storeG hE rfl rfl sz42 qz qu_29) (fun a w hE hR hh => ?_)
    replace H := M.at hh H; clear hh
    refine t_nil ?_
    refine hK_27 _ _ ?_
    refine w_ret ?_
    obtain ⟨r2_30, qr2_30, H⟩ := H
    exact hret _ _ _ r2_30 _ hE hR (res_run hE rfl (RV.cellG rfl ag42 qr2_30 RV.nil)) rfl H

/-- ramble/value.Get -/
theorem tb24_6 : tabAt Go.Proofs.Tryd.f24 6 [[], [0], [], [1, 2], [3], [], [4, 5]] [[], [0], [], [1, 2], [3], [], [4, 5]] [[], [0], [], [0, 1, 2], [0, 1, 2, 3], [], [0, 1, 2, 3, 4, 5]] = true := by kernel_rfl
def value_Get_l1 (c2_14 : Addr) (c3_15 : Addr) (c4_16 : Addr) (self1 : (Int) → M (Array Value × Bool)) : (Int) → M (Array Value × Bool) := fun s => match s with
  | x6_13 => do
    let x14_20 ← ldL ((c2_14).add 3)
    M.ite (decide ((IntKind.wrap .i64 (x6_13 + 1)) < (x14_20.len : Int))) (do
      let x20_23 ← ldL ((c2_14).add 3)
      let x22_24 ← ixL x20_23 x6_13 4
      let x23_25 ← ldG 4 x22_24
      let x24_26 ← ldG 4 c3_15
      let x25_27 ← value_Same x23_25 x24_26
      M.ite x25_27 (do
        let x27_29 ← ldL ((c2_14).add 3)
        let x30_30 ← ixL x27_29 (IntKind.wrap .i64 (x6_13 + 1)) 4
        let x31_31 ← ldG 4 x30_30
        let x32_32 ← value_Clone x31_31
        M.need (x32_32.size = 4)
        stG c4_16 x32_32
        let r4_34 ← ldG 4 c4_16
        M.pure (r4_34, true)
        ) (do
        self1 (IntKind.wrap .i64 (x6_13 + 2))
        )
      ) (do
      M.need ((#[.int .i64 0, .int .i64 0, .string ByteArray.empty, .slice none 0 0] : Array Value).size = 4)
      stG c4_16 (#[.int .i64 0, .int .i64 0, .string ByteArray.empty, .slice none 0 0] : Array Value)
      let r4_37 ← ldG 4 c4_16
      M.pure (r4_37, false)
      )
def value_Get (x0 : Array Value) (x1 : Array Value) : M (Array Value × Bool) := do
  let x2_2 ← mkB ty_api_Value x0
  let x3_3 ← mkB ty_api_Value x1
  let x4_4 ← mkB ty_api_Value (#[.int .i64 0, .int .i64 0, .string ByteArray.empty, .slice none 0 0] : Array Value)
  let x8_7 ← ldI .i64 ((x2_2).add 0)
  M.ite (x8_7 != 5) (do
    M.need ((#[.int .i64 0, .int .i64 0, .string ByteArray.empty, .slice none 0 0] : Array Value).size = 4)
    stG x4_4 (#[.int .i64 0, .int .i64 0, .string ByteArray.empty, .slice none 0 0] : Array Value)
    let r4_10 ← ldG 4 x4_4
    M.pure (r4_10, false)
    ) (do
    M.loop (value_Get_l1 x2_2 x3_3 x4_4) 0
    )
theorem S_value_Get (x0 : Array Value) (x1 : Array Value) : Sound Go.Proofs.Tryd.prog 24 #[.agg x0, .agg x1] (fun (r : Array Value × Bool) => .tuple #[.agg r.1, .bool r.2]) (value_Get x0 x1) := by
  refine sound_of [(0, .agg x0), (1, .agg x1)] Go.Proofs.Tryd.func24 rfl rfl (Nat.le_of_ble_eq_true rfl) (args_of ⟨rfl, rfl, trivial⟩) (fun w0 w Q R a hret hE hR H => ?_)
  unfold value_Get at H
  refine w_seq (fun K hK_1 => ?_)
  refine t_region ?_
  obtain ⟨x2_2, qx2_2, H⟩ := H
  refine t_valh (v := .pointer (some x2_2)) rfl rfl hE rfl hR (r_box hE rfl qx2_2) (fun a w hE hR hh => ?_)
  replace H := M.at hh H; clear hh
  obtain ⟨x3_3, qx3_3, H⟩ := H
  refine t_valh (v := .pointer (some x3_3)) rfl rfl hE rfl hR (r_box hE rfl qx3_3) (fun a w hE hR hh => ?_)
  replace H := M.at hh H; clear hh
  obtain ⟨x4_4, qx4_4, H⟩ := H
  refine t_valh (v := .pointer (some x4_4)) rfl rfl hE rfl hR (r_alloc zr42 qx4_4) (fun a w hE hR hh => ?_)
  replace H := M.at hh H; clear hh
  refine t_val (v := .bool false) rfl rfl hE rfl (r_assign hE rfl) (fun a hE => ?_)
  refine t_nil ?_
  refine hK_1 _ _ ?_
  refine w_seq (fun K hK_5 => ?_)
  refine w_seq (fun K hK_6 => ?_)
  refine t_region ?_
  refine t_val (v := .pointer (some ((x2_2).add 0))) rfl rfl hE rfl (r_fieldAddr hE rfl fd42_0) (fun a hE => ?_)
  obtain ⟨x8_7, qx8_7, H⟩ := H
  refine t_val (v := .int .i64 x8_7) rfl rfl hE rfl (r_load hE rfl sc3 qx8_7) (fun a hE => ?_)
  refine t_val (v := .bool (x8_7 != 5)) rfl rfl hE rfl (r_bin hE rfl rfl g_int b_neq) (fun a hE => ?_)
  refine t_nil ?_
  refine hK_6 _ _ ?_
  refine w_cond (x8_7 != 5) hE rfl (fun hb => ?_) (fun hb => ?_)
  · replace H := M.ite_t hb H
    refine w_seq (fun K hK_8 => ?_)
    refine t_region ?_
    refine t_val (v := .agg (#[.int .i64 0, .int .i64 0, .string ByteArray.empty, .slice none 0 0] : Array Value)) rfl rfl hE rfl (r_build0 bd42) (fun a hE => ?_)
    obtain ⟨qz, H⟩ := H
    obtain ⟨u_9, qu_9, H⟩ := H
    refine t_sth rfl rfl hE hR (r_storeG hE rfl rfl sz42 qz qu_9) (fun a w hE hR hh => ?_)
    replace H := M.at hh H; clear hh
    refine t_val (v := .bool false) rfl rfl hE rfl (r_assign hE rfl) (fun a hE => ?_)
    refine t_nil ?_
    refine hK_8 _ _ ?_
    refine w_ret ?_
    obtain ⟨r4_10, qr4_10, H⟩ := H
    exact hret _ _ _ (r4_10, false) _ hE hR (res_run hE rfl (RV.cellG rfl ag42 qr4_10 (RV.tmp rfl RV.nil))) rfl H
  · replace H := M.ite_f hb H
    refine w_skip ?_
    refine hK_5 _ _ ?_
    refine w_seq (fun K hK_11 => ?_)
    refine w_seq (fun K hK_12 => ?_)
    refine t_region ?_
    refine t_val (v := .int .i64 0) rfl rfl hE rfl (r_assign hE rfl) (fun a hE => ?_)
    refine t_nil ?_
    refine hK_12 _ _ ?_
    refine w_block ?_
    refine l_loop (fun (s : Int) => (⟨34, []⟩ : Frm)) (fun (s : Int) => [(2, .pointer (some x2_2)), (3, .pointer (some x3_3)), (4, .pointer (some x4_4)), (6, .int .i64 s)]) H (hE.cut (.cons rfl (.cons rfl (.cons rfl (.cons rfl Subs.nil))))) hR (fun Y self1 hY_17 x6_13 a w hE hR H => ?_)
    replace hE : Env (⟨34, []⟩ : Frm) a [(2, .pointer (some x2_2)), (3, .pointer (some x3_3)), (4, .pointer (some x4_4)), (6, .int .i64 x6_13)] := hE
    replace H : (value_Get_l1 x2_2 x3_3 x4_4 self1 x6_13).wp w.heap Q := H
    unfold value_Get_l1 at H
    refine w_seq (fun K hK_18 => ?_)
    refine w_seq (fun K hK_19 => ?_)
    refine t_region ?_
    refine t_val (v := .int .i64 x6_13) rfl rfl hE rfl (r_move hE rfl) (fun a hE => ?_)
    refine t_val (v := .int .i64 (IntKind.wrap .i64 (x6_13 + 1))) rfl rfl hE rfl (r_bin hE rfl rfl g_int b_add) (fun a hE => ?_)
    refine t_val (v := .pointer (some ((x2_2).add 3))) rfl rfl hE rfl (r_fieldAddr hE rfl fd42_3) (fun a hE => ?_)
    obtain ⟨x14_20, qx14_20, H⟩ := H
    refine t_val (v := (x14_20 : Sl).v) rfl rfl hE rfl (r_load hE rfl sc22 qx14_20) (fun a hE => ?_)
    refine t_val (v := .int .i64 (x14_20.len : Int)) rfl rfl hE rfl (r_len hE rfl 42 un22) (fun a hE => ?_)
    refine t_val (v := .bool (decide ((IntKind.wrap .i64 (x6_13 + 1)) < (x14_20.len : Int)))) rfl rfl hE rfl (r_bin hE rfl rfl g_int b_lss) (fun a hE => ?_)
    refine t_nil ?_
    refine hK_19 _ _ ?_
    refine w_cond (decide ((IntKind.wrap .i64 (x6_13 + 1)) < (x14_20.len : Int))) hE rfl (fun hb => ?_) (fun hb => ?_)
    · replace H := M.ite_t hb H
      refine w_skip ?_
      refine hK_18 _ _ ?_
      refine w_seq (fun K hK_21 => ?_)
      refine w_block ?_
      refine w_seq (fun K hK_22 => ?_)
      obtain ⟨x20_23, qx20_23, H⟩ := H
      obtain ⟨x22_24, qx22_24, H⟩ := H
      obtain ⟨x23_25, qx23_25, H⟩ := H
      obtain ⟨x24_26, qx24_26, H⟩ := H
      have hT := tab_of tb24_6 rfl rfl
      refine d_start (fun w : World => (fun h : Heap => (hcell h ((x2_2).add 3) = some ((x20_23 : Sl).v)) ∧ (x23_25.size = 4 ∧ ∀ i, i < 4 → hcell h (Addr.add x22_24 i) = x23_25[i]?) ∧ (x24_26.size = 4 ∧ ∀ i, i < 4 → hcell h (Addr.add x3_3 i) = x24_26[i]?)) w.heap) [6] #[false, false, false, false, false, false, false] mo hR rfl rfl (fun w' e => by rw [e]; exact ⟨qx20_23, qx23_25, qx24_26⟩) (fun w hh hR hs => ?_)
      replace H := M.at hh H; clear hh
      refine d_pureg (i := 0) (v := .pointer (some ((x2_2).add 3))) #[true, false, false, false, false, false, false] rfl rfl hT (by kernel_rfl) hE rfl (wanted_none rfl) (fun w => r_fieldAddr hE rfl fd42_3) (fun a hE => ?_)
      refine d_pureg (i := 2) (v := .int .i64 x6_13) #[true, false, true, false, false, false, false] rfl rfl hT (by kernel_rfl) hE rfl (wanted_none rfl) (fun w => r_move hE rfl) (fun a hE => ?_)
      refine d_read (i := 1) (v := (x20_23 : Sl).v) #[true, true, true, false, false, false, false] rfl rfl hT (by kernel_rfl) hE rfl (wanted_none rfl) hs (fun w s => r_load hE rfl sc22 s.1) (fun a hE => ?_)
      refine d_pureg (i := 3) (v := .pointer (some x22_24)) #[true, true, true, true, false, false, false] rfl rfl hT (by kernel_rfl) hE rfl (wanted_none rfl) (fun w => r_indexAddrL hE rfl rfl un22 sz42 qx22_24) (fun a hE => ?_)
      refine d_read (i := 4) (v := .agg x23_25) #[true, true, true, true, true, false, false] rfl rfl hT (by kernel_rfl) hE rfl (wanted_none rfl) hs (fun w s => r_loadG hE rfl ag42 s.2.1) (fun a hE => ?_)
      refine d_read (i := 5) (v := .agg x24_26) #[true, true, true, true, true, true, false] rfl rfl hT (by kernel_rfl) hE rfl (wanted_none rfl) hs (fun w s => r_loadG hE rfl ag42 s.2.2) (fun a hE => ?_)
      refine d_calll (i := 6) #[true, true, true, true, true, true, true] rfl rfl rfl hT (by kernel_rfl) rfl hE hR (wanted_none rfl) cl_value_Same rfl (S_value_Same x23_25 x24_26) (M.unbind H) (fun x25_27 a w ea hR H => ?_)
      have hE := Env.put_some hE rfl ea; clear ea
      refine d_done hT (by kernel_rfl) ?_
      refine hK_22 _ _ ?_
      refine w_cond x25_27 hE rfl (fun hb => ?_) (fun hb => ?_)
      · replace H := M.ite_t hb H
        refine w_seq (fun K hK_28 => ?_)
        refine t_region ?_
        refine t_val (v := .pointer (some ((x2_2).add 3))) rfl rfl hE rfl (r_fieldAddr hE rfl fd42_3) (fun a hE => ?_)
        obtain ⟨x27_29, qx27_29, H⟩ := H
        refine t_val (v := (x27_29 : Sl).v) rfl rfl hE rfl (r_load hE rfl sc22 qx27_29) (fun a hE => ?_)
        refine t_val (v := .int .i64 x6_13) rfl rfl hE rfl (r_move hE rfl) (fun a hE => ?_)
        refine t_val (v := .int .i64 (IntKind.wrap .i64 (x6_13 + 1))) rfl rfl hE rfl (r_bin hE rfl rfl g_int b_add) (fun a hE => ?_)
        obtain ⟨x30_30, qx30_30, H⟩ := H
        refine t_val (v := .pointer (some x30_30)) rfl rfl hE rfl (r_indexAddrL hE rfl rfl un22 sz42 qx30_30) (fun a hE => ?_)
        obtain ⟨x31_31, qx31_31, H⟩ := H
        refine t_val (v := .agg x31_31) rfl rfl hE rfl (r_loadG hE rfl ag42 qx31_31) (fun a hE => ?_)
        refine t_call hE hR cl_value_Clone rfl (S_value_Clone x31_31) (M.unbind H) (fun x32_32 a w ea hR H => ?_)
        have hE := Env.put_some hE rfl ea; clear ea
        obtain ⟨qz, H⟩ := H
        obtain ⟨u_33, qu_33, H⟩ := H
        refine t_sth rfl rfl hE hR (r_storeG hE rfl rfl sz42 qz qu_33) (fun a w hE hR hh => ?_)
        replace H := M.at hh H; clear hh
        refine t_val (v := .bool true) rfl rfl hE rfl (r_assign hE rfl) (fun a hE => ?_)
        refine t_nil ?_
        refine hK_28 _ _ ?_
        refine w_ret ?_
        obtain ⟨r4_34, qr4_34, H⟩ := H
        exact hret _ _ _ (r4_34, true) _ hE hR (res_run hE rfl (RV.cellG rfl ag42 qr4_34 (RV.tmp rfl RV.nil))) rfl H
      · replace H := M.ite_f hb H
        refine w_skip ?_
        refine hK_21 _ _ ?_
        refine t_region ?_
        refine t_val (v := .int .i64 x6_13) rfl rfl hE rfl (r_move hE rfl) (fun a hE => ?_)
        refine t_val (v := .int .i64 (IntKind.wrap .i64 (x6_13 + 2))) rfl rfl hE rfl (r_bin hE rfl rfl g_int b_add) (fun a hE => ?_)
        refine t_val (v := .int .i64 (IntKind.wrap .i64 (x6_13 + 2))) rfl rfl hE rfl (r_assign hE rfl) (fun a hE => ?_)
        refine t_nil ?_
        exact hY_17 (IntKind.wrap .i64 (x6_13 + 2)) _ _ (hE.cut (.cons rfl (.cons rfl (.cons rfl (.cons rfl Subs.nil))))) hR H
    · replace H := M.ite_f hb H
      refine w_exit ?_
      refine Xu.same ?_
      refine hK_11 _ _ ?_
      refine w_seq (fun K hK_35 => ?_)
      refine t_region ?_
      refine t_val (v := .agg (#[.int .i64 0, .int .i64 0, .string ByteArray.empty, .slice none 0 0] : Array Value)) rfl rfl hE rfl (r_build0 bd42) (fun a hE => ?_)
      obtain ⟨qz, H⟩ := H
      obtain ⟨u_36, qu_36, H⟩ := H
      refine t_sth rfl rfl hE hR (r_storeG hE rfl rfl sz42 qz qu_36) (fun a w hE hR hh => ?_)
      replace H := M.at hh H; clear hh
      refine t_val (v := .bool false) rfl rfl hE rfl (r_assign hE rfl) (fun a hE => ?_)
      refine t_nil ?_
      refine hK_35 _ _ ?_
      refine w_ret ?_
      obtain ⟨r4_37, qr4_37, H⟩ := H
      exact hret _ _ _ (r4_37, false) _ hE hR (res_run hE rfl (RV.cellG rfl ag42 qr4_37 (RV.tmp rfl RV.nil))) rfl H

/-- ramble/result.Table$2 -/
def result_Table_2 (x0 : Array Value) (x1 : Addr) : M (ByteArray) := do
  let x2_2 ← mkB ty_api_Value x0
  let x7_5 ← ldG 4 x1
  let x8_6 ← ldG 4 x2_2
  let x9_7 ← value_Get x7_5 x8_6
  let x4_8 ← mkB ty_api_Value (#[.int .i64 0, .int .i64 0, .string ByteArray.empty, .slice none 0 0] : Array Value)
  M.need (x9_7.1.size = 4)
  stG x4_8 x9_7.1
  M.ite x9_7.2 (do
    let x13_12 ← ldG 4 x4_8
    let x14_13 ← value_Text x13_12
    M.pure x14_13
    ) (do
    M.pure (⟨#[45]⟩ : ByteArray)
    )
theorem S_result_Table_2 (x0 : Array Value) (x1 : Addr) : Sound Go.Proofs.Tryd.prog 23 #[.agg x0, .pointer (some x1)] (fun (r : ByteArray) => .string r) (result_Table_2 x0 x1) := by
  refine sound_of [(0, .agg x0), (1, .pointer (some x1))] Go.Proofs.Tryd.func23 rfl rfl (Nat.le_of_ble_eq_true rfl) (args_of ⟨rfl, rfl, trivial⟩) (fun w0 w Q R a hret hE hR H => ?_)
  unfold result_Table_2 at H
  refine w_seq (fun K hK_1 => ?_)
  refine t_region ?_
  obtain ⟨x2_2, qx2_2, H⟩ := H
  refine t_valh (v := .pointer (some x2_2)) rfl rfl hE rfl hR (r_box hE rfl qx2_2) (fun a w hE hR hh => ?_)
  replace H := M.at hh H; clear hh
  refine t_val (v := .string ByteArray.empty) rfl rfl hE rfl (r_assign hE rfl) (fun a hE => ?_)
  refine t_nil ?_
  refine hK_1 _ _ ?_
  refine w_seq (fun K hK_3 => ?_)
  refine w_seq (fun K hK_4 => ?_)
  refine t_region ?_
  obtain ⟨x7_5, qx7_5, H⟩ := H
  refine t_val (v := .agg x7_5) rfl rfl hE rfl (r_loadG hE rfl ag42 qx7_5) (fun a hE => ?_)
  obtain ⟨x8_6, qx8_6, H⟩ := H
  refine t_val (v := .agg x8_6) rfl rfl hE rfl (r_loadG hE rfl ag42 qx8_6) (fun a hE => ?_)
  refine t_call hE hR cl_value_Get rfl (S_value_Get x7_5 x8_6) (M.unbind H) (fun x9_7 a w ea hR H => ?_)
  have hE := Env.put_some hE rfl ea; clear ea
  refine t_val (v := .tuple #[.agg x9_7.1, .bool x9_7.2]) rfl rfl hE rfl (r_move hE rfl) (fun a hE => ?_)
  refine t_val (v := .agg x9_7.1) rfl rfl hE rfl (r_extract hE rfl rfl) (fun a hE => ?_)
  refine t_val (v := .bool x9_7.2) rfl rfl hE rfl (r_extract hE rfl rfl) (fun a hE => ?_)
  obtain ⟨x4_8, qx4_8, H⟩ := H
  refine t_valh (v := .pointer (some x4_8)) rfl rfl hE rfl hR (r_alloc zr42 qx4_8) (fun a w hE hR hh => ?_)
  replace H := M.at hh H; clear hh
  obtain ⟨qz, H⟩ := H
  obtain ⟨u_9, qu_9, H⟩ := H
  refine t_sth rfl rfl hE hR (r_storeG hE rfl rfl sz42 qz qu_9) (fun a w hE hR hh => ?_)
  replace H := M.at hh H; clear hh
  refine t_val (v := .bool x9_7.2) rfl rfl hE rfl (r_assign hE rfl) (fun a hE => ?_)
  refine t_nil ?_
  refine hK_4 _ _ ?_
  refine w_seq (fun K hK_10 => ?_)
  refine t_region ?_
  refine t_val (v := .bool x9_7.2) rfl rfl hE rfl (r_move hE rfl) (fun a hE => ?_)
  refine t_nil ?_
  refine hK_10 _ _ ?_
  refine w_cond x9_7.2 hE rfl (fun hb => ?_) (fun hb => ?_)
  · replace H := M.ite_t hb H
    refine w_seq (fun K hK_11 => ?_)
    refine t_region ?_
    obtain ⟨x13_12, qx13_12, H⟩ := H
    refine t_val (v := .agg x13_12) rfl rfl hE rfl (r_loadG hE rfl ag42 qx13_12) (fun a hE => ?_)
    refine t_call hE hR cl_value_Text rfl (S_value_Text x13_12) (M.unbind H) (fun x14_13 a w ea hR H => ?_)
    have hE := Env.put_some hE rfl ea; clear ea
    refine t_val (v := .string x14_13) rfl rfl hE rfl (r_assign hE rfl) (fun a hE => ?_)
    refine t_nil ?_
    refine hK_11 _ _ ?_
    refine w_ret ?_
    exact hret _ _ _ x14_13 _ hE hR (res_run hE rfl (RV.tmp rfl RV.nil)) rfl H
  · replace H := M.ite_f hb H
    refine w_skip ?_
    refine hK_3 _ _ ?_
    refine w_seq (fun K hK_14 => ?_)
    refine t_region ?_
    refine t_val (v := .string (⟨#[45]⟩ : ByteArray)) rfl rfl hE rfl (r_assign hE rfl) (fun a hE => ?_)
    refine t_nil ?_
    refine hK_14 _ _ ?_
    refine w_ret ?_
    exact hret _ _ _ (⟨#[45]⟩ : ByteArray) _ hE hR (res_run hE rfl (RV.tmp rfl RV.nil)) rfl H

/-- ramble/rambleref02.all -/
def rambleref02_all_l1 (c0_5 : Sl) (c1_6 : Int) (self1 : (Int) → M (Bool)) : (Int) → M (Bool) := fun s => match s with
  | x5_4 => do
    M.ite (decide (x5_4 < (c0_5.len : Int))) (do
      let x14_12 ← ixL c0_5 x5_4 4
      let x15_13 ← ldG 4 x14_12
      let x18_14 ← callF Go.Proofs.Tryd.prog fn_rambleref02_may #[.agg x15_13, .int .i64 (IntKind.wrap .i64 (c1_6 + 1))] (fun r : Bool => .bool r)
      M.ite (!x18_14) (do
        M.pure false
        ) (do
        self1 (IntKind.wrap .i64 (x5_4 + 1))
        )
      ) (do
      M.pure true
      )
def rambleref02_all (x0 : Sl) (x1 : Int) : M (Bool) := do
  M.loop (rambleref02_all_l1 x0 x1) 0
theorem S_rambleref02_all (x0 : Sl) (x1 : Int) : Sound Go.Proofs.Tryd.prog 88 #[(x0 : Sl).v, .int .i64 x1] (fun (r : Bool) => .bool r) (rambleref02_all x0 x1) := by
  refine sound_of [(0, (x0 : Sl).v), (1, .int .i64 x1)] Go.Proofs.Tryd.func88 rfl rfl (Nat.le_of_ble_eq_true rfl) (args_of ⟨rfl, rfl, trivial⟩) (fun w0 w Q R a hret hE hR H => ?_)
  unfold rambleref02_all at H
  refine w_seq (fun K hK_1 => ?_)
  refine t_region ?_
  refine t_val (v := .bool false) rfl rfl hE rfl (r_assign hE rfl) (fun a hE => ?_)
  refine t_nil ?_
  refine hK_1 _ _ ?_
  refine w_seq (fun K hK_2 => ?_)
  refine w_seq (fun K hK_3 => ?_)
  refine t_region ?_
  refine t_val (v := .int .i64 0) rfl rfl hE rfl (r_assign hE rfl) (fun a hE => ?_)
  refine t_nil ?_
  refine hK_3 _ _ ?_
  refine w_block ?_
  refine l_loop (fun (s : Int) => (⟨20, []⟩ : Frm)) (fun (s : Int) => [(0, (x0 : Sl).v), (1, .int .i64 x1), (5, .int .i64 s)]) H (hE.cut (.cons rfl (.cons rfl (.cons rfl Subs.nil)))) hR (fun Y self1 hY_7 x5_4 a w hE hR H => ?_)
  replace hE : Env (⟨20, []⟩ : Frm) a [(0, (x0 : Sl).v), (1, .int .i64 x1), (5, .int .i64 x5_4)] := hE
  replace H : (rambleref02_all_l1 x0 x1 self1 x5_4).wp w.heap Q := H
  unfold rambleref02_all_l1 at H
  refine w_seq (fun K hK_8 => ?_)
  refine w_seq (fun K hK_9 => ?_)
  refine t_region ?_
  refine t_val (v := .int .i64 x5_4) rfl rfl hE rfl (r_move hE rfl) (fun a hE => ?_)
  refine t_val (v := (x0 : Sl).v) rfl rfl hE rfl (r_move hE rfl) (fun a hE => ?_)
  refine t_val (v := .int .i64 (x0.len : Int)) rfl rfl hE rfl (r_len hE rfl 42 un22) (fun a hE => ?_)
  refine t_val (v := .bool (decide (x5_4 < (x0.len : Int)))) rfl rfl hE rfl (r_bin hE rfl rfl g_int b_lss) (fun a hE => ?_)
  refine t_nil ?_
  refine hK_9 _ _ ?_
  refine w_cond (decide (x5_4 < (x0.len : Int))) hE rfl (fun hb => ?_) (fun hb => ?_)
  · replace H := M.ite_t hb H
    refine w_skip ?_
    refine hK_8 _ _ ?_
    refine w_seq (fun K hK_10 => ?_)
    refine w_block ?_
    refine w_seq (fun K hK_11 => ?_)
    refine t_region ?_
    refine t_val (v := (x0 : Sl).v) rfl rfl hE rfl (r_move hE rfl) (fun a hE => ?_)
    refine t_val (v := .int .i64 x5_4) rfl rfl hE rfl (r_move hE rfl) (fun a hE => ?_)
    obtain ⟨x14_12, qx14_12, H⟩ := H
    refine t_val (v := .pointer (some x14_12)) rfl rfl hE rfl (r_indexAddrL hE rfl rfl un22 sz42 qx14_12) (fun a hE => ?_)
    obtain ⟨x15_13, qx15_13, H⟩ := H
    refine t_val (v := .agg x15_13) rfl rfl hE rfl (r_loadG hE rfl ag42 qx15_13) (fun a hE => ?_)
    refine t_val (v := .int .i64 x1) rfl rfl hE rfl (r_move hE rfl) (fun a hE => ?_)
    refine t_val (v := .int .i64 (IntKind.wrap .i64 (x1 + 1))) rfl rfl hE rfl (r_bin hE rfl rfl g_int b_add) (fun a hE => ?_)
    refine t_call hE hR cl_rambleref02_may rfl (sound_callF) (M.unbind H) (fun x18_14 a w ea hR H => ?_)
    have hE := Env.put_some hE rfl ea; clear ea
    refine t_val (v := .bool (!x18_14)) rfl rfl hE rfl (r_un hE rfl u_not) (fun a hE => ?_)
    refine t_nil ?_
    refine hK_11 _ _ ?_
    refine w_cond (!x18_14) hE rfl (fun hb => ?_) (fun hb => ?_)
    · replace H := M.ite_t hb H
      refine w_seq (fun K hK_15 => ?_)
      refine t_region ?_
      refine t_val (v := .bool false) rfl rfl hE rfl (r_assign hE rfl) (fun a hE => ?_)
      refine t_nil ?_
      refine hK_15 _ _ ?_
      refine w_ret ?_
      exact hret _ _ _ false _ hE hR (res_run hE rfl (RV.tmp rfl RV.nil)) rfl H
    · replace H := M.ite_f hb H
      refine w_skip ?_
      refine hK_10 _ _ ?_
      refine t_region ?_
      refine t_val (v := .int .i64 x5_4) rfl rfl hE rfl (r_move hE rfl) (fun a hE => ?_)
      refine t_val (v := .int .i64 (IntKind.wrap .i64 (x5_4 + 1))) rfl rfl hE rfl (r_bin hE rfl rfl g_int b_add) (fun a hE => ?_)
      refine t_val (v := .int .i64 (IntKind.wrap .i64 (x5_4 + 1))) rfl rfl hE rfl (r_assign hE rfl) (fun a hE => ?_)
      refine t_nil ?_
      exact hY_7 (IntKind.wrap .i64 (x5_4 + 1)) _ _ (hE.cut (.cons rfl (.cons rfl (.cons rfl Subs.nil)))) hR H
  · replace H := M.ite_f hb H
    refine w_exit ?_
    refine Xu.same ?_
    refine hK_2 _ _ ?_
    refine w_seq (fun K hK_16 => ?_)
    refine t_region ?_
    refine t_val (v := .bool true) rfl rfl hE rfl (r_assign hE rfl) (fun a hE => ?_)
    refine t_nil ?_
    refine hK_16 _ _ ?_
    refine w_ret ?_
    exact hret _ _ _ true _ hE hR (res_run hE rfl (RV.tmp rfl RV.nil)) rfl H

end Gx
namespace Gx
open Go
set_option linter.unusedVariables false
set_option maxRecDepth 100000
/-- ramble/rambleref02.shows -/
def rambleref02_shows_j1 (self1 : (ByteArray × Int) → M (ByteArray)) (c10_19 : Int) (x9_14 : ByteArray) : M (ByteArray) := do
  self1 (x9_14, IntKind.wrap .i64 (c10_19 + 1))
def rambleref02_shows_l1 (c0_7 : Sl) (c1_8 : Int) (c2_9 : ByteArray) (c3_10 : ByteArray) (self1 : (ByteArray × Int) → M (ByteArray)) : (ByteArray × Int) → M (ByteArray) := fun s => match s with
  | (x9_5, x10_6) => do
    M.ite (decide (x10_6 < (c0_7.len : Int))) (do
      let x20_21 ← ixL c0_7 x10_6 4
      let x21_22 ← ldG 4 x20_21
      let x24_23 ← callF Go.Proofs.Tryd.prog fn_rambleref02_show #[.agg x21_22, .int .i64 (IntKind.wrap .i64 (c1_8 + 1))] (fun r : ByteArray => .string r)
      let x25_24 ← sCat x9_5 x24_23
      let x35_26 ← M.ite (decide ((IntKind.wrap .i64 (x10_6 + 1)) < (c0_7.len : Int))) (do
        M.pure ((Int.tmod x10_6 2) == 0)
        ) (do
        M.pure false
        )
      M.ite x35_26 (do
        let x38_27 ← sCat x25_24 c2_9
        rambleref02_shows_j1 self1 x10_6 x38_27
        ) (do
        M.ite (decide ((IntKind.wrap .i64 (x10_6 + 1)) < (c0_7.len : Int))) (do
          let x46_29 ← sCat x25_24 c3_10
          rambleref02_shows_j1 self1 x10_6 x46_29
          ) (do
          rambleref02_shows_j1 self1 x10_6 x25_24
          )
        )
      ) (do
      M.pure x9_5
      )
def rambleref02_shows (x0 : Sl) (x1 : Int) (x2 : ByteArray) (x3 : ByteArray) : M (ByteArray) := do
  M.loop (rambleref02_shows_l1 x0 x1 x2 x3) (ByteArray.empty, 0)
theorem S_rambleref02_shows (x0 : Sl) (x1 : Int) (x2 : ByteArray) (x3 : ByteArray) : Sound Go.Proofs.Tryd.prog 76 #[(x0 : Sl).v, .int .i64 x1, .string x2, .string x3] (fun (r : ByteArray) => .string r) (rambleref02_shows x0 x1 x2 x3) := by
  refine sound_of [(0, (x0 : Sl).v), (1, .int .i64 x1), (2, .string x2), (3, .string x3)] Go.Proofs.Tryd.func76 rfl rfl (Nat.le_of_ble_eq_true rfl) (args_of ⟨rfl, rfl, rfl, rfl, trivial⟩) (fun w0 w Q R a hret hE hR H => ?_)
  unfold rambleref02_shows at H
  refine w_seq (fun K hK_1 => ?_)
  refine t_region ?_
  refine t_val (v := .string ByteArray.empty) rfl rfl hE rfl (r_assign hE rfl) (fun a hE => ?_)
  refine t_nil ?_
  refine hK_1 _ _ ?_
  refine w_seq (fun K hK_2 => ?_)
  refine t_region ?_
  refine t_val (v := .string ByteArray.empty) rfl rfl hE rfl (r_assign hE rfl) (fun a hE => ?_)
  refine t_nil ?_
  refine hK_2 _ _ ?_
  refine w_seq (fun K hK_3 => ?_)
  refine w_seq (fun K hK_4 => ?_)
  refine t_region ?_
  refine t_val (v := .int .i64 0) rfl rfl hE rfl (r_assign hE rfl) (fun a hE => ?_)
  refine t_nil ?_
  refine hK_4 _ _ ?_
  refine w_block ?_
  refine l_loop (fun (s : ByteArray × Int) => (⟨48, []⟩ : Frm)) (fun (s : ByteArray × Int) => [(0, (x0 : Sl).v), (1, .int .i64 x1), (2, .string x2), (3, .string x3), (9, .string s.1), (10, .int .i64 s.2)]) H (hE.cut (.cons rfl (.cons rfl (.cons rfl (.cons rfl (.cons rfl (.cons rfl Subs.nil))))))) hR (fun Y self1 hY_11 s a w hE hR H => ?_)
  rcases s with ⟨x9_5, x10_6⟩
  replace hE : Env (⟨48, []⟩ : Frm) a [(0, (x0 : Sl).v), (1, .int .i64 x1), (2, .string x2), (3, .string x3), (9, .string x9_5), (10, .int .i64 x10_6)] := hE
  replace H : (rambleref02_shows_l1 x0 x1 x2 x3 self1 (x9_5, x10_6)).wp w.heap Q := H
  unfold rambleref02_shows_l1 at H
  refine w_seq (fun K hK_12 => ?_)
  refine w_seq (fun K hK_13 => ?_)
  refine t_region ?_
  refine t_val (v := .int .i64 x10_6) rfl rfl hE rfl (r_move hE rfl) (fun a hE => ?_)
  refine t_val (v := (x0 : Sl).v) rfl rfl hE rfl (r_move hE rfl) (fun a hE => ?_)
  refine t_val (v := .int .i64 (x0.len : Int)) rfl rfl hE rfl (r_len hE rfl 42 un22) (fun a hE => ?_)
  refine t_val (v := .bool (decide (x10_6 < (x0.len : Int)))) rfl rfl hE rfl (r_bin hE rfl rfl g_int b_lss) (fun a hE => ?_)
  refine t_nil ?_
  refine hK_13 _ _ ?_
  refine w_cond (decide (x10_6 < (x0.len : Int))) hE rfl (fun hb => ?_) (fun hb => ?_)
  · replace H := M.ite_t hb H
    refine w_skip ?_
    refine hK_12 _ _ ?_
    refine w_seq_join (fun a w => ∃ (x9_14 : ByteArray), Env (⟨48, []⟩ : Frm) a [(0, (x0 : Sl).v), (1, .int .i64 x1), (2, .string x2), (3, .string x3), (10, .int .i64 x10_6), (9, .string x9_14)] ∧ Rest w0 w ∧ (rambleref02_shows_j1 self1 x10_6 x9_14).wp w.heap Q) ?_ ?_
    · rintro a w ⟨x9_14, hE, hR, H⟩
      unfold rambleref02_shows_j1 at H
      refine t_region ?_
      refine t_val (v := .int .i64 x10_6) rfl rfl hE rfl (r_move hE rfl) (fun a hE => ?_)
      refine t_val (v := .int .i64 (IntKind.wrap .i64 (x10_6 + 1))) rfl rfl hE rfl (r_bin hE rfl rfl g_int b_add) (fun a hE => ?_)
      refine t_val (v := .int .i64 (IntKind.wrap .i64 (x10_6 + 1))) rfl rfl hE rfl (r_assign hE rfl) (fun a hE => ?_)
      refine t_nil ?_
      exact hY_11 (x9_14, IntKind.wrap .i64 (x10_6 + 1)) _ _ (hE.cut (.cons rfl (.cons rfl (.cons rfl (.cons rfl (.cons rfl (.cons rfl Subs.nil))))))) hR H
    · skip
      refine w_block ?_
      refine w_seq (fun K hK_20 => ?_)
      refine t_region ?_
      refine t_val (v := .string x9_5) rfl rfl hE rfl (r_move hE rfl) (fun a hE => ?_)
      refine t_val (v := (x0 : Sl).v) rfl rfl hE rfl (r_move hE rfl) (fun a hE => ?_)
      refine t_val (v := .int .i64 x10_6) rfl rfl hE rfl (r_move hE rfl) (fun a hE => ?_)
      obtain ⟨x20_21, qx20_21, H⟩ := H
      refine t_val (v := .pointer (some x20_21)) rfl rfl hE rfl (r_indexAddrL hE rfl rfl un22 sz42 qx20_21) (fun a hE => ?_)
      obtain ⟨x21_22, qx21_22, H⟩ := H
      refine t_val (v := .agg x21_22) rfl rfl hE rfl (r_loadG hE rfl ag42 qx21_22) (fun a hE => ?_)
      refine t_val (v := .int .i64 x1) rfl rfl hE rfl (r_move hE rfl) (fun a hE => ?_)
      refine t_val (v := .int .i64 (IntKind.wrap .i64 (x1 + 1))) rfl rfl hE rfl (r_bin hE rfl rfl g_int b_add) (fun a hE => ?_)
      refine t_call hE hR cl_rambleref02_show rfl (sound_callF) (M.unbind H) (fun x24_23 a w ea hR H => ?_)
      have hE := Env.put_some hE rfl ea; clear ea
      obtain ⟨x25_24, qx25_24, H⟩ := H
      refine t_val (v := .string x25_24) rfl rfl hE rfl (r_bin hE rfl rfl g_str (b_addS qx25_24)) (fun a hE => ?_)
      refine t_val (v := .string x25_24) rfl rfl hE rfl (r_assign hE rfl) (fun a hE => ?_)
      refine t_nil ?_
      refine hK_20 _ _ ?_
      refine w_seq (fun K hK_25 => ?_)
      refine t_region ?_
      refine t_val (v := .int .i64 x10_6) rfl rfl hE rfl (r_move hE rfl) (fun a hE => ?_)
      refine t_val (v := .int .i64 (IntKind.wrap .i64 (x10_6 + 1))) rfl rfl hE rfl (r_bin hE rfl rfl g_int b_add) (fun a hE => ?_)
      refine t_val (v := (x0 : Sl).v) rfl rfl hE rfl (r_move hE rfl) (fun a hE => ?_)
      refine t_val (v := .int .i64 (x0.len : Int)) rfl rfl hE rfl (r_len hE rfl 42 un22) (fun a hE => ?_)
      refine t_val (v := .bool (decide ((IntKind.wrap .i64 (x10_6 + 1)) < (x0.len : Int)))) rfl rfl hE rfl (r_bin hE rfl rfl g_int b_lss) (fun a hE => ?_)
      refine t_val (v := .bool (decide ((IntKind.wrap .i64 (x10_6 + 1)) < (x0.len : Int)))) rfl rfl hE rfl (r_move hE rfl) (fun a hE => ?_)
      refine t_grp (n := (⟨48, []⟩ : Frm)) (w0 := w0) 4 (fun x35_26 : Bool => [(0, (x0 : Sl).v), (1, .int .i64 x1), (2, .string x2), (3, .string x3), (9, .string x25_24), (10, .int .i64 x10_6), (35, .bool x35_26)]) (M.unbind H) (fun Kr hKr H => ?_) ?_
      · rcases bool_em (decide ((IntKind.wrap .i64 (x10_6 + 1)) < (x0.len : Int))) with hb | hb
        · replace H := M.ite_t hb H
          have hE := hE.reb 31 (decide ((IntKind.wrap .i64 (x10_6 + 1)) < (x0.len : Int))) true hb rfl
          refine t_on rfl hE rfl rfl rfl ?_
          refine t_val (v := .int .i64 x10_6) rfl rfl hE rfl (r_move hE rfl) (fun a hE => ?_)
          refine t_on rfl hE rfl rfl rfl ?_
          refine t_val (v := .int .i64 (Int.tmod x10_6 2)) rfl rfl hE rfl (r_bin hE rfl rfl g_int (b_rem ⟨by decide, rfl⟩)) (fun a hE => ?_)
          refine t_on rfl hE rfl rfl rfl ?_
          refine t_val (v := .bool ((Int.tmod x10_6 2) == 0)) rfl rfl hE rfl (r_bin hE rfl rfl g_int b_eql) (fun a hE => ?_)
          refine t_val rfl rfl hE rfl (r_pick_t hE rfl rfl) (fun a hE => ?_)
          refine t_nil ?_
          exact hKr _ _ _ (hE.cut (.cons rfl (.cons rfl (.cons rfl (.cons rfl (.cons rfl (.cons rfl (.cons rfl Subs.nil)))))))) hR H
        · replace H := M.ite_f hb H
          have hE := hE.reb 31 (decide ((IntKind.wrap .i64 (x10_6 + 1)) < (x0.len : Int))) false hb rfl
          refine t_off rfl hE rfl rfl rfl (fun a ea => ?_)
          have hE := Env.put_some hE rfl ea; clear ea
          refine t_off rfl hE rfl rfl rfl (fun a ea => ?_)
          have hE := Env.put_some hE rfl ea; clear ea
          refine t_off rfl hE rfl rfl rfl (fun a ea => ?_)
          have hE := Env.put_some hE rfl ea; clear ea
          refine t_val rfl rfl hE rfl (r_pick_f hE rfl rfl) (fun a hE => ?_)
          refine t_nil ?_
          exact hKr _ _ _ (hE.cut (.cons rfl (.cons rfl (.cons rfl (.cons rfl (.cons rfl (.cons rfl (.cons rfl Subs.nil)))))))) hR H
      · intro x35_26 a w hE hR H
        refine t_nil ?_
        refine hK_25 _ _ ?_
        refine w_cond x35_26 hE rfl (fun hb => ?_) (fun hb => ?_)
        · replace H := M.ite_t hb H
          refine t_region ?_
          refine t_val (v := .string x25_24) rfl rfl hE rfl (r_move hE rfl) (fun a hE => ?_)
          refine t_val (v := .string x2) rfl rfl hE rfl (r_move hE rfl) (fun a hE => ?_)
          obtain ⟨x38_27, qx38_27, H⟩ := H
          refine t_val (v := .string x38_27) rfl rfl hE rfl (r_bin hE rfl rfl g_str (b_addS qx38_27)) (fun a hE => ?_)
          refine t_val (v := .string x38_27) rfl rfl hE rfl (r_assign hE rfl) (fun a hE => ?_)
          refine t_nil ?_
          exact ⟨x38_27, hE.cut (.cons rfl (.cons rfl (.cons rfl (.cons rfl (.cons rfl (.cons rfl Subs.nil)))))), hR, H⟩
        · replace H := M.ite_f hb H
          refine w_seq (fun K hK_28 => ?_)
          refine t_region ?_
          refine t_val (v := .int .i64 x10_6) rfl rfl hE rfl (r_move hE rfl) (fun a hE => ?_)
          refine t_val (v := .int .i64 (IntKind.wrap .i64 (x10_6 + 1))) rfl rfl hE rfl (r_bin hE rfl rfl g_int b_add) (fun a hE => ?_)
          refine t_val (v := (x0 : Sl).v) rfl rfl hE rfl (r_move hE rfl) (fun a hE => ?_)
          refine t_val (v := .int .i64 (x0.len : Int)) rfl rfl hE rfl (r_len hE rfl 42 un22) (fun a hE => ?_)
          refine t_val (v := .bool (decide ((IntKind.wrap .i64 (x10_6 + 1)) < (x0.len : Int)))) rfl rfl hE rfl (r_bin hE rfl rfl g_int b_lss) (fun a hE => ?_)
          refine t_nil ?_
          refine hK_28 _ _ ?_
          refine w_cond (decide ((IntKind.wrap .i64 (x10_6 + 1)) < (x0.len : Int))) hE rfl (fun hb => ?_) (fun hb => ?_)
          · replace H := M.ite_t hb H
            refine t_region ?_
            refine t_val (v := .string x25_24) rfl rfl hE rfl (r_move hE rfl) (fun a hE => ?_)
            refine t_val (v := .string x3) rfl rfl hE rfl (r_move hE rfl) (fun a hE => ?_)
            obtain ⟨x46_29, qx46_29, H⟩ := H
            refine t_val (v := .string x46_29) rfl rfl hE rfl (r_bin hE rfl rfl g_str (b_addS qx46_29)) (fun a hE => ?_)
            refine t_val (v := .string x46_29) rfl rfl hE rfl (r_assign hE rfl) (fun a hE => ?_)
            refine t_nil ?_
            exact ⟨x46_29, hE.cut (.cons rfl (.cons rfl (.cons rfl (.cons rfl (.cons rfl (.cons rfl Subs.nil)))))), hR, H⟩
          · replace H := M.ite_f hb H
            refine w_skip ?_
            exact ⟨x25_24, hE.cut (.cons rfl (.cons rfl (.cons rfl (.cons rfl (.cons rfl (.cons rfl Subs.nil)))))), hR, H⟩
  · replace H := M.ite_f hb H
    refine w_exit ?_
    refine Xu.same ?_
    refine hK_3 _ _ ?_
    refine w_seq (fun K hK_30 => ?_)
    refine t_region ?_
    refine t_val (v := .string x9_5) rfl rfl hE rfl (r_move hE rfl) (fun a hE => ?_)
    refine t_val (v := .string x9_5) rfl rfl hE rfl (r_assign hE rfl) (fun a hE => ?_)
    refine t_nil ?_
    refine hK_30 _ _ ?_
    refine w_ret ?_
    exact hret _ _ _ x9_5 _ hE hR (res_run hE rfl (RV.tmp rfl RV.nil)) rfl H

/-- internal/strconv.small -/
def internal_strconv_small (x0 : Int) : M (ByteArray) := do
  M.ite (decide (x0 < 10)) (do
    let x8_5 ← slS (⟨#[48, 49, 50, 51, 52, 53, 54, 55, 56, 57, 97, 98, 99, 100, 101, 102, 103, 104, 105, 106, 107, 108, 109, 110, 111, 112, 113, 114, 115, 116, 117, 118, 119, 120, 121, 122]⟩ : ByteArray) x0 (IntKind.wrap .i64 (x0 + 1))
    M.pure x8_5
    ) (do
    let x14_7 ← slS (⟨#[48, 48, 48, 49, 48, 50, 48, 51, 48, 52, 48, 53, 48, 54, 48, 55, 48, 56, 48, 57, 49, 48, 49, 49, 49, 50, 49, 51, 49, 52, 49, 53, 49, 54, 49, 55, 49, 56, 49, 57, 50, 48, 50, 49, 50, 50, 50, 51, 50, 52, 50, 53, 50, 54, 50, 55, 50, 56, 50, 57, 51, 48, 51, 49, 51, 50, 51, 51, 51, 52, 51, 53, 51, 54, 51, 55, 51, 56, 51, 57, 52, 48, 52, 49, 52, 50, 52, 51, 52, 52, 52, 53, 52, 54, 52, 55, 52, 56, 52, 57, 53, 48, 53, 49, 53, 50, 53, 51, 53, 52, 53, 53, 53, 54, 53, 55, 53, 56, 53, 57, 54, 48, 54, 49, 54, 50, 54, 51, 54, 52, 54, 53, 54, 54, 54, 55, 54, 56, 54, 57, 55, 48, 55, 49, 55, 50, 55, 51, 55, 52, 55, 53, 55, 54, 55, 55, 55, 56, 55, 57, 56, 48, 56, 49, 56, 50, 56, 51, 56, 52, 56, 53, 56, 54, 56, 55, 56, 56, 56, 57, 57, 48, 57, 49, 57, 50, 57, 51, 57, 52, 57, 53, 57, 54, 57, 55, 57, 56, 57, 57]⟩ : ByteArray) (IntKind.wrap .i64 (x0 * 2)) (IntKind.wrap .i64 ((IntKind.wrap .i64 (x0 * 2)) + 2))
    M.pure x14_7
    )
theorem S_internal_strconv_small (x0 : Int) : Sound Go.Proofs.Tryd.prog 102 #[.int .i64 x0] (fun (r : ByteArray) => .string r) (internal_strconv_small x0) := by
  refine sound_of [(0, .int .i64 x0)] Go.Proofs.Tryd.func102 rfl rfl (Nat.le_of_ble_eq_true rfl) (args_of ⟨rfl, trivial⟩) (fun w0 w Q R a hret hE hR H => ?_)
  unfold internal_strconv_small at H
  refine w_seq (fun K hK_1 => ?_)
  refine t_region ?_
  refine t_val (v := .string ByteArray.empty) rfl rfl hE rfl (r_assign hE rfl) (fun a hE => ?_)
  refine t_nil ?_
  refine hK_1 _ _ ?_
  refine w_seq (fun K hK_2 => ?_)
  refine w_seq (fun K hK_3 => ?_)
  refine t_region ?_
  refine t_val (v := .int .i64 x0) rfl rfl hE rfl (r_move hE rfl) (fun a hE => ?_)
  refine t_val (v := .bool (decide (x0 < 10))) rfl rfl hE rfl (r_bin hE rfl rfl g_int b_lss) (fun a hE => ?_)
  refine t_nil ?_
  refine hK_3 _ _ ?_
  refine w_cond (decide (x0 < 10)) hE rfl (fun hb => ?_) (fun hb => ?_)
  · replace H := M.ite_t hb H
    refine w_seq (fun K hK_4 => ?_)
    refine t_region ?_
    refine t_val (v := .int .i64 x0) rfl rfl hE rfl (r_move hE rfl) (fun a hE => ?_)
    refine t_val (v := .int .i64 x0) rfl rfl hE rfl (r_move hE rfl) (fun a hE => ?_)
    refine t_val (v := .int .i64 (IntKind.wrap .i64 (x0 + 1))) rfl rfl hE rfl (r_bin hE rfl rfl g_int b_add) (fun a hE => ?_)
    obtain ⟨x8_5, qx8_5, H⟩ := H
    refine t_val (v := .string x8_5) rfl rfl hE rfl (r_sliceS_lh hE rfl rfl rfl un9 qx8_5) (fun a hE => ?_)
    refine t_val (v := .string x8_5) rfl rfl hE rfl (r_assign hE rfl) (fun a hE => ?_)
    refine t_nil ?_
    refine hK_4 _ _ ?_
    refine w_ret ?_
    exact hret _ _ _ x8_5 _ hE hR (res_run hE rfl (RV.tmp rfl RV.nil)) rfl H
  · replace H := M.ite_f hb H
    refine w_skip ?_
    refine hK_2 _ _ ?_
    refine w_seq (fun K hK_6 => ?_)
    refine t_region ?_
    refine t_val (v := .int .i64 x0) rfl rfl hE rfl (r_move hE rfl) (fun a hE => ?_)
    refine t_val (v := .int .i64 (IntKind.wrap .i64 (x0 * 2))) rfl rfl hE rfl (r_bin hE rfl rfl g_int b_mul) (fun a hE => ?_)
    refine t_val (v := .int .i64 x0) rfl rfl hE rfl (r_move hE rfl) (fun a hE => ?_)
    refine t_val (v := .int .i64 (IntKind.wrap .i64 (x0 * 2))) rfl rfl hE rfl (r_bin hE rfl rfl g_int b_mul) (fun a hE => ?_)
    refine t_val (v := .int .i64 (IntKind.wrap .i64 ((IntKind.wrap .i64 (x0 * 2)) + 2))) rfl rfl hE rfl (r_bin hE rfl rfl g_int b_add) (fun a hE => ?_)
    obtain ⟨x14_7, qx14_7, H⟩ := H
    refine t_val (v := .string x14_7) rfl rfl hE rfl (r_sliceS_lh hE rfl rfl rfl un9 qx14_7) (fun a hE => ?_)
    refine t_val (v := .string x14_7) rfl rfl hE rfl (r_assign hE rfl) (fun a hE => ?_)
    refine t_nil ?_
    refine hK_6 _ _ ?_
    refine w_ret ?_
    exact hret _ _ _ x14_7 _ hE hR (res_run hE rfl (RV.tmp rfl RV.nil)) rfl H

/-- math/bits.Len64 -/
def math_bits_Len64_j3 (x0_6 : Int) (x2_7 : Int) : M (Int) := do
  let x22_9 ← ixS (⟨#[0, 1, 2, 2, 3, 3, 3, 3, 4, 4, 4, 4, 4, 4, 4, 4, 5, 5, 5, 5, 5, 5, 5, 5, 5, 5, 5, 5, 5, 5, 5, 5, 6, 6, 6, 6, 6, 6, 6, 6, 6, 6, 6, 6, 6, 6, 6, 6, 6, 6, 6, 6, 6, 6, 6, 6, 6, 6, 6, 6, 6, 6, 6, 6, 7, 7, 7, 7, 7, 7, 7, 7, 7, 7, 7, 7, 7, 7, 7, 7, 7, 7, 7, 7, 7, 7, 7, 7, 7, 7, 7, 7, 7, 7, 7, 7, 7, 7, 7, 7, 7, 7, 7, 7, 7, 7, 7, 7, 7, 7, 7, 7, 7, 7, 7, 7, 7, 7, 7, 7, 7, 7, 7, 7, 7, 7, 7, 7, 8, 8, 8, 8, 8, 8, 8, 8, 8, 8, 8, 8, 8, 8, 8, 8, 8, 8, 8, 8, 8, 8, 8, 8, 8, 8, 8, 8, 8, 8, 8, 8, 8, 8, 8, 8, 8, 8, 8, 8, 8, 8, 8, 8, 8, 8, 8, 8, 8, 8, 8, 8, 8, 8, 8, 8, 8, 8, 8, 8, 8, 8, 8, 8, 8, 8, 8, 8, 8, 8, 8, 8, 8, 8, 8, 8, 8, 8, 8, 8, 8, 8, 8, 8, 8, 8, 8, 8, 8, 8, 8, 8, 8, 8, 8, 8, 8, 8, 8, 8, 8, 8, 8, 8, 8, 8, 8, 8, 8, 8, 8, 8, 8, 8, 8, 8, 8, 8, 8, 8, 8, 8, 8, 8, 8, 8, 8, 8]⟩ : ByteArray) (IntKind.wrap .u8 x0_6)
  M.pure (IntKind.wrap .i64 (x2_7 + (IntKind.wrap .i64 x22_9)))
def math_bits_Len64_j2 (x0_4 : Int) (x2_5 : Int) : M (Int) := do
  M.ite (decide (x0_4 ≥ 256)) (do
    math_bits_Len64_j3 (iShr .u64 x0_4 8) (IntKind.wrap .i64 (x2_5 + 8))
    ) (do
    math_bits_Len64_j3 x0_4 x2_5
    )
def math_bits_Len64_j1 (x0_2 : Int) (x2_3 : Int) : M (Int) := do
  M.ite (decide (x0_2 ≥ 65536)) (do
    math_bits_Len64_j2 (iShr .u64 x0_2 16) (IntKind.wrap .i64 (x2_3 + 16))
    ) (do
    math_bits_Len64_j2 x0_2 x2_3
    )
def math_bits_Len64 (x0 : Int) : M (Int) := do
  M.ite (decide (x0 ≥ 4294967296)) (do
    math_bits_Len64_j1 (iShr .u64 x0 32) 32
    ) (do
    math_bits_Len64_j1 x0 0
    )
theorem S_math_bits_Len64 (x0 : Int) : Sound Go.Proofs.Tryd.prog 62 #[.int .u64 x0] (fun (r : Int) => .int .i64 r) (math_bits_Len64 x0) := by
  refine sound_of [(0, .int .u64 x0)] Go.Proofs.Tryd.func62 rfl rfl (Nat.le_of_ble_eq_true rfl) (args_of ⟨rfl, trivial⟩) (fun w0 w Q R a hret hE hR H => ?_)
  unfold math_bits_Len64 at H
  refine w_seq (fun K hK_1 => ?_)
  refine t_region ?_
  refine t_val (v := .int .i64 0) rfl rfl hE rfl (r_assign hE rfl) (fun a hE => ?_)
  refine t_nil ?_
  refine hK_1 _ _ ?_
  refine w_seq_join (fun a w => ∃ (x0_2 : Int), ∃ (x2_3 : Int), Env (⟨25, []⟩ : Frm) a [(0, .int .u64 x0_2), (2, .int .i64 x2_3)] ∧ Rest w0 w ∧ (math_bits_Len64_j1 x0_2 x2_3).wp w.heap Q) ?_ ?_
  · rintro a w ⟨x0_2, x2_3, hE, hR, H⟩
    unfold math_bits_Len64_j1 at H
    refine w_seq_join (fun a w => ∃ (x0_4 : Int), ∃ (x2_5 : Int), Env (⟨25, []⟩ : Frm) a [(0, .int .u64 x0_4), (2, .int .i64 x2_5)] ∧ Rest w0 w ∧ (math_bits_Len64_j2 x0_4 x2_5).wp w.heap Q) ?_ ?_
    · rintro a w ⟨x0_4, x2_5, hE, hR, H⟩
      unfold math_bits_Len64_j2 at H
      refine w_seq_join (fun a w => ∃ (x0_6 : Int), ∃ (x2_7 : Int), Env (⟨25, []⟩ : Frm) a [(0, .int .u64 x0_6), (2, .int .i64 x2_7)] ∧ Rest w0 w ∧ (math_bits_Len64_j3 x0_6 x2_7).wp w.heap Q) ?_ ?_
      · rintro a w ⟨x0_6, x2_7, hE, hR, H⟩
        unfold math_bits_Len64_j3 at H
        refine w_seq (fun K hK_8 => ?_)
        refine t_region ?_
        refine t_val (v := .int .i64 x2_7) rfl rfl hE rfl (r_move hE rfl) (fun a hE => ?_)
        refine t_val (v := .int .u64 x0_6) rfl rfl hE rfl (r_move hE rfl) (fun a hE => ?_)
        refine t_val (v := .int .u8 (IntKind.wrap .u8 x0_6)) rfl rfl hE rfl (r_convI hE rfl un95 un5) (fun a hE => ?_)
        obtain ⟨x22_9, qx22_9, H⟩ := H
        refine t_val (v := .int .u8 x22_9) rfl rfl hE rfl (r_indexS hE rfl rfl un9 qx22_9) (fun a hE => ?_)
        refine t_val (v := .int .i64 (IntKind.wrap .i64 x22_9)) rfl rfl hE rfl (r_convI hE rfl un5 un3) (fun a hE => ?_)
        refine t_val (v := .int .i64 (IntKind.wrap .i64 (x2_7 + (IntKind.wrap .i64 x22_9)))) rfl rfl hE rfl (r_bin hE rfl rfl g_int b_add) (fun a hE => ?_)
        refine t_val (v := .int .i64 (IntKind.wrap .i64 (x2_7 + (IntKind.wrap .i64 x22_9)))) rfl rfl hE rfl (r_assign hE rfl) (fun a hE => ?_)
        refine t_nil ?_
        refine hK_8 _ _ ?_
        refine w_ret ?_
        exact hret _ _ _ (IntKind.wrap .i64 (x2_7 + (IntKind.wrap .i64 x22_9))) _ hE hR (res_run hE rfl (RV.tmp rfl RV.nil)) rfl H
      · skip
        refine w_seq (fun K hK_10 => ?_)
        refine t_region ?_
        refine t_val (v := .int .u64 x0_4) rfl rfl hE rfl (r_move hE rfl) (fun a hE => ?_)
        refine t_val (v := .bool (decide (x0_4 ≥ 256))) rfl rfl hE rfl (r_bin hE rfl rfl g_int b_geq) (fun a hE => ?_)
        refine t_nil ?_
        refine hK_10 _ _ ?_
        refine w_cond (decide (x0_4 ≥ 256)) hE rfl (fun hb => ?_) (fun hb => ?_)
        · replace H := M.ite_t hb H
          refine w_seq (fun K hK_11 => ?_)
          refine t_region ?_
          refine t_val (v := .int .u64 x0_4) rfl rfl hE rfl (r_move hE rfl) (fun a hE => ?_)
          refine t_val (v := .int .u64 (iShr .u64 x0_4 8)) rfl rfl hE rfl (r_bin hE rfl rfl g_int (b_shr ⟨by decide, rfl⟩)) (fun a hE => ?_)
          refine t_val (v := .int .u64 (iShr .u64 x0_4 8)) rfl rfl hE rfl (r_assign hE rfl) (fun a hE => ?_)
          refine t_nil ?_
          refine hK_11 _ _ ?_
          refine t_region ?_
          refine t_val (v := .int .i64 x2_5) rfl rfl hE rfl (r_move hE rfl) (fun a hE => ?_)
          refine t_val (v := .int .i64 (IntKind.wrap .i64 (x2_5 + 8))) rfl rfl hE rfl (r_bin hE rfl rfl g_int b_add) (fun a hE => ?_)
          refine t_val (v := .int .i64 (IntKind.wrap .i64 (x2_5 + 8))) rfl rfl hE rfl (r_assign hE rfl) (fun a hE => ?_)
          refine t_nil ?_
          exact ⟨iShr .u64 x0_4 8, IntKind.wrap .i64 (x2_5 + 8), hE.cut (.cons rfl (.cons rfl Subs.nil)), hR, H⟩
        · replace H := M.ite_f hb H
          refine w_skip ?_
          exact ⟨x0_4, x2_5, hE.cut (.cons rfl (.cons rfl Subs.nil)), hR, H⟩
    · skip
      refine w_seq (fun K hK_12 => ?_)
      refine t_region ?_
      refine t_val (v := .int .u64 x0_2) rfl rfl hE rfl (r_move hE rfl) (fun a hE => ?_)
      refine t_val (v := .bool (decide (x0_2 ≥ 65536))) rfl rfl hE rfl (r_bin hE rfl rfl g_int b_geq) (fun a hE => ?_)
      refine t_nil ?_
      refine hK_12 _ _ ?_
      refine w_cond (decide (x0_2 ≥ 65536)) hE rfl (fun hb => ?_) (fun hb => ?_)
      · replace H := M.ite_t hb H
        refine w_seq (fun K hK_13 => ?_)
        refine t_region ?_
        refine t_val (v := .int .u64 x0_2) rfl rfl hE rfl (r_move hE rfl) (fun a hE => ?_)
        refine t_val (v := .int .u64 (iShr .u64 x0_2 16)) rfl rfl hE rfl (r_bin hE rfl rfl g_int (b_shr ⟨by decide, rfl⟩)) (fun a hE => ?_)
        refine t_val (v := .int .u64 (iShr .u64 x0_2 16)) rfl rfl hE rfl (r_assign hE rfl) (fun a hE => ?_)
        refine t_nil ?_
        refine hK_13 _ _ ?_
        refine t_region ?_
        refine t_val (v := .int .i64 x2_3) rfl rfl hE rfl (r_move hE rfl) (fun a hE => ?_)
        refine t_val (v := .int .i64 (IntKind.wrap .i64 (x2_3 + 16))) rfl rfl hE rfl (r_bin hE rfl rfl g_int b_add) (fun a hE => ?_)
        refine t_val (v := .int .i64 (IntKind.wrap .i64 (x2_3 + 16))) rfl rfl hE rfl (r_assign hE rfl) (fun a hE => ?_)
        refine t_nil ?_
        exact ⟨iShr .u64 x0_2 16, IntKind.wrap .i64 (x2_3 + 16), hE.cut (.cons rfl (.cons rfl Subs.nil)), hR, H⟩
      · replace H := M.ite_f hb H
        refine w_skip ?_
        exact ⟨x0_2, x2_3, hE.cut (.cons rfl (.cons rfl Subs.nil)), hR, H⟩
  · skip
    refine w_seq (fun K hK_14 => ?_)
    refine t_region ?_
    refine t_val (v := .int .u64 x0) rfl rfl hE rfl (r_move hE rfl) (fun a hE => ?_)
    refine t_val (v := .bool (decide (x0 ≥ 4294967296))) rfl rfl hE rfl (r_bin hE rfl rfl g_int b_geq) (fun a hE => ?_)
    refine t_nil ?_
    refine hK_14 _ _ ?_
    refine w_cond (decide (x0 ≥ 4294967296)) hE rfl (fun hb => ?_) (fun hb => ?_)
    · replace H := M.ite_t hb H
      refine w_seq (fun K hK_15 => ?_)
      refine t_region ?_
      refine t_val (v := .int .u64 x0) rfl rfl hE rfl (r_move hE rfl) (fun a hE => ?_)
      refine t_val (v := .int .u64 (iShr .u64 x0 32)) rfl rfl hE rfl (r_bin hE rfl rfl g_int (b_shr ⟨by decide, rfl⟩)) (fun a hE => ?_)
      refine t_val (v := .int .u64 (iShr .u64 x0 32)) rfl rfl hE rfl (r_assign hE rfl) (fun a hE => ?_)
      refine t_nil ?_
      refine hK_15 _ _ ?_
      refine t_region ?_
      refine t_val (v := .int .i64 32) rfl rfl hE rfl (r_assign hE rfl) (fun a hE => ?_)
      refine t_nil ?_
      exact ⟨iShr .u64 x0 32, 32, hE.cut (.cons rfl (.cons rfl Subs.nil)), hR, H⟩
    · replace H := M.ite_f hb H
      refine w_skip ?_
      exact ⟨x0, 0, hE.cut (.cons rfl (.cons rfl Subs.nil)), hR, H⟩

/-- internal/strconv.log10Pow2 -/
def internal_strconv_log10Pow2 (x0 : Int) : M (Int) := do
  M.pure (iShr .i64 (IntKind.wrap .i64 (x0 * 78913)) 18)
theorem S_internal_strconv_log10Pow2 (x0 : Int) : Sound Go.Proofs.Tryd.prog 107 #[.int .i64 x0] (fun (r : Int) => .int .i64 r) (internal_strconv_log10Pow2 x0) := by
  refine sound_of [(0, .int .i64 x0)] Go.Proofs.Tryd.func107 rfl rfl (Nat.le_of_ble_eq_true rfl) (args_of ⟨rfl, trivial⟩) (fun w0 w Q R a hret hE hR H => ?_)
  unfold internal_strconv_log10Pow2 at H
  refine w_seq (fun K hK_1 => ?_)
  refine t_region ?_
  refine t_val (v := .int .i64 0) rfl rfl hE rfl (r_assign hE rfl) (fun a hE => ?_)
  refine t_nil ?_
  refine hK_1 _ _ ?_
  refine w_seq (fun K hK_2 => ?_)
  refine t_region ?_
  refine t_val (v := .int .i64 x0) rfl rfl hE rfl (r_move hE rfl) (fun a hE => ?_)
  refine t_val (v := .int .i64 (IntKind.wrap .i64 (x0 * 78913))) rfl rfl hE rfl (r_bin hE rfl rfl g_int b_mul) (fun a hE => ?_)
  refine t_val (v := .int .i64 (iShr .i64 (IntKind.wrap .i64 (x0 * 78913)) 18)) rfl rfl hE rfl (r_bin hE rfl rfl g_int (b_shr ⟨by decide, rfl⟩)) (fun a hE => ?_)
  refine t_val (v := .int .i64 (iShr .i64 (IntKind.wrap .i64 (x0 * 78913)) 18)) rfl rfl hE rfl (r_assign hE rfl) (fun a hE => ?_)
  refine t_nil ?_
  refine hK_2 _ _ ?_
  refine w_ret ?_
  exact hret _ _ _ (iShr .i64 (IntKind.wrap .i64 (x0 * 78913)) 18) _ hE hR (res_run hE rfl (RV.tmp rfl RV.nil)) rfl H

/-- internal/strconv.bool2[int] -/
def internal_strconv_bool2_int (x0 : Bool) : M (Int) := do
  M.ite x0 (do
    M.pure 1
    ) (do
    M.pure 0
    )
theorem S_internal_strconv_bool2_int (x0 : Bool) : Sound Go.Proofs.Tryd.prog 108 #[.bool x0] (fun (r : Int) => .int .i64 r) (internal_strconv_bool2_int x0) := by
  refine sound_of [(0, .bool x0)] Go.Proofs.Tryd.func108 rfl rfl (Nat.le_of_ble_eq_true rfl) (args_of ⟨rfl, trivial⟩) (fun w0 w Q R a hret hE hR H => ?_)
  unfold internal_strconv_bool2_int at H
  refine w_seq (fun K hK_1 => ?_)
  refine t_region ?_
  refine t_val (v := .int .i64 0) rfl rfl hE rfl (r_assign hE rfl) (fun a hE => ?_)
  refine t_nil ?_
  refine hK_1 _ _ ?_
  refine w_seq (fun K hK_2 => ?_)
  refine w_seq (fun K hK_3 => ?_)
  refine t_region ?_
  refine t_val (v := .bool x0) rfl rfl hE rfl (r_move hE rfl) (fun a hE => ?_)
  refine t_nil ?_
  refine hK_3 _ _ ?_
  refine w_cond x0 hE rfl (fun hb => ?_) (fun hb => ?_)
  · replace H := M.ite_t hb H
    refine w_seq (fun K hK_4 => ?_)
    refine t_region ?_
    refine t_val (v := .int .i64 1) rfl rfl hE rfl (r_assign hE rfl) (fun a hE => ?_)
    refine t_nil ?_
    refine hK_4 _ _ ?_
    refine w_ret ?_
    exact hret _ _ _ 1 _ hE hR (res_run hE rfl (RV.tmp rfl RV.nil)) rfl H
  · replace H := M.ite_f hb H
    refine w_skip ?_
    refine hK_2 _ _ ?_
    refine w_seq (fun K hK_5 => ?_)
    refine t_region ?_
    refine t_val (v := .int .i64 0) rfl rfl hE rfl (r_assign hE rfl) (fun a hE => ?_)
    refine t_nil ?_
    refine hK_5 _ _ ?_
    refine w_ret ?_
    exact hret _ _ _ 0 _ hE hR (res_run hE rfl (RV.tmp rfl RV.nil)) rfl H

/-- internal/strconv.numDigits -/
def internal_strconv_numDigits (x0 : Int) : M (Int) := do
  let x5_3 ← math_bits_Len64 x0
  let x6_4 ← internal_strconv_log10Pow2 x5_3
  let x10_6 ← ixA (⟨1, 0, none⟩ : Addr) 20 x6_4 1
  let x11_7 ← ldI .u64 x10_6
  let x13_8 ← internal_strconv_bool2_int (decide (x0 ≥ x11_7))
  M.pure (IntKind.wrap .i64 (x6_4 + x13_8))
theorem S_internal_strconv_numDigits (x0 : Int) : Sound Go.Proofs.Tryd.prog 103 #[.int .u64 x0] (fun (r : Int) => .int .i64 r) (internal_strconv_numDigits x0) := by
  refine sound_of [(0, .int .u64 x0)] Go.Proofs.Tryd.func103 rfl rfl (Nat.le_of_ble_eq_true rfl) (args_of ⟨rfl, trivial⟩) (fun w0 w Q R a hret hE hR H => ?_)
  unfold internal_strconv_numDigits at H
  refine w_seq (fun K hK_1 => ?_)
  refine t_region ?_
  refine t_val (v := .int .i64 0) rfl rfl hE rfl (r_assign hE rfl) (fun a hE => ?_)
  refine t_nil ?_
  refine hK_1 _ _ ?_
  refine w_seq (fun K hK_2 => ?_)
  refine t_region ?_
  refine t_val (v := .int .u64 x0) rfl rfl hE rfl (r_move hE rfl) (fun a hE => ?_)
  refine t_call hE hR cl_math_bits_Len64 rfl (S_math_bits_Len64 x0) (M.unbind H) (fun x5_3 a w ea hR H => ?_)
  have hE := Env.put_some hE rfl ea; clear ea
  refine t_call hE hR cl_internal_strconv_log10Pow2 rfl (S_internal_strconv_log10Pow2 x5_3) (M.unbind H) (fun x6_4 a w ea hR H => ?_)
  have hE := Env.put_some hE rfl ea; clear ea
  refine t_val (v := .int .i64 x6_4) rfl rfl hE rfl (r_assign hE rfl) (fun a hE => ?_)
  refine t_nil ?_
  refine hK_2 _ _ ?_
  refine w_seq (fun K hK_5 => ?_)
  refine t_region ?_
  refine t_val (v := .int .i64 x6_4) rfl rfl hE rfl (r_move hE rfl) (fun a hE => ?_)
  refine t_val (v := .int .u64 x0) rfl rfl hE rfl (r_move hE rfl) (fun a hE => ?_)
  refine t_val (v := .int .i64 x6_4) rfl rfl hE rfl (r_move hE rfl) (fun a hE => ?_)
  obtain ⟨x10_6, qx10_6, H⟩ := H
  refine t_val (v := .pointer (some x10_6)) rfl rfl hE rfl (r_indexAddrA hE rfl rfl un134 sz95 qx10_6) (fun a hE => ?_)
  obtain ⟨x11_7, qx11_7, H⟩ := H
  refine t_val (v := .int .u64 x11_7) rfl rfl hE rfl (r_load hE rfl sc95 qx11_7) (fun a hE => ?_)
  refine t_val (v := .bool (decide (x0 ≥ x11_7))) rfl rfl hE rfl (r_bin hE rfl rfl g_int b_geq) (fun a hE => ?_)
  refine t_call hE hR cl_internal_strconv_bool2_int rfl (S_internal_strconv_bool2_int (decide (x0 ≥ x11_7))) (M.unbind H) (fun x13_8 a w ea hR H => ?_)
  have hE := Env.put_some hE rfl ea; clear ea
  refine t_val (v := .int .i64 (IntKind.wrap .i64 (x6_4 + x13_8))) rfl rfl hE rfl (r_bin hE rfl rfl g_int b_add) (fun a hE => ?_)
  refine t_val (v := .int .i64 (IntKind.wrap .i64 (x6_4 + x13_8))) rfl rfl hE rfl (r_assign hE rfl) (fun a hE => ?_)
  refine t_nil ?_
  refine hK_5 _ _ ?_
  refine w_ret ?_
  exact hret _ _ _ (IntKind.wrap .i64 (x6_4 + x13_8)) _ hE hR (res_run hE rfl (RV.tmp rfl RV.nil)) rfl H

end Gx
